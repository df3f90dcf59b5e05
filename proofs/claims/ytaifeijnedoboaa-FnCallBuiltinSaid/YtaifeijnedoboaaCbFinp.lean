import Derived.Test.YtaifeijnedoboaaCbFino
import Derived.Test.YtaifeijnedoboaaCbFink
import Derived.Test.YtaifeijnedoboaaCbFinj
import Derived.Test.YtaifeijnedoboaaCbFini

namespace Go.AW
open Go.Proofs.Try
set_option linter.unusedSimpArgs false
set_option maxRecDepth 100000
def argR (x y : Tm) : Tm × Int := if x.k = 1 ∨ y.k = 1 then (Tm.zero, 2) else if x.k ≠ 2 ∨ y.k ≠ 3 ∨ y.ts.length = 0 then (Tm.zero, 3) else match argT x y with
  | some u => (u, 0)
  | none => (Tm.zero, 1)
theorem argC_R (x y z : Tm) : argC x y z = if (argR x y).2 = 0 then uniC z (argR x y).1 else ((argR x y).2, Sub.none) := by
  unfold argC argR
  split
  · simp
  split
  · simp
  cases argT x y <;> rfl
abbrev tf_B7_56 := And.intro tI_2 (And.intro zI_2 (And.intro underlying2 (And.intro tI_3 (And.intro zI_3 (And.intro underlying3 (And.intro tI_4 (And.intro zI_4 (And.intro underlying4 (And.intro tI_5 (And.intro zI_5 (And.intro underlying5 (And.intro tI_6 (And.intro zI_6 (And.intro underlying6 (And.intro tI_7 (And.intro zI_7 (And.intro fI_7_0 (And.intro fI_7_1 (And.intro fI_7_2 (And.intro fI_7_3 (And.intro bI_7 (And.intro tI_8 (And.intro zI_8 (And.intro fI_8_0 (And.intro fI_8_1 (And.intro fI_8_2 (And.intro fI_8_3 (And.intro bI_8 (And.intro tI_9 (And.intro zI_9 (And.intro underlying9 (And.intro tI_23 (And.intro zI_23 (And.intro eI_23 (And.intro eB_23 (And.intro eZ_23 (And.intro underlying23 (And.intro tI_25 (And.intro zI_25 (And.intro fI_25_0 (And.intro fI_25_1 (And.intro fI_25_2 (And.intro fI_25_3 (And.intro bI_25 (And.intro tI_34 (And.intro zI_34 (And.intro tI_57 (And.intro zI_57 (And.intro fI_57_0 (And.intro fI_57_1 bI_57))))))))))))))))))))))))))))))))))))))))))))))))))
theorem c_l5Arg {N : Int} (n : Int) (s : ByteArray) (x y z : Tm) (hy : OkV N y) (st : zy7) : zq7 prog 56 [(Tm.mk 3 n s [x, y, z]).av] st (fun r st' => r = .tup [(argR x y).1.av, .int .i64 (argR x y).2] ∧ st' = st) := by
  have hat0 : aIndexAddr prog 23 (.slice [x.av, y.av, z.av]) (.int .i64 0) = some (.pptr x.av) := ev_at (av := Tm.av) (l := [x, y, z]) (i := 0) eI_23 rfl (Tm.av_width x)
  have hat1 : aIndexAddr prog 23 (.slice [x.av, y.av, z.av]) (.int .i64 1) = some (.pptr y.av) := ev_at (av := Tm.av) (l := [x, y, z]) (i := 1) eI_23 rfl (Tm.av_width y)
  obtain ⟨xk, xn, xs, xt⟩ := x
  obtain ⟨yk, yn, ys, yt⟩ := y
  have hyl : yt.length ≤ 4 := by
    exact hy.kind.2
  rw [Tm.av_mk] at hat0
  simp only [Tm.av_mk xk, Tm.av_mk yk] at hat0 hat1
  unfold argR
  simp only [Tm.av_mk 3, List.map_cons, List.map_nil, Tm.av_mk xk, Tm.av_mk yk, Tm.k, Tm.ts]
  refine zq7.done ?_
  refine zw6 [1000000] func56 ntmps56 rfl rfl (by kernel_rfl) (by decide +kernel) (by show 1 ≤ _; decide +kernel) ?_
  intro _
  simp -implicitDefEqProofs only [hat0, hat1, Tm.av_agg, Tm.av_width, List.length_map, zy4, evE, ↓evZ2, ↓evZ3, ↓Int.cast_ofNat_Int, implies_true, zy2, aFn, List.contains, List.elem, zq3, zy1, zq2, sub, zx3, zw2, zw3, zy3, gd, zq1, zw0, zq0, zx0, zx2, zx1, zy0, zw1, List.range', ↓reduceIte, reduceCtorEq, Nat.reduceEqDiff, Nat.reduceAdd, Nat.reduceLeDiff, Nat.reduceMul, Nat.reduceLT, Nat.reduceBEq, Int.reduceEq, tf_B7_56]
  intro b hb
  have hbad : ∀ o (p : Tm × Int) (k : Int), p = (Tm.zero, k) → (AV.tup [.agg [.int .i64 0, .int .i64 0, .str ⟨#[]⟩, .fslice []], .int .i64 k]).soft = .tup [p.1.av, .int .i64 p.2] ∧ Drops (st.upd b o) st := fun o p k e => by
    rw [e]
    exact ⟨by simp only [Tm.zero, Tm.av_mk, soft_agg, soft_tup, soft_int, soft_bool, soft_str, soft_slice, soft_fslice, soft_ptr, soft_pptr, soft_map, soft_mslice, Tm.soft, List.map_cons, List.map_nil, List.map_nil], (Drops.refl _).upd hb⟩
  refine zx4 (fun h => ?_) (fun h => ?_)
  case refine_2 =>
    have h' : xk = 1 := by simpa using h
    simp -implicitDefEqProofs only [h, hat0, hat1, Tm.av_agg, Tm.av_width, List.length_map, zy4, evE, ↓evZ2, ↓evZ3, ↓Int.cast_ofNat_Int, implies_true, zy2, aFn, List.contains, List.elem, zq3, zy1, zq2, sub, zx3, zw2, zw3, zy3, gd, zq1, zw0, zq0, zx0, zx2, zx1, zy0, zw1, List.range', ↓reduceIte, reduceCtorEq, Nat.reduceEqDiff, Nat.reduceAdd, Nat.reduceLeDiff, Nat.reduceMul, Nat.reduceLT, Nat.reduceBEq, Int.reduceEq, tf_B7_56]
    exact hbad _ _ 2 (if_pos (.inl h'))
  have hx1 : xk ≠ 1 := by simpa using h
  simp -implicitDefEqProofs only [h, hat0, hat1, Tm.av_agg, Tm.av_width, List.length_map, zy4, evE, ↓evZ2, ↓evZ3, ↓Int.cast_ofNat_Int, implies_true, zy2, aFn, List.contains, List.elem, zq3, zy1, zq2, sub, zx3, zw2, zw3, zy3, gd, zq1, zw0, zq0, zx0, zx2, zx1, zy0, zw1, List.range', ↓reduceIte, reduceCtorEq, Nat.reduceEqDiff, Nat.reduceAdd, Nat.reduceLeDiff, Nat.reduceMul, Nat.reduceLT, Nat.reduceBEq, Int.reduceEq, tf_B7_56]
  refine zq4 (fun h1 => ?_) (fun h1 => ?_)
  · have h' : yk = 1 := by simpa using h1
    simp -implicitDefEqProofs only [hat0, hat1, Tm.av_agg, Tm.av_width, List.length_map, zy4, evE, ↓evZ2, ↓evZ3, ↓Int.cast_ofNat_Int, implies_true, zy2, aFn, List.contains, List.elem, zq3, zy1, zq2, sub, zx3, zw2, zw3, zy3, gd, zq1, zw0, zq0, zx0, zx2, zx1, zy0, zw1, List.range', ↓reduceIte, reduceCtorEq, Nat.reduceEqDiff, Nat.reduceAdd, Nat.reduceLeDiff, Nat.reduceMul, Nat.reduceLT, Nat.reduceBEq, Int.reduceEq, tf_B7_56]
    exact hbad _ _ 2 (if_pos (.inr h'))
  have hy1 : yk ≠ 1 := by simpa using h1
  rw [if_neg (fun h2 => h2.elim hx1 hy1)]
  simp -implicitDefEqProofs only [hat0, hat1, Tm.av_agg, Tm.av_width, List.length_map, zy4, evE, ↓evZ2, ↓evZ3, ↓Int.cast_ofNat_Int, implies_true, zy2, aFn, List.contains, List.elem, zq3, zy1, zq2, sub, zx3, zw2, zw3, zy3, gd, zq1, zw0, zq0, zx0, zx2, zx1, zy0, zw1, List.range', ↓reduceIte, reduceCtorEq, Nat.reduceEqDiff, Nat.reduceAdd, Nat.reduceLeDiff, Nat.reduceMul, Nat.reduceLT, Nat.reduceBEq, Int.reduceEq, tf_B7_56]
  refine zx4 (fun h4 => ?_) (fun h4 => ?_)
  case refine_2 =>
    have h' : xk ≠ 2 := by simpa using h4
    simp -implicitDefEqProofs only [h4, hat0, hat1, Tm.av_agg, Tm.av_width, List.length_map, zy4, evE, ↓evZ2, ↓evZ3, ↓Int.cast_ofNat_Int, implies_true, zy2, aFn, List.contains, List.elem, zq3, zy1, zq2, sub, zx3, zw2, zw3, zy3, gd, zq1, zw0, zq0, zx0, zx2, zx1, zy0, zw1, List.range', ↓reduceIte, reduceCtorEq, Nat.reduceEqDiff, Nat.reduceAdd, Nat.reduceLeDiff, Nat.reduceMul, Nat.reduceLT, Nat.reduceBEq, Int.reduceEq, tf_B7_56]
    exact hbad _ _ 3 (if_pos (.inl h'))
  have hx2 : xk = 2 := by simpa using h4
  simp -implicitDefEqProofs only [h4, hat0, hat1, Tm.av_agg, Tm.av_width, List.length_map, zy4, evE, ↓evZ2, ↓evZ3, ↓Int.cast_ofNat_Int, implies_true, zy2, aFn, List.contains, List.elem, zq3, zy1, zq2, sub, zx3, zw2, zw3, zy3, gd, zq1, zw0, zq0, zx0, zx2, zx1, zy0, zw1, List.range', ↓reduceIte, reduceCtorEq, Nat.reduceEqDiff, Nat.reduceAdd, Nat.reduceLeDiff, Nat.reduceMul, Nat.reduceLT, Nat.reduceBEq, Int.reduceEq, tf_B7_56]
  refine zx4 (fun h5 => ?_) (fun h5 => ?_)
  case refine_2 =>
    have h' : yk ≠ 3 := by simpa using h5
    simp -implicitDefEqProofs only [h5, hat0, hat1, Tm.av_agg, Tm.av_width, List.length_map, zy4, evE, ↓evZ2, ↓evZ3, ↓Int.cast_ofNat_Int, implies_true, zy2, aFn, List.contains, List.elem, zq3, zy1, zq2, sub, zx3, zw2, zw3, zy3, gd, zq1, zw0, zq0, zx0, zx2, zx1, zy0, zw1, List.range', ↓reduceIte, reduceCtorEq, Nat.reduceEqDiff, Nat.reduceAdd, Nat.reduceLeDiff, Nat.reduceMul, Nat.reduceLT, Nat.reduceBEq, Int.reduceEq, tf_B7_56]
    exact hbad _ _ 3 (if_pos (.inr (.inl h')))
  have hy3 : yk = 3 := by simpa using h5
  simp -implicitDefEqProofs only [h5, hat0, hat1, Tm.av_agg, Tm.av_width, List.length_map, zy4, evE, ↓evZ2, ↓evZ3, ↓Int.cast_ofNat_Int, implies_true, zy2, aFn, List.contains, List.elem, zq3, zy1, zq2, sub, zx3, zw2, zw3, zy3, gd, zq1, zw0, zq0, zx0, zx2, zx1, zy0, zw1, List.range', ↓reduceIte, reduceCtorEq, Nat.reduceEqDiff, Nat.reduceAdd, Nat.reduceLeDiff, Nat.reduceMul, Nat.reduceLT, Nat.reduceBEq, Int.reduceEq, tf_B7_56]
  refine zq4 (fun h6 => ?_) (fun h6 => ?_)
  · have h' : yt.length = 0 := by simp at h6; simp [h6]
    simp -implicitDefEqProofs only [hat0, hat1, Tm.av_agg, Tm.av_width, List.length_map, zy4, evE, ↓evZ2, ↓evZ3, ↓Int.cast_ofNat_Int, implies_true, zy2, aFn, List.contains, List.elem, zq3, zy1, zq2, sub, zx3, zw2, zw3, zy3, gd, zq1, zw0, zq0, zx0, zx2, zx1, zy0, zw1, List.range', ↓reduceIte, reduceCtorEq, Nat.reduceEqDiff, Nat.reduceAdd, Nat.reduceLeDiff, Nat.reduceMul, Nat.reduceLT, Nat.reduceBEq, Int.reduceEq, tf_B7_56]
    exact hbad _ _ 3 (if_pos (.inr (.inr h')))
  have hyt : yt.length ≠ 0 := by simp at h6; simpa using h6
  rw [if_neg (by simp [hx2, hy3]; intro h7; simp [h7] at hyt)]
  simp -implicitDefEqProofs only [hat0, hat1, Tm.av_agg, Tm.av_width, List.length_map, zy4, evE, ↓evZ2, ↓evZ3, ↓Int.cast_ofNat_Int, implies_true, zy2, aFn, List.contains, List.elem, zq3, zy1, zq2, sub, zx3, zw2, zw3, zy3, gd, zq1, zw0, zq0, zx0, zx2, zx1, zy0, zw1, List.range', ↓reduceIte, reduceCtorEq, Nat.reduceEqDiff, Nat.reduceAdd, Nat.reduceLeDiff, Nat.reduceMul, Nat.reduceLT, Nat.reduceBEq, Int.reduceEq, tf_B7_56]
  have hno : ¬ (1 ≤ xn ∧ xn ≤ yt.length) → (match argT (.mk xk xn xs xt) (.mk yk yn ys yt) with | some u => (u, (0 : Int)) | none => (Tm.zero, 1)) = (Tm.zero, (1 : Int)) := fun h' => by
    have ea : argT (.mk xk xn xs xt) (.mk yk yn ys yt) = none := if_neg h'
    rw [ea]
  refine zx4 (fun h7 => ?_) (fun h7 => ?_)
  case refine_2 =>
    have h' : xn < 1 := by simpa using h7
    simp -implicitDefEqProofs only [h7, hat0, hat1, Tm.av_agg, Tm.av_width, List.length_map, zy4, evE, ↓evZ2, ↓evZ3, ↓Int.cast_ofNat_Int, implies_true, zy2, aFn, List.contains, List.elem, zq3, zy1, zq2, sub, zx3, zw2, zw3, zy3, gd, zq1, zw0, zq0, zx0, zx2, zx1, zy0, zw1, List.range', ↓reduceIte, reduceCtorEq, Nat.reduceEqDiff, Nat.reduceAdd, Nat.reduceLeDiff, Nat.reduceMul, Nat.reduceLT, Nat.reduceBEq, Int.reduceEq, tf_B7_56]
    exact hbad _ _ 1 (hno (by omega))
  have hl1 : ¬ xn < 1 := by simpa using h7
  simp -implicitDefEqProofs only [h7, hat0, hat1, Tm.av_agg, Tm.av_width, List.length_map, zy4, evE, ↓evZ2, ↓evZ3, ↓Int.cast_ofNat_Int, implies_true, zy2, aFn, List.contains, List.elem, zq3, zy1, zq2, sub, zx3, zw2, zw3, zy3, gd, zq1, zw0, zq0, zx0, zx2, zx1, zy0, zw1, List.range', ↓reduceIte, reduceCtorEq, Nat.reduceEqDiff, Nat.reduceAdd, Nat.reduceLeDiff, Nat.reduceMul, Nat.reduceLT, Nat.reduceBEq, Int.reduceEq, tf_B7_56]
  refine zq4 (fun h8 => ?_) (fun h8 => ?_)
  · have h' : (yt.length : Int) < xn := by simpa using h8
    simp -implicitDefEqProofs only [hat0, hat1, Tm.av_agg, Tm.av_width, List.length_map, zy4, evE, ↓evZ2, ↓evZ3, ↓Int.cast_ofNat_Int, implies_true, zy2, aFn, List.contains, List.elem, zq3, zy1, zq2, sub, zx3, zw2, zw3, zy3, gd, zq1, zw0, zq0, zx0, zx2, zx1, zy0, zw1, List.range', ↓reduceIte, reduceCtorEq, Nat.reduceEqDiff, Nat.reduceAdd, Nat.reduceLeDiff, Nat.reduceMul, Nat.reduceLT, Nat.reduceBEq, Int.reduceEq, tf_B7_56]
    exact hbad _ _ 1 (hno (by omega))
  have hl2 : ¬ (yt.length : Int) < xn := by simpa using h8
  have h' : 1 ≤ xn ∧ xn ≤ yt.length := by omega
  obtain ⟨i, hi⟩ : ∃ i : Nat, xn - 1 = i := ⟨(xn - 1).toNat, by omega⟩
  have hlt : i < yt.length := by omega
  obtain ⟨u, hu⟩ : ∃ u, yt[i]? = some u := ⟨_, List.getElem?_eq_getElem hlt⟩
  have ea : argT (.mk xk xn xs xt) (.mk yk yn ys yt) = some u := by
    refine (if_pos h').trans ?_
    show yt[(xn - 1).toNat]? = some u
    rw [hi, Int.toNat_natCast, hu]
  rw [ea]
  have hw : IntKind.i64.wrap (xn - 1) = (i : Int) := by rw [wrap64 (by omega) (by omega)]; exact hi
  have hatu := ev_at (av := Tm.av) (P := prog) eI_23 hu (Tm.av_width u)
  simp -implicitDefEqProofs only [Tm.av_cells, Tm.av_store, take_all (Tm.av_cells _), agg_cells (Tm.av_agg _), hat0, hat1, hatu, hw, Tm.av_agg, Tm.av_width, List.length_map, zy4, evE, ↓evZ2, ↓evZ3, ↓Int.cast_ofNat_Int, implies_true, zy2, aFn, List.contains, List.elem, zq3, zy1, zq2, sub, zx3, zw2, zw3, zy3, gd, zq1, zw0, zq0, zx0, zx2, zx1, zy0, zw1, List.range', ↓reduceIte, reduceCtorEq, Nat.reduceEqDiff, Nat.reduceAdd, Nat.reduceLeDiff, Nat.reduceMul, Nat.reduceLT, Nat.reduceBEq, Int.reduceEq, tf_B7_56]
  exact ⟨by simp only [soft_agg, soft_tup, soft_int, soft_bool, soft_str, soft_slice, soft_fslice, soft_ptr, soft_pptr, soft_map, soft_mslice, Tm.soft, List.map_cons, List.map_nil, Tm.soft], (Drops.refl _).upd hb⟩
def SolvePost (bb : Nat) (st : zy7) (code : Int) (σ : Sub) (r : AV) (st' : zy7) : Prop :=
  r = .int .i64 code ∧ (code = 0 → ArrAt st' bb σ) ∧ ∀ x o, st x = some o → x ≠ bb → st' x = some o
theorem SolvePost.same {bb : Nat} {st : zy7} {code : Int} {r : AV} (h : ArrAt st bb Sub.none) (hr : r = .int .i64 code) : SolvePost bb st code Sub.none r st := ⟨hr, fun _ => h, fun _ _ h _ => h⟩
theorem c_l3Unify0 (a b : Tm) (ha : a.valid = true) (hb : b.valid = true) (bb : Nat) (st : zy7) (hS : ArrAt st bb Sub.none) :
    zq7 prog 53 [a.av, b.av, .mslice bb 0 26 4] st (fun r st' => r = .bool (uniR a b).1 ∧ ArrAt st' bb (uniR a b).2.1 ∧ ∀ x o, st x = some o → x ≠ bb → st' x = some o) := by
  obtain ⟨r, σ, tr, hU, hR⟩ := unif_of ha hb
  obtain ⟨g, hg⟩ := hU.run
  rw [hR]
  have oa : OkN a := ⟨Tm.valid_okA ha, Tm.valid_nodes ha⟩
  have ob : OkN b := ⟨Tm.valid_okA hb, Tm.valid_nodes hb⟩
  refine (c_l3Unify bb g Sub.none a b r σ tr IsGood.none (fun n u h => (by cases h)) oa ob hg st hS).mono ?_
  rintro _ s2 ⟨rfl, hA, hk⟩
  exact ⟨rfl, hA, hk⟩
theorem itm_av (n : Int) : (itm n).av = (Tm.mk 2 n ⟨#[]⟩ []).av := rfl
abbrev tf_B7_19 := And.intro tI_2 (And.intro zI_2 (And.intro underlying2 (And.intro tI_3 (And.intro zI_3 (And.intro underlying3 (And.intro tI_4 (And.intro zI_4 (And.intro underlying4 (And.intro tI_5 (And.intro zI_5 (And.intro underlying5 (And.intro tI_6 (And.intro zI_6 (And.intro underlying6 (And.intro tI_7 (And.intro zI_7 (And.intro fI_7_0 (And.intro fI_7_1 (And.intro fI_7_2 (And.intro fI_7_3 (And.intro bI_7 (And.intro tI_8 (And.intro zI_8 (And.intro fI_8_0 (And.intro fI_8_1 (And.intro fI_8_2 (And.intro fI_8_3 (And.intro bI_8 (And.intro tI_9 (And.intro zI_9 (And.intro underlying9 (And.intro tI_10 (And.intro zI_10 (And.intro underlying10 (And.intro tI_11 (And.intro zI_11 (And.intro underlying11 (And.intro tI_12 (And.intro zI_12 (And.intro underlying12 (And.intro tI_13 (And.intro zI_13 (And.intro fI_13_0 (And.intro fI_13_1 (And.intro bI_13 (And.intro tI_14 (And.intro zI_14 (And.intro fI_14_0 (And.intro fI_14_1 (And.intro bI_14 (And.intro tI_15 (And.intro zI_15 (And.intro tI_16 (And.intro zI_16 (And.intro tI_17 (And.intro zI_17 (And.intro tI_18 (And.intro zI_18 (And.intro fI_18_0 (And.intro bI_18 (And.intro tI_19 (And.intro zI_19 (And.intro fI_19_0 (And.intro bI_19 (And.intro tI_21 (And.intro zI_21 (And.intro underlying21 (And.intro tI_22 (And.intro zI_22 (And.intro eI_22 (And.intro eB_22 (And.intro eZ_22 (And.intro underlying22 (And.intro tI_23 (And.intro zI_23 (And.intro eI_23 (And.intro eB_23 (And.intro eZ_23 (And.intro underlying23 (And.intro tI_24 (And.intro zI_24 (And.intro fI_24_0 (And.intro fI_24_1 (And.intro fI_24_2 (And.intro fI_24_3 (And.intro bI_24 (And.intro tI_25 (And.intro zI_25 (And.intro fI_25_0 (And.intro fI_25_1 (And.intro fI_25_2 (And.intro fI_25_3 (And.intro bI_25 (And.intro tI_27 (And.intro zI_27 (And.intro eI_27 (And.intro eB_27 (And.intro eZ_27 (And.intro underlying27 (And.intro tI_34 (And.intro zI_34 (And.intro tI_39 (And.intro zI_39 (And.intro tI_49 (And.intro zI_49 (And.intro fI_49_0 (And.intro fI_49_1 (And.intro bI_49 (And.intro tI_57 (And.intro zI_57 (And.intro fI_57_0 (And.intro fI_57_1 (And.intro bI_57 (And.intro tI_58 (And.intro zI_58 (And.intro fI_58_0 (And.intro fI_58_1 (And.intro bI_58 (And.intro tI_61 (And.intro zI_61 (And.intro eI_61 (And.intro eB_61 (And.intro eZ_61 (And.intro underlying61 (And.intro tI_63 (And.intro zI_63 (And.intro eI_63 (And.intro eB_63 (And.intro eZ_63 (And.intro underlying63 (And.intro tI_97 (And.intro zI_97 (And.intro underlying97 (And.intro tI_102 (And.intro zI_102 (And.intro fI_102_0 (And.intro fI_102_1 (And.intro fI_102_2 (And.intro fI_102_3 (And.intro bI_102 (And.intro tI_103 (And.intro zI_103 (And.intro fI_103_0 (And.intro fI_103_1 (And.intro fI_103_2 (And.intro fI_103_3 (And.intro bI_103 (And.intro tI_105 (And.intro zI_105 (And.intro bI_105 (And.intro tI_108 (And.intro zI_108 (And.intro underlying108 (And.intro tI_114 (And.intro zI_114 (And.intro underlying114 (And.intro tI_115 (And.intro zI_115 (And.intro fI_115_0 (And.intro fI_115_1 (And.intro fI_115_2 (And.intro fI_115_3 (And.intro fI_115_4 (And.intro fI_115_5 (And.intro fI_115_6 (And.intro fI_115_7 (And.intro fI_115_8 (And.intro fI_115_9 (And.intro fI_115_10 (And.intro bI_115 (And.intro tI_116 (And.intro zI_116 (And.intro fI_116_0 (And.intro fI_116_1 (And.intro fI_116_2 (And.intro fI_116_3 (And.intro fI_116_4 (And.intro fI_116_5 (And.intro fI_116_6 (And.intro fI_116_7 (And.intro fI_116_8 (And.intro fI_116_9 (And.intro fI_116_10 bI_116)))))))))))))))))))))))))))))))))))))))))))))))))))))))))))))))))))))))))))))))))))))))))))))))))))))))))))))))))))))))))))))))))))))))))))))))))))))))))))))))))))))))))))))))))))))))
theorem c_l5Solve (n : Int) (s : ByteArray) (ks : List Tm) (hb : isBuiltin s (ks.length : Int) = true) (hne : s ≠ ⟨#[92, 61]⟩) (hv : ∀ x ∈ ks, x.valid = true) (bb : Nat) (st : zy7) (hS : ArrAt st bb Sub.none) :
    zq7 prog 19 [(Tm.mk 3 n s ks).av, .mslice bb 0 26 4] st (SolvePost bb st (solveB s ks).1 (solveB s ks).2) := by
  have hcs := bi_cases hb
  have hcpd := fun x y (hxy : ks = [x, y]) => c_l5Compare n s x y (Tm.valid_okV (hv x (by simp [hxy]))) (Tm.valid_okV (hv y (by simp [hxy])))
  have hcarg := fun x y z (hxy : ks = [x, y, z]) => c_l5Arg n s x y z (Tm.valid_okV (hv y (by simp [hxy])))
  have hctest := fun x (hxy : ks = [x]) h => c_l5Test n s x h
  simp only [Tm.av_mk] at hcpd hcarg hctest ⊢
  refine zw6 [1000000] func19 ntmps19 rfl rfl (by kernel_rfl) (by decide +kernel) (by show 2 ≤ _; decide +kernel) ?_
  intro _
  simp -implicitDefEqProofs only [List.length_map, evE, ↓evZ2, ↓evZ3, ↓Int.cast_ofNat_Int, implies_true, zy2, aFn, List.contains, List.elem, zq3, zy1, zq2, sub, zx3, zw2, zw3, zy3, gd, zq1, zw0, zq0, zx0, zx2, zx1, zy0, zw1, List.range', ↓reduceIte, reduceCtorEq, Nat.reduceEqDiff, Nat.reduceAdd, Nat.reduceLeDiff, Nat.reduceMul, Nat.reduceLT, Nat.reduceBEq, Int.reduceEq, tf_B7_19]
  refine zq4 (fun h => ?_) (fun h => ?_)
  · have hs : s = ⟨#[116, 114, 117, 101]⟩ := by simpa using h
    have hk := kids0 (ts := ks) (by subst hs; simpa [isBuiltin] using hb)
    subst hk
    simp -implicitDefEqProofs only [List.length_map, evE, ↓evZ2, ↓evZ3, ↓Int.cast_ofNat_Int, implies_true, zy2, aFn, List.contains, List.elem, zq3, zy1, zq2, sub, zx3, zw2, zw3, zy3, gd, zq1, zw0, zq0, zx0, zx2, zx1, zy0, zw1, List.range', ↓reduceIte, reduceCtorEq, Nat.reduceEqDiff, Nat.reduceAdd, Nat.reduceLeDiff, Nat.reduceMul, Nat.reduceLT, Nat.reduceBEq, Int.reduceEq, tf_B7_19]
    exact SolvePost.same hS (by simp [solveB, codeB, hs])
  have ht : s ≠ ⟨#[116, 114, 117, 101]⟩ := by simpa using h
  simp -implicitDefEqProofs only [List.length_map, evE, ↓evZ2, ↓evZ3, ↓Int.cast_ofNat_Int, implies_true, zy2, aFn, List.contains, List.elem, zq3, zy1, zq2, sub, zx3, zw2, zw3, zy3, gd, zq1, zw0, zq0, zx0, zx2, zx1, zy0, zw1, List.range', ↓reduceIte, reduceCtorEq, Nat.reduceEqDiff, Nat.reduceAdd, Nat.reduceLeDiff, Nat.reduceMul, Nat.reduceLT, Nat.reduceBEq, Int.reduceEq, tf_B7_19]
  refine zq4 (fun h => ?_) (fun h => ?_)
  · have hs : s = ⟨#[102, 97, 105, 108]⟩ := by simpa using h
    have hk := kids0 (ts := ks) (by subst hs; simpa [isBuiltin] using hb)
    subst hk
    simp -implicitDefEqProofs only [List.length_map, evE, ↓evZ2, ↓evZ3, ↓Int.cast_ofNat_Int, implies_true, zy2, aFn, List.contains, List.elem, zq3, zy1, zq2, sub, zx3, zw2, zw3, zy3, gd, zq1, zw0, zq0, zx0, zx2, zx1, zy0, zw1, List.range', ↓reduceIte, reduceCtorEq, Nat.reduceEqDiff, Nat.reduceAdd, Nat.reduceLeDiff, Nat.reduceMul, Nat.reduceLT, Nat.reduceBEq, Int.reduceEq, tf_B7_19]
    exact SolvePost.same hS (by simp [solveB, codeB, hs])
  have hf : s ≠ ⟨#[102, 97, 105, 108]⟩ := by simpa using h
  simp -implicitDefEqProofs only [List.length_map, evE, ↓evZ2, ↓evZ3, ↓Int.cast_ofNat_Int, implies_true, zy2, aFn, List.contains, List.elem, zq3, zy1, zq2, sub, zx3, zw2, zw3, zy3, gd, zq1, zw0, zq0, zx0, zx2, zx1, zy0, zw1, List.range', ↓reduceIte, reduceCtorEq, Nat.reduceEqDiff, Nat.reduceAdd, Nat.reduceLeDiff, Nat.reduceMul, Nat.reduceLT, Nat.reduceBEq, Int.reduceEq, tf_B7_19]
  refine zq4 (fun h => ?_) (fun h => ?_)
  · have hs : s = ⟨#[61]⟩ := by simpa using h
    obtain ⟨x, y, rfl⟩ := kids2 (ts := ks) (by subst hs; simp [isBuiltin] at hb; omega)
    have e : solveB s [x, y] = uniC x y := by subst hs; rfl
    rw [e]
    have hat0 : aIndexAddr prog 23 (.slice [x.av, y.av]) (.int .i64 0) = some (.pptr x.av) := ev_at (av := Tm.av) (l := [x, y]) (i := 0) eI_23 rfl (Tm.av_width x)
    have hat1 : aIndexAddr prog 23 (.slice [x.av, y.av]) (.int .i64 1) = some (.pptr y.av) := ev_at (av := Tm.av) (l := [x, y]) (i := 1) eI_23 rfl (Tm.av_width y)
    simp -implicitDefEqProofs only [hat0, hat1, Tm.av_agg, Tm.av_width, evE, ↓evZ2, ↓evZ3, ↓Int.cast_ofNat_Int, implies_true, zy2, aFn, List.contains, List.elem, zq3, zy1, zq2, sub, zx3, zw2, zw3, zy3, gd, zq1, zw0, zq0, zx0, zx2, zx1, zy0, zw1, List.range', ↓reduceIte, reduceCtorEq, Nat.reduceEqDiff, Nat.reduceAdd, Nat.reduceLeDiff, Nat.reduceMul, Nat.reduceLT, Nat.reduceBEq, Int.reduceEq, tf_B7_19]
    refine zq5 [(0, 1), (1, 1), (2, 1), (3, 1), (4, 1), (5, 1), (6, 1), (7, 1), (8, 1), (9, 0), (10, 0), (11, 1)] [0, 1, 2, 3, 4, 5, 6, 7, 8, 11] none0' mixed (by decide +kernel) (by decide +kernel) (by decide +kernel) rfl ext_none ?_
    simp -implicitDefEqProofs only [hat0, hat1, Tm.av_agg, Tm.av_width, evE, ↓evZ2, ↓evZ3, ↓Int.cast_ofNat_Int, implies_true, zy2, aFn, List.contains, List.elem, zq3, zy1, zq2, sub, zx3, zw2, zw3, zy3, gd, zq1, zw0, zq0, zx0, zx2, zx1, zy0, zw1, List.range', ↓reduceIte, reduceCtorEq, Nat.reduceEqDiff, Nat.reduceAdd, Nat.reduceLeDiff, Nat.reduceMul, Nat.reduceLT, Nat.reduceBEq, Int.reduceEq, tf_B7_19]
    refine (c_l3Unify0 x y (hv x (by simp)) (hv y (by simp)) bb _ hS).mono ?_
    rintro _ s2 ⟨rfl, hA, hk⟩
    simp -implicitDefEqProofs only [hat0, hat1, Tm.av_agg, Tm.av_width, evE, ↓evZ2, ↓evZ3, ↓Int.cast_ofNat_Int, implies_true, zy2, aFn, List.contains, List.elem, zq3, zy1, zq2, sub, zx3, zw2, zw3, zy3, gd, zq1, zw0, zq0, zx0, zx2, zx1, zy0, zw1, List.range', ↓reduceIte, reduceCtorEq, Nat.reduceEqDiff, Nat.reduceAdd, Nat.reduceLeDiff, Nat.reduceMul, Nat.reduceLT, Nat.reduceBEq, Int.reduceEq, tf_B7_19]
    refine ⟨ext_none, ?_⟩
    refine (c_l5Code _ _).to ?_
    simp -implicitDefEqProofs only [hat0, hat1, Tm.av_agg, Tm.av_width, evE, ↓evZ2, ↓evZ3, ↓Int.cast_ofNat_Int, implies_true, zy2, aFn, List.contains, List.elem, zq3, zy1, zq2, sub, zx3, zw2, zw3, zy3, gd, zq1, zw0, zq0, zx0, zx2, zx1, zy0, zw1, List.range', ↓reduceIte, reduceCtorEq, Nat.reduceEqDiff, Nat.reduceAdd, Nat.reduceLeDiff, Nat.reduceMul, Nat.reduceLT, Nat.reduceBEq, Int.reduceEq, tf_B7_19]
    exact ⟨ext_none, rfl, fun _ => hA, hk⟩
  have he : s ≠ ⟨#[61]⟩ := by simpa using h
  simp -implicitDefEqProofs only [List.length_map, evE, ↓evZ2, ↓evZ3, ↓Int.cast_ofNat_Int, implies_true, zy2, aFn, List.contains, List.elem, zq3, zy1, zq2, sub, zx3, zw2, zw3, zy3, gd, zq1, zw0, zq0, zx0, zx2, zx1, zy0, zw1, List.range', ↓reduceIte, reduceCtorEq, Nat.reduceEqDiff, Nat.reduceAdd, Nat.reduceLeDiff, Nat.reduceMul, Nat.reduceLT, Nat.reduceBEq, Int.reduceEq, tf_B7_19]
  refine zq4 (fun h => absurd (by simpa using h) hne) (fun h => ?_)
  simp -implicitDefEqProofs only [List.length_map, evE, ↓evZ2, ↓evZ3, ↓Int.cast_ofNat_Int, implies_true, zy2, aFn, List.contains, List.elem, zq3, zy1, zq2, sub, zx3, zw2, zw3, zy3, gd, zq1, zw0, zq0, zx0, zx2, zx1, zy0, zw1, List.range', ↓reduceIte, reduceCtorEq, Nat.reduceEqDiff, Nat.reduceAdd, Nat.reduceLeDiff, Nat.reduceMul, Nat.reduceLT, Nat.reduceBEq, Int.reduceEq, tf_B7_19]
  refine zq4 (fun h => ?_) (fun h => ?_)
  · have hs : s = ⟨#[61, 61]⟩ := by simpa using h
    obtain ⟨x, y, rfl⟩ := kids2 (ts := ks) (by subst hs; simp [isBuiltin] at hb; omega)
    have e : solveB s [x, y] = (codeB (x.same y), Sub.none) := by subst hs; rfl
    rw [e]
    have hat0 : aIndexAddr prog 23 (.slice [x.av, y.av]) (.int .i64 0) = some (.pptr x.av) := ev_at (av := Tm.av) (l := [x, y]) (i := 0) eI_23 rfl (Tm.av_width x)
    have hat1 : aIndexAddr prog 23 (.slice [x.av, y.av]) (.int .i64 1) = some (.pptr y.av) := ev_at (av := Tm.av) (l := [x, y]) (i := 1) eI_23 rfl (Tm.av_width y)
    simp -implicitDefEqProofs only [hat0, hat1, Tm.av_agg, Tm.av_width, evE, ↓evZ2, ↓evZ3, ↓Int.cast_ofNat_Int, implies_true, zy2, aFn, List.contains, List.elem, zq3, zy1, zq2, sub, zx3, zw2, zw3, zy3, gd, zq1, zw0, zq0, zx0, zx2, zx1, zy0, zw1, List.range', ↓reduceIte, reduceCtorEq, Nat.reduceEqDiff, Nat.reduceAdd, Nat.reduceLeDiff, Nat.reduceMul, Nat.reduceLT, Nat.reduceBEq, Int.reduceEq, tf_B7_19]
    refine arun_drawA mixed (by decide +kernel) (by decide +kernel) ?_
    simp -implicitDefEqProofs only [hat0, hat1, Tm.av_agg, Tm.av_width, evE, ↓evZ2, ↓evZ3, ↓Int.cast_ofNat_Int, implies_true, zy2, aFn, List.contains, List.elem, zq3, zy1, zq2, sub, zx3, zw2, zw3, zy3, gd, zq1, zw0, zq0, zx0, zx2, zx1, zy0, zw1, List.range', ↓reduceIte, reduceCtorEq, Nat.reduceEqDiff, Nat.reduceAdd, Nat.reduceLeDiff, Nat.reduceMul, Nat.reduceLT, Nat.reduceBEq, Int.reduceEq, tf_B7_19]
    refine zw4 (c_spec_TermSame x y _) ?_
    simp -implicitDefEqProofs only [hat0, hat1, Tm.av_agg, Tm.av_width, evE, ↓evZ2, ↓evZ3, ↓Int.cast_ofNat_Int, implies_true, zy2, aFn, List.contains, List.elem, zq3, zy1, zq2, sub, zx3, zw2, zw3, zy3, gd, zq1, zw0, zq0, zx0, zx2, zx1, zy0, zw1, List.range', ↓reduceIte, reduceCtorEq, Nat.reduceEqDiff, Nat.reduceAdd, Nat.reduceLeDiff, Nat.reduceMul, Nat.reduceLT, Nat.reduceBEq, Int.reduceEq, tf_B7_19]
    refine zw4 (c_l5Code _ _) ?_
    simp -implicitDefEqProofs only [hat0, hat1, Tm.av_agg, Tm.av_width, evE, ↓evZ2, ↓evZ3, ↓Int.cast_ofNat_Int, implies_true, zy2, aFn, List.contains, List.elem, zq3, zy1, zq2, sub, zx3, zw2, zw3, zy3, gd, zq1, zw0, zq0, zx0, zx2, zx1, zy0, zw1, List.range', ↓reduceIte, reduceCtorEq, Nat.reduceEqDiff, Nat.reduceAdd, Nat.reduceLeDiff, Nat.reduceMul, Nat.reduceLT, Nat.reduceBEq, Int.reduceEq, tf_B7_19]
    exact SolvePost.same hS rfl
  have hee : s ≠ ⟨#[61, 61]⟩ := by simpa using h
  simp -implicitDefEqProofs only [List.length_map, evE, ↓evZ2, ↓evZ3, ↓Int.cast_ofNat_Int, implies_true, zy2, aFn, List.contains, List.elem, zq3, zy1, zq2, sub, zx3, zw2, zw3, zy3, gd, zq1, zw0, zq0, zx0, zx2, zx1, zy0, zw1, List.range', ↓reduceIte, reduceCtorEq, Nat.reduceEqDiff, Nat.reduceAdd, Nat.reduceLeDiff, Nat.reduceMul, Nat.reduceLT, Nat.reduceBEq, Int.reduceEq, tf_B7_19]
  refine zq4 (fun h => ?_) (fun h => ?_)
  · have hs : s = ⟨#[105, 115]⟩ := by simpa using h
    obtain ⟨x, y, rfl⟩ := kids2 (ts := ks) (by subst hs; simp [isBuiltin] at hb; omega)
    have e : solveB s [x, y] = if y.ev.2 ≠ 0 then (y.ev.2, Sub.none) else uniC x (itm y.ev.1) := by subst hs; rfl
    rw [e]
    have hy := hv y (by simp)
    have hin := itm_valid (Tm.ev_in y (Tm.valid_okV hy))
    have har := fun st => c_l5Arith y st (Tm.valid_okV hy)
    generalize y.ev.1 = a at *
    generalize y.ev.2 = ca at *
    have hat0 : aIndexAddr prog 23 (.slice [x.av, y.av]) (.int .i64 0) = some (.pptr x.av) := ev_at (av := Tm.av) (l := [x, y]) (i := 0) eI_23 rfl (Tm.av_width x)
    have hat1 : aIndexAddr prog 23 (.slice [x.av, y.av]) (.int .i64 1) = some (.pptr y.av) := ev_at (av := Tm.av) (l := [x, y]) (i := 1) eI_23 rfl (Tm.av_width y)
    simp -implicitDefEqProofs only [hat0, hat1, Tm.av_agg, Tm.av_width, evE, ↓evZ2, ↓evZ3, ↓Int.cast_ofNat_Int, implies_true, zy2, aFn, List.contains, List.elem, zq3, zy1, zq2, sub, zx3, zw2, zw3, zy3, gd, zq1, zw0, zq0, zx0, zx2, zx1, zy0, zw1, List.range', ↓reduceIte, reduceCtorEq, Nat.reduceEqDiff, Nat.reduceAdd, Nat.reduceLeDiff, Nat.reduceMul, Nat.reduceLT, Nat.reduceBEq, Int.reduceEq, tf_B7_19]
    refine (har _).to ?_
    simp -implicitDefEqProofs only [hat0, hat1, Tm.av_agg, Tm.av_width, evE, ↓evZ2, ↓evZ3, ↓Int.cast_ofNat_Int, implies_true, zy2, aFn, List.contains, List.elem, zq3, zy1, zq2, sub, zx3, zw2, zw3, zy3, gd, zq1, zw0, zq0, zx0, zx2, zx1, zy0, zw1, List.range', ↓reduceIte, reduceCtorEq, Nat.reduceEqDiff, Nat.reduceAdd, Nat.reduceLeDiff, Nat.reduceMul, Nat.reduceLT, Nat.reduceBEq, Int.reduceEq, tf_B7_19]
    refine zq4 (fun h4 => ?_) (fun h4 => ?_)
    · simp -implicitDefEqProofs only [hat0, hat1, Tm.av_agg, Tm.av_width, evE, ↓evZ2, ↓evZ3, ↓Int.cast_ofNat_Int, implies_true, zy2, aFn, List.contains, List.elem, zq3, zy1, zq2, sub, zx3, zw2, zw3, zy3, gd, zq1, zw0, zq0, zx0, zx2, zx1, zy0, zw1, List.range', ↓reduceIte, reduceCtorEq, Nat.reduceEqDiff, Nat.reduceAdd, Nat.reduceLeDiff, Nat.reduceMul, Nat.reduceLT, Nat.reduceBEq, Int.reduceEq, tf_B7_19]
      have h4' : ca ≠ 0 := by simpa using h4
      rw [if_pos h4']
      exact SolvePost.same hS rfl
    have h4' : ca = 0 := by simpa using h4
    subst h4'
    rw [if_neg (by simp)]
    simp -implicitDefEqProofs only [hat0, hat1, Tm.av_agg, Tm.av_width, evE, ↓evZ2, ↓evZ3, ↓Int.cast_ofNat_Int, implies_true, zy2, aFn, List.contains, List.elem, zq3, zy1, zq2, sub, zx3, zw2, zw3, zy3, gd, zq1, zw0, zq0, zx0, zx2, zx1, zy0, zw1, List.range', ↓reduceIte, reduceCtorEq, Nat.reduceEqDiff, Nat.reduceAdd, Nat.reduceLeDiff, Nat.reduceMul, Nat.reduceLT, Nat.reduceBEq, Int.reduceEq, tf_B7_19]
    refine zq5 [(0, 1), (1, 1), (2, 1), (3, 1), (4, 1), (6, 1), (5, 0), (7, 0), (8, 0), (9, 1)] [0, 1, 2, 3, 4, 6, 9] none0' mixed (by decide +kernel) (by decide +kernel) (by decide +kernel) rfl ext_none ?_
    simp -implicitDefEqProofs only [hat0, hat1, Tm.av_agg, Tm.av_width, evE, ↓evZ2, ↓evZ3, ↓Int.cast_ofNat_Int, implies_true, zy2, aFn, List.contains, List.elem, zq3, zy1, zq2, sub, zx3, zw2, zw3, zy3, gd, zq1, zw0, zq0, zx0, zx2, zx1, zy0, zw1, List.range', ↓reduceIte, reduceCtorEq, Nat.reduceEqDiff, Nat.reduceAdd, Nat.reduceLeDiff, Nat.reduceMul, Nat.reduceLT, Nat.reduceBEq, Int.reduceEq, tf_B7_19]
    refine (c_l1Int a _).to ?_
    rw [← itm_av]
    simp -implicitDefEqProofs only [hat0, hat1, Tm.av_agg, Tm.av_width, evE, ↓evZ2, ↓evZ3, ↓Int.cast_ofNat_Int, implies_true, zy2, aFn, List.contains, List.elem, zq3, zy1, zq2, sub, zx3, zw2, zw3, zy3, gd, zq1, zw0, zq0, zx0, zx2, zx1, zy0, zw1, List.range', ↓reduceIte, reduceCtorEq, Nat.reduceEqDiff, Nat.reduceAdd, Nat.reduceLeDiff, Nat.reduceMul, Nat.reduceLT, Nat.reduceBEq, Int.reduceEq, tf_B7_19]
    refine ⟨ext_none, ?_⟩
    refine (c_l3Unify0 x (itm a) (hv x (by simp)) hin bb _ hS).mono ?_
    rintro _ s2 ⟨rfl, hA, hk⟩
    simp -implicitDefEqProofs only [hat0, hat1, Tm.av_agg, Tm.av_width, evE, ↓evZ2, ↓evZ3, ↓Int.cast_ofNat_Int, implies_true, zy2, aFn, List.contains, List.elem, zq3, zy1, zq2, sub, zx3, zw2, zw3, zy3, gd, zq1, zw0, zq0, zx0, zx2, zx1, zy0, zw1, List.range', ↓reduceIte, reduceCtorEq, Nat.reduceEqDiff, Nat.reduceAdd, Nat.reduceLeDiff, Nat.reduceMul, Nat.reduceLT, Nat.reduceBEq, Int.reduceEq, tf_B7_19]
    refine ⟨ext_none, ?_⟩
    refine (c_l5Code _ _).to ?_
    simp -implicitDefEqProofs only [hat0, hat1, Tm.av_agg, Tm.av_width, evE, ↓evZ2, ↓evZ3, ↓Int.cast_ofNat_Int, implies_true, zy2, aFn, List.contains, List.elem, zq3, zy1, zq2, sub, zx3, zw2, zw3, zy3, gd, zq1, zw0, zq0, zx0, zx2, zx1, zy0, zw1, List.range', ↓reduceIte, reduceCtorEq, Nat.reduceEqDiff, Nat.reduceAdd, Nat.reduceLeDiff, Nat.reduceMul, Nat.reduceLT, Nat.reduceBEq, Int.reduceEq, tf_B7_19]
    exact ⟨ext_none, rfl, fun _ => hA, hk⟩
  have his : s ≠ ⟨#[105, 115]⟩ := by simpa using h
  simp -implicitDefEqProofs only [List.length_map, evE, ↓evZ2, ↓evZ3, ↓Int.cast_ofNat_Int, implies_true, zy2, aFn, List.contains, List.elem, zq3, zy1, zq2, sub, zx3, zw2, zw3, zy3, gd, zq1, zw0, zq0, zx0, zx2, zx1, zy0, zw1, List.range', ↓reduceIte, reduceCtorEq, Nat.reduceEqDiff, Nat.reduceAdd, Nat.reduceLeDiff, Nat.reduceMul, Nat.reduceLT, Nat.reduceBEq, Int.reduceEq, tf_B7_19]
  refine zq4 (fun h => ?_) (fun h => ?_)
  · have hs : s = ⟨#[97, 114, 103]⟩ := by simpa using h
    obtain ⟨x, y, z, rfl⟩ := kids3 (ts := ks) (by subst hs; simp [isBuiltin] at hb; omega)
    have e : solveB s [x, y, z] = argC x y z := rfl
    rw [e, argC_R]
    have hz := hv z (by simp)
    have hy := hv y (by simp)
    have hga := hcarg x y z rfl
    have hgv : (argR x y).2 = 0 → (argR x y).1.valid = true := fun h => by
      unfold argR at h ⊢
      split at h
      · cases h
      rename_i h1
      rw [if_neg h1]
      split at h
      · cases h
      rename_i h2
      rw [if_neg h2]
      cases hu : argT x y with
      | none => rw [hu] at h; cases h
      | some u => exact Tm.valid_kid hy (fun h => h1 (.inr h)) (argT_mem hu)
    generalize (argR x y).1 = u at *
    generalize (argR x y).2 = cu at *
    have hat2 : aIndexAddr prog 23 (.slice [x.av, y.av, z.av]) (.int .i64 2) = some (.pptr z.av) := ev_at (av := Tm.av) (l := [x, y, z]) (i := 2) eI_23 rfl (Tm.av_width z)
    simp only [List.map_cons, List.map_nil] at hga
    simp -implicitDefEqProofs only [hat2, Tm.av_agg, Tm.av_width, Tm.av_junk, Tm.av_store, evE, ↓evZ2, ↓evZ3, ↓Int.cast_ofNat_Int, implies_true, zy2, aFn, List.contains, List.elem, zq3, zy1, zq2, sub, zx3, zw2, zw3, zy3, gd, zq1, zw0, zq0, zx0, zx2, zx1, zy0, zw1, List.range', ↓reduceIte, reduceCtorEq, Nat.reduceEqDiff, Nat.reduceAdd, Nat.reduceLeDiff, Nat.reduceMul, Nat.reduceLT, Nat.reduceBEq, Int.reduceEq, tf_B7_19]
    refine (hga _).to ?_
    simp -implicitDefEqProofs only [hat2, Tm.av_agg, Tm.av_width, Tm.av_junk, Tm.av_store, evE, ↓evZ2, ↓evZ3, ↓Int.cast_ofNat_Int, implies_true, zy2, aFn, List.contains, List.elem, zq3, zy1, zq2, sub, zx3, zw2, zw3, zy3, gd, zq1, zw0, zq0, zx0, zx2, zx1, zy0, zw1, List.range', ↓reduceIte, reduceCtorEq, Nat.reduceEqDiff, Nat.reduceAdd, Nat.reduceLeDiff, Nat.reduceMul, Nat.reduceLT, Nat.reduceBEq, Int.reduceEq, tf_B7_19]
    refine zq4 (fun h4 => ?_) (fun h4 => ?_)
    · simp -implicitDefEqProofs only [hat2, Tm.av_agg, Tm.av_width, Tm.av_junk, Tm.av_store, evE, ↓evZ2, ↓evZ3, ↓Int.cast_ofNat_Int, implies_true, zy2, aFn, List.contains, List.elem, zq3, zy1, zq2, sub, zx3, zw2, zw3, zy3, gd, zq1, zw0, zq0, zx0, zx2, zx1, zy0, zw1, List.range', ↓reduceIte, reduceCtorEq, Nat.reduceEqDiff, Nat.reduceAdd, Nat.reduceLeDiff, Nat.reduceMul, Nat.reduceLT, Nat.reduceBEq, Int.reduceEq, tf_B7_19]
      have h4' : cu ≠ 0 := by simpa using h4
      rw [if_neg h4']
      exact SolvePost.same hS rfl
    have h4' : cu = 0 := by simpa using h4
    subst h4'
    rw [if_pos rfl]
    simp -implicitDefEqProofs only [hat2, Tm.av_agg, Tm.av_width, Tm.av_junk, Tm.av_store, evE, ↓evZ2, ↓evZ3, ↓Int.cast_ofNat_Int, implies_true, zy2, aFn, List.contains, List.elem, zq3, zy1, zq2, sub, zx3, zw2, zw3, zy3, gd, zq1, zw0, zq0, zx0, zx2, zx1, zy0, zw1, List.range', ↓reduceIte, reduceCtorEq, Nat.reduceEqDiff, Nat.reduceAdd, Nat.reduceLeDiff, Nat.reduceMul, Nat.reduceLT, Nat.reduceBEq, Int.reduceEq, tf_B7_19]
    refine zq5 [(0, 1), (1, 1), (2, 1), (3, 1), (4, 1), (5, 1), (6, 0), (7, 0), (8, 1)] [0, 1, 2, 3, 4, 5, 8] none0' mixed (by decide +kernel) (by decide +kernel) (by decide +kernel) rfl ext_none ?_
    simp -implicitDefEqProofs only [hat2, Tm.av_agg, Tm.av_width, Tm.av_junk, Tm.av_store, evE, ↓evZ2, ↓evZ3, ↓Int.cast_ofNat_Int, implies_true, zy2, aFn, List.contains, List.elem, zq3, zy1, zq2, sub, zx3, zw2, zw3, zy3, gd, zq1, zw0, zq0, zx0, zx2, zx1, zy0, zw1, List.range', ↓reduceIte, reduceCtorEq, Nat.reduceEqDiff, Nat.reduceAdd, Nat.reduceLeDiff, Nat.reduceMul, Nat.reduceLT, Nat.reduceBEq, Int.reduceEq, tf_B7_19]
    refine (c_l3Unify0 z u hz (hgv rfl) bb _ hS).mono ?_
    rintro _ s2 ⟨rfl, hA, hk⟩
    simp -implicitDefEqProofs only [hat2, Tm.av_agg, Tm.av_width, Tm.av_junk, Tm.av_store, evE, ↓evZ2, ↓evZ3, ↓Int.cast_ofNat_Int, implies_true, zy2, aFn, List.contains, List.elem, zq3, zy1, zq2, sub, zx3, zw2, zw3, zy3, gd, zq1, zw0, zq0, zx0, zx2, zx1, zy0, zw1, List.range', ↓reduceIte, reduceCtorEq, Nat.reduceEqDiff, Nat.reduceAdd, Nat.reduceLeDiff, Nat.reduceMul, Nat.reduceLT, Nat.reduceBEq, Int.reduceEq, tf_B7_19]
    refine ⟨ext_none, ?_⟩
    refine (c_l5Code _ _).to ?_
    simp -implicitDefEqProofs only [hat2, Tm.av_agg, Tm.av_width, Tm.av_junk, Tm.av_store, evE, ↓evZ2, ↓evZ3, ↓Int.cast_ofNat_Int, implies_true, zy2, aFn, List.contains, List.elem, zq3, zy1, zq2, sub, zx3, zw2, zw3, zy3, gd, zq1, zw0, zq0, zx0, zx2, zx1, zy0, zw1, List.range', ↓reduceIte, reduceCtorEq, Nat.reduceEqDiff, Nat.reduceAdd, Nat.reduceLeDiff, Nat.reduceMul, Nat.reduceLT, Nat.reduceBEq, Int.reduceEq, tf_B7_19]
    exact ⟨ext_none, rfl, fun _ => hA, hk⟩
  have harg : s ≠ ⟨#[97, 114, 103]⟩ := by simpa using h
  simp -implicitDefEqProofs only [List.length_map, evE, ↓evZ2, ↓evZ3, ↓Int.cast_ofNat_Int, implies_true, zy2, aFn, List.contains, List.elem, zq3, zy1, zq2, sub, zx3, zw2, zw3, zy3, gd, zq1, zw0, zq0, zx0, zx2, zx1, zy0, zw1, List.range', ↓reduceIte, reduceCtorEq, Nat.reduceEqDiff, Nat.reduceAdd, Nat.reduceLeDiff, Nat.reduceMul, Nat.reduceLT, Nat.reduceBEq, Int.reduceEq, tf_B7_19]
  refine (c_l5Compares s _).to ?_
  simp -implicitDefEqProofs only [List.length_map, evE, ↓evZ2, ↓evZ3, ↓Int.cast_ofNat_Int, implies_true, zy2, aFn, List.contains, List.elem, zq3, zy1, zq2, sub, zx3, zw2, zw3, zy3, gd, zq1, zw0, zq0, zx0, zx2, zx1, zy0, zw1, List.range', ↓reduceIte, reduceCtorEq, Nat.reduceEqDiff, Nat.reduceAdd, Nat.reduceLeDiff, Nat.reduceMul, Nat.reduceLT, Nat.reduceBEq, Int.reduceEq, tf_B7_19]
  refine zq4 (fun h => ?_) (fun h => ?_)
  · have hlen : ks.length = 2 := by
      rcases hcs with ⟨h2, h3⟩ | ⟨h2, h3⟩ | ⟨h2, h3⟩ | ⟨h2, h3⟩
      · exact h2
      · simp [ht, hf] at h3
      · rcases h3 with rfl | rfl | rfl | rfl <;> exact absurd h (by decide)
      · exact absurd h3 harg
    obtain ⟨x, y, rfl⟩ := kids2 hlen
    have e : solveB s [x, y] = (cmpC s x y, Sub.none) := by simp only [solveB]; rw [if_pos h]
    rw [e]
    have hc := hcpd x y rfl
    simp only [List.map_cons, List.map_nil] at hc
    simp -implicitDefEqProofs only [List.length_map, evE, ↓evZ2, ↓evZ3, ↓Int.cast_ofNat_Int, implies_true, zy2, aFn, List.contains, List.elem, zq3, zy1, zq2, sub, zx3, zw2, zw3, zy3, gd, zq1, zw0, zq0, zx0, zx2, zx1, zy0, zw1, List.range', ↓reduceIte, reduceCtorEq, Nat.reduceEqDiff, Nat.reduceAdd, Nat.reduceLeDiff, Nat.reduceMul, Nat.reduceLT, Nat.reduceBEq, Int.reduceEq, tf_B7_19]
    refine (hc _).to ?_
    simp -implicitDefEqProofs only [List.length_map, evE, ↓evZ2, ↓evZ3, ↓Int.cast_ofNat_Int, implies_true, zy2, aFn, List.contains, List.elem, zq3, zy1, zq2, sub, zx3, zw2, zw3, zy3, gd, zq1, zw0, zq0, zx0, zx2, zx1, zy0, zw1, List.range', ↓reduceIte, reduceCtorEq, Nat.reduceEqDiff, Nat.reduceAdd, Nat.reduceLeDiff, Nat.reduceMul, Nat.reduceLT, Nat.reduceBEq, Int.reduceEq, tf_B7_19]
    exact SolvePost.same hS rfl
  · have hlen : ks.length = 1 ∧ (s = ⟨#[118, 97, 114]⟩ ∨ s = ⟨#[110, 111, 110, 118, 97, 114]⟩ ∨ s = ⟨#[97, 116, 111, 109]⟩ ∨ s = ⟨#[105, 110, 116]⟩) := by
      rcases hcs with ⟨h2, h3⟩ | ⟨h2, h3⟩ | ⟨h2, h3⟩ | ⟨h2, h3⟩
      · simp [h, he, hne, hee, his] at h3
      · simp [ht, hf] at h3
      · exact ⟨h2, h3⟩
      · exact absurd h3 harg
    obtain ⟨x, rfl⟩ := kids1 hlen.1
    have e : solveB s [x] = (codeB (testB s x), Sub.none) := rfl
    rw [e]
    have hc := hctest x rfl hlen.2
    simp only [List.map_cons, List.map_nil] at hc
    simp -implicitDefEqProofs only [List.length_map, evE, ↓evZ2, ↓evZ3, ↓Int.cast_ofNat_Int, implies_true, zy2, aFn, List.contains, List.elem, zq3, zy1, zq2, sub, zx3, zw2, zw3, zy3, gd, zq1, zw0, zq0, zx0, zx2, zx1, zy0, zw1, List.range', ↓reduceIte, reduceCtorEq, Nat.reduceEqDiff, Nat.reduceAdd, Nat.reduceLeDiff, Nat.reduceMul, Nat.reduceLT, Nat.reduceBEq, Int.reduceEq, tf_B7_19]
    refine (hc _).to ?_
    simp -implicitDefEqProofs only [List.length_map, evE, ↓evZ2, ↓evZ3, ↓Int.cast_ofNat_Int, implies_true, zy2, aFn, List.contains, List.elem, zq3, zy1, zq2, sub, zx3, zw2, zw3, zy3, gd, zq1, zw0, zq0, zx0, zx2, zx1, zy0, zw1, List.range', ↓reduceIte, reduceCtorEq, Nat.reduceEqDiff, Nat.reduceAdd, Nat.reduceLeDiff, Nat.reduceMul, Nat.reduceLT, Nat.reduceBEq, Int.reduceEq, tf_B7_19]
    exact SolvePost.same hS rfl
end Go.AW


namespace Go.AW
open Go.Proofs.Try
set_option linter.unusedSimpArgs false
set_option maxRecDepth 100000
theorem zt_widths : ∀ e ∈ List.replicate 26 zt, e.width = 4 := by intro e h; rw [List.eq_of_mem_replicate h]; rfl
theorem zt_fits : appFit 4 (List.replicate 26 zt) := by intro e h; rw [List.eq_of_mem_replicate h]; exact ⟨rfl, rfl⟩
theorem app_zt {st : zy7} {K : AV → zy7 → Prop} (hK : ∀ b, st b = none → K (.mslice b 0 26 4) (st.upd b (.cells ((List.replicate 26 zt).flatMap AV.cells)))) :
    aAppend prog 23 st (.fslice []) (.slice (List.replicate 26 zt)) K :=
  acc_append (P := prog) (st := st) (b := 0) (l := []) (xs := List.replicate 26 zt) (x := .slice (List.replicate 26 zt)) (K := K) eI_23 eB_23 eZ_23 rfl rfl zt_fits (by simp) (by simp) (by simp) (by simp) (fun b hb => hK b (hb (by simp)))
abbrev tf_B8_19 := And.intro tI_2 (And.intro zI_2 (And.intro underlying2 (And.intro tI_3 (And.intro zI_3 (And.intro underlying3 (And.intro tI_4 (And.intro zI_4 (And.intro underlying4 (And.intro tI_5 (And.intro zI_5 (And.intro underlying5 (And.intro tI_6 (And.intro zI_6 (And.intro underlying6 (And.intro tI_7 (And.intro zI_7 (And.intro fI_7_0 (And.intro fI_7_1 (And.intro fI_7_2 (And.intro fI_7_3 (And.intro bI_7 (And.intro tI_8 (And.intro zI_8 (And.intro fI_8_0 (And.intro fI_8_1 (And.intro fI_8_2 (And.intro fI_8_3 (And.intro bI_8 (And.intro tI_9 (And.intro zI_9 (And.intro underlying9 (And.intro tI_10 (And.intro zI_10 (And.intro underlying10 (And.intro tI_11 (And.intro zI_11 (And.intro underlying11 (And.intro tI_12 (And.intro zI_12 (And.intro underlying12 (And.intro tI_13 (And.intro zI_13 (And.intro fI_13_0 (And.intro fI_13_1 (And.intro bI_13 (And.intro tI_14 (And.intro zI_14 (And.intro fI_14_0 (And.intro fI_14_1 (And.intro bI_14 (And.intro tI_15 (And.intro zI_15 (And.intro tI_16 (And.intro zI_16 (And.intro tI_17 (And.intro zI_17 (And.intro tI_18 (And.intro zI_18 (And.intro fI_18_0 (And.intro bI_18 (And.intro tI_19 (And.intro zI_19 (And.intro fI_19_0 (And.intro bI_19 (And.intro tI_21 (And.intro zI_21 (And.intro underlying21 (And.intro tI_22 (And.intro zI_22 (And.intro eI_22 (And.intro eB_22 (And.intro eZ_22 (And.intro underlying22 (And.intro tI_23 (And.intro zI_23 (And.intro eI_23 (And.intro eB_23 (And.intro eZ_23 (And.intro underlying23 (And.intro tI_24 (And.intro zI_24 (And.intro fI_24_0 (And.intro fI_24_1 (And.intro fI_24_2 (And.intro fI_24_3 (And.intro bI_24 (And.intro tI_25 (And.intro zI_25 (And.intro fI_25_0 (And.intro fI_25_1 (And.intro fI_25_2 (And.intro fI_25_3 (And.intro bI_25 (And.intro tI_27 (And.intro zI_27 (And.intro eI_27 (And.intro eB_27 (And.intro eZ_27 (And.intro underlying27 (And.intro tI_34 (And.intro zI_34 (And.intro tI_39 (And.intro zI_39 (And.intro tI_49 (And.intro zI_49 (And.intro fI_49_0 (And.intro fI_49_1 (And.intro bI_49 (And.intro tI_57 (And.intro zI_57 (And.intro fI_57_0 (And.intro fI_57_1 (And.intro bI_57 (And.intro tI_58 (And.intro zI_58 (And.intro fI_58_0 (And.intro fI_58_1 (And.intro bI_58 (And.intro tI_61 (And.intro zI_61 (And.intro eI_61 (And.intro eB_61 (And.intro eZ_61 (And.intro underlying61 (And.intro tI_63 (And.intro zI_63 (And.intro eI_63 (And.intro eB_63 (And.intro eZ_63 (And.intro underlying63 (And.intro tI_97 (And.intro zI_97 (And.intro underlying97 (And.intro tI_102 (And.intro zI_102 (And.intro fI_102_0 (And.intro fI_102_1 (And.intro fI_102_2 (And.intro fI_102_3 (And.intro bI_102 (And.intro tI_103 (And.intro zI_103 (And.intro fI_103_0 (And.intro fI_103_1 (And.intro fI_103_2 (And.intro fI_103_3 (And.intro bI_103 (And.intro tI_105 (And.intro zI_105 (And.intro bI_105 (And.intro tI_108 (And.intro zI_108 (And.intro underlying108 (And.intro tI_114 (And.intro zI_114 (And.intro underlying114 (And.intro tI_115 (And.intro zI_115 (And.intro fI_115_0 (And.intro fI_115_1 (And.intro fI_115_2 (And.intro fI_115_3 (And.intro fI_115_4 (And.intro fI_115_5 (And.intro fI_115_6 (And.intro fI_115_7 (And.intro fI_115_8 (And.intro fI_115_9 (And.intro fI_115_10 (And.intro bI_115 (And.intro tI_116 (And.intro zI_116 (And.intro fI_116_0 (And.intro fI_116_1 (And.intro fI_116_2 (And.intro fI_116_3 (And.intro fI_116_4 (And.intro fI_116_5 (And.intro fI_116_6 (And.intro fI_116_7 (And.intro fI_116_8 (And.intro fI_116_9 (And.intro fI_116_10 bI_116)))))))))))))))))))))))))))))))))))))))))))))))))))))))))))))))))))))))))))))))))))))))))))))))))))))))))))))))))))))))))))))))))))))))))))))))))))))))))))))))))))))))))))))))))))))))
theorem c_l5SolveNe (n : Int) (s : ByteArray) (x y : Tm) (hs : s = ⟨#[92, 61]⟩) (hx : x.valid = true) (hy : y.valid = true) (st : zy7) :
    zq7 prog 19 [(Tm.mk 3 n s [x, y]).av, .slice (List.replicate 26 zt)] st (fun r st' => r = .int .i64 (codeB (!(uniR x y).1)) ∧ st' = st) := by
  have ht : s ≠ ⟨#[116, 114, 117, 101]⟩ := by subst hs; decide
  have hf : s ≠ ⟨#[102, 97, 105, 108]⟩ := by subst hs; decide
  have he : s ≠ ⟨#[61]⟩ := by subst hs; decide
  refine zq7.done ?_
  simp only [Tm.av_mk 3, List.map_cons, List.map_nil]
  refine zw6 [1000000] func19 ntmps19 rfl rfl (by kernel_rfl) (by decide +kernel) (by show 2 ≤ _; decide +kernel) ?_
  intro _
  have hat0 : aIndexAddr prog 23 (.slice [x.av, y.av]) (.int .i64 0) = some (.pptr x.av) := ev_at (av := Tm.av) (l := [x, y]) (i := 0) eI_23 rfl (Tm.av_width x)
  have hat1 : aIndexAddr prog 23 (.slice [x.av, y.av]) (.int .i64 1) = some (.pptr y.av) := ev_at (av := Tm.av) (l := [x, y]) (i := 1) eI_23 rfl (Tm.av_width y)
  simp -implicitDefEqProofs only [hat0, hat1, Tm.av_agg, Tm.av_width, evE, ↓evZ2, ↓evZ3, ↓Int.cast_ofNat_Int, implies_true, zy2, aFn, List.contains, List.elem, zq3, zy1, zq2, sub, zx3, zw2, zw3, zy3, gd, zq1, zw0, zq0, zx0, zx2, zx1, zy0, zw1, List.range', ↓reduceIte, reduceCtorEq, Nat.reduceEqDiff, Nat.reduceAdd, Nat.reduceLeDiff, Nat.reduceMul, Nat.reduceLT, Nat.reduceBEq, Int.reduceEq, tf_B8_19]
  refine zq4 (fun h => absurd (by simpa using h) ht) (fun h => ?_)
  simp -implicitDefEqProofs only [hat0, hat1, Tm.av_agg, Tm.av_width, evE, ↓evZ2, ↓evZ3, ↓Int.cast_ofNat_Int, implies_true, zy2, aFn, List.contains, List.elem, zq3, zy1, zq2, sub, zx3, zw2, zw3, zy3, gd, zq1, zw0, zq0, zx0, zx2, zx1, zy0, zw1, List.range', ↓reduceIte, reduceCtorEq, Nat.reduceEqDiff, Nat.reduceAdd, Nat.reduceLeDiff, Nat.reduceMul, Nat.reduceLT, Nat.reduceBEq, Int.reduceEq, tf_B8_19]
  refine zq4 (fun h => absurd (by simpa using h) hf) (fun h => ?_)
  simp -implicitDefEqProofs only [hat0, hat1, Tm.av_agg, Tm.av_width, evE, ↓evZ2, ↓evZ3, ↓Int.cast_ofNat_Int, implies_true, zy2, aFn, List.contains, List.elem, zq3, zy1, zq2, sub, zx3, zw2, zw3, zy3, gd, zq1, zw0, zq0, zx0, zx2, zx1, zy0, zw1, List.range', ↓reduceIte, reduceCtorEq, Nat.reduceEqDiff, Nat.reduceAdd, Nat.reduceLeDiff, Nat.reduceMul, Nat.reduceLT, Nat.reduceBEq, Int.reduceEq, tf_B8_19]
  refine zq4 (fun h => absurd (by simpa using h) he) (fun h => ?_)
  simp -implicitDefEqProofs only [hat0, hat1, Tm.av_agg, Tm.av_width, evE, ↓evZ2, ↓evZ3, ↓Int.cast_ofNat_Int, implies_true, zy2, aFn, List.contains, List.elem, zq3, zy1, zq2, sub, zx3, zw2, zw3, zy3, gd, zq1, zw0, zq0, zx0, zx2, zx1, zy0, zw1, List.range', ↓reduceIte, reduceCtorEq, Nat.reduceEqDiff, Nat.reduceAdd, Nat.reduceLeDiff, Nat.reduceMul, Nat.reduceLT, Nat.reduceBEq, Int.reduceEq, tf_B8_19]
  refine zq4 (fun h => ?_) (fun h => absurd hs (by simpa using h))
  simp -implicitDefEqProofs only [hat0, hat1, Tm.av_agg, Tm.av_width, evE, ↓evZ2, ↓evZ3, ↓Int.cast_ofNat_Int, implies_true, zy2, aFn, List.contains, List.elem, zq3, zy1, zq2, sub, zx3, zw2, zw3, zy3, gd, zq1, zw0, zq0, zx0, zx2, zx1, zy0, zw1, List.range', ↓reduceIte, reduceCtorEq, Nat.reduceEqDiff, Nat.reduceAdd, Nat.reduceLeDiff, Nat.reduceMul, Nat.reduceLT, Nat.reduceBEq, Int.reduceEq, tf_B8_19]
  refine zq5 [(0, 1), (1, 1), (2, 1), (3, 1), (4, 1), (5, 1), (6, 1), (7, 1), (8, 1), (9, 1), (10, 0), (11, 0), (12, 1), (13, 0), (14, 1)] [0, 1, 2, 3, 4, 5, 6, 7, 8, 9, 12, 14] none0' mixed (by decide +kernel) (by decide +kernel) (by decide +kernel) rfl ext_none ?_
  simp -implicitDefEqProofs only [hat0, hat1, Tm.av_agg, Tm.av_width, evE, ↓evZ2, ↓evZ3, ↓Int.cast_ofNat_Int, implies_true, zy2, aFn, List.contains, List.elem, zq3, zy1, zq2, sub, zx3, zw2, zw3, zy3, gd, zq1, zw0, zq0, zx0, zx2, zx1, zy0, zw1, List.range', ↓reduceIte, reduceCtorEq, Nat.reduceEqDiff, Nat.reduceAdd, Nat.reduceLeDiff, Nat.reduceMul, Nat.reduceLT, Nat.reduceBEq, Int.reduceEq, tf_B8_19]
  refine app_zt fun b hb => ?_
  have hA0 : ArrAt (st.upd b (.cells ((List.replicate 26 zt).flatMap AV.cells))) b Sub.none := by
    unfold ArrAt
    rw [zy7.upd_same, arrS_none]
  have hD0 : Drops (st.upd b (.cells ((List.replicate 26 zt).flatMap AV.cells))) st := (Drops.refl _).upd hb
  generalize st.upd b (.cells ((List.replicate 26 zt).flatMap AV.cells)) = s0 at *
  simp -implicitDefEqProofs only [hat0, hat1, Tm.av_agg, Tm.av_width, evE, ↓evZ2, ↓evZ3, ↓Int.cast_ofNat_Int, implies_true, zy2, aFn, List.contains, List.elem, zq3, zy1, zq2, sub, zx3, zw2, zw3, zy3, gd, zq1, zw0, zq0, zx0, zx2, zx1, zy0, zw1, List.range', ↓reduceIte, reduceCtorEq, Nat.reduceEqDiff, Nat.reduceAdd, Nat.reduceLeDiff, Nat.reduceMul, Nat.reduceLT, Nat.reduceBEq, Int.reduceEq, tf_B8_19]
  refine ⟨ext_none, ?_⟩
  refine (c_l3Unify0 x y hx hy b _ hA0).mono ?_
  rintro _ s2 ⟨rfl, hA, hk⟩
  simp -implicitDefEqProofs only [hat0, hat1, Tm.av_agg, Tm.av_width, evE, ↓evZ2, ↓evZ3, ↓Int.cast_ofNat_Int, implies_true, zy2, aFn, List.contains, List.elem, zq3, zy1, zq2, sub, zx3, zw2, zw3, zy3, gd, zq1, zw0, zq0, zx0, zx2, zx1, zy0, zw1, List.range', ↓reduceIte, reduceCtorEq, Nat.reduceEqDiff, Nat.reduceAdd, Nat.reduceLeDiff, Nat.reduceMul, Nat.reduceLT, Nat.reduceBEq, Int.reduceEq, tf_B8_19]
  refine ⟨ext_none, ?_⟩
  refine (c_l5Code _ _).to ?_
  simp -implicitDefEqProofs only [hat0, hat1, Tm.av_agg, Tm.av_width, evE, ↓evZ2, ↓evZ3, ↓Int.cast_ofNat_Int, implies_true, zy2, aFn, List.contains, List.elem, zq3, zy1, zq2, sub, zx3, zw2, zw3, zy3, gd, zq1, zw0, zq0, zx0, zx2, zx1, zy0, zw1, List.range', ↓reduceIte, reduceCtorEq, Nat.reduceEqDiff, Nat.reduceAdd, Nat.reduceLeDiff, Nat.reduceMul, Nat.reduceLT, Nat.reduceBEq, Int.reduceEq, tf_B8_19]
  refine ⟨ext_none, rfl, fun q => ?_⟩
  have key : ∀ o, st q = some o → s2 q = some o := fun o h => hk q o ((hD0 q).2 o h) (by rintro rfl; rw [hb] at h; cases h)
  refine ⟨fun h => ?_, key⟩
  cases hq : st q with
  | none => rfl
  | some o => rw [key o hq] at h; cases h
end Go.AW


namespace Go.AW
open Go.Proofs.Try
set_option linter.unusedSimpArgs false
set_option maxRecDepth 100000
noncomputable def callB (g : Tm) : List Bd × Int :=
  if g.valid = true ∧ g.k = 3 ∧ isBuiltin g.s (g.ts.length : Int) = true then
    (if (solveB g.s g.ts).1 ≠ 0 then ([], (solveB g.s g.ts).1) else if ((bindsOf (solveB g.s g.ts).2).all fun x => x.2.valid) = true then (bindsOf (solveB g.s g.ts).2, 0) else ([], 5))
  else ([], 6)
def callAv (p : List Bd × Int) : AV := .tup [.slice (p.1.map bdAv), .int .i64 p.2]
theorem SolB.fit {σ : Sub} (h : SolB σ) : ((bindsOf σ).all fun x => x.2.valid) = (bindsOf σ).all fitB := by
  obtain ⟨rk, B, G⟩ := h.good.rs
  have key : ∀ l : List Bd, (∀ x ∈ l, x ∈ bindsOf σ) → (l.all fun x => x.2.valid) = l.all fitB := by
    intro l
    induction l with
    | nil => intro _; rfl
    | cons x l ih =>
      intro hl
      rw [List.all_cons, List.all_cons, ih fun y hy => hl y (by simp [hy])]
      congr 1
      obtain ⟨i, u, _, hs, rfl⟩ := bindsOf_mem (hl x (by simp))
      exact Tm.valid_iff (G.okT h.okA (h.okA _ u hs))
  exact key _ fun _ h => h
abbrev tf_B9_5 := And.intro tI_2 (And.intro zI_2 (And.intro underlying2 (And.intro tI_3 (And.intro zI_3 (And.intro underlying3 (And.intro tI_4 (And.intro zI_4 (And.intro underlying4 (And.intro tI_5 (And.intro zI_5 (And.intro underlying5 (And.intro tI_6 (And.intro zI_6 (And.intro underlying6 (And.intro tI_7 (And.intro zI_7 (And.intro fI_7_0 (And.intro fI_7_1 (And.intro fI_7_2 (And.intro fI_7_3 (And.intro bI_7 (And.intro tI_8 (And.intro zI_8 (And.intro fI_8_0 (And.intro fI_8_1 (And.intro fI_8_2 (And.intro fI_8_3 (And.intro bI_8 (And.intro tI_9 (And.intro zI_9 (And.intro underlying9 (And.intro tI_10 (And.intro zI_10 (And.intro underlying10 (And.intro tI_12 (And.intro zI_12 (And.intro underlying12 (And.intro tI_13 (And.intro zI_13 (And.intro fI_13_0 (And.intro fI_13_1 (And.intro bI_13 (And.intro tI_14 (And.intro zI_14 (And.intro fI_14_0 (And.intro fI_14_1 (And.intro bI_14 (And.intro tI_15 (And.intro zI_15 (And.intro tI_16 (And.intro zI_16 (And.intro tI_17 (And.intro zI_17 (And.intro tI_18 (And.intro zI_18 (And.intro fI_18_0 (And.intro bI_18 (And.intro tI_19 (And.intro zI_19 (And.intro fI_19_0 (And.intro bI_19 (And.intro tI_24 (And.intro zI_24 (And.intro fI_24_0 (And.intro fI_24_1 (And.intro fI_24_2 (And.intro fI_24_3 (And.intro bI_24 (And.intro tI_25 (And.intro zI_25 (And.intro fI_25_0 (And.intro fI_25_1 (And.intro fI_25_2 (And.intro fI_25_3 (And.intro bI_25 (And.intro tI_27 (And.intro zI_27 (And.intro eI_27 (And.intro eB_27 (And.intro eZ_27 (And.intro underlying27 (And.intro tI_39 zI_39))))))))))))))))))))))))))))))))))))))))))))))))))))))))))))))))))))))))))))))))))
theorem c_impl_CallBuiltin (g : Tm) (st : zy7) : zq7 prog 5 [g.av] st (fun r st' => r = callAv (callB g) ∧ st' = st) := by
  have hval := c_impl_TermValid g
  obtain ⟨k, n, s, ks⟩ := g
  have hib := c_isBuilt k n s ks
  have hcall := fun hb hv c m st hS => c_call n s ks hb hv c m st hS
  unfold callB
  simp only [Tm.k, Tm.s, Tm.ts]
  simp only [Tm.av_mk] at hval hib ⊢
  generalize hvv : (Tm.mk k n s ks).valid = v at *
  refine zq7.done ?_
  refine zw6 [1000000] func5 ntmps5 rfl rfl (by kernel_rfl) (by decide +kernel) (by show 1 ≤ _; decide +kernel) ?_
  intro _
  simp -implicitDefEqProofs only [evE, ↓evZ2, ↓evZ3, ↓Int.cast_ofNat_Int, implies_true, zy2, aFn, List.contains, List.elem, zq3, zy1, zq2, sub, zx3, zw2, zw3, zy3, gd, zq1, zw0, zq0, zx0, zx2, zx1, zy0, zw1, List.range', ↓reduceIte, reduceCtorEq, Nat.reduceEqDiff, Nat.reduceAdd, Nat.reduceLeDiff, Nat.reduceMul, Nat.reduceLT, Nat.reduceBEq, Int.reduceEq, tf_B9_5]
  have hbad : ∀ s2, Drops s2 st → ¬ (v = true ∧ k = 3 ∧ isBuiltin s (ks.length : Int) = true) → (AV.tup [.fslice [], .int .i64 6]).soft = callAv (if v = true ∧ k = 3 ∧ isBuiltin s (ks.length : Int) = true then (if (solveB s ks).1 ≠ 0 then ([], (solveB s ks).1) else if ((bindsOf (solveB s ks).2).all fun x => x.2.valid) = true then (bindsOf (solveB s ks).2, 0) else ([], 5)) else ([], 6)) ∧ Drops s2 st := fun s2 d h => by
    rw [if_neg h]
    exact ⟨by simp only [callAv, soft_agg, soft_tup, soft_int, soft_bool, soft_str, soft_slice, soft_fslice, soft_ptr, soft_pptr, soft_map, soft_mslice, Tm.soft, List.map_cons, List.map_nil, List.map_nil], d⟩
  refine (hval _).to ?_
  simp -implicitDefEqProofs only [evE, ↓evZ2, ↓evZ3, ↓Int.cast_ofNat_Int, implies_true, zy2, aFn, List.contains, List.elem, zq3, zy1, zq2, sub, zx3, zw2, zw3, zy3, gd, zq1, zw0, zq0, zx0, zx2, zx1, zy0, zw1, List.range', ↓reduceIte, reduceCtorEq, Nat.reduceEqDiff, Nat.reduceAdd, Nat.reduceLeDiff, Nat.reduceMul, Nat.reduceLT, Nat.reduceBEq, Int.reduceEq, tf_B9_5]
  refine zx4 (fun h => ?_) (fun h => ?_)
  case refine_2 =>
    have h' : v = false := by simpa using h
    simp -implicitDefEqProofs only [h, evE, ↓evZ2, ↓evZ3, ↓Int.cast_ofNat_Int, implies_true, zy2, aFn, List.contains, List.elem, zq3, zy1, zq2, sub, zx3, zw2, zw3, zy3, gd, zq1, zw0, zq0, zx0, zx2, zx1, zy0, zw1, List.range', ↓reduceIte, reduceCtorEq, Nat.reduceEqDiff, Nat.reduceAdd, Nat.reduceLeDiff, Nat.reduceMul, Nat.reduceLT, Nat.reduceBEq, Int.reduceEq, tf_B9_5]
    exact hbad _ (Drops.refl _) (by simp [h'])
  have h' : v = true := by simpa using h
  simp -implicitDefEqProofs only [h, evE, ↓evZ2, ↓evZ3, ↓Int.cast_ofNat_Int, implies_true, zy2, aFn, List.contains, List.elem, zq3, zy1, zq2, sub, zx3, zw2, zw3, zy3, gd, zq1, zw0, zq0, zx0, zx2, zx1, zy0, zw1, List.range', ↓reduceIte, reduceCtorEq, Nat.reduceEqDiff, Nat.reduceAdd, Nat.reduceLeDiff, Nat.reduceMul, Nat.reduceLT, Nat.reduceBEq, Int.reduceEq, tf_B9_5]
  refine (hib _).to ?_
  simp -implicitDefEqProofs only [h, evE, ↓evZ2, ↓evZ3, ↓Int.cast_ofNat_Int, implies_true, zy2, aFn, List.contains, List.elem, zq3, zy1, zq2, sub, zx3, zw2, zw3, zy3, gd, zq1, zw0, zq0, zx0, zx2, zx1, zy0, zw1, List.range', ↓reduceIte, reduceCtorEq, Nat.reduceEqDiff, Nat.reduceAdd, Nat.reduceLeDiff, Nat.reduceMul, Nat.reduceLT, Nat.reduceBEq, Int.reduceEq, tf_B9_5]
  refine zq4 (fun h2 => ?_) (fun h2 => ?_)
  · simp -implicitDefEqProofs only [evE, ↓evZ2, ↓evZ3, ↓Int.cast_ofNat_Int, implies_true, zy2, aFn, List.contains, List.elem, zq3, zy1, zq2, sub, zx3, zw2, zw3, zy3, gd, zq1, zw0, zq0, zx0, zx2, zx1, zy0, zw1, List.range', ↓reduceIte, reduceCtorEq, Nat.reduceEqDiff, Nat.reduceAdd, Nat.reduceLeDiff, Nat.reduceMul, Nat.reduceLT, Nat.reduceBEq, Int.reduceEq, tf_B9_5]
    exact hbad _ (Drops.refl _) (by
      rintro ⟨_, h3, h4⟩
      simp [h3, h4] at h2)
  have h2' : k = 3 ∧ isBuiltin s (ks.length : Int) = true := by simpa using h2
  obtain ⟨hk, hb⟩ := h2'
  subst h'
  have hkv : ∀ x ∈ ks, x.valid = true := fun x hx => Tm.valid_kid hvv (by show k ≠ 1; omega) hx
  rw [if_pos ⟨rfl, hk, hb⟩]
  have hsol := solveB_sol s ks hkv
  subst hk
  have hc := fun c m st hS => hcall hb hkv c m st hS
  simp only [Tm.av_mk] at hc
  clear hcall hbad
  obtain ⟨code, σ, hcs⟩ : ∃ code σ, solveB s ks = (code, σ) := ⟨_, _, rfl⟩
  simp only [hcs] at hsol hc ⊢
  simp -implicitDefEqProofs only [evE, ↓evZ2, ↓evZ3, ↓Int.cast_ofNat_Int, implies_true, zy2, aFn, List.contains, List.elem, zq3, zy1, zq2, sub, zx3, zw2, zw3, zy3, gd, zq1, zw0, zq0, zx0, zx2, zx1, zy0, zw1, List.range', ↓reduceIte, reduceCtorEq, Nat.reduceEqDiff, Nat.reduceAdd, Nat.reduceLeDiff, Nat.reduceMul, Nat.reduceLT, Nat.reduceBEq, Int.reduceEq, tf_B9_5]
  refine (c_newStore _).mono ?_
  rintro _ s1 ⟨c, m, rfl, hS, hQ, hcn, hm⟩
  have hD := hQ.drops hcn hm
  simp -implicitDefEqProofs only [evE, ↓evZ2, ↓evZ3, ↓Int.cast_ofNat_Int, implies_true, zy2, aFn, List.contains, List.elem, zq3, zy1, zq2, sub, zx3, zw2, zw3, zy3, gd, zq1, zw0, zq0, zx0, zx2, zx1, zy0, zw1, List.range', ↓reduceIte, reduceCtorEq, Nat.reduceEqDiff, Nat.reduceAdd, Nat.reduceLeDiff, Nat.reduceMul, Nat.reduceLT, Nat.reduceBEq, Int.reduceEq, tf_B9_5]
  refine (hc c m s1 hS).mono ?_
  rintro _ s2 ⟨rfl, hA, hk2⟩
  have hD2 : Drops s2 st := fun q => by
    have key : ∀ o, st q = some o → s2 q = some o := fun o h => hk2 q o ((hD q).2 o h) (by rintro rfl; rw [hcn] at h; cases h) (by rintro rfl; rw [hm] at h; cases h)
    refine ⟨fun h => ?_, key⟩
    cases hq : st q with
    | none => rfl
    | some o => rw [key o hq] at h; cases h
  simp -implicitDefEqProofs only [evE, ↓evZ2, ↓evZ3, ↓Int.cast_ofNat_Int, implies_true, zy2, aFn, List.contains, List.elem, zq3, zy1, zq2, sub, zx3, zw2, zw3, zy3, gd, zq1, zw0, zq0, zx0, zx2, zx1, zy0, zw1, List.range', ↓reduceIte, reduceCtorEq, Nat.reduceEqDiff, Nat.reduceAdd, Nat.reduceLeDiff, Nat.reduceMul, Nat.reduceLT, Nat.reduceBEq, Int.reduceEq, tf_B9_5]
  refine zq4 (fun h3 => ?_) (fun h3 => ?_)
  · have h3' : code ≠ 0 := by simpa using h3
    simp -implicitDefEqProofs only [evE, ↓evZ2, ↓evZ3, ↓Int.cast_ofNat_Int, implies_true, zy2, aFn, List.contains, List.elem, zq3, zy1, zq2, sub, zx3, zw2, zw3, zy3, gd, zq1, zw0, zq0, zx0, zx2, zx1, zy0, zw1, List.range', ↓reduceIte, reduceCtorEq, Nat.reduceEqDiff, Nat.reduceAdd, Nat.reduceLeDiff, Nat.reduceMul, Nat.reduceLT, Nat.reduceBEq, Int.reduceEq, tf_B9_5]
    rw [if_pos h3']
    exact ⟨by simp only [callAv, soft_agg, soft_tup, soft_int, soft_bool, soft_str, soft_slice, soft_fslice, soft_ptr, soft_pptr, soft_map, soft_mslice, Tm.soft, List.map_cons, List.map_nil, List.map_nil], hD2⟩
  have h3' : code = 0 := by simpa using h3
  rw [if_neg (by simp [h3'])]
  obtain ⟨q', hSA⟩ := hA h3'
  have hcv : AllS Cv σ := fun n u hu => Tm.okA_cv u (hsol.okA n u hu)
  have hsm : AllS Sm σ := fun n u hu => Tm.okA_small u (hsol.okA n u hu)
  rw [hsol.fit]
  simp -implicitDefEqProofs only [evE, ↓evZ2, ↓evZ3, ↓Int.cast_ofNat_Int, implies_true, zy2, aFn, List.contains, List.elem, zq3, zy1, zq2, sub, zx3, zw2, zw3, zy3, gd, zq1, zw0, zq0, zx0, zx2, zx1, zy0, zw1, List.range', ↓reduceIte, reduceCtorEq, Nat.reduceEqDiff, Nat.reduceAdd, Nat.reduceLeDiff, Nat.reduceMul, Nat.reduceLT, Nat.reduceBEq, Int.reduceEq, tf_B9_5]
  refine (c_all hsol.good hcv hsm c m q' _ hSA).to ?_
  unfold allAv
  split
  · simp -implicitDefEqProofs only [evE, ↓evZ2, ↓evZ3, ↓Int.cast_ofNat_Int, implies_true, zy2, aFn, List.contains, List.elem, zq3, zy1, zq2, sub, zx3, zw2, zw3, zy3, gd, zq1, zw0, zq0, zx0, zx2, zx1, zy0, zw1, List.range', ↓reduceIte, reduceCtorEq, Nat.reduceEqDiff, Nat.reduceAdd, Nat.reduceLeDiff, Nat.reduceMul, Nat.reduceLT, Nat.reduceBEq, Int.reduceEq, tf_B9_5]
    exact ⟨by simp only [callAv, soft_agg, soft_tup, soft_int, soft_bool, soft_str, soft_slice, soft_fslice, soft_ptr, soft_pptr, soft_map, soft_mslice, Tm.soft, List.map_cons, List.map_nil], hD2⟩
  · simp -implicitDefEqProofs only [evE, ↓evZ2, ↓evZ3, ↓Int.cast_ofNat_Int, implies_true, zy2, aFn, List.contains, List.elem, zq3, zy1, zq2, sub, zx3, zw2, zw3, zy3, gd, zq1, zw0, zq0, zx0, zx2, zx1, zy0, zw1, List.range', ↓reduceIte, reduceCtorEq, Nat.reduceEqDiff, Nat.reduceAdd, Nat.reduceLeDiff, Nat.reduceMul, Nat.reduceLT, Nat.reduceBEq, Int.reduceEq, tf_B9_5]
    exact ⟨by simp only [callAv, soft_agg, soft_tup, soft_int, soft_bool, soft_str, soft_slice, soft_fslice, soft_ptr, soft_pptr, soft_map, soft_mslice, Tm.soft, List.map_cons, List.map_nil, List.map_nil], hD2⟩
end Go.AW


namespace Go.AW
open Go.Proofs.Try
set_option linter.unusedSimpArgs false
set_option maxRecDepth 100000
theorem c_l5Solve2 (n : Int) (s : ByteArray) (ks : List Tm) (hb : isBuiltin s (ks.length : Int) = true) (hv : ∀ x ∈ ks, x.valid = true) (bb : Nat) (st : zy7) (hS : ArrAt st bb Sub.none) :
    zq7 prog 19 [(Tm.mk 3 n s ks).av, .mslice bb 0 26 4] st (SolvePost bb st (solveB s ks).1 (solveB s ks).2) := by
  by_cases hs : s = ⟨#[92, 61]⟩
  · obtain ⟨x, y, rfl⟩ := kids2 (ts := ks) (by subst hs; simp [isBuiltin] at hb; omega)
    have e : solveB s [x, y] = (codeB (!(uniR x y).1), Sub.none) := by subst hs; rfl
    rw [e]
    have hc := c_l5SolveNe n s x y hs (hv x (by simp)) (hv y (by simp)) none0'
    refine (zq7.frame0 (args' := [(Tm.mk 3 n s [x, y]).av, .mslice bb 0 26 4]) (st := st) rfl hc fun h vs S V => ?_).mono ?_
    · simp only [VRelL] at V ⊢
      obtain ⟨v, vs', rfl, V1, w, ws', rfl, V2, rfl⟩ := V
      have h1 : st bb = some (.cells ((List.replicate 26 zt).flatMap AV.cells)) := by rw [arrS_none]; exact hS
      refine ⟨v, [w], rfl, V1.mono ((Drops.none0' st).step h), w, [], rfl, ?_, rfl⟩
      have h2 := V2.fz S h1 (fun e he => by rw [List.eq_of_mem_replicate he]; rfl) ⟨4, zt_widths⟩
      have h3 : (AV.mslice bb 0 26 4).fz bb (List.replicate 26 zt) = .slice (List.replicate 26 zt) := by simp [AV.fz]
      rw [h3] at h2
      exact h2.mono ((Drops.none0' (st.erase bb)).step h)
    · rintro _ _ ⟨rfl, rfl⟩
      exact SolvePost.same hS rfl
  · exact c_l5Solve n s ks hb hs hv bb st hS
end Go.AW


namespace Go.AW
open Go.Proofs.Try
set_option linter.unusedSimpArgs false
set_option maxRecDepth 100000
abbrev tf_B11_6 := And.intro tI_2 (And.intro zI_2 (And.intro underlying2 (And.intro tI_3 (And.intro zI_3 (And.intro underlying3 (And.intro tI_4 (And.intro zI_4 (And.intro underlying4 (And.intro tI_5 (And.intro zI_5 (And.intro underlying5 (And.intro tI_6 (And.intro zI_6 (And.intro underlying6 (And.intro tI_7 (And.intro zI_7 (And.intro fI_7_0 (And.intro fI_7_1 (And.intro fI_7_2 (And.intro fI_7_3 (And.intro bI_7 (And.intro tI_8 (And.intro zI_8 (And.intro fI_8_0 (And.intro fI_8_1 (And.intro fI_8_2 (And.intro fI_8_3 (And.intro bI_8 (And.intro tI_9 (And.intro zI_9 (And.intro underlying9 (And.intro tI_10 (And.intro zI_10 (And.intro underlying10 (And.intro tI_11 (And.intro zI_11 (And.intro underlying11 (And.intro tI_12 (And.intro zI_12 (And.intro underlying12 (And.intro tI_13 (And.intro zI_13 (And.intro fI_13_0 (And.intro fI_13_1 (And.intro bI_13 (And.intro tI_14 (And.intro zI_14 (And.intro fI_14_0 (And.intro fI_14_1 (And.intro bI_14 (And.intro tI_15 (And.intro zI_15 (And.intro tI_16 (And.intro zI_16 (And.intro tI_17 (And.intro zI_17 (And.intro tI_18 (And.intro zI_18 (And.intro fI_18_0 (And.intro bI_18 (And.intro tI_19 (And.intro zI_19 (And.intro fI_19_0 (And.intro bI_19 (And.intro tI_22 (And.intro zI_22 (And.intro eI_22 (And.intro eB_22 (And.intro eZ_22 (And.intro underlying22 (And.intro tI_23 (And.intro zI_23 (And.intro eI_23 (And.intro eB_23 (And.intro eZ_23 (And.intro underlying23 (And.intro tI_24 (And.intro zI_24 (And.intro fI_24_0 (And.intro fI_24_1 (And.intro fI_24_2 (And.intro fI_24_3 (And.intro bI_24 (And.intro tI_25 (And.intro zI_25 (And.intro fI_25_0 (And.intro fI_25_1 (And.intro fI_25_2 (And.intro fI_25_3 (And.intro bI_25 (And.intro tI_27 (And.intro zI_27 (And.intro eI_27 (And.intro eB_27 (And.intro eZ_27 (And.intro underlying27 (And.intro tI_39 (And.intro zI_39 (And.intro tI_49 (And.intro zI_49 (And.intro fI_49_0 (And.intro fI_49_1 (And.intro bI_49 (And.intro tI_57 (And.intro zI_57 (And.intro fI_57_0 (And.intro fI_57_1 (And.intro bI_57 (And.intro tI_63 (And.intro zI_63 (And.intro eI_63 (And.intro eB_63 (And.intro eZ_63 (And.intro underlying63 (And.intro tI_68 (And.intro zI_68 underlying68))))))))))))))))))))))))))))))))))))))))))))))))))))))))))))))))))))))))))))))))))))))))))))))))))))))))))))))))))))
theorem c_spec_CallBuiltin (g : Tm) (st : zy7) : zq7 prog 6 [g.av] st (fun r st' => r = callAv (callB g) ∧ st' = st) := by
  have hval := c_spec_TermValid g
  have hno120 := fun (h : g.valid = true) => Tm.valid_nodes h
  obtain ⟨k, n, s, ks⟩ := g
  have hcall := fun hb hv bb st hS => c_l5Solve2 n s ks hb hv bb st hS
  unfold callB
  simp only [Tm.k, Tm.s, Tm.ts]
  simp only [Tm.av_mk] at hval ⊢
  generalize hvv : (Tm.mk k n s ks).valid = v at *
  refine zq7.done ?_
  refine zw6 [1000000] func6 ntmps6 rfl rfl (by kernel_rfl) (by decide +kernel) (by show 1 ≤ _; decide +kernel) ?_
  intro _
  simp -implicitDefEqProofs only [List.length_map, evE, ↓evZ2, ↓evZ3, ↓Int.cast_ofNat_Int, implies_true, zy2, aFn, List.contains, List.elem, zq3, zy1, zq2, sub, zx3, zw2, zw3, zy3, gd, zq1, zw0, zq0, zx0, zx2, zx1, zy0, zw1, List.range', ↓reduceIte, reduceCtorEq, Nat.reduceEqDiff, Nat.reduceAdd, Nat.reduceLeDiff, Nat.reduceMul, Nat.reduceLT, Nat.reduceBEq, Int.reduceEq, tf_B11_6]
  have hbad : ∀ s2, Drops s2 st → ¬ (v = true ∧ k = 3 ∧ isBuiltin s (ks.length : Int) = true) → (AV.tup [.fslice [], .int .i64 6]).soft = callAv (if v = true ∧ k = 3 ∧ isBuiltin s (ks.length : Int) = true then (if (solveB s ks).1 ≠ 0 then ([], (solveB s ks).1) else if ((bindsOf (solveB s ks).2).all fun x => x.2.valid) = true then (bindsOf (solveB s ks).2, 0) else ([], 5)) else ([], 6)) ∧ Drops s2 st := fun s2 d h => by
    rw [if_neg h]
    exact ⟨by simp only [callAv, soft_agg, soft_tup, soft_int, soft_bool, soft_str, soft_slice, soft_fslice, soft_ptr, soft_pptr, soft_map, soft_mslice, Tm.soft, List.map_cons, List.map_nil, List.map_nil], d⟩
  refine (hval _).to ?_
  simp -implicitDefEqProofs only [List.length_map, evE, ↓evZ2, ↓evZ3, ↓Int.cast_ofNat_Int, implies_true, zy2, aFn, List.contains, List.elem, zq3, zy1, zq2, sub, zx3, zw2, zw3, zy3, gd, zq1, zw0, zq0, zx0, zx2, zx1, zy0, zw1, List.range', ↓reduceIte, reduceCtorEq, Nat.reduceEqDiff, Nat.reduceAdd, Nat.reduceLeDiff, Nat.reduceMul, Nat.reduceLT, Nat.reduceBEq, Int.reduceEq, tf_B11_6]
  refine zx4 (fun h => ?_) (fun h => ?_)
  case refine_2 =>
    have h' : v = false := by simpa using h
    simp -implicitDefEqProofs only [h, List.length_map, evE, ↓evZ2, ↓evZ3, ↓Int.cast_ofNat_Int, implies_true, zy2, aFn, List.contains, List.elem, zq3, zy1, zq2, sub, zx3, zw2, zw3, zy3, gd, zq1, zw0, zq0, zx0, zx2, zx1, zy0, zw1, List.range', ↓reduceIte, reduceCtorEq, Nat.reduceEqDiff, Nat.reduceAdd, Nat.reduceLeDiff, Nat.reduceMul, Nat.reduceLT, Nat.reduceBEq, Int.reduceEq, tf_B11_6]
    exact hbad _ (Drops.refl _) (by simp [h'])
  have h' : v = true := by simpa using h
  simp -implicitDefEqProofs only [h, List.length_map, evE, ↓evZ2, ↓evZ3, ↓Int.cast_ofNat_Int, implies_true, zy2, aFn, List.contains, List.elem, zq3, zy1, zq2, sub, zx3, zw2, zw3, zy3, gd, zq1, zw0, zq0, zx0, zx2, zx1, zy0, zw1, List.range', ↓reduceIte, reduceCtorEq, Nat.reduceEqDiff, Nat.reduceAdd, Nat.reduceLeDiff, Nat.reduceMul, Nat.reduceLT, Nat.reduceBEq, Int.reduceEq, tf_B11_6]
  refine zx4 (fun h1 => ?_) (fun h1 => ?_)
  case refine_2 =>
    have h1' : k ≠ 3 := by simpa using h1
    simp -implicitDefEqProofs only [h1, List.length_map, evE, ↓evZ2, ↓evZ3, ↓Int.cast_ofNat_Int, implies_true, zy2, aFn, List.contains, List.elem, zq3, zy1, zq2, sub, zx3, zw2, zw3, zy3, gd, zq1, zw0, zq0, zx0, zx2, zx1, zy0, zw1, List.range', ↓reduceIte, reduceCtorEq, Nat.reduceEqDiff, Nat.reduceAdd, Nat.reduceLeDiff, Nat.reduceMul, Nat.reduceLT, Nat.reduceBEq, Int.reduceEq, tf_B11_6]
    exact hbad _ (Drops.refl _) (by simp [h1'])
  have hk : k = 3 := by simpa using h1
  simp -implicitDefEqProofs only [h1, List.length_map, evE, ↓evZ2, ↓evZ3, ↓Int.cast_ofNat_Int, implies_true, zy2, aFn, List.contains, List.elem, zq3, zy1, zq2, sub, zx3, zw2, zw3, zy3, gd, zq1, zw0, zq0, zx0, zx2, zx1, zy0, zw1, List.range', ↓reduceIte, reduceCtorEq, Nat.reduceEqDiff, Nat.reduceAdd, Nat.reduceLeDiff, Nat.reduceMul, Nat.reduceLT, Nat.reduceBEq, Int.reduceEq, tf_B11_6]
  refine (c_spec_IsBuiltin s (ks.length : Int) _).to ?_
  simp -implicitDefEqProofs only [h1, List.length_map, evE, ↓evZ2, ↓evZ3, ↓Int.cast_ofNat_Int, implies_true, zy2, aFn, List.contains, List.elem, zq3, zy1, zq2, sub, zx3, zw2, zw3, zy3, gd, zq1, zw0, zq0, zx0, zx2, zx1, zy0, zw1, List.range', ↓reduceIte, reduceCtorEq, Nat.reduceEqDiff, Nat.reduceAdd, Nat.reduceLeDiff, Nat.reduceMul, Nat.reduceLT, Nat.reduceBEq, Int.reduceEq, tf_B11_6]
  refine zq4 (fun h2 => ?_) (fun h2 => ?_)
  · simp -implicitDefEqProofs only [List.length_map, evE, ↓evZ2, ↓evZ3, ↓Int.cast_ofNat_Int, implies_true, zy2, aFn, List.contains, List.elem, zq3, zy1, zq2, sub, zx3, zw2, zw3, zy3, gd, zq1, zw0, zq0, zx0, zx2, zx1, zy0, zw1, List.range', ↓reduceIte, reduceCtorEq, Nat.reduceEqDiff, Nat.reduceAdd, Nat.reduceLeDiff, Nat.reduceMul, Nat.reduceLT, Nat.reduceBEq, Int.reduceEq, tf_B11_6]
    exact hbad _ (Drops.refl _) (by
      rintro ⟨_, h3, h4⟩
      simp [h4] at h2)
  have hb : isBuiltin s (ks.length : Int) = true := by simpa using h2
  subst h'
  have hkv : ∀ x ∈ ks, x.valid = true := fun x hx => Tm.valid_kid hvv (by show k ≠ 1; omega) hx
  rw [if_pos ⟨rfl, hk, hb⟩]
  have hsol := solveB_sol s ks hkv
  subst hk
  have hc := fun bb st hS => hcall hb hkv bb st hS
  simp only [Tm.av_mk] at hc
  clear hcall hbad
  obtain ⟨code, σ, hcs⟩ : ∃ code σ, solveB s ks = (code, σ) := ⟨_, _, rfl⟩
  simp only [hcs] at hsol hc ⊢
  simp -implicitDefEqProofs only [aMakeSlice, List.length_map, evE, ↓evZ2, ↓evZ3, ↓Int.cast_ofNat_Int, implies_true, zy2, aFn, List.contains, List.elem, zq3, zy1, zq2, sub, zx3, zw2, zw3, zy3, gd, zq1, zw0, zq0, zx0, zx2, zx1, zy0, zw1, List.range', ↓reduceIte, reduceCtorEq, Nat.reduceEqDiff, Nat.reduceAdd, Nat.reduceLeDiff, Nat.reduceMul, Nat.reduceLT, Nat.reduceBEq, Int.reduceEq, tf_B11_6]
  refine ⟨by omega, by omega, by omega, fun bb hbb => ?_⟩
  rw [show Int.toNat 26 = 26 from rfl, madeAV_eq _ (by simp)]
  have hA0 : ArrAt (st.upd bb (.cells (List.replicate 26 [AV.int .i64 0, .int .i64 0, .str ⟨#[]⟩, .fslice []]).flatten)) bb Sub.none := by
    unfold ArrAt
    rw [zy7.upd_same, ← arrS_none]
    rfl
  have hD0 : Drops (st.upd bb (.cells (List.replicate 26 [AV.int .i64 0, .int .i64 0, .str ⟨#[]⟩, .fslice []]).flatten)) st := (Drops.refl _).upd hbb
  generalize st.upd bb (.cells (List.replicate 26 [AV.int .i64 0, .int .i64 0, .str ⟨#[]⟩, .fslice []]).flatten) = s0 at *
  refine (hc bb s0 hA0).mono ?_
  rintro _ s2 ⟨rfl, hA', hk2⟩
  have hD : Drops s2 st := fun x => by
    have key : ∀ o, st x = some o → s2 x = some o := fun o h => hk2 x o ((hD0 x).2 o h) (by rintro rfl; rw [hbb] at h; cases h)
    refine ⟨fun h => ?_, key⟩
    cases hb : st x with
    | none => rfl
    | some o => rw [key o hb] at h; cases h
  simp -implicitDefEqProofs only [List.length_map, evE, ↓evZ2, ↓evZ3, ↓Int.cast_ofNat_Int, implies_true, zy2, aFn, List.contains, List.elem, zq3, zy1, zq2, sub, zx3, zw2, zw3, zy3, gd, zq1, zw0, zq0, zx0, zx2, zx1, zy0, zw1, List.range', ↓reduceIte, reduceCtorEq, Nat.reduceEqDiff, Nat.reduceAdd, Nat.reduceLeDiff, Nat.reduceMul, Nat.reduceLT, Nat.reduceBEq, Int.reduceEq, tf_B11_6]
  refine zq4 (fun h3 => ?_) (fun h3 => ?_)
  · have h3' : code ≠ 0 := by simpa using h3
    simp -implicitDefEqProofs only [List.length_map, evE, ↓evZ2, ↓evZ3, ↓Int.cast_ofNat_Int, implies_true, zy2, aFn, List.contains, List.elem, zq3, zy1, zq2, sub, zx3, zw2, zw3, zy3, gd, zq1, zw0, zq0, zx0, zx2, zx1, zy0, zw1, List.range', ↓reduceIte, reduceCtorEq, Nat.reduceEqDiff, Nat.reduceAdd, Nat.reduceLeDiff, Nat.reduceMul, Nat.reduceLT, Nat.reduceBEq, Int.reduceEq, tf_B11_6]
    rw [if_pos h3']
    exact ⟨by simp only [callAv, soft_agg, soft_tup, soft_int, soft_bool, soft_str, soft_slice, soft_fslice, soft_ptr, soft_pptr, soft_map, soft_mslice, Tm.soft, List.map_cons, List.map_nil, List.map_nil], hD⟩
  have h3' : code = 0 := by simpa using h3
  subst h3'
  rw [if_neg (by simp), hsol.fit]
  have hA := hA' rfl
  clear hA'
  have hok := hsol.okN
  obtain ⟨rk, B, G⟩ := hsol.good.rs
  simp -implicitDefEqProofs only [List.length_map, evE, ↓evZ2, ↓evZ3, ↓Int.cast_ofNat_Int, implies_true, zy2, aFn, List.contains, List.elem, zq3, zy1, zq2, sub, zx3, zw2, zw3, zy3, gd, zq1, zw0, zq0, zx0, zx2, zx1, zy0, zw1, List.range', ↓reduceIte, reduceCtorEq, Nat.reduceEqDiff, Nat.reduceAdd, Nat.reduceLeDiff, Nat.reduceMul, Nat.reduceLT, Nat.reduceBEq, Int.reduceEq, tf_B11_6]
  refine zx6 (σ := Unit) [1000000] [4, 5, 6] (List.range 26) 5 7 (fun i _ => (bindsTo σ i).map bdAv) (fun i _ => (bindsTo σ i).all fitB = true) (fun i _ => [(2, .fslice []), (3, .int .i64 0), (8, .int .i64 i)]) (fun _ _ => s2) (fun i _ _ e he => by simp only [List.mem_map] at he; obtain ⟨t, _, rfl⟩ := he; exact ⟨bdAv_junk t, bdAv_width t⟩) (by decide +kernel) ⟨(), 0, rfl, fun h => absurd rfl h, zx7.mk (by simp -implicitDefEqProofs only [show bindsTo σ 0 = [] from rfl, List.map_nil, accV_nil, accS_nil, List.length_map, evE, ↓evZ2, ↓evZ3, ↓Int.cast_ofNat_Int, implies_true, zy2, aFn, List.contains, List.elem, zq3, zy1, zq2, sub, zx3, zw2, zw3, zy3, gd, zq1, zw0, zq0, zx0, zx2, zx1, zy0, zw1, List.range', ↓reduceIte, reduceCtorEq, Nat.reduceEqDiff, Nat.reduceAdd, Nat.reduceLeDiff, Nat.reduceMul, Nat.reduceLT, Nat.reduceBEq, Int.reduceEq, tf_B11_6])⟩ (fun i x s b hx hlt hlt' hdr hinv hb => ?_) (fun s b hge hinv hb => ?_)
  · rw [List.length_range] at hlt
    have hx' : x = i := by rw [List.getElem?_range hlt] at hx; exact (Option.some.inj hx).symm
    subst hx'
    have hlen' := bindsTo_len σ x
    have hw := wrap64 (n := (x : Int) + 1) (by omega) (by omega)
    have hlt2 : decide ((x : Int) < 26) = true := by simp; omega
    have hSA := hA.acc hb
    have hat := held_at (P := prog) (b := bb) (len := 26) eI_23 hlt
    cases hs : σ (x : Int) with
    | none =>
      obtain ⟨D, e1, e2, _⟩ := hSA.none hlt hs
      rw [← bindsTo_none hs] at hinv hb e1 ⊢
      simp -implicitDefEqProofs only [hlt2, hat, e1, e2, decide_true, List.length_map, evE, ↓evZ2, ↓evZ3, ↓Int.cast_ofNat_Int, implies_true, zy2, aFn, List.contains, List.elem, zq3, zy1, zq2, sub, zx3, zw2, zw3, zy3, gd, zq1, zw0, zq0, zx0, zx2, zx1, zy0, zw1, List.range', ↓reduceIte, reduceCtorEq, Nat.reduceEqDiff, Nat.reduceAdd, Nat.reduceLeDiff, Nat.reduceMul, Nat.reduceLT, Nat.reduceBEq, Int.reduceEq, tf_B11_6]
      exact ⟨(), b, hinv, hb, zx7.mk (by simp -implicitDefEqProofs only [hw, List.length_map, evE, ↓evZ2, ↓evZ3, ↓Int.cast_ofNat_Int, implies_true, zy2, aFn, List.contains, List.elem, zq3, zy1, zq2, sub, zx3, zw2, zw3, zy3, gd, zq1, zw0, zq0, zx0, zx2, zx1, zy0, zw1, List.range', ↓reduceIte, reduceCtorEq, Nat.reduceEqDiff, Nat.reduceAdd, Nat.reduceLeDiff, Nat.reduceMul, Nat.reduceLT, Nat.reduceBEq, Int.reduceEq, tf_B11_6])⟩
    | some u =>
      have ho := hok _ _ hs
      have hc := c_l3Full G hok bb 120 u (accS s2 b ((bindsTo σ x).map bdAv)) (Nat.le_refl _) ho hSA
      have hoR := G.okT hsol.okA ho.1
      have hbi := @bindsTo_bad σ x u hlt hs
      obtain ⟨k', n', s', ts'⟩ := u
      have hk' : ¬ k' = 0 := by have := (ownOk_kind (Tm.okA_own ho.1).1).1; omega
      obtain ⟨D, e1, e2, e3, e4⟩ := hSA.some hlt hs
      rw [Tm.av_mk] at hc
      simp -implicitDefEqProofs only [hlt2, hat, e1, e2, e3, e4, hk', decide_false, List.length_map, evE, ↓evZ2, ↓evZ3, ↓Int.cast_ofNat_Int, implies_true, zy2, aFn, List.contains, List.elem, zq3, zy1, zq2, sub, zx3, zw2, zw3, zy3, gd, zq1, zw0, zq0, zx0, zx2, zx1, zy0, zw1, List.range', ↓reduceIte, reduceCtorEq, Nat.reduceEqDiff, Nat.reduceAdd, Nat.reduceLeDiff, Nat.reduceMul, Nat.reduceLT, Nat.reduceBEq, Int.reduceEq, tf_B11_6]
      refine hc.mono ?_
      rintro _ _ ⟨rfl, y, left, rfl, hl1, hl2⟩
      simp -implicitDefEqProofs only [Tm.av_agg, Tm.av_width, Tm.av_junk, Tm.av_store, List.length_map, evE, ↓evZ2, ↓evZ3, ↓Int.cast_ofNat_Int, implies_true, zy2, aFn, List.contains, List.elem, zq3, zy1, zq2, sub, zx3, zw2, zw3, zy3, gd, zq1, zw0, zq0, zx0, zx2, zx1, zy0, zw1, List.range', ↓reduceIte, reduceCtorEq, Nat.reduceEqDiff, Nat.reduceAdd, Nat.reduceLeDiff, Nat.reduceMul, Nat.reduceLT, Nat.reduceBEq, Int.reduceEq, tf_B11_6]
      refine zx4 (fun h9 => ?_) (fun h9 => ?_)
      case refine_2 =>
        have h9' : left < 0 := by simpa using h9
        simp -implicitDefEqProofs only [h9, List.length_map, evE, ↓evZ2, ↓evZ3, ↓Int.cast_ofNat_Int, implies_true, zy2, aFn, List.contains, List.elem, zq3, zy1, zq2, sub, zx3, zw2, zw3, zy3, gd, zq1, zw0, zq0, zx0, zx2, zx1, zy0, zw1, List.range', ↓reduceIte, reduceCtorEq, Nat.reduceEqDiff, Nat.reduceAdd, Nat.reduceLeDiff, Nat.reduceMul, Nat.reduceLT, Nat.reduceBEq, Int.reduceEq, tf_B11_6]
        have : ¬ (bindsOf σ).all fitB = true := hbi fun hf => by
          rw [if_pos hf.2] at hl2
          have := hf.2
          omega
        rw [if_neg this]
        exact ⟨by simp only [callAv, soft_agg, soft_tup, soft_int, soft_bool, soft_str, soft_slice, soft_fslice, soft_ptr, soft_pptr, soft_map, soft_mslice, Tm.soft, List.map_cons, List.map_nil, List.map_nil], Drops.accS hD fun h => (hD b).1 (hb h)⟩
      have h9' : ¬ left < 0 := by simpa using h9
      have hle : ((Tm.mk k' n' s' ts').mapv (rs σ)).nodes ≤ 120 := by
        refine Classical.byContradiction fun hn => ?_
        rw [if_neg hn] at hl2
        exact h9' hl2
      rw [if_pos hle] at hl2
      obtain ⟨rfl, hl3⟩ := hl2
      simp -implicitDefEqProofs only [h9, List.length_map, evE, ↓evZ2, ↓evZ3, ↓Int.cast_ofNat_Int, implies_true, zy2, aFn, List.contains, List.elem, zq3, zy1, zq2, sub, zx3, zw2, zw3, zy3, gd, zq1, zw0, zq0, zx0, zx2, zx1, zy0, zw1, List.range', ↓reduceIte, reduceCtorEq, Nat.reduceEqDiff, Nat.reduceAdd, Nat.reduceLeDiff, Nat.reduceMul, Nat.reduceLT, Nat.reduceBEq, Int.reduceEq, tf_B11_6]
      refine (c_spec_TermValid _ _).to ?_
      simp -implicitDefEqProofs only [h9, List.length_map, evE, ↓evZ2, ↓evZ3, ↓Int.cast_ofNat_Int, implies_true, zy2, aFn, List.contains, List.elem, zq3, zy1, zq2, sub, zx3, zw2, zw3, zy3, gd, zq1, zw0, zq0, zx0, zx2, zx1, zy0, zw1, List.range', ↓reduceIte, reduceCtorEq, Nat.reduceEqDiff, Nat.reduceAdd, Nat.reduceLeDiff, Nat.reduceMul, Nat.reduceLT, Nat.reduceBEq, Int.reduceEq, tf_B11_6]
      refine zq4 (fun h8 => ?_) (fun h8 => ?_)
      · simp -implicitDefEqProofs only [List.length_map, evE, ↓evZ2, ↓evZ3, ↓Int.cast_ofNat_Int, implies_true, zy2, aFn, List.contains, List.elem, zq3, zy1, zq2, sub, zx3, zw2, zw3, zy3, gd, zq1, zw0, zq0, zx0, zx2, zx1, zy0, zw1, List.range', ↓reduceIte, reduceCtorEq, Nat.reduceEqDiff, Nat.reduceAdd, Nat.reduceLeDiff, Nat.reduceMul, Nat.reduceLT, Nat.reduceBEq, Int.reduceEq, tf_B11_6]
        have : ¬ (bindsOf σ).all fitB = true := hbi fun hf => by
          have h7 := Tm.valid_iff hoR
          simp only [hf.1, hf.2, decide_true, Bool.and_self] at h7
          simp [h7] at h8
        rw [if_neg this]
        exact ⟨by simp only [callAv, soft_agg, soft_tup, soft_int, soft_bool, soft_str, soft_slice, soft_fslice, soft_ptr, soft_pptr, soft_map, soft_mslice, Tm.soft, List.map_cons, List.map_nil, List.map_nil], Drops.accS hD fun h => (hD b).1 (hb h)⟩
      · simp -implicitDefEqProofs only [List.length_map, evE, ↓evZ2, ↓evZ3, ↓Int.cast_ofNat_Int, implies_true, zy2, aFn, List.contains, List.elem, zq3, zy1, zq2, sub, zx3, zw2, zw3, zy3, gd, zq1, zw0, zq0, zx0, zx2, zx1, zy0, zw1, List.range', ↓reduceIte, reduceCtorEq, Nat.reduceEqDiff, Nat.reduceAdd, Nat.reduceLeDiff, Nat.reduceMul, Nat.reduceLT, Nat.reduceBEq, Int.reduceEq, tf_B11_6]
        have hv : ((Tm.mk k' n' s' ts').mapv (rs σ)).valid = true := by simpa using h8
        rw [Tm.valid_iff hoR] at hv
        rw [bdAv_mk]
        have hlen2 : ((bindsTo σ x).map bdAv).length ≤ x := by rw [List.length_map]; exact hlen'
        refine acc_append eI_27 eB_27 eZ_27 rfl rfl (by intro e he; simp only [List.mem_cons, List.not_mem_nil, or_false] at he; subst he; exact ⟨bdAv_width _, bdAv_store _⟩) (bd_widths _) hb (by simp only [List.length_cons, List.length_nil]; omega) (by simp only [List.length_cons, List.length_nil]; omega) (fun b' hb' => ?_)
        rw [show (bindsTo σ x).map bdAv ++ [bdAv ((x : Int), (Tm.mk k' n' s' ts').mapv (rs σ))] = (bindsTo σ (x + 1)).map bdAv by rw [bindsTo_some hs]; simp] at hb' ⊢
        simp -implicitDefEqProofs only [List.length_map, evE, ↓evZ2, ↓evZ3, ↓Int.cast_ofNat_Int, implies_true, zy2, aFn, List.contains, List.elem, zq3, zy1, zq2, sub, zx3, zw2, zw3, zy3, gd, zq1, zw0, zq0, zx0, zx2, zx1, zy0, zw1, List.range', ↓reduceIte, reduceCtorEq, Nat.reduceEqDiff, Nat.reduceAdd, Nat.reduceLeDiff, Nat.reduceMul, Nat.reduceLT, Nat.reduceBEq, Int.reduceEq, tf_B11_6]
        refine ⟨(), b', ?_, hb', zx7.mk (by simp -implicitDefEqProofs only [hw, List.length_map, evE, ↓evZ2, ↓evZ3, ↓Int.cast_ofNat_Int, implies_true, zy2, aFn, List.contains, List.elem, zq3, zy1, zq2, sub, zx3, zw2, zw3, zy3, gd, zq1, zw0, zq0, zx0, zx2, zx1, zy0, zw1, List.range', ↓reduceIte, reduceCtorEq, Nat.reduceEqDiff, Nat.reduceAdd, Nat.reduceLeDiff, Nat.reduceMul, Nat.reduceLT, Nat.reduceBEq, Int.reduceEq, tf_B11_6])⟩
        rw [bindsTo_some hs, List.all_append, hinv]
        simpa [fitB] using hv
  · have hge' : decide ((25 : Int) + 1 < 26) = false := rfl
    rw [List.length_range] at hinv hb
    have hms := @fin_ms b bb 26 4 ((bindsTo σ 26).map bdAv) (fun h => by have := hb h; rintro rfl; rw [ArrAt, this] at hA; cases hA)
    simp -implicitDefEqProofs only [List.length_range, hge', fin_accV, finL, fin_slice, fin_fslice, fin_bool, fin_int, fin_ptr, hms, List.length_map, evE, ↓evZ2, ↓evZ3, ↓Int.cast_ofNat_Int, implies_true, zy2, aFn, List.contains, List.elem, zq3, zy1, zq2, sub, zx3, zw2, zw3, zy3, gd, zq1, zw0, zq0, zx0, zx2, zx1, zy0, zw1, List.range', ↓reduceIte, reduceCtorEq, Nat.reduceEqDiff, Nat.reduceAdd, Nat.reduceLeDiff, Nat.reduceMul, Nat.reduceLT, Nat.reduceBEq, Int.reduceEq, tf_B11_6]
    rw [bindsTo_26] at hinv ⊢
    rw [if_pos hinv]
    exact ⟨by simp only [callAv, soft_agg, soft_tup, soft_int, soft_bool, soft_str, soft_slice, soft_fslice, soft_ptr, soft_pptr, soft_map, soft_mslice, Tm.soft, List.map_cons, List.map_nil], hD⟩
end Go.AW

/- Goals that are built in: they hold with their bindings; plain facts. -/
namespace Go.AW
set_option linter.unusedSimpArgs false
set_option linter.unusedVariables false
theorem bindsOf_no {σ : Sub} (h : ∀ n, σ n = none) : bindsOf σ = [] := by
  unfold bindsOf
  rw [List.filterMap_eq_nil_iff]
  intro i _
  rw [h]; rfl
theorem bindsOf_none : bindsOf Sub.none = [] := bindsOf_no fun _ => rfl
theorem Unif.self {a : Tm} {r : Bool} {σ : Sub} {tr : List Int} (h : Unif a a r σ tr) : r = true ∧ bindsOf σ = [] := by
  obtain ⟨hr, S⟩ := h.free (θ := vr) rfl
  refine ⟨hr, bindsOf_no fun n => ?_⟩
  cases hs : σ n with
  | none => rfl
  | some u =>
    obtain ⟨rk, B, G⟩ := h.uni.good.rs
    have e := S n u hs
    rw [mapv_id u (Tm.okA_cv u (h.okA n u hs))] at e
    have := G.rank n u hs n (by rw [← e, vl_vr]; simp)
    omega
theorem uniC_self {a : Tm} (h : a.valid = true) : (uniC a a).1 = 0 ∧ bindsOf (uniC a a).2 = [] := by
  obtain ⟨r, σ, tr, hU, hR⟩ := unif_of h h
  obtain ⟨rfl, hb⟩ := hU.self
  unfold uniC
  rw [hR]
  exact ⟨rfl, hb⟩
theorem uniC_eq {a b : Tm} (ha : a.valid = true) (hb : b.valid = true) (h : (uniC a b).1 = 0) : a.mapv (subB (bindsOf (uniC a b).2)) = b.mapv (subB (bindsOf (uniC a b).2)) := by
  obtain ⟨r, σ, tr, hU, hR⟩ := unif_of ha hb
  unfold uniC at h ⊢
  rw [hR] at h ⊢
  cases r with
  | false => simp [codeB] at h
  | true =>
    show a.mapv (subB (bindsOf σ)) = b.mapv (subB (bindsOf σ))
    rw [hU.subB]
    simpa using hU.uni.eq rfl
theorem ev_mapv (f : Int → Tm) : ∀ t : Tm, t.ev.2 = 0 → (t.mapv f).ev = t.ev := by
  intro t
  induction t using Tm.ind with
  | h k n s ts ih =>
    intro h
    by_cases h1 : k = 1
    · rw [Tm.ev_mk, h1] at h
      simp at h
    rw [Tm.mapv_mk f h1, Tm.ev_mk, Tm.ev_mk]
    by_cases h2 : k = 2
    · rw [if_pos h2, if_pos h2]
    rw [Tm.ev_mk, if_neg h2, if_neg h1] at h
    rw [if_neg h2, if_neg h1, if_neg h2, if_neg h1]
    by_cases h3 : inN arNames s = true
    · rw [if_pos h3] at h ⊢
      rw [if_pos h3]
      match ts, ih, h with
      | [], _, h => rfl
      | [x], _, h => rfl
      | [x, y], ih, h =>
        simp only [List.map_cons, List.map_nil, two, both] at h ⊢
        split at h
        · rename_i h4; exact absurd h h4
        rename_i h4
        split at h
        · rename_i h5; exact absurd h h5
        rename_i h5
        rw [ih x (by simp) (by simpa using h4), ih y (by simp) (by simpa using h5)]
      | x :: y :: z :: l, _, h => rfl
    · rw [if_neg h3, if_neg h3]
theorem subB_nil : subB [] = vr := rfl
theorem map_id_of {l : List Tm} (h : ∀ x ∈ l, x.valid = true) : l.map (Tm.mapv vr) = l := by
  induction l with
  | nil => rfl
  | cons x l ih => rw [List.map_cons, mapv_id x (Tm.okA_cv x (Tm.valid_okA (h x (by simp)))), ih fun y hy => h y (by simp [hy])]
theorem argT_mapv (f : Int → Tm) {x y : Tm} (hx : x.k = 2) (hy : y.k = 3) : argT (x.mapv f) (y.mapv f) = (argT x y).map (Tm.mapv f) := by
  obtain ⟨k, n, s, ts⟩ := x
  obtain ⟨k', n', s', ts'⟩ := y
  simp only [Tm.k] at hx hy
  subst hx hy
  rw [Tm.mapv_mk f (by decide), Tm.mapv_mk f (by decide)]
  unfold argT
  show (if 1 ≤ n ∧ n ≤ ((ts'.map (Tm.mapv f)).length : Int) then (ts'.map (Tm.mapv f))[(n - 1).toNat]? else none) = Option.map (Tm.mapv f) (if 1 ≤ n ∧ n ≤ (ts'.length : Int) then ts'[(n - 1).toNat]? else none)
  by_cases h : 1 ≤ n ∧ n ≤ (ts'.length : Int)
  · rw [if_pos h, if_pos (by rw [List.length_map]; exact h), List.getElem?_map]
  · rw [if_neg h, if_neg (by rw [List.length_map]; exact h)]; rfl
theorem solveB_again (s : ByteArray) (ks : List Tm) (hv : ∀ x ∈ ks, x.valid = true) (h0 : (solveB s ks).1 = 0)
    (hv' : ∀ x ∈ ks.map (Tm.mapv (subB (bindsOf (solveB s ks).2))), x.valid = true) :
    (solveB s (ks.map (Tm.mapv (subB (bindsOf (solveB s ks).2))))).1 = 0 ∧ bindsOf (solveB s (ks.map (Tm.mapv (subB (bindsOf (solveB s ks).2))))).2 = [] := by
  by_cases hb : bindsOf (solveB s ks).2 = []
  · rw [hb, subB_nil, map_id_of hv]
    exact ⟨h0, hb⟩
  match ks, hv, h0, hv', hb with
  | [], _, _, _, hb => exact absurd bindsOf_none hb
  | [x], _, _, _, hb => exact absurd bindsOf_none hb
  | [x, y], hv, h0, hv', hb =>
    have hx := hv x (by simp)
    have hy := hv y (by simp)
    simp only [solveB] at h0 hb hv' ⊢
    by_cases h1 : inN cmpNames s = true
    · rw [if_pos h1] at hb; exact absurd bindsOf_none hb
    simp only [if_neg h1] at h0 hb hv' ⊢
    by_cases h2 : s = ⟨#[61]⟩
    · simp only [if_pos h2] at h0 hb hv' ⊢
      have e := uniC_eq hx hy h0
      generalize subB (bindsOf (uniC x y).2) = θ at *
      simp only [List.map_cons, List.map_nil, if_neg h1, if_pos h2]
      rw [← e]
      exact uniC_self (hv' _ (by simp))
    simp only [if_neg h2] at h0 hb hv' ⊢
    by_cases h3 : s = ⟨#[92, 61]⟩
    · rw [if_pos h3] at hb; exact absurd bindsOf_none hb
    simp only [if_neg h3] at h0 hb hv' ⊢
    by_cases h4 : s = ⟨#[61, 61]⟩
    · rw [if_pos h4] at hb; exact absurd bindsOf_none hb
    simp only [if_neg h4] at h0 hb hv' ⊢
    by_cases h5 : y.ev.2 ≠ 0
    · rw [if_pos h5] at hb; exact absurd bindsOf_none hb
    simp only [if_neg h5] at h0 hb hv' ⊢
    have hi := itm_valid (Tm.ev_in y (Tm.valid_okV hy))
    have e := uniC_eq hx hi h0
    generalize subB (bindsOf (uniC x (itm y.ev.1)).2) = θ at *
    have e2 := ev_mapv θ y (by simpa using h5)
    have e3 : (itm y.ev.1).mapv θ = itm y.ev.1 := Tm.mapv_mk θ (by decide)
    simp only [List.map_cons, List.map_nil, if_neg h1, if_neg h2, if_neg h3, if_neg h4, e2, if_neg h5]
    rw [e, e3]
    exact uniC_self hi
  | [x, y, z], hv, h0, hv', hb =>
    have hy := hv y (by simp)
    have hz := hv z (by simp)
    simp only [solveB, argC] at h0 hb hv' ⊢
    by_cases h1 : x.k = 1 ∨ y.k = 1
    · rw [if_pos h1] at hb; exact absurd bindsOf_none hb
    simp only [if_neg h1] at h0 hb hv' ⊢
    by_cases h2 : x.k ≠ 2 ∨ y.k ≠ 3 ∨ y.ts.length = 0
    · rw [if_pos h2] at hb; exact absurd bindsOf_none hb
    simp only [if_neg h2] at h0 hb hv' ⊢
    have h2' : x.k = 2 ∧ y.k = 3 ∧ y.ts.length ≠ 0 := by
      refine ⟨Classical.byContradiction fun h => h2 (.inl h), Classical.byContradiction fun h => h2 (.inr (.inl h)), fun h => h2 (.inr (.inr h))⟩
    obtain ⟨kx, ky, hl⟩ := h2'
    cases hu : argT x y with
    | none => simp only [hu] at hb; exact absurd bindsOf_none hb
    | some u =>
      simp only [hu] at h0 hb hv' ⊢
      have hut := Tm.valid_kid hy (by omega) (argT_mem hu)
      have e := uniC_eq hz hut h0
      generalize subB (bindsOf (uniC z u).2) = θ at *
      have e1 := argT_mapv θ kx ky
      rw [hu] at e1
      have k1 : (x.mapv θ).k = 2 := by rw [Tm.mapv_k θ (by omega)]; exact kx
      have k2 : (y.mapv θ).k = 3 := by rw [Tm.mapv_k θ (by omega)]; exact ky
      have k3 : (y.mapv θ).ts.length ≠ 0 := by
        rw [Tm.mapv_k θ (by omega)]
        simp only [Tm.ts, List.length_map]
        exact hl
      simp only [List.map_cons, List.map_nil]
      rw [if_neg (by omega), if_neg (by omega), e1]
      simp only [Option.map_some]
      rw [← e]
      exact uniC_self (hv' _ (by simp))
  | a :: b :: c :: d :: l, _, _, _, hb => exact absurd bindsOf_none hb
theorem callB_fail {g : Tm} (h : (callB g).2 ≠ 0) : (callB g).1 = [] := by
  unfold callB at h ⊢
  split
  · rename_i h1
    rw [if_pos h1] at h
    split
    · rfl
    rename_i h2
    rw [if_neg h2] at h
    split
    · rename_i h3; rw [if_pos h3] at h; exact absurd rfl h
    · rfl
  · rfl
theorem callB_len (g : Tm) : (callB g).1.length ≤ 26 := by
  unfold callB
  split
  · split
    · simp
    split
    · exact bindsTo_len _ 26
    · simp
  · simp
theorem callB_of {x : Tm} (hv : x.valid = true) (hk : x.k = 3) (hb : isBuiltin x.s (x.ts.length : Int) = true) (h0 : (solveB x.s x.ts).1 = 0) (h1 : bindsOf (solveB x.s x.ts).2 = []) : callB x = ([], 0) := by
  unfold callB
  rw [if_pos ⟨hv, hk, hb⟩, if_neg (by rw [h0]; simp), h1]
  rfl
theorem callB_again {g x : Tm} (h : (callB g).2 = 0) (hx : appB g (callB g).1 = some x) : callB x = ([], 0) := by
  have hg : ∃ bs, callB g = (bs, 0) ∧ g.valid = true ∧ g.k = 3 ∧ isBuiltin g.s (g.ts.length : Int) = true ∧ (solveB g.s g.ts).1 = 0 ∧ bs = bindsOf (solveB g.s g.ts).2 := by
    unfold callB at h ⊢
    split
    · rename_i h1
      rw [if_pos h1] at h
      split
      · rename_i h2; rw [if_pos h2] at h; exact absurd h h2
      rename_i h2
      rw [if_neg h2] at h
      split
      · exact ⟨_, rfl, h1.1, h1.2.1, h1.2.2, by simpa using h2, rfl⟩
      · rename_i h3; rw [if_neg h3] at h; exact absurd h (by decide)
    · rename_i h1; rw [if_neg h1] at h; exact absurd h (by decide)
  obtain ⟨bs, hc, hv, hk, hb, h0, rfl⟩ := hg
  rw [hc] at hx
  unfold appB at hx
  split at hx
  case isFalse => cases hx
  rename_i hw
  cases hx
  have hxv := hw.2.2
  have kv : ∀ x ∈ g.ts, x.valid = true := fun x hx => Tm.valid_kid hv (by omega) hx
  have hxe : g.mapv (subB (bindsOf (solveB g.s g.ts).2)) = .mk g.k g.n g.s (g.ts.map (Tm.mapv (subB (bindsOf (solveB g.s g.ts).2)))) := Tm.mapv_k _ (by omega)
  rw [hxe] at hxv ⊢
  have key := solveB_again g.s g.ts kv h0 (fun x hx => Tm.valid_kid hxv (by show g.k ≠ 1; omega) hx)
  refine callB_of hxv hk ?_ key.1 key.2
  show isBuiltin g.s ((g.ts.map _).length : Int) = true
  rw [List.length_map]
  exact hb
end Go.AW

/- A held list and a struct that tells of it: the list is never written again. -/
namespace Go.AW
set_option linter.unusedSimpArgs false
theorem StepH.of {h : Heap} {st st' : zy7} (hk : ∀ x, st x = none → st' x = none) : StepH h st h st' := ⟨Nat.le_refl _, fun x _ e => ⟨rfl, hk x e⟩, fun _ c _ _ e => ⟨c, e, rfl⟩⟩
theorem Less.freezeIn {φ : AF} {st : zy7} {b c : Nat} {es cs : List AV} (hbc : b ≠ c) (h1 : st b = some (.cells (es.flatMap AV.cells))) (h2 : ∀ e ∈ es, e.isJunk = false) (h3 : Even es) (hc : st c = some (.cells cs)) :
    Less φ st φ ((st.erase b).upd c (.cells (fzL b es cs))) := fun h tmps S F => by
  have T2 : StepH h (st.erase b) h ((st.erase b).upd c (.cells (fzL b es cs))) := StepH.of fun x hx => by
    have : x ≠ c := by rintro rfl; simp [zy7.erase, Ne.symm hbc, hc] at hx
    rw [zy7.upd_ne _ _ this]; exact hx
  have T : StepH h st h ((st.erase b).upd c (.cells (fzL b es cs))) := ((Drops.erase' st b).step h).trans T2
  refine ⟨fun x o hx => ?_, T, fun d => (F d).mono T⟩
  by_cases e : x = c
  · subst e
    rw [zy7.upd_same] at hx
    cases hx
    obtain ⟨hl, c0, t, e1, e2, vs, e3, e4⟩ := S x _ hc
    refine ⟨hl, c0, t, e1, ?_, vs, e3, VCs.mono T2 _ _ (VCs.fz S h1 h2 h3 cs vs e4)⟩
    rw [fzL_map, List.length_map]; exact e2
  · rw [zy7.upd_ne _ _ e] at hx
    have hx' : st x = some o := by
      simp only [zy7.erase] at hx
      split at hx
      · cases hx
      · exact hx
    obtain ⟨hl, y⟩ := S x o hx'
    exact ⟨hl, ORel.mono T rfl y⟩
theorem Less.softIn {φ : AF} {st : zy7} {c : Nat} {cs : List AV} (hc : st c = some (.cells cs)) : Less φ st φ (st.upd c (.cells (softL cs))) := fun h tmps S F => by
  have T : StepH h st h (st.upd c (.cells (softL cs))) := StepH.of fun x hx => by
    have : x ≠ c := by rintro rfl; rw [hc] at hx; cases hx
    rw [zy7.upd_ne _ _ this]; exact hx
  refine ⟨fun x o hx => ?_, T, fun d => (F d).mono T⟩
  by_cases e : x = c
  · subst e
    rw [zy7.upd_same] at hx
    cases hx
    obtain ⟨hl, c0, t, e1, e2, vs, e3, e4⟩ := S x _ hc
    refine ⟨hl, c0, t, e1, ?_, vs, e3, VCs.mono T _ _ (VCs.soft cs vs e4)⟩
    rw [softL_map, List.length_map]; exact e2
  · rw [zy7.upd_ne _ _ e] at hx
    obtain ⟨hl, y⟩ := S x o hx
    exact ⟨hl, ORel.mono T rfl y⟩
theorem less_kid {φ : AF} {S : zy7} {c b : Nat} {k n : Int} {s : ByteArray} {l : List AV} (hb : l ≠ [] → (S.upd c (.cells ([.int .i64 k, .int .i64 n, .str s] ++ [accV 4 b l]))) b = none) (hj : ∀ e ∈ l, e.isJunk = false) (hE : Even l) :
    Less φ (kidS S c b [.int .i64 k, .int .i64 n, .str s] l) φ (S.upd c (.cells [.int .i64 k, .int .i64 n, .str s, .slice l])) := by
  have hcc := kidS_c hb
  cases l with
  | nil =>
    have := Less.softIn (φ := φ) hcc
    unfold kidS at this ⊢
    simp only [accS_nil, zy7.upd_upd] at this
    exact this
  | cons y l =>
    have h0 := hb (by simp)
    have hne : b ≠ c := by rintro rfl; rw [zy7.upd_same] at h0; cases h0
    have h1 : kidS S c b [.int .i64 k, .int .i64 n, .str s] (y :: l) b = some (.cells ((y :: l).flatMap AV.cells)) := by unfold kidS; simp only [accS]; exact zy7.upd_same _ _ _
    have := Less.freezeIn (φ := φ) hne h1 hj hE hcc
    have e : (kidS S c b [.int .i64 k, .int .i64 n, .str s] (y :: l)).erase b = S.upd c (.cells ([.int .i64 k, .int .i64 n, .str s] ++ [accV 4 b (y :: l)])) := by unfold kidS; simp only [accS]; exact zy7.erase_upd _ _ _ h0
    rw [e, zy7.upd_upd] at this
    simpa [fzL, AV.fz, accV] using this
theorem kidS_hd {S : zy7} {c b : Nat} {hd hd' l : List AV} (hb : l ≠ [] → (S.upd c (.cells (hd ++ [accV 4 b l]))) b = none) :
    (kidS S c b hd l).upd c (.cells (hd' ++ [accV 4 b l])) = kidS S c b hd' l ∧ (l ≠ [] → (S.upd c (.cells (hd' ++ [accV 4 b l]))) b = none) := by
  have hne : l ≠ [] → c ≠ b := fun h e => by have := hb h; rw [← e, zy7.upd_same] at this; cases this
  refine ⟨by unfold kidS; rw [accS_upd hne, zy7.upd_upd], fun h => ?_⟩
  have := hb h
  rw [zy7.upd_ne _ _ (Ne.symm (hne h))] at this ⊢
  exact this
theorem drops_acc2 {s0 st : zy7} {b : Nat} {l : List AV} (D : Drops s0 st) : Drops (accS s0 b l) (accS st b l) := by
  cases l with
  | nil => exact D
  | cons y l =>
    intro x
    simp only [accS]
    by_cases e : x = b
    · subst e; simp [zy7.upd_same]
    · rw [zy7.upd_ne _ _ e, zy7.upd_ne _ _ e]; exact D x
end Go.AW
