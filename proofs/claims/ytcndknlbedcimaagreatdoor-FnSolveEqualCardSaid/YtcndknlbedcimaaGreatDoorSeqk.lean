import Derived.Test.YtcndknlbedcimaaGreatDoorSeqj
import Derived.Test.YtcndknlbedcimaaGreatDoorSeqi
import Derived.Test.YtcndknlbedcimaaGreatDoorSeqh
set_option linter.unusedSimpArgs false
set_option linter.unusedVariables false
set_option maxRecDepth 100000
namespace Go.AW
open Go.Proofs.Tryz
def InR (n : Int) : Prop := -999 ≤ n ∧ n ≤ 999
theorem arOp_in (s : ByteArray) (a b : Int) (ha : InR a) (hb : InR b) : InR (arOp s a b).1 := by
 unfold arOp InR
 split
 · exact ranged_le _
 split
 · exact ranged_le _
 split
 · exact ranged_le _
 split
 · simp
 rename_i h0
 split
 · exact fmodI_le a b ha hb h0
 · exact tdiv_le a b ha
theorem both_in {f : Int → Int → Int × Int} {x y : Int × Int} (h : InR (f x.1 y.1).1) : InR (both f x y).1 := by
 unfold both InR
 split
 · simp
 split
 · simp
 · exact h
theorem Tm.ev_in {N : Int} : ∀ t : Tm, OkV N t → InR t.ev.1 := by
 intro t
 induction t using Tm.ind with
 | h k n s ts ih =>
  intro h
  obtain ⟨h1, h2⟩ := h.all
  rw [Tm.ev_mk]
  split
  · rename_i hk; exact h1 hk
  split
  · simp [InR]
  split
  · match ts, h2, ih with
    | [], _, _ => simp [two, InR]
    | [x], _, _ => simp [two, InR]
    | [x, y], h2, ih => exact both_in (arOp_in _ _ _ (ih x (by simp) (h2 x (by simp))) (ih y (by simp) (h2 y (by simp))))
    | x :: y :: z :: l, _, _ => simp [two, InR]
  · simp [InR]
theorem two_kids {ts : List Tm} (h : (ts.length : Int) = 2) : ∃ x y, ts = [x, y] := by
 match ts, h with
 | [x, y], _ => exact ⟨x, y, rfl⟩
 | [], h => simp at h
 | [x], h => simp at h
 | x :: y :: z :: l, h => simp at h; omega
abbrev tf_B1_206 := zi tI_3 (zi zI_3 (zi underlying3 (zi tI_4 (zi zI_4 (zi underlying4 (zi tI_9 (zi zI_9 (zi underlying9 (zi tI_31 (zi zI_31 (zi eI_31 (zi eB_31 (zi eZ_31 (zi underlying31 (zi tI_42 (zi zI_42 (zi fI_42_0 (zi fI_42_1 (zi fI_42_2 (zi fI_42_3 (zi bI_42 (zi tI_142 (zi zI_142 (zi eI_142 (zi eB_142 (zi eZ_142 underlying142))))))))))))))))))))))))))
theorem c_arith {N : Int} : ∀ (t : Tm) (st : zy7), OkV N t → zq7 prog 206 [t.av] st (fun r st' => r = .tup [.int .i64 t.ev.1, .int .i64 t.ev.2] ∧ st' = st)
 | .mk k n s ts, st, hok => by
  obtain ⟨h1, h2⟩ := hok.all
  have IH := fun (x : Tm) (hx : x ∈ ts) st => c_arith x st (h2 x hx)
  rw [Tm.ev_mk]
  simp only [Tm.av_mk]
  refine wF [1000000] 1 func206 ntmps206 rfl rfl ?_
  intro _
  simp -implicitDefEqProofs only [List.length_map, evF, ↓evZ, implies_true, seval, tf_B1_206]
  refine zq4 (fun hk => ?_) (fun hk => ?_)
  · simp -implicitDefEqProofs only [List.length_map, evF, ↓evZ, implies_true, seval, tf_B1_206]
    simp only [decide_eq_true_eq] at hk
    simp [hk]
  simp only [decide_eq_false_iff_not] at hk
  rw [if_neg hk]
  simp -implicitDefEqProofs only [List.length_map, evF, ↓evZ, implies_true, seval, tf_B1_206]
  refine zq4 (fun hk1 => ?_) (fun hk1 => ?_)
  · simp -implicitDefEqProofs only [List.length_map, evF, ↓evZ, implies_true, seval, tf_B1_206]
    simp only [decide_eq_true_eq] at hk1
    simp [hk1]
  simp only [decide_eq_false_iff_not] at hk1
  rw [if_neg hk1]
  simp -implicitDefEqProofs only [List.length_map, evF, ↓evZ, implies_true, seval, tf_B1_206]
  have hty : ∀ s0 : zy7, ts.length ≠ 2 ∨ inN arNames s = false → (if inN arNames s = true then two (arOp s) (ts.map Tm.ev) else (0, 3)) = ((0 : Int), (3 : Int)) := fun _ h => by
   split
   · rename_i h3
     rcases h with h | h
     · match ts, h with
       | [], _ => rfl
       | [x], _ => rfl
       | [x, y], h => simp at h
       | x :: y :: z :: l, _ => rfl
     · rw [h] at h3; cases h3
   · rfl
  refine zx4 (fun h => ?_) (fun h => ?_)
  case refine_2 =>
   simp -implicitDefEqProofs only [h, List.length_map, evF, ↓evZ, implies_true, seval, tf_B1_206]
   rw [hty st (.inl (by simp at h; omega))]
  simp -implicitDefEqProofs only [h, List.length_map, evF, ↓evZ, implies_true, seval, tf_B1_206]
  refine (c_ContainsS' arNames s _).to ?_
  simp -implicitDefEqProofs only [h, List.length_map, evF, ↓evZ, implies_true, seval, tf_B1_206]
  refine zq4 (fun h3 => ?_) (fun h3 => ?_)
  · simp -implicitDefEqProofs only [List.length_map, evF, ↓evZ, implies_true, seval, tf_B1_206]
    rw [hty st (.inr (by simpa [inN] using h3))]
  have hin : inN arNames s = true := by simpa [inN] using h3
  rw [if_pos hin]
  clear hty
  obtain ⟨x, y, rfl⟩ := two_kids (by simpa using h)
  have hat0 : aIndexAddr prog 31 (.slice [x.av, y.av]) (.int .i64 0) = some (.pptr x.av) := ev_at (av := Tm.av) (l := [x, y]) (i := 0) eI_31 rfl (Tm.av_width x)
  have hat1 : aIndexAddr prog 31 (.slice [x.av, y.av]) (.int .i64 1) = some (.pptr y.av) := ev_at (av := Tm.av) (l := [x, y]) (i := 1) eI_31 rfl (Tm.av_width y)
  have hx := Tm.ev_in x (h2 x (by simp))
  have hy := Tm.ev_in y (h2 y (by simp))
  have IHx := fun st => IH x (by simp) st
  have IHy := fun st => IH y (by simp) st
  simp -implicitDefEqProofs only [hat0, hat1, Tm.av_agg, Tm.av_width, evF, ↓evZ, implies_true, seval, tf_B1_206]
  refine (IHx _).to ?_
  simp only [List.map_cons, List.map_nil, two, both]
  generalize x.ev.1 = a at *
  generalize x.ev.2 = ca at *
  generalize y.ev.1 = b at *
  generalize y.ev.2 = cb at *
  simp -implicitDefEqProofs only [hat0, hat1, Tm.av_agg, Tm.av_width, evF, ↓evZ, implies_true, seval, tf_B1_206]
  refine zq4 (fun h4 => ?_) (fun h4 => ?_)
  · simp -implicitDefEqProofs only [hat0, hat1, Tm.av_agg, Tm.av_width, evF, ↓evZ, implies_true, seval, tf_B1_206]
    have h4' : ca ≠ 0 := by simpa using h4
    rw [if_pos h4']
  have h4' : ca = 0 := by simpa using h4
  subst h4'
  rw [if_neg (by simp)]
  simp -implicitDefEqProofs only [hat0, hat1, Tm.av_agg, Tm.av_width, evF, ↓evZ, implies_true, seval, tf_B1_206]
  refine (IHy _).to ?_
  simp -implicitDefEqProofs only [hat0, hat1, Tm.av_agg, Tm.av_width, evF, ↓evZ, implies_true, seval, tf_B1_206]
  refine zq4 (fun h5 => ?_) (fun h5 => ?_)
  · simp -implicitDefEqProofs only [hat0, hat1, Tm.av_agg, Tm.av_width, evF, ↓evZ, implies_true, seval, tf_B1_206]
    have h5' : cb ≠ 0 := by simpa using h5
    rw [if_pos h5']
  have h5' : cb = 0 := by simpa using h5
  subst h5'
  rw [if_neg (by simp)]
  unfold InR at hx hy
  have hmul : -998001 ≤ a * b ∧ a * b ≤ 998001 := by
   have h6 : (a * b).natAbs ≤ 998001 := by
    rw [Int.natAbs_mul]
    have := Nat.mul_le_mul (show a.natAbs ≤ 999 by omega) (show b.natAbs ≤ 999 by omega)
    omega
   omega
  have hw1 := wrap64 (n := a + b) (by omega) (by omega)
  have hw2 := wrap64 (n := a - b) (by omega) (by omega)
  have hw3 := wrap64 (n := a * b) (by omega) (by omega)
  have hrg : ∀ (v : Int) (st' : zy7), zq7 prog 147 [.int .i64 v, .int .i64 (-999), .int .i64 999] st' (fun r s' => r = .bool (decide (ranged v = (v, 0))) ∧ s' = st') := fun v st' => by
   refine (c_within v (-999) 999 st').mono ?_
   rintro _ _ ⟨rfl, rfl⟩
   refine ⟨?_, rfl⟩
   congr 1
   unfold ranged
   split
   · rename_i h; simp [h.1, h.2]
   · rename_i h
     rw [show (decide (((0 : Int), (5 : Int)) = (v, 0))) = false from decide_eq_false (by simp)]
     simp only [Bool.and_eq_false_iff, decide_eq_false_iff_not]
     omega
  have hrn : ∀ v, ranged v ≠ (v, 0) → ranged v = (0, 5) := fun v h => by
   unfold ranged at h ⊢
   split
   · rename_i h'; rw [if_pos h'] at h; exact absurd rfl h
   · rfl
  unfold arOp
  simp -implicitDefEqProofs only [hw1, hw2, hw3, evF, ↓evZ, implies_true, seval, tf_B1_206]
  refine zq4 (fun h6 => ?_) (fun h6 => ?_)
  · simp -implicitDefEqProofs only [hw1, hw2, hw3, evF, ↓evZ, implies_true, seval, tf_B1_206]
    rw [if_pos (by simpa using h6)]
    refine (hrg (a + b) _).to ?_
    simp -implicitDefEqProofs only [hw1, hw2, hw3, evF, ↓evZ, implies_true, seval, tf_B1_206]
    refine zq4 (fun h8 => ?_) (fun h8 => ?_)
    · simp -implicitDefEqProofs only [hw1, hw2, hw3, evF, ↓evZ, implies_true, seval, tf_B1_206]
      rw [hrn _ (by simpa using h8)]
    · simp -implicitDefEqProofs only [hw1, hw2, hw3, evF, ↓evZ, implies_true, seval, tf_B1_206]
      rw [show ranged (a + b) = (a + b, 0) by simpa using h8]
  rw [if_neg (by simpa using h6)]
  simp -implicitDefEqProofs only [hw1, hw2, hw3, evF, ↓evZ, implies_true, seval, tf_B1_206]
  refine zq4 (fun h7 => ?_) (fun h7 => ?_)
  · simp -implicitDefEqProofs only [hw1, hw2, hw3, evF, ↓evZ, implies_true, seval, tf_B1_206]
    rw [if_pos (by simpa using h7)]
    refine (hrg (a - b) _).to ?_
    simp -implicitDefEqProofs only [hw1, hw2, hw3, evF, ↓evZ, implies_true, seval, tf_B1_206]
    refine zq4 (fun h8 => ?_) (fun h8 => ?_)
    · simp -implicitDefEqProofs only [hw1, hw2, hw3, evF, ↓evZ, implies_true, seval, tf_B1_206]
      rw [hrn _ (by simpa using h8)]
    · simp -implicitDefEqProofs only [hw1, hw2, hw3, evF, ↓evZ, implies_true, seval, tf_B1_206]
      rw [show ranged (a - b) = (a - b, 0) by simpa using h8]
  rw [if_neg (by simpa using h7)]
  simp -implicitDefEqProofs only [hw1, hw2, hw3, evF, ↓evZ, implies_true, seval, tf_B1_206]
  refine zq4 (fun h9 => ?_) (fun h9 => ?_)
  · simp -implicitDefEqProofs only [hw1, hw2, hw3, evF, ↓evZ, implies_true, seval, tf_B1_206]
    rw [if_pos (by simpa using h9)]
    refine (hrg (a * b) _).to ?_
    simp -implicitDefEqProofs only [hw1, hw2, hw3, evF, ↓evZ, implies_true, seval, tf_B1_206]
    refine zq4 (fun h8 => ?_) (fun h8 => ?_)
    · simp -implicitDefEqProofs only [hw1, hw2, hw3, evF, ↓evZ, implies_true, seval, tf_B1_206]
      rw [hrn _ (by simpa using h8)]
    · simp -implicitDefEqProofs only [hw1, hw2, hw3, evF, ↓evZ, implies_true, seval, tf_B1_206]
      rw [show ranged (a * b) = (a * b, 0) by simpa using h8]
  rw [if_neg (by simpa using h9)]
  simp -implicitDefEqProofs only [hw1, hw2, hw3, evF, ↓evZ, implies_true, seval, tf_B1_206]
  refine zq4 (fun h0 => ?_) (fun h0 => ?_)
  · simp -implicitDefEqProofs only [hw1, hw2, hw3, evF, ↓evZ, implies_true, seval, tf_B1_206]
    rw [if_pos (by simpa using h0)]
  have h0' : b ≠ 0 := by simpa using h0
  rw [if_neg h0']
  have hq := tdiv_le a b hx
  have hr := tmod_lt a b h0'
  have hf := fmodI_le a b hx hy h0'
  have hfe := fmodI_eq a b h0'
  have hw4 := wrap64 (n := a.tdiv b) (by omega) (by omega)
  have hw5 := wrap64 (n := a.tmod b + b) (by omega) (by omega)
  have hin1 : ranged (a.tdiv b) = (a.tdiv b, 0) := by unfold ranged; rw [if_pos hq]
  have hin2 : ranged (fmodI a b) = (fmodI a b, 0) := by unfold ranged; rw [if_pos hf]
  simp -implicitDefEqProofs only [hw4, hw5, h0', hfe, evF, ↓evZ, implies_true, seval, tf_B1_206]
  refine zq4 (fun h10 => ?_) (fun h10 => ?_)
  · simp -implicitDefEqProofs only [hw4, hw5, h0', hfe, evF, ↓evZ, implies_true, seval, tf_B1_206]
    rw [if_pos (by simpa using h10)]
    refine (hrg (fmodI a b) _).to ?_
    have hd : decide (ranged (fmodI a b) = (fmodI a b, 0)) = true := by rw [hin2]; simp
    simp -implicitDefEqProofs only [hd, hw4, hw5, h0', hfe, evF, ↓evZ, implies_true, seval, tf_B1_206]
  · simp -implicitDefEqProofs only [hw4, hw5, h0', hfe, evF, ↓evZ, implies_true, seval, tf_B1_206]
    rw [if_neg (by simpa using h10)]
    refine (hrg (a.tdiv b) _).to ?_
    have hd : decide (ranged (a.tdiv b) = (a.tdiv b, 0)) = true := by rw [hin1]; simp
    simp -implicitDefEqProofs only [hd, hw4, hw5, h0', hfe, evF, ↓evZ, implies_true, seval, tf_B1_206]
termination_by t => SizeOf.sizeOf t
decreasing_by have := List.sizeOf_lt_of_mem hx; simp only [Tm.mk.sizeOf_spec]; omega
abbrev tf_B1_217 := zi tI_3 (zi zI_3 underlying3)
theorem c_l5Ranged (n : Int) (st : zy7) : zq7 prog 217 [.int .i64 n] st (fun r st' => r = .tup [.int .i64 (ranged n).1, .int .i64 (ranged n).2] ∧ st' = st) := by
 refine wF [1000000] 1 func217 ntmps217 rfl rfl ?_
 intro _
 simp -implicitDefEqProofs only [evF, ↓evZ, implies_true, seval, tf_B1_217]
 refine zx4 (fun h => ?_) (fun h => ?_)
 · simp -implicitDefEqProofs only [h, evF, ↓evZ, implies_true, seval, tf_B1_217]
   have h1 : ¬ n < -999 := by simpa using h
   refine zq4 (fun h2 => ?_) (fun h2 => ?_)
   · simp -implicitDefEqProofs only [evF, ↓evZ, implies_true, seval, tf_B1_217]
     have h2' : 999 < n := by simpa using h2
     unfold ranged
     rw [if_neg (by omega)]
   · simp -implicitDefEqProofs only [evF, ↓evZ, implies_true, seval, tf_B1_217]
     have h2' : ¬ 999 < n := by simpa using h2
     unfold ranged
     rw [if_pos (by omega)]
 · simp -implicitDefEqProofs only [h, evF, ↓evZ, implies_true, seval, tf_B1_217]
   have h1 : n < -999 := by simpa using h
   unfold ranged
   rw [if_neg (by omega)]
abbrev tf_B1_218 := zi tI_3 (zi zI_3 (zi underlying3 (zi tI_4 (zi zI_4 underlying4))))
theorem c_l5Mod (a b : Int) (ha : InR a) (hb : InR b) (h0 : b ≠ 0) (st : zy7) : zq7 prog 218 [.int .i64 a, .int .i64 b] st (fun r st' => r = .int .i64 (fmodI a b) ∧ st' = st) := by
 have hl := tmod_lt a b h0
 unfold InR at ha hb
 have hw := wrap64 (n := a.tmod b + b) (by omega) (by omega)
 refine wF [1000000] 2 func218 ntmps218 rfl rfl ?_
 intro _
 simp -implicitDefEqProofs only [h0, hw, evF, ↓evZ, implies_true, seval, tf_B1_218]
 have hf : fmodI a b = if a.tmod b ≠ 0 ∧ decide (a.tmod b < 0) ≠ decide (b < 0) then a.tmod b + b else a.tmod b := rfl
 rw [hf]
 clear hf
 generalize hm : a.tmod b = m at *
 refine zx4 (fun h => ?_) (fun h => ?_)
 · have h' : m ≠ 0 := by simpa using h
   simp -implicitDefEqProofs only [h, h0, hw, evF, ↓evZ, implies_true, seval, tf_B1_218]
   refine zq4 (fun h2 => ?_) (fun h2 => ?_)
   · simp -implicitDefEqProofs only [h0, hw, evF, ↓evZ, implies_true, seval, tf_B1_218]
     rw [if_pos ⟨h', by simpa using h2⟩]
   · simp -implicitDefEqProofs only [h0, hw, evF, ↓evZ, implies_true, seval, tf_B1_218]
     rw [if_neg (by intro h3; exact h3.2 (by simpa using h2))]
 · have h' : m = 0 := by simpa using h
   simp -implicitDefEqProofs only [h, h0, hw, evF, ↓evZ, implies_true, seval, tf_B1_218]
   rw [if_neg (by intro h3; exact h3.1 h')]
abbrev tf_B1_219 := zi tI_3 (zi zI_3 underlying3)
theorem c_l5Div (a b : Int) (ha : InR a) (hb : InR b) (h0 : b ≠ 0) (st : zy7) : zq7 prog 219 [.int .i64 a, .int .i64 b] st (fun r st' => r = .int .i64 (a.tdiv b) ∧ st' = st) := by
 have hl := tdiv_le a b ha
 have hw := wrap64 (n := a.tdiv b) (by omega) (by omega)
 refine wF [1000000] 2 func219 ntmps219 rfl rfl ?_
 intro _
 simp -implicitDefEqProofs only [h0, hw, evF, ↓evZ, implies_true, seval, tf_B1_219]
abbrev tf_B1_201 := zi tI_3 (zi zI_3 (zi underlying3 (zi tI_9 (zi zI_9 underlying9))))
theorem c_l5Op (s : ByteArray) (a b : Int) (hx : InR a) (hy : InR b) (st : zy7) : zq7 prog 201 [.str s, .int .i64 a, .int .i64 b] st (fun r st' => r = .tup [.int .i64 (arOp s a b).1, .int .i64 (arOp s a b).2] ∧ st' = st) := by
 have hMod := fun h0 => c_l5Mod a b hx hy h0
 have hDiv := fun h0 => c_l5Div a b hx hy h0
 unfold InR at hx hy
 have hmul : -998001 ≤ a * b ∧ a * b ≤ 998001 := by
  have h6 : (a * b).natAbs ≤ 998001 := by
   rw [Int.natAbs_mul]
   have := Nat.mul_le_mul (show a.natAbs ≤ 999 by omega) (show b.natAbs ≤ 999 by omega)
   omega
  omega
 have hw1 := wrap64 (n := a + b) (by omega) (by omega)
 have hw2 := wrap64 (n := a - b) (by omega) (by omega)
 have hw3 := wrap64 (n := a * b) (by omega) (by omega)
 unfold arOp
 refine wF [1000000] 3 func201 ntmps201 rfl rfl ?_
 intro _
 simp -implicitDefEqProofs only [hw1, hw2, hw3, evF, ↓evZ, implies_true, seval, tf_B1_201]
 refine zq4 (fun h6 => ?_) (fun h6 => ?_)
 · simp -implicitDefEqProofs only [hw1, hw2, hw3, evF, ↓evZ, implies_true, seval, tf_B1_201]
   rw [if_pos (by simpa using h6)]
   refine (c_l5Ranged _ _).to ?_
   simp -implicitDefEqProofs only [hw1, hw2, hw3, evF, ↓evZ, implies_true, seval, tf_B1_201]
 rw [if_neg (by simpa using h6)]
 simp -implicitDefEqProofs only [hw1, hw2, hw3, evF, ↓evZ, implies_true, seval, tf_B1_201]
 refine zq4 (fun h7 => ?_) (fun h7 => ?_)
 · simp -implicitDefEqProofs only [hw1, hw2, hw3, evF, ↓evZ, implies_true, seval, tf_B1_201]
   rw [if_pos (by simpa using h7)]
   refine (c_l5Ranged _ _).to ?_
   simp -implicitDefEqProofs only [hw1, hw2, hw3, evF, ↓evZ, implies_true, seval, tf_B1_201]
 rw [if_neg (by simpa using h7)]
 simp -implicitDefEqProofs only [hw1, hw2, hw3, evF, ↓evZ, implies_true, seval, tf_B1_201]
 refine zq4 (fun h9 => ?_) (fun h9 => ?_)
 · simp -implicitDefEqProofs only [hw1, hw2, hw3, evF, ↓evZ, implies_true, seval, tf_B1_201]
   rw [if_pos (by simpa using h9)]
   refine (c_l5Ranged _ _).to ?_
   simp -implicitDefEqProofs only [hw1, hw2, hw3, evF, ↓evZ, implies_true, seval, tf_B1_201]
 rw [if_neg (by simpa using h9)]
 simp -implicitDefEqProofs only [hw1, hw2, hw3, evF, ↓evZ, implies_true, seval, tf_B1_201]
 refine zq4 (fun h0 => ?_) (fun h0 => ?_)
 · simp -implicitDefEqProofs only [hw1, hw2, hw3, evF, ↓evZ, implies_true, seval, tf_B1_201]
   rw [if_pos (by simpa using h0)]
 have h0' : b ≠ 0 := by simpa using h0
 rw [if_neg h0']
 simp -implicitDefEqProofs only [hw1, hw2, hw3, evF, ↓evZ, implies_true, seval, tf_B1_201]
 refine zq4 (fun h10 => ?_) (fun h10 => ?_)
 · simp -implicitDefEqProofs only [hw1, hw2, hw3, evF, ↓evZ, implies_true, seval, tf_B1_201]
   rw [if_pos (by simpa using h10)]
   refine (hMod h0' _).to ?_
   simp -implicitDefEqProofs only [hw1, hw2, hw3, evF, ↓evZ, implies_true, seval, tf_B1_201]
 · simp -implicitDefEqProofs only [hw1, hw2, hw3, evF, ↓evZ, implies_true, seval, tf_B1_201]
   rw [if_neg (by simpa using h10)]
   refine (hDiv h0' _).to ?_
   simp -implicitDefEqProofs only [hw1, hw2, hw3, evF, ↓evZ, implies_true, seval, tf_B1_201]
theorem arLevel (s : ByteArray) : inN arNames s = decide (opLevel s = 1 ∨ opLevel s = 2) := by
 unfold inN arNames opLevel
 simp only [List.any_cons, List.any_nil, Bool.or_false]
 by_cases h1 : s = ⟨#[43]⟩
 · subst h1; decide
 by_cases h2 : s = ⟨#[45]⟩
 · subst h2; decide
 by_cases h3 : s = ⟨#[42]⟩
 · subst h3; decide
 by_cases h4 : s = ⟨#[47, 47]⟩
 · subst h4; decide
 by_cases h5 : s = ⟨#[109, 111, 100]⟩
 · subst h5; decide
 simp only [h1, h2, h3, h4, h5, decide_false, Bool.or_false, cond_false]
 cases (decide (s = ⟨#[61]⟩) || decide (s = ⟨#[92, 61]⟩) || decide (s = ⟨#[61, 61]⟩) || decide (s = ⟨#[60]⟩) || decide (s = ⟨#[62]⟩) || decide (s = ⟨#[61, 60]⟩) || decide (s = ⟨#[62, 61]⟩) || decide (s = ⟨#[61, 58, 61]⟩) || decide (s = ⟨#[105, 115]⟩)) <;> rfl
abbrev tf_B1_179 := zi tI_3 (zi zI_3 (zi underlying3 (zi tI_9 (zi zI_9 (zi underlying9 (zi tI_31 (zi zI_31 (zi eI_31 (zi eB_31 (zi eZ_31 (zi underlying31 (zi tI_42 (zi zI_42 (zi fI_42_0 (zi fI_42_1 (zi fI_42_2 (zi fI_42_3 bI_42)))))))))))))))))
theorem c_l5Arith {N : Int} : ∀ (t : Tm) (st : zy7), OkV N t → zq7 prog 179 [t.av] st (fun r st' => r = .tup [.int .i64 t.ev.1, .int .i64 t.ev.2] ∧ st' = st)
 | .mk k n s ts, st, hok => by
  obtain ⟨h1, h2⟩ := hok.all
  have IH := fun (x : Tm) (hx : x ∈ ts) st => c_l5Arith x st (h2 x hx)
  rw [Tm.ev_mk]
  simp only [Tm.av_mk]
  refine wF [1000000] 1 func179 ntmps179 rfl rfl ?_
  intro _
  simp -implicitDefEqProofs only [List.length_map, evF, ↓evZ, implies_true, seval, tf_B1_179]
  refine zq4 (fun hk1 => ?_) (fun hk1 => ?_)
  · simp -implicitDefEqProofs only [List.length_map, evF, ↓evZ, implies_true, seval, tf_B1_179]
    simp only [decide_eq_true_eq] at hk1
    rw [if_neg (by omega), if_pos hk1]
  simp only [decide_eq_false_iff_not] at hk1
  rw [if_neg hk1]
  simp -implicitDefEqProofs only [List.length_map, evF, ↓evZ, implies_true, seval, tf_B1_179]
  refine zq4 (fun hk => ?_) (fun hk => ?_)
  · simp -implicitDefEqProofs only [List.length_map, evF, ↓evZ, implies_true, seval, tf_B1_179]
    simp only [decide_eq_true_eq] at hk
    simp [hk]
  simp only [decide_eq_false_iff_not] at hk
  rw [if_neg hk]
  simp -implicitDefEqProofs only [List.length_map, evF, ↓evZ, implies_true, seval, tf_B1_179]
  refine (c_l2Level s _).to ?_
  simp -implicitDefEqProofs only [List.length_map, evF, ↓evZ, implies_true, seval, tf_B1_179]
  have hty : ∀ s0 : zy7, ts.length ≠ 2 ∨ inN arNames s = false → (if inN arNames s = true then two (arOp s) (ts.map Tm.ev) else (0, 3)) = ((0 : Int), (3 : Int)) := fun _ h => by
   split
   · rename_i h3
     rcases h with h | h
     · match ts, h with
       | [], _ => rfl
       | [x], _ => rfl
       | [x, y], h => simp at h
       | x :: y :: z :: l, _ => rfl
     · rw [h] at h3; cases h3
   · rfl
  refine zx4 (fun h => ?_) (fun h => ?_)
  case refine_2 =>
   simp -implicitDefEqProofs only [h, List.length_map, evF, ↓evZ, implies_true, seval, tf_B1_179]
   rw [hty st (.inl (by simp at h; omega))]
  simp -implicitDefEqProofs only [h, List.length_map, evF, ↓evZ, implies_true, seval, tf_B1_179]
  have hlev : inN arNames s = false → opLevel s ≠ 1 ∧ opLevel s ≠ 2 := fun h => by
   rw [arLevel] at h
   have := of_decide_eq_false h
   omega
  refine zx4 (fun h3 => ?_) (fun h3 => ?_)
  · simp -implicitDefEqProofs only [h3, List.length_map, evF, ↓evZ, implies_true, seval, tf_B1_179]
    have h3' : opLevel s ≠ 1 := by simp at h3; omega
    refine zq4 (fun h6 => ?_) (fun h6 => ?_)
    · have h6' : opLevel s ≠ 2 := by simp at h6; omega
      simp -implicitDefEqProofs only [List.length_map, evF, ↓evZ, implies_true, seval, tf_B1_179]
      rw [hty st (.inr (by rw [arLevel]; simp [h3', h6']))]
    · have h6' : opLevel s = 2 := by simp at h6; omega
      have hin : inN arNames s = true := by rw [arLevel]; simp [h6']
      simp -implicitDefEqProofs only [List.length_map, evF, ↓evZ, implies_true, seval, tf_B1_179]
      rw [if_pos hin]
      clear hty hlev
      obtain ⟨x, y, rfl⟩ := two_kids (by simpa using h)
      have hat0 : aIndexAddr prog 31 (.slice [x.av, y.av]) (.int .i64 0) = some (.pptr x.av) := ev_at (av := Tm.av) (l := [x, y]) (i := 0) eI_31 rfl (Tm.av_width x)
      have hat1 : aIndexAddr prog 31 (.slice [x.av, y.av]) (.int .i64 1) = some (.pptr y.av) := ev_at (av := Tm.av) (l := [x, y]) (i := 1) eI_31 rfl (Tm.av_width y)
      have hx := Tm.ev_in x (h2 x (by simp))
      have hy := Tm.ev_in y (h2 y (by simp))
      have IHx := fun st => IH x (by simp) st
      have IHy := fun st => IH y (by simp) st
      simp only [List.map_cons, List.map_nil, two, both]
      simp -implicitDefEqProofs only [hat0, hat1, Tm.av_agg, Tm.av_width, evF, ↓evZ, implies_true, seval, tf_B1_179]
      refine (IHx _).to ?_
      generalize x.ev.1 = a at *
      generalize x.ev.2 = ca at *
      generalize y.ev.1 = b at *
      generalize y.ev.2 = cb at *
      simp -implicitDefEqProofs only [hat0, hat1, Tm.av_agg, Tm.av_width, evF, ↓evZ, implies_true, seval, tf_B1_179]
      refine zq4 (fun h4 => ?_) (fun h4 => ?_)
      · simp -implicitDefEqProofs only [hat0, hat1, Tm.av_agg, Tm.av_width, evF, ↓evZ, implies_true, seval, tf_B1_179]
        have h4' : ca ≠ 0 := by simpa using h4
        rw [if_pos h4']
      have h4' : ca = 0 := by simpa using h4
      subst h4'
      rw [if_neg (by simp)]
      simp -implicitDefEqProofs only [hat0, hat1, Tm.av_agg, Tm.av_width, evF, ↓evZ, implies_true, seval, tf_B1_179]
      refine (IHy _).to ?_
      simp -implicitDefEqProofs only [hat0, hat1, Tm.av_agg, Tm.av_width, evF, ↓evZ, implies_true, seval, tf_B1_179]
      refine zq4 (fun h5 => ?_) (fun h5 => ?_)
      · simp -implicitDefEqProofs only [hat0, hat1, Tm.av_agg, Tm.av_width, evF, ↓evZ, implies_true, seval, tf_B1_179]
        have h5' : cb ≠ 0 := by simpa using h5
        rw [if_pos h5']
      have h5' : cb = 0 := by simpa using h5
      subst h5'
      rw [if_neg (by simp)]
      simp -implicitDefEqProofs only [hat0, hat1, Tm.av_agg, Tm.av_width, evF, ↓evZ, implies_true, seval, tf_B1_179]
      refine (c_l5Op s a b hx hy _).to ?_
      simp -implicitDefEqProofs only [hat0, hat1, Tm.av_agg, Tm.av_width, evF, ↓evZ, implies_true, seval, tf_B1_179]
  · have h3' : opLevel s = 1 := by simp at h3; omega
    have hin : inN arNames s = true := by rw [arLevel]; simp [h3']
    simp -implicitDefEqProofs only [h3, List.length_map, evF, ↓evZ, implies_true, seval, tf_B1_179]
    rw [if_pos hin]
    clear hty hlev
    obtain ⟨x, y, rfl⟩ := two_kids (by simpa using h)
    have hat0 : aIndexAddr prog 31 (.slice [x.av, y.av]) (.int .i64 0) = some (.pptr x.av) := ev_at (av := Tm.av) (l := [x, y]) (i := 0) eI_31 rfl (Tm.av_width x)
    have hat1 : aIndexAddr prog 31 (.slice [x.av, y.av]) (.int .i64 1) = some (.pptr y.av) := ev_at (av := Tm.av) (l := [x, y]) (i := 1) eI_31 rfl (Tm.av_width y)
    have hx := Tm.ev_in x (h2 x (by simp))
    have hy := Tm.ev_in y (h2 y (by simp))
    have IHx := fun st => IH x (by simp) st
    have IHy := fun st => IH y (by simp) st
    simp only [List.map_cons, List.map_nil, two, both]
    simp -implicitDefEqProofs only [hat0, hat1, Tm.av_agg, Tm.av_width, evF, ↓evZ, implies_true, seval, tf_B1_179]
    refine (IHx _).to ?_
    generalize x.ev.1 = a at *
    generalize x.ev.2 = ca at *
    generalize y.ev.1 = b at *
    generalize y.ev.2 = cb at *
    simp -implicitDefEqProofs only [hat0, hat1, Tm.av_agg, Tm.av_width, evF, ↓evZ, implies_true, seval, tf_B1_179]
    refine zq4 (fun h4 => ?_) (fun h4 => ?_)
    · simp -implicitDefEqProofs only [hat0, hat1, Tm.av_agg, Tm.av_width, evF, ↓evZ, implies_true, seval, tf_B1_179]
      have h4' : ca ≠ 0 := by simpa using h4
      rw [if_pos h4']
    have h4' : ca = 0 := by simpa using h4
    subst h4'
    rw [if_neg (by simp)]
    simp -implicitDefEqProofs only [hat0, hat1, Tm.av_agg, Tm.av_width, evF, ↓evZ, implies_true, seval, tf_B1_179]
    refine (IHy _).to ?_
    simp -implicitDefEqProofs only [hat0, hat1, Tm.av_agg, Tm.av_width, evF, ↓evZ, implies_true, seval, tf_B1_179]
    refine zq4 (fun h5 => ?_) (fun h5 => ?_)
    · simp -implicitDefEqProofs only [hat0, hat1, Tm.av_agg, Tm.av_width, evF, ↓evZ, implies_true, seval, tf_B1_179]
      have h5' : cb ≠ 0 := by simpa using h5
      rw [if_pos h5']
    have h5' : cb = 0 := by simpa using h5
    subst h5'
    rw [if_neg (by simp)]
    simp -implicitDefEqProofs only [hat0, hat1, Tm.av_agg, Tm.av_width, evF, ↓evZ, implies_true, seval, tf_B1_179]
    refine (c_l5Op s a b hx hy _).to ?_
    simp -implicitDefEqProofs only [hat0, hat1, Tm.av_agg, Tm.av_width, evF, ↓evZ, implies_true, seval, tf_B1_179]
termination_by t => SizeOf.sizeOf t
decreasing_by have := List.sizeOf_lt_of_mem hx; simp only [Tm.mk.sizeOf_spec]; omega
abbrev tf_V1_59 := zi tI_3 (zi zI_3 (zi underlying3 (zi tI_58 (zi zI_58 (zi eI_58 (zi eB_58 (zi eZ_58 underlying58)))))))
theorem c_IndexInt (l : List Int) (v : Int) (st : zy7) : zq7 prog 59 [.slice (l.map iv), .int .i64 v] st (fun r st' => r = .int .i64 (idxI v l 0) ∧ st' = st) := by
 refine wF [] 2 func59 ntmps59 rfl rfl ?_
 simp only [fitsL, AV.fits, and_true, List.length_map]
 intro ⟨hl, _⟩
 simp -implicitDefEqProofs only [List.length_map, evF, ↓evZ, implies_true, seval, tf_V1_59]
 refine zy5 (σ := Unit) [] [0, 1, 7] l (fun i _ => idxI v l 0 = idxI v (l.drop i) i) (fun i _ => [(8, .int .i64 i)]) (fun _ _ => st) (by decide +kernel) ⟨(), rfl, zx7.mk (by simp -implicitDefEqProofs only [evF, ↓evZ, implies_true, seval, tf_V1_59])⟩ (fun i x _ hx hlt hlt' hdr hinv => ?_) (fun _ hge hinv => ?_)
 case refine_2 =>
  simp -implicitDefEqProofs only [List.length_map, hge, evF, ↓evZ, implies_true, seval, tf_V1_59]
  rw [hinv, List.drop_length]
  rfl
 rw [hdr, idxI] at hinv
 have hw := wrap64 (n := (i : Int) + 1) (by omega) (by omega)
 simp -implicitDefEqProofs only [List.length_map, hlt', ev_at (av := iv) eI_58 hx rfl, evF, ↓evZ, implies_true, seval, tf_V1_59]
 refine zq4 (fun h => ?_) (fun h => ?_)
 · simp only [decide_eq_true_eq] at h
   rw [if_pos h] at hinv
   simp -implicitDefEqProofs only [hinv, evF, ↓evZ, implies_true, seval, tf_V1_59]
 · simp only [decide_eq_false_iff_not] at h
   rw [if_neg h] at hinv
   simp -implicitDefEqProofs only [evF, ↓evZ, implies_true, seval, tf_V1_59]
   exact ⟨(), by rw [hinv], zx7.mk (by simp -implicitDefEqProofs only [hw, evF, ↓evZ, implies_true, seval, tf_V1_59])⟩
abbrev tf_V1_159 := zi tI_3 (zi zI_3 (zi underlying3 (zi tI_4 (zi zI_4 (zi underlying4 (zi tI_58 (zi zI_58 (zi eI_58 (zi eB_58 (zi eZ_58 underlying58))))))))))
theorem c_ContainsInt (l : List Int) (v : Int) (st : zy7) : zq7 prog 159 [.slice (l.map iv), .int .i64 v] st (fun r st' => r = .bool (decide (v ∈ l)) ∧ st' = st) := by
 refine wF [] 2 func159 ntmps159 rfl rfl ?_
 intro _
 simp -implicitDefEqProofs only [evF, ↓evZ, implies_true, seval, tf_V1_159]
 refine (c_IndexInt l v st).to ?_
 simp -implicitDefEqProofs only [idxI_mem v l 0 (Int.le_refl 0), evF, ↓evZ, implies_true, seval, tf_V1_159]
theorem seenInts {st : zy7} {b : Nat} {l : List Int} {os xs : List AV} (h : Seen (accS st b (l.map iv)) none0' os xs) : Seen (accS st b (l.map iv)) none0' (accV 1 b (l.map iv) :: os) (.slice (l.map iv) :: xs) :=
 Seen.own (own_acc (OwnL.flat (by simp [AV.flat])) (by intro e h; simp only [List.mem_map] at h; obtain ⟨t, _, rfl⟩ := h; rfl)) h
def Grown (st : zy7) (l : List Int) (r : AV) (st' : zy7) : Prop := ∃ b', r = accV 1 b' (l.map iv) ∧ st' = accS st b' (l.map iv) ∧ (l.map iv ≠ [] → st b' = none)
abbrev tf_V1_107 := zi tI_3 (zi zI_3 (zi underlying3 (zi tI_4 (zi zI_4 (zi underlying4 (zi tI_31 (zi zI_31 (zi eI_31 (zi eB_31 (zi eZ_31 (zi underlying31 (zi tI_42 (zi zI_42 (zi fI_42_0 (zi fI_42_1 (zi fI_42_2 (zi fI_42_3 (zi bI_42 (zi tI_58 (zi zI_58 (zi eI_58 (zi eB_58 (zi eZ_58 underlying58)))))))))))))))))))))))
theorem c_addVars : ∀ (t : Tm) (l : List Int) (b : Nat) (st : zy7), (l.map iv ≠ [] → st b = none) → l.length + t.nodes ≤ 1099511627776 → zq7 prog 107 [t.av, accV 1 b (l.map iv)] (accS st b (l.map iv)) (Grown st (t.vars l))
 | .mk k n s ts, l, b, st, hb, hsz => by
  have IH := fun (x : Tm) (hx : x ∈ ts) => c_addVars x
  simp only [Tm.vars]
  rw [Tm.nodes_mk] at hsz
  refine wF [] 2 func107 ntmps107 rfl rfl ?_
  simp only [Tm.av_mk, fitsL, AV.fits, and_true, List.length_map]
  intro ⟨⟨_, _, _, hl, _⟩, _⟩
  simp -implicitDefEqProofs only [evF, ↓evZ, implies_true, seval, tf_V1_107]
  refine zx4 (fun h => ?_) (fun h => ?_)
  · simp only [decide_eq_true_eq] at h
    subst h
    simp -implicitDefEqProofs only [evF, ↓evZ, implies_true, seval, tf_V1_107]
    refine (zq7.see (fun s => c_ContainsInt l n s) (seenInts (Seen.same .nil)) rfl).to ?_
    simp -implicitDefEqProofs only [evF, ↓evZ, implies_true, seval, tf_V1_107]
    refine zq4 (fun h => ?_) (fun h => ?_)
    · simp only [Bool.not_eq_true', decide_eq_false_iff_not] at h
      rw [if_pos h]
      simp -implicitDefEqProofs only [evF, ↓evZ, implies_true, seval, tf_V1_107]
      refine acc_append eI_58 eB_58 eZ_58 rfl rfl (by intro e he; simp only [List.mem_cons, List.not_mem_nil, or_false] at he; subst he; exact ⟨rfl, rfl⟩) (by intro e h; simp only [List.mem_map] at h; obtain ⟨t, _, rfl⟩ := h; rfl) hb (by simp; omega) (by simp; omega) (fun b' hb' => ?_)
      rw [show l.map iv ++ [AV.int .i64 n] = (l ++ [n]).map iv by simp] at hb' ⊢
      simp -implicitDefEqProofs only [evF, ↓evZ, implies_true, seval, tf_V1_107]
      refine zy5 (σ := List Int × Nat) [] [4, 23, 24] ts (fun i p => tmsVars (ts.drop i) p.1 = tmsVars ts (l ++ [n]) ∧ p.1.length + sumL Tm.nodes (ts.drop i) ≤ 1099511627776 ∧ (p.1.map iv ≠ [] → st p.2 = none)) (fun i p => [(1, accV 1 p.2 (p.1.map iv)), (25, .int .i64 i)]) (fun _ p => accS st p.2 (p.1.map iv)) (by decide +kernel)
       ⟨(l ++ [n], b'), ⟨rfl, by simp; omega, hb'⟩, zx7.mk (by simp -implicitDefEqProofs only [List.length_map, evF, ↓evZ, implies_true, seval, tf_V1_107])⟩ (fun i x p hx hlt hlt' hdr hinv => ?_) (fun p hge hinv => ?_)
      case refine_2 =>
       simp -implicitDefEqProofs only [List.length_map, hge, evF, ↓evZ, implies_true, seval, tf_V1_107]
       rw [← hinv.1, List.drop_length]
       exact ⟨p.2, rfl, rfl, hinv.2.2⟩
      obtain ⟨acc, b⟩ := p
      rw [hdr] at hinv
      obtain ⟨i1, i2, i3⟩ := hinv
      simp only [sumL] at i2
      have hw := wrap64 (n := (i : Int) + 1) (by omega) (by omega)
      simp -implicitDefEqProofs only [List.length_map, hlt', ev_at (av := Tm.av) eI_31 hx (Tm.av_width x), Tm.av_agg, Tm.av_width, evF, ↓evZ, implies_true, seval, tf_V1_107]
      intro b2 hb2
      obtain ⟨hn2, hne⟩ := accS_none hb2
      have hc2 : [AV.int IntKind.i64 0, AV.int IntKind.i64 0, AV.str ⟨#[]⟩, AV.fslice []].length = 4 := rfl
      try simp -implicitDefEqProofs only [zy7.upd_upd, set_all (x := x.av.cells) (Tm.av_cells x) hc2, Tm.av_cells, Tm.av_store, take_all (Tm.av_cells x), agg_cells (Tm.av_agg x), Nat.le_refl, evF, ↓evZ, implies_true, seval, tf_V1_107]
      rw [accS_upd hne]
      refine (IH x (List.mem_of_getElem? hx) acc b _ (fun h => by rw [zy7.upd_ne _ _ (Ne.symm (hne h))]; exact i3 h) (by omega)).mono ?_
      rintro _ _ ⟨b', rfl, rfl, hb'⟩
      simp -implicitDefEqProofs only [hw, evF, ↓evZ, implies_true, seval, tf_V1_107]
      obtain ⟨hd, hb''⟩ := accS_drop (o := .cells x.av.cells) hn2 hb'
      have hvl := Tm.vars_len x acc
      refine ⟨(x.vars acc, b'), ⟨i1, by simp only; omega, hb''⟩, zx7.drop hd (by simp -implicitDefEqProofs only [evF, ↓evZ, implies_true, seval, tf_V1_107])⟩
    · simp only [Bool.not_eq_false', decide_eq_true_eq] at h
      rw [if_neg (by simp [h])]
      simp -implicitDefEqProofs only [evF, ↓evZ, implies_true, seval, tf_V1_107]
      refine zy5 (σ := List Int × Nat) [] [4, 23, 24] ts (fun i p => tmsVars (ts.drop i) p.1 = tmsVars ts (l) ∧ p.1.length + sumL Tm.nodes (ts.drop i) ≤ 1099511627776 ∧ (p.1.map iv ≠ [] → st p.2 = none)) (fun i p => [(1, accV 1 p.2 (p.1.map iv)), (25, .int .i64 i)]) (fun _ p => accS st p.2 (p.1.map iv)) (by decide +kernel)
       ⟨(l, b), ⟨rfl, by simp; omega, hb⟩, zx7.mk (by simp -implicitDefEqProofs only [List.length_map, evF, ↓evZ, implies_true, seval, tf_V1_107])⟩ (fun i x p hx hlt hlt' hdr hinv => ?_) (fun p hge hinv => ?_)
      case refine_2 =>
       simp -implicitDefEqProofs only [List.length_map, hge, evF, ↓evZ, implies_true, seval, tf_V1_107]
       rw [← hinv.1, List.drop_length]
       exact ⟨p.2, rfl, rfl, hinv.2.2⟩
      obtain ⟨acc, b⟩ := p
      rw [hdr] at hinv
      obtain ⟨i1, i2, i3⟩ := hinv
      simp only [sumL] at i2
      have hw := wrap64 (n := (i : Int) + 1) (by omega) (by omega)
      simp -implicitDefEqProofs only [List.length_map, hlt', ev_at (av := Tm.av) eI_31 hx (Tm.av_width x), Tm.av_agg, Tm.av_width, evF, ↓evZ, implies_true, seval, tf_V1_107]
      intro b2 hb2
      obtain ⟨hn2, hne⟩ := accS_none hb2
      have hc2 : [AV.int IntKind.i64 0, AV.int IntKind.i64 0, AV.str ⟨#[]⟩, AV.fslice []].length = 4 := rfl
      try simp -implicitDefEqProofs only [zy7.upd_upd, set_all (x := x.av.cells) (Tm.av_cells x) hc2, Tm.av_cells, Tm.av_store, take_all (Tm.av_cells x), agg_cells (Tm.av_agg x), Nat.le_refl, evF, ↓evZ, implies_true, seval, tf_V1_107]
      rw [accS_upd hne]
      refine (IH x (List.mem_of_getElem? hx) acc b _ (fun h => by rw [zy7.upd_ne _ _ (Ne.symm (hne h))]; exact i3 h) (by omega)).mono ?_
      rintro _ _ ⟨b', rfl, rfl, hb'⟩
      simp -implicitDefEqProofs only [hw, evF, ↓evZ, implies_true, seval, tf_V1_107]
      obtain ⟨hd, hb''⟩ := accS_drop (o := .cells x.av.cells) hn2 hb'
      have hvl := Tm.vars_len x acc
      refine ⟨(x.vars acc, b'), ⟨i1, by simp only; omega, hb''⟩, zx7.drop hd (by simp -implicitDefEqProofs only [evF, ↓evZ, implies_true, seval, tf_V1_107])⟩
  · simp only [Bool.not_true, decide_eq_false_iff_not] at h
    rw [if_neg (by simp [h])]
    simp -implicitDefEqProofs only [h, evF, ↓evZ, implies_true, seval, tf_V1_107]
    refine zy5 (σ := List Int × Nat) [] [4, 23, 24] ts (fun i p => tmsVars (ts.drop i) p.1 = tmsVars ts (l) ∧ p.1.length + sumL Tm.nodes (ts.drop i) ≤ 1099511627776 ∧ (p.1.map iv ≠ [] → st p.2 = none)) (fun i p => [(1, accV 1 p.2 (p.1.map iv)), (25, .int .i64 i)]) (fun _ p => accS st p.2 (p.1.map iv)) (by decide +kernel)
     ⟨(l, b), ⟨rfl, by simp; omega, hb⟩, zx7.mk (by simp -implicitDefEqProofs only [List.length_map, evF, ↓evZ, implies_true, seval, tf_V1_107])⟩ (fun i x p hx hlt hlt' hdr hinv => ?_) (fun p hge hinv => ?_)
    case refine_2 =>
     simp -implicitDefEqProofs only [List.length_map, hge, evF, ↓evZ, implies_true, seval, tf_V1_107]
     rw [← hinv.1, List.drop_length]
     exact ⟨p.2, rfl, rfl, hinv.2.2⟩
    obtain ⟨acc, b⟩ := p
    rw [hdr] at hinv
    obtain ⟨i1, i2, i3⟩ := hinv
    simp only [sumL] at i2
    have hw := wrap64 (n := (i : Int) + 1) (by omega) (by omega)
    simp -implicitDefEqProofs only [List.length_map, hlt', ev_at (av := Tm.av) eI_31 hx (Tm.av_width x), Tm.av_agg, Tm.av_width, evF, ↓evZ, implies_true, seval, tf_V1_107]
    intro b2 hb2
    obtain ⟨hn2, hne⟩ := accS_none hb2
    have hc2 : [AV.int IntKind.i64 0, AV.int IntKind.i64 0, AV.str ⟨#[]⟩, AV.fslice []].length = 4 := rfl
    try simp -implicitDefEqProofs only [zy7.upd_upd, set_all (x := x.av.cells) (Tm.av_cells x) hc2, Tm.av_cells, Tm.av_store, take_all (Tm.av_cells x), agg_cells (Tm.av_agg x), Nat.le_refl, evF, ↓evZ, implies_true, seval, tf_V1_107]
    rw [accS_upd hne]
    refine (IH x (List.mem_of_getElem? hx) acc b _ (fun h => by rw [zy7.upd_ne _ _ (Ne.symm (hne h))]; exact i3 h) (by omega)).mono ?_
    rintro _ _ ⟨b', rfl, rfl, hb'⟩
    simp -implicitDefEqProofs only [hw, evF, ↓evZ, implies_true, seval, tf_V1_107]
    obtain ⟨hd, hb''⟩ := accS_drop (o := .cells x.av.cells) hn2 hb'
    have hvl := Tm.vars_len x acc
    refine ⟨(x.vars acc, b'), ⟨i1, by simp only; omega, hb''⟩, zx7.drop hd (by simp -implicitDefEqProofs only [evF, ↓evZ, implies_true, seval, tf_V1_107])⟩
termination_by t => SizeOf.sizeOf t
decreasing_by have := List.sizeOf_lt_of_mem hx; simp only [Tm.mk.sizeOf_spec]; omega
abbrev tf_V4_56 := zi tI_3 (zi zI_3 (zi underlying3 (zi tI_31 (zi zI_31 (zi eI_31 (zi eB_31 (zi eZ_31 (zi underlying31 (zi tI_42 (zi zI_42 (zi fI_42_0 (zi fI_42_1 (zi fI_42_2 (zi fI_42_3 (zi bI_42 (zi tI_58 (zi zI_58 (zi eI_58 (zi eB_58 (zi eZ_58 underlying58))))))))))))))))))))
theorem c_varsOf (l : List Tm) (st : zy7) (hsz : sumL Tm.nodes l ≤ 1099511627776) : zq7 prog 56 [.slice (l.map Tm.av)] st (fun r st' => r = .slice ((tmsVars l []).map iv) ∧ st' = st) := by
 refine zq7.fin ?_
 refine wF [] 1 func56 ntmps56 rfl rfl ?_
 simp only [fitsL, AV.fits, and_true, List.length_map]
 intro ⟨hl, _⟩
 simp -implicitDefEqProofs only [List.length_map, evF, ↓evZ, implies_true, seval, tf_V4_56]
 refine zy5 (σ := List Int × Nat) [] [2, 6, 7] l (fun i p => tmsVars (l.drop i) p.1 = tmsVars l ([]) ∧ p.1.length + sumL Tm.nodes (l.drop i) ≤ 1099511627776 ∧ (p.1.map iv ≠ [] → st p.2 = none)) (fun i p => [(3, accV 1 p.2 (p.1.map iv)), (8, .int .i64 i)]) (fun _ p => accS st p.2 (p.1.map iv)) (by decide +kernel)
  ⟨([], 0), ⟨rfl, by simp; omega, by simp⟩, zx7.mk (by simp -implicitDefEqProofs only [List.length_map, List.map_nil, accV_nil, accS_nil, evF, ↓evZ, implies_true, seval, tf_V4_56])⟩ (fun i x p hx hlt hlt' hdr hinv => ?_) (fun p hge hinv => ?_)
 case refine_2 =>
  simp -implicitDefEqProofs only [List.length_map, hge, evF, ↓evZ, implies_true, seval, tf_V4_56]
  rw [← hinv.1, List.drop_length]
  exact ⟨p.2, p.1.map iv, st, rfl, hinv.2.2, by simp [AV.isJunk], ⟨1, iv_widths p.1⟩, accV_fin, rfl⟩
 obtain ⟨acc, b⟩ := p
 rw [hdr] at hinv
 obtain ⟨i1, i2, i3⟩ := hinv
 simp only [sumL] at i2
 have hw := wrap64 (n := (i : Int) + 1) (by omega) (by omega)
 simp -implicitDefEqProofs only [List.length_map, hlt', ev_at (av := Tm.av) eI_31 hx (Tm.av_width x), Tm.av_agg, Tm.av_width, evF, ↓evZ, implies_true, seval, tf_V4_56]
 intro b2 hb2
 obtain ⟨hn2, hne⟩ := accS_none hb2
 have hset : ∀ zs : List AV, zs.length = 4 → zy4 zs 0 x.av.cells = x.av.cells := fun zs h => set_all (Tm.av_cells x) h
 try simp -implicitDefEqProofs only [zy7.upd_upd, hset, Tm.av_cells, Tm.av_store, take_all (Tm.av_cells x), agg_cells (Tm.av_agg x), Nat.le_refl, evF, ↓evZ, implies_true, seval, tf_V4_56]
 rw [accS_upd hne]
 refine (c_addVars x acc b _ (fun h => by rw [zy7.upd_ne _ _ (Ne.symm (hne h))]; exact i3 h) (by omega)).mono ?_
 rintro _ _ ⟨b', rfl, rfl, hb'⟩
 simp -implicitDefEqProofs only [hw, evF, ↓evZ, implies_true, seval, tf_V4_56]
 obtain ⟨hd, hb''⟩ := accS_drop (o := .cells x.av.cells) hn2 hb'
 have hvl := Tm.vars_len x acc
 exact ⟨(x.vars acc, b'), ⟨i1, by simp only; omega, hb''⟩, zx7.drop hd (by simp -implicitDefEqProofs only [evF, ↓evZ, implies_true, seval, tf_V4_56])⟩
abbrev tf_V4_138 := zi tI_3 (zi zI_3 (zi underlying3 (zi tI_31 (zi zI_31 (zi eI_31 (zi eB_31 (zi eZ_31 (zi underlying31 (zi tI_42 (zi zI_42 (zi fI_42_0 (zi fI_42_1 (zi fI_42_2 (zi fI_42_3 (zi bI_42 (zi tI_58 (zi zI_58 (zi eI_58 (zi eB_58 (zi eZ_58 underlying58))))))))))))))))))))
theorem c_l1Vars : ∀ (t : Tm) (l : List Int) (b : Nat) (st : zy7), t.wf = true → (l.map iv ≠ [] → st b = none) → l.length + t.nodes ≤ 1099511627776 → zq7 prog 138 [accV 1 b (l.map iv), t.av] (accS st b (l.map iv)) (Grown st (t.vars l))
 | .mk k n s ts, l, b, st, hwf, hb, hsz => by
  obtain ⟨hk, hwfs⟩ := Tm.wf_mk hwf
  have IH := fun (x : Tm) (hx : x ∈ ts) l b st => c_l1Vars x l b st (hwfs x hx)
  have haL := accV_len (w := 1) (b := b) (l := l.map iv) underlying58
  simp only [Tm.vars]
  rw [Tm.nodes_mk] at hsz
  refine wF [] 2 func138 ntmps138 rfl rfl ?_
  simp only [Tm.av_mk, fitsL, AV.fits, and_true, List.length_map]
  intro ⟨_, ⟨_, _, _, hl, _⟩⟩
  simp -implicitDefEqProofs only [evF, ↓evZ, implies_true, seval, tf_V4_138]
  refine zq4 (fun h => ?_) (fun h => ?_)
  · simp only [decide_eq_true_eq] at h
    obtain rfl := hk h
    subst h
    simp -implicitDefEqProofs only [evF, ↓evZ, implies_true, seval, tf_V4_138]
    have hnn : l.length ≤ 1099511627776 := by omega
    refine zy5 (σ := Unit) [] [0, 3] l (fun i _ => ∀ y ∈ l.take i, y ≠ n) (fun i _ => [(5, .int .i64 i)]) (fun _ _ => accS st b (l.map iv)) (by decide +kernel) ⟨(), by simp, zx7.mk (by simp -implicitDefEqProofs only [evF, ↓evZ, implies_true, seval, tf_V4_138])⟩ (fun i x _ hx hlt hlt' hdr hinv => ?_) (fun _ hge hinv => ?_)
    case refine_2 =>
     rw [List.take_length] at hinv
     have hmem : n ∉ l := fun h => hinv n h rfl
     simp -implicitDefEqProofs only [haL, List.length_map, hge, evF, ↓evZ, implies_true, seval, tf_V4_138]
     refine acc_append eI_58 eB_58 eZ_58 rfl rfl (by intro e he; simp only [List.mem_cons, List.not_mem_nil, or_false] at he; subst he; exact ⟨rfl, rfl⟩) (iv_widths l) hb (by simp; omega) (by simp; omega) (fun b' hb' => ?_)
     rw [show l.map iv ++ [AV.int .i64 n] = (l ++ [n]).map iv by simp] at hb' ⊢
     simp -implicitDefEqProofs only [evF, ↓evZ, implies_true, seval, tf_V4_138]
     exact ⟨b', by simp [tmsVars, hmem], by simp [tmsVars, hmem], by simp only [tmsVars, hmem, not_false_eq_true, and_self, if_true]; exact hb'⟩
    have hat := acc_at (b := b) (l := l.map iv) (i := i) (x := iv x) eI_58 (by rw [List.getElem?_map, hx]; rfl)
    obtain ⟨hblk, hget⟩ := acc_blk (st := st) (b := b) hx
    have hw := wrap64 (n := (i : Int) + 1) (by omega) (by omega)
    simp -implicitDefEqProofs only [haL, List.length_map, hlt', evF, ↓evZ, implies_true, seval, tf_V4_138]
    refine arun_drawA mixed (by decide +kernel) (by decide +kernel) ?_
    simp -implicitDefEqProofs only [hat, hblk, hget, Nat.mul_one, evF, ↓evZ, implies_true, seval, tf_V4_138]
    refine zq4 (fun h => ?_) (fun h => ?_)
    · simp only [decide_eq_true_eq] at h
      subst h
      have hmem := List.mem_of_getElem? hx
      simp -implicitDefEqProofs only [evF, ↓evZ, implies_true, seval, tf_V4_138]
      exact ⟨b, by simp [tmsVars, hmem], by simp [tmsVars, hmem], by simp only [tmsVars, hmem, not_true_eq_false, and_false, if_false]; exact hb⟩
    · simp only [decide_eq_false_iff_not] at h
      simp -implicitDefEqProofs only [evF, ↓evZ, implies_true, seval, tf_V4_138]
      refine ⟨(), ?_, zx7.mk (by simp -implicitDefEqProofs only [hw, evF, ↓evZ, implies_true, seval, tf_V4_138])⟩
      intro y hy
      rw [List.take_add_one, hx] at hy
      rcases List.mem_append.1 hy with hy | hy
      · exact hinv y hy
      · simp at hy; subst hy; exact h
  · simp only [decide_eq_false_iff_not] at h
    rw [if_neg (by simp [h])]
    simp -implicitDefEqProofs only [evF, ↓evZ, implies_true, seval, tf_V4_138]
    refine zy5 (σ := List Int × Nat) [] [3, 4] ts (fun i p => tmsVars (ts.drop i) p.1 = tmsVars ts l ∧ p.1.length + sumL Tm.nodes (ts.drop i) ≤ 1099511627776 ∧ (p.1.map iv ≠ [] → st p.2 = none)) (fun i p => [(0, accV 1 p.2 (p.1.map iv)), (6, .int .i64 i)]) (fun _ p => accS st p.2 (p.1.map iv)) (by decide +kernel)
     ⟨(l, b), ⟨rfl, by simp; omega, hb⟩, zx7.mk (by simp -implicitDefEqProofs only [List.length_map, evF, ↓evZ, implies_true, seval, tf_V4_138])⟩ (fun i x p hx hlt hlt' hdr hinv => ?_) (fun p hge hinv => ?_)
    case refine_2 =>
     simp -implicitDefEqProofs only [List.length_map, hge, evF, ↓evZ, implies_true, seval, tf_V4_138]
     rw [← hinv.1, List.drop_length]
     exact ⟨p.2, rfl, rfl, hinv.2.2⟩
    obtain ⟨acc, b⟩ := p
    rw [hdr] at hinv
    obtain ⟨i1, i2, i3⟩ := hinv
    simp only [sumL] at i2
    have hw := wrap64 (n := (i : Int) + 1) (by omega) (by omega)
    simp -implicitDefEqProofs only [List.length_map, hlt', ev_at (av := Tm.av) eI_31 hx (Tm.av_width x), Tm.av_agg, Tm.av_width, evF, ↓evZ, implies_true, seval, tf_V4_138]
    refine (IH x (List.mem_of_getElem? hx) acc b st i3 (by omega)).mono ?_
    rintro _ _ ⟨b', rfl, rfl, hb'⟩
    have hvl := Tm.vars_len x acc
    simp -implicitDefEqProofs only [hw, evF, ↓evZ, implies_true, seval, tf_V4_138]
    exact ⟨(x.vars acc, b'), ⟨i1, by simp only; omega, hb'⟩, zx7.mk (by simp -implicitDefEqProofs only [evF, ↓evZ, implies_true, seval, tf_V4_138])⟩
termination_by t => SizeOf.sizeOf t
decreasing_by have := List.sizeOf_lt_of_mem hx; simp only [Tm.mk.sizeOf_spec]; omega
theorem arr_reads {A C B : List AV} {n : Nat} (hA : A.length = n) (hC : C.length = 4) :
 (n + 4 ≤ (A ++ C ++ B).length) ∧ List.take 4 (List.drop n (A ++ C ++ B)) = C ∧ (A ++ C ++ B)[n + 0]? = C[0]? := by
 refine ⟨by simp only [List.length_append]; omega, ?_, (midE (A := A) (B := B) hA).2.2.1 C 0 (by omega)⟩
 rw [← hA, List.append_assoc, List.drop_left, ← hC, List.take_left]
abbrev OkN (t : Tm) : Prop := t.okA = true ∧ t.nodes ≤ 120
end Go.AW
namespace Go.AW
def itm (n : Int) : Tm := .mk 2 n ⟨#[]⟩ []
theorem itm_valid {n : Int} (h : InR n) : (itm n).valid = true := by
 have ho : (itm n).okA = true := by
  unfold itm
  rw [Tm.okA_mk]
  simp [ownOk, h.1, h.2]
 rw [Tm.valid_iff ho]
 simp [itm, Tm.nodes_mk, sumL, Tm.flat_succ]
def codeB (b : Bool) : Int := if b = true then 0 else 1
def cmpH (s : ByteArray) (a b : Int) : Bool :=
 if s = ⟨#[60]⟩ then decide (a < b) else if s = ⟨#[62]⟩ then decide (b < a) else if s = ⟨#[61, 60]⟩ then decide (a ≤ b) else if s = ⟨#[62, 61]⟩ then decide (b ≤ a) else decide (a = b)
def testB (s : ByteArray) (x : Tm) : Bool :=
 if s = ⟨#[118, 97, 114]⟩ then decide (x.k = 1) else if s = ⟨#[110, 111, 110, 118, 97, 114]⟩ then !decide (x.k = 1) else if s = ⟨#[97, 116, 111, 109]⟩ then decide (x.k = 3) && decide ((x.ts.length : Int) = 0) else decide (x.k = 2)
def cmpC (s : ByteArray) (x y : Tm) : Int := (both (fun a b => (0, codeB (cmpH s a b))) x.ev y.ev).2
def argT (x y : Tm) : Option Tm := if 1 ≤ x.n ∧ x.n ≤ y.ts.length then y.ts[(x.n - 1).toNat]? else none
structure SolB (σ : Sub) : Prop where
 good : IsGood σ
 okA : AllS (fun t => t.okA = true) σ
 okN : AllS OkN σ
theorem argT_mem {x y u : Tm} (h : argT x y = some u) : u ∈ y.ts := by
 unfold argT at h
 split at h
 · exact List.mem_of_getElem? h
 · cases h
theorem bi_cases {s : ByteArray} {n : Nat} (h : isBuiltin s (n : Int) = true) :
 (n = 2 ∧ (inN cmpNames s = true ∨ s = ⟨#[61]⟩ ∨ s = ⟨#[92, 61]⟩ ∨ s = ⟨#[61, 61]⟩ ∨ s = ⟨#[105, 115]⟩)) ∨ (n = 0 ∧ (s = ⟨#[116, 114, 117, 101]⟩ ∨ s = ⟨#[102, 97, 105, 108]⟩)) ∨
 (n = 1 ∧ (s = ⟨#[118, 97, 114]⟩ ∨ s = ⟨#[110, 111, 110, 118, 97, 114]⟩ ∨ s = ⟨#[97, 116, 111, 109]⟩ ∨ s = ⟨#[105, 110, 116]⟩)) ∨ (n = 3 ∧ s = ⟨#[97, 114, 103]⟩) := by
 unfold isBuiltin at h
 simp only [cond_eq_ite] at h
 split at h
 · rename_i h1
   left
   refine ⟨by simp at h; omega, ?_⟩
   simp only [Bool.or_eq_true, decide_eq_true_eq] at h1
   simp only [inN, cmpNames, List.any_cons, List.any_nil, Bool.or_eq_true, decide_eq_true_eq, Bool.false_eq_true, or_false]
   rcases h1 with (((((((h1 | h1) | h1) | h1) | h1) | h1) | h1) | h1) | h1 <;> simp [h1]
 split at h
 · rename_i h1
   right; left
   refine ⟨by simp at h; omega, ?_⟩
   simpa using h1
 split at h
 · rename_i h1
   right; right; left
   refine ⟨by simp at h; omega, ?_⟩
   simp only [Bool.or_eq_true, decide_eq_true_eq] at h1
   rcases h1 with ((h1 | h1) | h1) | h1 <;> simp [h1]
 split at h
 · rename_i h1
   right; right; right
   exact ⟨by simp at h; omega, by simpa using h1⟩
 · cases h
def tbk : AV → List Nat
 | .mslice b _ _ _ => [b]
 | _ => []
def Trail (st : zy7) (q : AV) (tr : List Int) : Prop :=
 (q = .fslice [] ∧ tr = []) ∨ ∃ b cs, q = .mslice b 0 tr.length 1 ∧ st b = some (.cells cs) ∧ cs.take tr.length = tr.map iv
structure Sto (st : zy7) (c m : Nat) (q : AV) (σ : Sub) (tr : List Int) : Prop where
 sub : SubAt st c m q σ
 trail : Trail st q tr
 apart : c ∉ tbk q
structure StepQ (c m : Nat) (st : zy7) (q : AV) (st' : zy7) (q' : AV) : Prop where
 frame : ∀ b o, st b = some o → b ≠ c → b ≠ m → b ∉ tbk q → st' b = some o
 fresh : ∀ b ∈ tbk q', b ∈ tbk q ∨ st b = none
def Post (c m : Nat) (st : zy7) (q : AV) (σ' : Sub) (tr' : List Int) (st' : zy7) : Prop := ∃ q', Sto st' c m q' σ' tr' ∧ StepQ c m st q st' q'
theorem StepQ.refl (c m : Nat) (st : zy7) (q : AV) : StepQ c m st q st q := ⟨fun _ _ h _ _ _ => h, fun _ h => .inl h⟩
theorem StepQ.trans {c m : Nat} {st st' st'' : zy7} {q q' q'' : AV} {σ : Sub} {tr : List Int} (x : StepQ c m st q st' q') (hS : Sto st' c m q' σ tr) (y : StepQ c m st' q' st'' q'') : StepQ c m st q st'' q'' := by
 refine ⟨fun b o h h1 h2 h3 => ?_, fun b hb => ?_⟩
 · refine y.frame b o (x.frame b o h h1 h2 h3) h1 h2 fun h4 => ?_
   rcases x.fresh b h4 with h5 | h5
   · exact h3 h5
   · rw [h5] at h; cases h
 · rcases y.fresh b hb with h | h
   · exact x.fresh b h
   · by_cases h1 : b ∈ tbk q
     · exact .inl h1
     · refine .inr ?_
       cases hst : st b with
       | none => rfl
       | some o =>
        exfalso
        by_cases hc : b = c
        · subst hc; rw [hS.sub.cells] at h; cases h
        · by_cases hm : b = m
          · subst hm; rw [hS.sub.map] at h; cases h
          · rw [x.frame b o hst hc hm h1] at h; cases h
theorem Sto.tb_some {st : zy7} {c m : Nat} {q : AV} {σ : Sub} {tr : List Int} (h : Sto st c m q σ tr) : ∀ b ∈ tbk q, ∃ cs, st b = some (.cells cs) := by
 intro b hb
 rcases h.trail with ⟨rfl, _⟩ | ⟨b', cs, rfl, hb', _⟩
 · simp [tbk] at hb
 · simp only [tbk, List.mem_cons, List.not_mem_nil, or_false] at hb; subst hb; exact ⟨cs, hb'⟩
theorem Sto.m_apart {st : zy7} {c m : Nat} {q : AV} {σ : Sub} {tr : List Int} (h : Sto st c m q σ tr) : m ∉ tbk q := fun hb => by
 obtain ⟨cs, e⟩ := h.tb_some m hb
 rw [h.sub.map] at e; cases e
theorem Sto.upd {st : zy7} {c m b : Nat} {q : AV} {σ : Sub} {tr : List Int} {o : AO} (h : Sto st c m q σ tr) (h1 : b ≠ c) (h2 : b ≠ m) (h3 : b ∉ tbk q) : Sto (st.upd b o) c m q σ tr := by
 refine ⟨h.sub.upd2 h1 h2, ?_, h.apart⟩
 rcases h.trail with h4 | ⟨b', cs, e1, e2, e3⟩
 · exact .inl h4
 · refine .inr ⟨b', cs, e1, ?_, e3⟩
   rw [zy7.upd_ne _ _ (by rintro rfl; exact h3 (by rw [e1]; simp [tbk]))]
   exact e2
theorem Sto.upd0 {st : zy7} {c m b : Nat} {q : AV} {σ : Sub} {tr : List Int} {o : AO} (h : Sto st c m q σ tr) (hb : st b = none) : Sto (st.upd b o) c m q σ tr :=
 h.upd (h.sub.ne hb).1 (h.sub.ne hb).2 fun h3 => by obtain ⟨cs, e⟩ := h.tb_some b h3; rw [hb] at e; cases e
theorem StepQ.upd0 {c m b : Nat} {st : zy7} {q : AV} {o : AO} (hb : st b = none) : StepQ c m st q (st.upd b o) q :=
 ⟨fun x p h _ _ _ => by rw [zy7.upd_ne _ _ (by rintro rfl; rw [hb] at h; cases h)]; exact h, fun _ h => .inl h⟩
theorem Sto.shape {st : zy7} {c m : Nat} {q : AV} {σ : Sub} {tr : List Int} (h : Sto st c m q σ tr) : q.isAgg = false ∧ q.width = 1 ∧ q.isJunk = false ∧ q.cells = [q] ∧ q.storable = true := by
 rcases h.trail with ⟨rfl, _⟩ | ⟨b', cs, rfl, _⟩ <;> exact ⟨rfl, rfl, rfl, rfl, rfl⟩
theorem Post.from {c m : Nat} {st s0 st' : zy7} {q q0 : AV} {σ σ' : Sub} {tr tr' : List Int} (h : Post c m s0 q0 σ' tr' st') (x : StepQ c m st q s0 q0) (hS : Sto s0 c m q0 σ tr) : Post c m st q σ' tr' st' := by
 obtain ⟨q', h1, h2⟩ := h
 exact ⟨q', h1, x.trans hS h2⟩
theorem trail_append {P : Program} {t : TypeId} {ag : Bool} {bytes : Nat} {zs : List AV} {st : zy7} {c m : Nat} {q : AV} {σ : Sub} {tr : List Int} {n : Int} {K : AV → zy7 → Prop} (hI : eI P t = some (ag, 1)) (hB : eB P t = some bytes) (hZ : eZ P t = some zs) (hz : zs.length = 1) (hb8 : bytes ≤ 16)
 (h : Sto st c m q σ tr) (hl : tr.length + 1 ≤ 1099511627776)
 (hK : ∀ q' st', Trail st' q' (tr ++ [n]) → c ∉ tbk q' → m ∉ tbk q' → (∀ x, x ∉ tbk q → x ∉ tbk q' → st' x = st x) → (∀ x ∈ tbk q', x ∈ tbk q ∨ st x = none) → K q' st') : aAppend P t st q (.fslice [.int .i64 n]) K := by
 have hfit : appFit 1 [AV.int .i64 n] := by intro e he; simp only [List.mem_cons, List.not_mem_nil, or_false] at he; subst he; exact ⟨rfl, rfl⟩
 have hbytes : (tr.length + 1) * bytes ≤ 140737488355328 := by
  have := Nat.mul_le_mul hl hb8
  omega
 unfold aAppend
 simp only [hI, hB, hZ, aElems]
 refine ⟨hz, hfit, ?_⟩
 have hcm : ∀ x, st x = none → x ≠ c ∧ x ≠ m := fun x hx => h.sub.ne hx
 rcases h.trail with ⟨rfl, rfl⟩ | ⟨b, cs, rfl, hb, hcs⟩
 · simp only [List.length_nil, List.length_cons, Nat.zero_add] at hbytes ⊢
   refine ⟨by omega, by omega, by simp, fun h => by simp at h, fun _ b hb => ?_⟩
   refine hK _ _ (.inr ⟨b, [.int .i64 n], rfl, zy7.upd_same _ _ _, rfl⟩) (by simp only [tbk, List.mem_cons, List.not_mem_nil, or_false]; exact Ne.symm (hcm b hb).1) (by simp only [tbk, List.mem_cons, List.not_mem_nil, or_false]; exact Ne.symm (hcm b hb).2) (fun x _ hx => ?_) (fun x hx => ?_)
   · simp only [tbk, List.mem_cons, List.not_mem_nil, or_false] at hx
     rw [zy7.upd_ne _ _ hx]
   · simp only [tbk, List.mem_cons, List.not_mem_nil, or_false] at hx
     subst hx; exact .inr hb
 · simp only [List.length_cons, List.length_nil, Nat.zero_add, hb]
   have hlen : tr.length ≤ cs.length := by
    have := congrArg List.length hcs
    simp only [List.length_take, List.length_map] at this
    omega
   have hca : c ≠ b := fun e => h.apart (by simp [tbk, e])
   have hma : m ≠ b := fun e => h.m_apart (by simp [tbk, e])
   have hnew : cs.take (tr.length * 1) ++ [AV.int .i64 n].flatMap AV.cells = (tr ++ [n]).map iv := by rw [Nat.mul_one, hcs]; simp [AV.cells]
   refine ⟨trivial, hbytes, by omega, by omega, ?_, fun b' hb' => ?_⟩
   · rw [hnew]
     refine hK _ _ (.inr ⟨b, _, by simp, zy7.upd_same _ _ _, by rw [List.take_of_length_le (by simp)]⟩) (by simpa [tbk] using hca) (by simpa [tbk] using hma) (fun x hx _ => ?_) (fun x hx => .inl hx)
     simp only [tbk, List.mem_cons, List.not_mem_nil, or_false] at hx
     rw [zy7.upd_ne _ _ hx]
   · rw [hnew]
     obtain ⟨hc', hm'⟩ := hcm b' hb'
     refine hK _ _ (.inr ⟨b', _, by simp, zy7.upd_same _ _ _, by rw [List.take_of_length_le (by simp)]⟩) (by simpa [tbk] using Ne.symm hc') (by simpa [tbk] using Ne.symm hm') (fun x hx hx' => ?_) (fun x hx => ?_)
     · simp only [tbk, List.mem_cons, List.not_mem_nil, or_false] at hx hx'
       rw [zy7.upd_ne _ _ hx']
       simp [zy7.erase, hx]
     · simp only [tbk, List.mem_cons, List.not_mem_nil, or_false] at hx
       subst hx; exact .inr hb'
end Go.AW
namespace Go.AW
open Go.Proofs.Tryz
abbrev tf_S1_102 := zi tI_3 (zi zI_3 (zi underlying3 (zi tI_4 (zi zI_4 (zi underlying4 (zi tI_42 (zi zI_42 (zi fI_42_0 (zi fI_42_1 (zi fI_42_2 (zi fI_42_3 (zi bI_42 (zi tI_85 (zi zI_85 (zi tI_126 (zi zI_126 (zi underlying126 (zi tI_128 (zi zI_128 (zi fI_128_0 (zi fI_128_1 bI_128)))))))))))))))))))))
theorem c_walk {σ : Sub} {f : Nat} {t u : Tm} (hw : WkN σ f t u) (c m : Nat) (q : AV) (st : zy7) (hS : SubAt st c m q σ) : zq7 prog 102 [.ptr c 0, t.av] st (fun r st' => r = u.av ∧ st' = st) := by
 refine zq7.done ?_
 refine wF [1000000, 3] 2 func102 ntmps102 rfl rfl ?_
 intro _
 simp -implicitDefEqProofs only [zy4, evF, ↓evZ, implies_true, seval, tf_S1_102]
 intro b3 h3 b4 h4
 have hne : b4 ≠ b3 := by rintro rfl; rw [zy7.upd_same] at h4; cases h4
 have hn4 : st b4 = none := by rw [zy7.upd_ne st _ hne] at h4; exact h4
 have hD : ∀ o o', Drops ((st.upd b3 o).upd b4 o') st := fun o o' => ((Drops.refl _).upd h3).upd hn4
 have hS' : ∀ o o', SubAt ((st.upd b3 o).upd b4 o') c m q σ := fun o o' => (hS.upd h3).upd (by rw [zy7.upd_ne _ _ hne]; exact hn4)
 obtain ⟨hn3c, hn3m⟩ := hS.ne h3
 obtain ⟨hn4c, hn4m⟩ := hS.ne hn4
 refine zw5 (σ := Nat × Tm) [1000000, 3] [0, 3, 4] (fun p => WkN σ p.1 p.2 u) (fun p => []) (fun p => (st.upd b3 (.cells p.2.av.cells)).upd b4 (.cells [.int .i64 0, .int .i64 0, .str ⟨#[]⟩, .fslice []])) (fun p => p.1) (by decide +kernel) ⟨(f, t), hw, zx7.mk (by simp -implicitDefEqProofs only [zy4, evF, ↓evZ, implies_true, seval, tf_S1_102])⟩ ?_
 rintro ⟨g, t⟩ hw
 obtain ⟨k, n, s, ts⟩ := t
 simp only at hw
 simp only [Tm.av_mk]
 simp -implicitDefEqProofs only [zy4, hne, hne.symm, hS.cells, hn3c.symm, hn4c.symm, hn3m.symm, hn4m.symm, evF, ↓evZ, implies_true, seval, tf_S1_102]
 refine zq4 (fun h => ?_) (fun h => ?_)
 case refine_2 =>
  simp only [decide_eq_false_iff_not] at h
  cases hw with
  | go h1 => exact absurd h1 h
  | stop =>
   simp -implicitDefEqProofs only [zy4, hne, hne.symm, hS.cells, hn3c.symm, hn4c.symm, hn3m.symm, hn4m.symm, evF, ↓evZ, implies_true, seval, tf_S1_102]
   exact ⟨by rw [← Tm.av_mk, Tm.soft], hD _ _⟩
 simp only [decide_eq_true_eq] at h
 simp -implicitDefEqProofs only [zy4, hne, hne.symm, hS.cells, hn3c.symm, hn4c.symm, hn3m.symm, hn4m.symm, evF, ↓evZ, implies_true, seval, tf_S1_102]
 refine wP [(0, 1), (1, 1), (2, 1), (4, 1), (3, 2), (5, 2), (6, 2), (7, 1), (8, 1), (9, 1), (10, 0), (11, 0), (12, 1)] [0, 1, 2, 4, 3, 5, 6, 7, 8, 9, 12] mixed ?_
 have hl := fun (st' : zy7) (hm : st' m = some (AO.map (mapOf σ))) => look_sub (P := prog) (n := n) hm underlying126 underlying3 zV_42
 simp -implicitDefEqProofs only [zy4, hne, hne.symm, hS.cells, hn3c.symm, hn4c.symm, hn3m.symm, hn4m.symm, evF, ↓evZ, implies_true, seval, tf_S1_102]
 rw [hl _ (hS' _ _).map]
 cases hw with
 | stop hs =>
  rw [show σ n = none from hs h]
  simp -implicitDefEqProofs only [found, zy4, hne, hne.symm, hS.cells, hn3c.symm, hn4c.symm, hn3m.symm, hn4m.symm, evF, ↓evZ, implies_true, seval, tf_S1_102]
  intro b5 h5
  have h53 : b5 ≠ b3 := by rintro rfl; simp [zy7.upd_ne, zy7.upd_same, hne.symm] at h5
  have h54 : b5 ≠ b4 := by rintro rfl; simp [zy7.upd_same] at h5
  have hn5 : st b5 = none := by rw [zy7.upd_ne _ _ h54, zy7.upd_ne _ _ h53] at h5; exact h5
  simp -implicitDefEqProofs only [zy4, hne, hne.symm, h53, h54, h53.symm, h54.symm, evF, ↓evZ, implies_true, seval, tf_S1_102]
  exact ⟨by rw [← Tm.av_mk, Tm.soft], ((((Drops.refl _).upd h3).upd hn4).upd hn5).upd hn4⟩
 | go _ h2 h3' =>
  rw [show σ n = some _ from h2]
  simp -implicitDefEqProofs only [found, zy4, hne, hne.symm, evF, ↓evZ, implies_true, seval, tf_S1_102]
  intro b5 h5
  have h53 : b5 ≠ b3 := by rintro rfl; simp [zy7.upd_ne, zy7.upd_same, hne.symm] at h5
  have h54 : b5 ≠ b4 := by rintro rfl; simp [zy7.upd_same] at h5
  have hn5 : st b5 = none := by rw [zy7.upd_ne _ _ h54, zy7.upd_ne _ _ h53] at h5; exact h5
  simp -implicitDefEqProofs only [zy4, hne, hne.symm, h53, h54, h53.symm, h54.symm, evF, ↓evZ, implies_true, seval, tf_S1_102]
  refine ⟨(_, _), Nat.lt_succ_self _, h3', zx7.drop (fun x => ?_) (by simp -implicitDefEqProofs only [zy4, hne, hne.symm, h53, h54, h53.symm, h54.symm, evF, ↓evZ, implies_true, seval, tf_S1_102])⟩
  by_cases e3 : x = b3 <;> by_cases e4 : x = b4 <;> by_cases e5 : x = b5 <;> simp_all [zy7.upd]
abbrev tf_S2_160 := zi tI_3 (zi zI_3 (zi underlying3 (zi tI_31 (zi zI_31 (zi eI_31 (zi eB_31 (zi eZ_31 (zi underlying31 (zi tI_42 (zi zI_42 (zi fI_42_0 (zi fI_42_1 (zi fI_42_2 (zi fI_42_3 bI_42))))))))))))))
theorem c_IndexFuncTmS (l : List Tm) (g : FuncId) (caps : List AV) (p : Tm → Bool) (J E : zy7 → Prop) (hc : ∀ x ∈ l, ∀ s, J s → zq7 prog g ([Tm.av x] ++ caps) s (fun r s' => r = .bool (p x) ∧ (p x = true → E s') ∧ (p x = false → J s'))) (st : zy7) (h0 : J st) :
 zq7 prog 160 [.slice (l.map Tm.av), .func g caps] st (fun r st' => r = .int .i64 (idxP p l 0) ∧ (l.any p = true → E st') ∧ (l.any p = false → J st')) := by
 refine wF [1000000] 2 func160 ntmps160 rfl rfl ?_
 simp only [fitsL, AV.fits, and_true, List.length_map]
 intro ⟨hl, _⟩
 simp -implicitDefEqProofs only [List.length_map, evF, ↓evZ, implies_true, seval, tf_S2_160]
 refine zy5 (σ := zy7) [1000000] [0, 1, 7] l (fun i s => J s ∧ idxP p (l.drop i) i = idxP p l 0 ∧ (l.drop i).any p = l.any p) (fun i _ => [(8, .int .i64 i)]) (fun _ s => s) (by decide +kernel) ⟨st, ⟨h0, rfl, rfl⟩, zx7.mk (by simp -implicitDefEqProofs only [evF, ↓evZ, implies_true, seval, tf_S2_160])⟩ (fun i x s hx hlt hlt' hdr hinv => ?_) (fun s hge hinv => ?_)
 case refine_2 =>
  obtain ⟨i1, i2, i3⟩ := hinv
  rw [List.drop_length] at i2 i3
  simp -implicitDefEqProofs only [List.length_map, hge, evF, ↓evZ, implies_true, seval, tf_S2_160]
  exact ⟨by rw [← i2]; rfl, fun h => (by rw [← i3] at h; cases h), fun _ => i1⟩
 obtain ⟨i1, i2, i3⟩ := hinv
 rw [hdr, idxP] at i2
 rw [hdr, List.any_cons] at i3
 have hw := wrap64 (n := (i : Int) + 1) (by omega) (by omega)
 simp -implicitDefEqProofs only [List.length_map, hlt', ev_at (av := Tm.av) eI_31 hx (Tm.av_width x), Tm.av_agg, Tm.av_width, evF, ↓evZ, implies_true, seval, tf_S2_160]
 refine (hc x (List.mem_of_getElem? hx) s i1).mono ?_
 rintro _ s2 ⟨rfl, hE, hJ⟩
 simp -implicitDefEqProofs only [evF, ↓evZ, implies_true, seval, tf_S2_160]
 refine zq4 (fun h => ?_) (fun h => ?_)
 · rw [if_pos h] at i2
   rw [h, Bool.true_or] at i3
   simp -implicitDefEqProofs only [evF, ↓evZ, implies_true, seval, tf_S2_160]
   exact ⟨by rw [i2], fun _ => hE h, fun h' => (by rw [← i3] at h'; cases h')⟩
 · rw [if_neg (by simp [h])] at i2
   rw [h, Bool.false_or] at i3
   simp -implicitDefEqProofs only [evF, ↓evZ, implies_true, seval, tf_S2_160]
   exact ⟨s2, ⟨hJ h, i2, i3⟩, zx7.mk (by simp -implicitDefEqProofs only [hw, evF, ↓evZ, implies_true, seval, tf_S2_160])⟩
abbrev tf_S2_108 := zi tI_3 (zi zI_3 (zi underlying3 (zi tI_4 (zi zI_4 (zi underlying4 (zi tI_31 (zi zI_31 (zi eI_31 (zi eB_31 (zi eZ_31 underlying31))))))))))
theorem c_ContainsFuncTmS (l : List Tm) (g : FuncId) (caps : List AV) (p : Tm → Bool) (J E : zy7 → Prop) (hc : ∀ x ∈ l, ∀ s, J s → zq7 prog g ([Tm.av x] ++ caps) s (fun r s' => r = .bool (p x) ∧ (p x = true → E s') ∧ (p x = false → J s'))) (st : zy7) (h0 : J st) :
 zq7 prog 108 [.slice (l.map Tm.av), .func g caps] st (fun r st' => r = .bool (l.any p) ∧ (l.any p = true → E st') ∧ (l.any p = false → J st')) := by
 refine wF [1000000] 2 func108 ntmps108 rfl rfl ?_
 intro _
 simp -implicitDefEqProofs only [evF, ↓evZ, implies_true, seval, tf_S2_108]
 refine (c_IndexFuncTmS l g caps p J E hc st h0).mono ?_
 rintro _ s2 ⟨rfl, hE, hJ⟩
 simp -implicitDefEqProofs only [idxP_any, evF, ↓evZ, implies_true, seval, tf_S2_108]
 exact ⟨hE, hJ⟩
def Occ (R : Int → Tm) (n : Int) (t : Tm) (st : zy7) (mm : Nat) (M : List Int) (r : AV) (st' : zy7) : Prop :=
 r = .bool (decide (n ∈ (t.mapv R).vl)) ∧ ∃ M', st' = st.upd mm (.map (metOf M')) ∧ (n ∉ (t.mapv R).vl → ∀ v ∈ M', v ∈ M ∨ n ∉ (R v).vl)
abbrev tf_S2_191 := zi tI_3 (zi zI_3 (zi underlying3 (zi tI_4 (zi zI_4 (zi underlying4 (zi tI_42 (zi zI_42 (zi fI_42_0 (zi fI_42_1 (zi fI_42_2 (zi fI_42_3 (zi bI_42 (zi tI_85 (zi zI_85 (zi tI_177 (zi zI_177 underlying177))))))))))))))))
theorem c_occurs_1 {c mm : Nat} {n : Int} {t : Tm} {st : zy7} {Q : AV → zy7 → Prop} (hc : zq7 prog 156 [.ptr c 0, .int .i64 n, t.av, .map mm] st Q) :
 zq7 prog 191 [t.av, .pptr (.ptr c 0), .pptr (.int .i64 n), .pptr (.map mm)] st Q := by
 refine wF [1000000] 4 func191 ntmps191 rfl rfl ?_
 intro _
 simp -implicitDefEqProofs only [evF, ↓evZ, implies_true, seval, tf_S2_191]
 refine hc.mono ?_
 intro r s h
 simp -implicitDefEqProofs only [evF, ↓evZ, implies_true, seval, tf_S2_191]
 exact h
abbrev tf_S2_156 := zi tI_3 (zi zI_3 (zi underlying3 (zi tI_4 (zi zI_4 (zi underlying4 (zi tI_31 (zi zI_31 (zi eI_31 (zi eB_31 (zi eZ_31 (zi underlying31 (zi tI_42 (zi zI_42 (zi fI_42_0 (zi fI_42_1 (zi fI_42_2 (zi fI_42_3 (zi bI_42 (zi tI_85 (zi zI_85 (zi tI_177 (zi zI_177 underlying177))))))))))))))))))))))
theorem c_occurs {σ : Sub} {R : Int → Tm} {rk : Int → Nat} {B : Nat} (G : Good σ R rk B) {n : Int} (hn : σ n = none) (c m mm : Nat) (q : AV) (hmm : mm ≠ c ∧ mm ≠ m) :
 ∀ (K : Nat) (t : Tm) (M : List Int) (st : zy7), SubAt st c m q σ → st mm = some (.map (metOf M)) → (∀ w ∈ t.vl, rk w < K) → (∀ v ∈ M, n ∉ (R v).vl ∨ ∀ w ∈ t.vl, rk w < rk v) →
 zq7 prog 156 [.ptr c 0, .int .i64 n, t.av, .map mm] st (Occ R n t st mm M)
 | K, .mk k x s ts, M, st, hS, hM, hK, hpre => by
  have IH1 := fun (K' : Nat) (hK' : K' < K) t M st => c_occurs G hn c m mm q hmm K' t M st
  have IH2 := fun (y : Tm) (hy : y ∈ ts) M st => c_occurs G hn c m mm q hmm K y M st
  have hlk := look_met (P := prog) (n := x) hM underlying177 underlying3 zV_4
  simp only [Tm.av_mk]
  refine wF [1000000] 4 func156 ntmps156 rfl rfl ?_
  intro _
  simp -implicitDefEqProofs only [hlk, evF, ↓evZ, implies_true, seval, tf_S2_156]
  refine zq4 (fun h => ?_) (fun h => ?_)
  · simp only [decide_eq_true_eq] at h
    have hvl : (Tm.mk k x s ts).vl = [x] := Tm.vl_var h
    have hmv : (Tm.mk k x s ts).mapv R = R x := Tm.mapv_var R h
    have hKx : rk x < K := hK x (by rw [hvl]; simp)
    simp -implicitDefEqProofs only [hlk, evF, ↓evZ, implies_true, seval, tf_S2_156]
    refine zq4 (fun h2 => ?_) (fun h2 => ?_)
    · simp only [decide_eq_true_eq] at h2
      simp -implicitDefEqProofs only [hlk, evF, ↓evZ, implies_true, seval, tf_S2_156]
      have hno : n ∉ (R x).vl := by
       rcases hpre x h2 with h | h
       · exact h
       · exact absurd (h x (by rw [hvl]; simp)) (Nat.lt_irrefl _)
      refine ⟨by rw [hmv]; simp [hno], M, ?_, fun _ v hv => .inl hv⟩
      funext y
      simp only [zy7.upd]
      split
      · rename_i e; rw [e, hM]
      · rfl
    · simp only [decide_eq_false_iff_not] at h2
      simp -implicitDefEqProofs only [hlk, evF, ↓evZ, implies_true, seval, tf_S2_156]
      refine upd_met hM underlying177 underlying3 ?_
      simp -implicitDefEqProofs only [hlk, evF, ↓evZ, implies_true, seval, tf_S2_156]
      obtain ⟨f, hwk⟩ := G.wk (Tm.mk k x s ts)
      generalize hu : wk σ (Tm.mk k x s ts) = u at *
      have hS' := hS.upd2 (o := .map (metOf (x :: M))) hmm.1 hmm.2
      have hcw := c_walk hwk c m q _ hS'
      rw [Tm.av_mk] at hcw
      refine hcw.to ?_
      have hmvu : u.mapv R = R x := by rw [hwk.mapv G.isSol, hmv]
      have hend := hwk.end
      have hrk := hwk.rank G
      obtain ⟨k', x', s', ts'⟩ := u
      simp only [Tm.av_mk]
      simp -implicitDefEqProofs only [hlk, evF, ↓evZ, implies_true, seval, tf_S2_156]
      refine zq4 (fun h3 => ?_) (fun h3 => ?_)
      · simp only [decide_eq_true_eq] at h3
        simp -implicitDefEqProofs only [hlk, evF, ↓evZ, implies_true, seval, tf_S2_156]
        have hfree : R x' = vr x' := G.free (hend h3)
        rw [Tm.mapv_var R h3, hfree] at hmvu
        refine ⟨?_, x :: M, rfl, fun hno v hv => ?_⟩
        · rw [hmv, ← hmvu, vl_vr]
          simp [eq_comm]
        · rcases List.mem_cons.1 hv with rfl | hv
          · exact .inr (by rw [hmv] at hno; exact hno)
          · exact .inl hv
      · simp only [decide_eq_false_iff_not] at h3
        simp -implicitDefEqProofs only [hlk, evF, ↓evZ, implies_true, seval, tf_S2_156]
        have hf0 : f ≠ 0 := by
         rintro rfl
         cases hwk with
         | stop _ => exact h3 h
        have hr' : ∀ w ∈ (Tm.mk k' x' s' ts').vl, rk w < rk x := fun w hw => by
         obtain ⟨v, hv, _, hlt⟩ := hrk w hw
         rw [hvl] at hv
         simp only [List.mem_cons, List.not_mem_nil, or_false] at hv
         subst hv
         exact hlt hf0
        have := IH1 (rk x) hKx (Tm.mk k' x' s' ts') (x :: M) _ hS' (zy7.upd_same _ _ _) hr' (fun v hv => by
         rcases List.mem_cons.1 hv with rfl | hv
         · exact .inr hr'
         · rcases hpre v hv with h5 | h5
           · exact .inl h5
           · refine .inr fun w hw => Nat.lt_trans (hr' w hw) ?_
             exact h5 x (by rw [hvl]; simp))
        rw [Tm.av_mk] at this
        refine this.mono ?_
        rintro _ _ ⟨rfl, M', rfl, hM'⟩
        simp -implicitDefEqProofs only [hlk, evF, ↓evZ, implies_true, seval, tf_S2_156]
        rw [hmvu] at hM' ⊢
        refine ⟨by rw [hmv], M', rfl, fun hno v hv => ?_⟩
        rw [hmv] at hno
        rcases hM' hno v hv with h5 | h5
        · rcases List.mem_cons.1 h5 with rfl | h5
          · exact .inr hno
          · exact .inl h5
        · exact .inr h5
  · simp only [decide_eq_false_iff_not] at h
    simp -implicitDefEqProofs only [hlk, evF, ↓evZ, implies_true, seval, tf_S2_156]
    have hmv := Tm.mapv_mk R (n := x) (s := s) (ts := ts) h
    have hany : ts.any (fun y => decide (n ∈ (y.mapv R).vl)) = decide (n ∈ ((Tm.mk k x s ts).mapv R).vl) := by
     rw [hmv, Bool.eq_iff_iff]
     simp only [List.any_eq_true, decide_eq_true_eq]
     rw [Tm.vl_mk h]
     constructor
     · rintro ⟨y, hy, h2⟩; exact ⟨_, List.mem_map.2 ⟨y, hy, rfl⟩, h2⟩
     · rintro ⟨z, hz, h2⟩
       obtain ⟨y, hy, rfl⟩ := List.mem_map.1 hz
       exact ⟨y, hy, h2⟩
    refine (c_ContainsFuncTmS ts _ _ (fun y => decide (n ∈ (y.mapv R).vl)) (fun s1 => ∃ M', s1 = st.upd mm (.map (metOf M')) ∧ ∀ v ∈ M', v ∈ M ∨ n ∉ (R v).vl) (fun s1 => ∃ M', s1 = st.upd mm (.map (metOf M'))) ?_ st ⟨M, ?_, fun v hv => .inl hv⟩).mono ?_
    · rintro y hy s1 ⟨M', rfl, hM'⟩
      simp only [List.cons_append, List.nil_append]
      have hc := IH2 y hy M' (st.upd mm (.map (metOf M'))) (hS.upd2 hmm.1 hmm.2) (zy7.upd_same _ _ _) (fun w hw => hK w ((Tm.vl_mk h).2 ⟨y, hy, hw⟩)) (fun v hv => by
       rcases hM' v hv with h5 | h5
       · rcases hpre v h5 with h6 | h6
         · exact .inl h6
         · exact .inr fun w hw => h6 w ((Tm.vl_mk h).2 ⟨y, hy, hw⟩)
       · exact .inl h5)
      refine (c_occurs_1 hc).mono ?_
      rintro _ _ ⟨rfl, M2, rfl, hM2⟩
      rw [zy7.upd_upd]
      refine ⟨rfl, fun _ => ⟨M2, rfl⟩, fun hno => ⟨M2, rfl, fun v hv => ?_⟩⟩
      simp only [decide_eq_false_iff_not] at hno
      rcases hM2 hno v hv with h5 | h5
      · exact hM' v h5
      · exact .inr h5
    · funext y
      simp only [zy7.upd]
      split
      · rename_i e; rw [e, hM]
      · rfl
    · rintro _ s2 ⟨rfl, hE, hJ⟩
      rw [hany] at hE hJ ⊢
      simp -implicitDefEqProofs only [hlk, evF, ↓evZ, implies_true, seval, tf_S2_156]
      by_cases hno : n ∈ ((Tm.mk k x s ts).mapv R).vl
      · obtain ⟨M2, rfl⟩ := hE (by simp [hno])
        exact ⟨rfl, M2, rfl, fun h => absurd hno h⟩
      · obtain ⟨M2, rfl, h5⟩ := hJ (by simp [hno])
        exact ⟨rfl, M2, rfl, fun _ => h5⟩
termination_by K t => (K, SizeOf.sizeOf t)
decreasing_by
 · exact Prod.Lex.left _ _ hK'
 · have := List.sizeOf_lt_of_mem hy
   exact Prod.Lex.right _ (by simp only [Tm.mk.sizeOf_spec]; omega)
abbrev tf_S3_103 := zi tI_3 (zi zI_3 (zi underlying3 (zi tI_4 (zi zI_4 (zi underlying4 (zi tI_42 (zi zI_42 (zi fI_42_0 (zi fI_42_1 (zi fI_42_2 (zi fI_42_3 (zi bI_42 (zi tI_58 (zi zI_58 (zi eI_58 (zi eB_58 (zi eZ_58 (zi underlying58 (zi tI_85 (zi zI_85 (zi tI_126 (zi zI_126 (zi underlying126 (zi tI_128 (zi zI_128 (zi fI_128_0 (zi fI_128_1 (zi bI_128 (zi tI_177 (zi zI_177 underlying177))))))))))))))))))))))))))))))
theorem c_bind {σ : Sub} (hg : IsGood σ) {n : Int} (hn : σ n = none) {t : Tm} {r : Bool} {σ' : Sub} {add : List Int} (hb : bnd σ n t = (r, σ', add)) (c m : Nat) (q : AV) (tr : List Int) (st : zy7) (hS : Sto st c m q σ tr) (hl : tr.length + add.length ≤ 1099511627776) :
 zq7 prog 103 [.ptr c 0, .int .i64 n, t.av] st (fun r' st' => r' = .bool r ∧ Post c m st q σ' (tr ++ add) st') := by
 obtain ⟨rk, B, G⟩ := hg.rs
 refine wF [1000000] 3 func103 ntmps103 rfl rfl ?_
 intro _
 simp -implicitDefEqProofs only [evF, ↓evZ, implies_true, seval, tf_S3_103]
 intro mm hmm
 obtain ⟨hmc, hmm'⟩ := hS.sub.ne hmm
 rw [← metOf_nil]
 have hS1 := hS.upd0 (o := .map (metOf [])) hmm
 refine (c_occurs G hn c m mm q ⟨hmc, hmm'⟩ B t [] _ hS1.sub (zy7.upd_same _ _ _) (fun w _ => G.bd w) (fun v hv => absurd hv (List.not_mem_nil))).mono ?_
 rintro _ _ ⟨rfl, M', rfl, _⟩
 have hS2 := hS.upd0 (o := .map (metOf M')) hmm
 have hQ2 : StepQ c m st q (st.upd mm (.map (metOf M'))) q := StepQ.upd0 hmm
 rw [zy7.upd_upd]
 generalize st.upd mm (.map (metOf M')) = s2 at *
 obtain ⟨hqa, hqw, hqj, hqc, hqs⟩ := hS2.shape
 simp -implicitDefEqProofs only [zy4, hS2.sub.cells, hqa, hqw, hqj, hqs, evF, ↓evZ, implies_true, seval, tf_S3_103]
 unfold bnd at hb
 refine zq4 (fun h => ?_) (fun h => ?_)
 · simp only [decide_eq_true_eq] at h
   rw [if_pos h] at hb
   obtain ⟨rfl, rfl, rfl⟩ : false = r ∧ σ = σ' ∧ [] = add := by simpa using hb
   simp -implicitDefEqProofs only [zy4, hS2.sub.cells, hqa, hqw, hqj, hqs, evF, ↓evZ, implies_true, seval, tf_S3_103]
   exact ⟨q, hS2, hQ2⟩
 · simp only [decide_eq_false_iff_not] at h
   rw [if_neg h] at hb
   obtain ⟨rfl, rfl, rfl⟩ : true = r ∧ σ.set n t = σ' ∧ [n] = add := by simpa using hb
   simp -implicitDefEqProofs only [zy4, hS2.sub.cells, hqa, hqw, hqj, hqs, evF, ↓evZ, implies_true, seval, tf_S3_103]
   refine wP [(0, 1), (1, 1), (2, 1), (4, 1), (3, 2), (5, 2), (6, 0)] [0, 1, 2, 4, 3, 5] mixed ?_
   simp -implicitDefEqProofs only [zy4, hS2.sub.cells, hqa, hqw, hqj, hqs, evF, ↓evZ, implies_true, seval, tf_S3_103]
   refine upd_sub hS2.sub.map underlying126 underlying3 ?_
   have hcm := hS2.sub.cm
   have hS3 : Sto (s2.upd m (.map (mapOf (σ.set n t)))) c m q (σ.set n t) tr := by
    refine ⟨⟨by rw [zy7.upd_ne _ _ hcm]; exact hS2.sub.cells, zy7.upd_same _ _ _⟩, ?_, hS2.apart⟩
    rcases hS2.trail with h4 | ⟨b', cs, e1, e2, e3⟩
    · exact .inl h4
    · refine .inr ⟨b', cs, e1, ?_, e3⟩
      rw [zy7.upd_ne _ _ (by rintro rfl; exact hS2.m_apart (by rw [e1]; simp [tbk]))]
      exact e2
   have hQ3 : StepQ c m st q (s2.upd m (.map (mapOf (σ.set n t)))) q := ⟨fun b o h h1 h2 h3 => by rw [zy7.upd_ne _ _ h2]; exact hQ2.frame b o h h1 h2 h3, fun _ h => .inl h⟩
   generalize s2.upd m (.map (mapOf (σ.set n t))) = s3 at *
   simp -implicitDefEqProofs only [zy4, hS3.sub.cells, hqa, hqw, hqj, hqs, evF, ↓evZ, implies_true, seval, tf_S3_103]
   refine trail_append eI_58 eB_58 eZ_58 rfl (by omega) hS3 (by simpa using hl) (fun q' s4 ht hc' hm' hk hf => ?_)
   have h4c : s4 c = some (.cells [.map m, q]) := by rw [hk c hS3.apart hc']; exact hS3.sub.cells
   have h4m : s4 m = some (.map (mapOf (σ.set n t))) := by rw [hk m hS3.m_apart hm']; exact hS3.sub.map
   have hqc' : q'.cells = [q'] ∧ q'.storable = true := by
    rcases ht with ⟨rfl, _⟩ | ⟨b', cs, rfl, _⟩ <;> exact ⟨rfl, rfl⟩
   simp -implicitDefEqProofs only [zy4, h4c, hqc'.1, hqc'.2, evF, ↓evZ, implies_true, seval, tf_S3_103]
   refine ⟨q', ⟨⟨zy7.upd_same _ _ _, by rw [zy7.upd_ne _ _ (Ne.symm hcm)]; exact h4m⟩, ?_, hc'⟩, ⟨fun b o h h1 h2 h3 => ?_, fun b hb => ?_⟩⟩
   · rcases ht with h4 | ⟨b', cs, e1, e2, e3⟩
     · exact .inl h4
     · refine .inr ⟨b', cs, e1, ?_, e3⟩
       rw [zy7.upd_ne _ _ (by rintro rfl; exact hc' (by rw [e1]; simp [tbk]))]
       exact e2
   · rw [zy7.upd_ne _ _ h1, hk b h3 (fun h4 => ?_)]
     · exact hQ3.frame b o h h1 h2 h3
     · rcases hf b h4 with h5 | h5
       · exact h3 h5
       · rw [hQ3.frame b o h h1 h2 h3] at h5; cases h5
   · rcases hf b hb with h5 | h5
     · exact .inl h5
     · by_cases h6 : b ∈ tbk q
       · exact .inl h6
       · refine .inr ?_
         cases hst : st b with
         | none => rfl
         | some o =>
          exfalso
          have h1 : b ≠ c := by rintro rfl; rw [hS3.sub.cells] at h5; cases h5
          have h2 : b ≠ m := by rintro rfl; rw [hS3.sub.map] at h5; cases h5
          rw [hQ3.frame b o hst h1 h2 h6] at h5; cases h5
abbrev Sm (t : Tm) : Prop := t.small = true
theorem sm_kids : ∀ t : Tm, t.k ≠ 1 → Sm t → ∀ x ∈ t.ts, Sm x := fun t _ h x hx => by
 cases t
 exact (Tm.small_mk h).2 x hx
abbrev tf_S4_52 := zi tI_3 (zi zI_3 (zi underlying3 (zi tI_4 (zi zI_4 (zi underlying4 (zi tI_9 (zi zI_9 (zi underlying9 (zi tI_31 (zi zI_31 (zi eI_31 (zi eB_31 (zi eZ_31 (zi underlying31 (zi tI_42 (zi zI_42 (zi fI_42_0 (zi fI_42_1 (zi fI_42_2 (zi fI_42_3 (zi bI_42 (zi tI_85 zI_85))))))))))))))))))))))
theorem c_unify : ∀ (g : Nat) (σ : Sub) (a b : Tm) (r : Bool) (σ' : Sub) (add : List Int), IsGood σ → AllS Sm σ → Sm a → Sm b → uniF g σ a b = some (r, σ', add) → ∀ (c m : Nat) (q : AV) (tr : List Int) (st : zy7), Sto st c m q σ tr → tr.length + add.length ≤ 1099511627776 →
 zq7 prog 52 [.ptr c 0, a.av, b.av] st (fun r' st' => r' = .bool r ∧ Post c m st q σ' (tr ++ add) st')
 | 0, σ, a, b, r, σ', add, hg, hsm, ha0, hb0, h, c, m, q, tr, st, hS, hl => by simp only [uniF] at h; cases h
 | g + 1, σ, a, b, r, σ', add, hg, hsm, ha0, hb0, h, c, m, q, tr, st, hS, hl => by
  have IH := c_unify g
  obtain ⟨rk, B, G⟩ := hg.rs
  obtain ⟨fa, wa⟩ := G.wk a
  obtain ⟨fb, wb⟩ := G.wk b
  have hca := fun st (hS : SubAt st c m q σ) => c_walk wa c m q st hS
  have hcb := fun st (hS : SubAt st c m q σ) => c_walk wb c m q st hS
  have ea := wa.end
  have eb := wb.end
  have hsa := wa.all (p := Sm) hsm ha0
  have hsb := wb.all (p := Sm) hsm hb0
  replace h := uniF_cases h
  generalize wk σ a = a1 at *
  generalize wk σ b = b1 at *
  clear wa wb
  refine wF [1000000, 4, 5] 3 func52 ntmps52 rfl rfl ?_
  intro hfit
  simp -implicitDefEqProofs only [zy4, evF, ↓evZ, implies_true, seval, tf_S4_52]
  intro b4 h4 b5 h5
  have h54 : b5 ≠ b4 := by rintro rfl; rw [zy7.upd_same] at h5; cases h5
  have hn5 : st b5 = none := by rw [zy7.upd_ne st _ h54] at h5; exact h5
  have hS' : ∀ o o', Sto ((st.upd b4 o).upd b5 o') c m q σ tr := fun o o' => (hS.upd0 h4).upd0 (by rw [zy7.upd_ne _ _ h54]; exact hn5)
  refine wP [(0, 1), (3, 1), (1, 2), (2, 2), (4, 2), (5, 2), (6, 0), (7, 0)] [0, 3, 1, 2, 4, 5] mixed ?_
  simp -implicitDefEqProofs only [zy4, h54, h54.symm, evF, ↓evZ, implies_true, seval, tf_S4_52]
  refine zw4 (hca _ (hS' _ _).sub) ?_
  simp -implicitDefEqProofs only [zy4, h54, h54.symm, evF, ↓evZ, implies_true, seval, tf_S4_52]
  refine zw4 (hcb _ (hS' _ _).sub) ?_
  obtain ⟨ka, na, sa, tsa⟩ := a1
  obtain ⟨kb, nb, sb', tsb⟩ := b1
  obtain ⟨hla, hlas⟩ := Tm.small_mk hsa
  obtain ⟨hlb, hlbs⟩ := Tm.small_mk hsb
  simp only [Tm.av_mk]
  simp only [Tm.k, Tm.n, Tm.s, Tm.ts] at h ea eb
  have hl4 : ∀ q', q' = q → b4 ∉ tbk q := fun _ _ hb => by obtain ⟨cs, e⟩ := hS.tb_some b4 hb; rw [h4] at e; cases e
  have hl5 : b5 ∉ tbk q := fun hb => by obtain ⟨cs, e⟩ := hS.tb_some b5 hb; rw [hn5] at e; cases e
  obtain ⟨h4c, h4m⟩ := hS.sub.ne h4
  obtain ⟨h5c, h5m⟩ := hS.sub.ne hn5
  have hQ : ∀ o o', StepQ c m st q ((st.upd b4 o).upd b5 o') q := fun o o' => ⟨fun x p h _ _ _ => by
   rw [zy7.upd_ne _ _ (by rintro rfl; rw [hn5] at h; cases h), zy7.upd_ne _ _ (by rintro rfl; rw [h4] at h; cases h)]; exact h, fun _ h => .inl h⟩
  simp -implicitDefEqProofs only [zy4, h54, h54.symm, evF, ↓evZ, implies_true, seval, tf_S4_52]
  rw [zy7.upd_mid h54, zy7.upd_mid h54.symm]
  have hfin : ∀ o o', Post c m st q σ tr ((st.upd b4 o).upd b5 o') := fun o o' => ⟨q, hS' _ _, hQ _ _⟩
  rcases h with ⟨h1, h2, h3, rfl, rfl, rfl⟩ | ⟨h1, h2, h3⟩ | ⟨h1, h2, h3⟩ | ⟨h1, h2, h3, h4⟩ | ⟨h1, h2, h3, rfl, rfl, rfl⟩
  · subst h1 h2 h3
    simp -implicitDefEqProofs only [decide_true, zy4, h54, h54.symm, evF, ↓evZ, implies_true, seval, tf_S4_52]
    exact hfin _ _
  · subst h1
    have hcb := c_bind hg (ea rfl) h3 c m q tr _ (hS' (.cells [.int .i64 1, .int .i64 na, .str sa, .slice (tsa.map Tm.av)]) (.cells [.int .i64 kb, .int .i64 nb, .str sb', .slice (tsb.map Tm.av)])) hl
    rw [Tm.av_mk] at hcb
    by_cases h5 : kb = 1
    · subst h5
      have h6 : ¬ na = nb := fun e => h2 ⟨rfl, e⟩
      simp -implicitDefEqProofs only [decide_true, h6, decide_false, zy4, h54, h54.symm, evF, ↓evZ, implies_true, seval, tf_S4_52]
      refine hcb.mono ?_
      rintro _ s2 ⟨rfl, hp⟩
      simp -implicitDefEqProofs only [zy4, h54, h54.symm, evF, ↓evZ, implies_true, seval, tf_S4_52]
      exact hp.from (hQ _ _) (hS' _ _)
    · simp -implicitDefEqProofs only [decide_true, h5, decide_false, zy4, h54, h54.symm, evF, ↓evZ, implies_true, seval, tf_S4_52]
      refine hcb.mono ?_
      rintro _ s2 ⟨rfl, hp⟩
      simp -implicitDefEqProofs only [zy4, h54, h54.symm, evF, ↓evZ, implies_true, seval, tf_S4_52]
      exact hp.from (hQ _ _) (hS' _ _)
  · subst h2
    have hcb := c_bind hg (eb rfl) h3 c m q tr _ (hS' (.cells [.int .i64 ka, .int .i64 na, .str sa, .slice (tsa.map Tm.av)]) (.cells [.int .i64 1, .int .i64 nb, .str sb', .slice (tsb.map Tm.av)])) hl
    rw [Tm.av_mk] at hcb
    simp -implicitDefEqProofs only [decide_true, h1, decide_false, zy4, h54, h54.symm, evF, ↓evZ, implies_true, seval, tf_S4_52]
    refine hcb.mono ?_
    rintro _ s2 ⟨rfl, hp⟩
    simp -implicitDefEqProofs only [zy4, h54, h54.symm, evF, ↓evZ, implies_true, seval, tf_S4_52]
    exact hp.from (hQ _ _) (hS' _ _)
  · rw [headEq_iff] at h3
    simp only [Tm.k, Tm.n, Tm.s, Tm.ts] at h3
    obtain ⟨rfl, rfl, rfl, hlen⟩ := h3
    have hlen' : decide ((tsa.length : Int) = (tsb.length : Int)) = true := by simp [hlen]
    simp -implicitDefEqProofs only [decide_true, decide_false, hlen', zy4, h54, h54.symm, List.length_map, h1, evF, ↓evZ, implies_true, seval, tf_S4_52]
    have hS0 := hS' (.cells [.int .i64 ka, .int .i64 na, .str sa, .slice (tsa.map Tm.av)]) (.cells [.int .i64 ka, .int .i64 na, .str sa, .slice (tsb.map Tm.av)])
    have hQ0 := hQ (.cells [.int .i64 ka, .int .i64 na, .str sa, .slice (tsa.map Tm.av)]) (.cells [.int .i64 ka, .int .i64 na, .str sa, .slice (tsb.map Tm.av)])
    have e4 : ((st.upd b4 (.cells [.int .i64 ka, .int .i64 na, .str sa, .slice (tsa.map Tm.av)])).upd b5 (.cells [.int .i64 ka, .int .i64 na, .str sa, .slice (tsb.map Tm.av)])) b4 = some (.cells [.int .i64 ka, .int .i64 na, .str sa, .slice (tsa.map Tm.av)]) := by rw [zy7.upd_ne _ _ h54.symm, zy7.upd_same]
    have e5 : ((st.upd b4 (.cells [.int .i64 ka, .int .i64 na, .str sa, .slice (tsa.map Tm.av)])).upd b5 (.cells [.int .i64 ka, .int .i64 na, .str sa, .slice (tsb.map Tm.av)])) b5 = some (.cells [.int .i64 ka, .int .i64 na, .str sa, .slice (tsb.map Tm.av)]) := zy7.upd_same _ _ _
    generalize (st.upd b4 (.cells [.int .i64 ka, .int .i64 na, .str sa, .slice (tsa.map Tm.av)])).upd b5 (.cells [.int .i64 ka, .int .i64 na, .str sa, .slice (tsb.map Tm.av)]) = s0 at *
    refine zy5 (σ := Sub × List Int × List Int × AV × zy7) [1000000, 4, 5] [0, 4, 5, 79] tsa
     (fun i p => IsGood p.1 ∧ AllS Sm p.1 ∧ Sto p.2.2.2.2 c m p.2.2.2.1 p.1 (tr ++ p.2.1) ∧ StepQ c m s0 q p.2.2.2.2 p.2.2.2.1 ∧ unisF g p.1 (tsa.drop i) (tsb.drop i) = some (r, σ', p.2.2.1) ∧ p.2.1 ++ p.2.2.1 = add)
     (fun i _ => [(6, .bool false), (80, .int .i64 i)]) (fun _ p => p.2.2.2.2) (by decide +kernel)
     ⟨(σ, [], add, q, s0), ⟨hg, hsm, by rw [List.append_nil]; exact hS0, StepQ.refl _ _ _ _, h4, rfl⟩, zx7.mk (by simp -implicitDefEqProofs only [zy4, h54, h54.symm, List.length_map, h1, evF, ↓evZ, implies_true, seval, tf_S4_52])⟩ (fun i x p hx hlt hlt' hdr hinv => ?_) (fun p hge hinv => ?_)
    case refine_2 =>
     obtain ⟨σi, ai, rest, qi, si⟩ := p
     obtain ⟨i1, i2, i3, i4, i5, i6⟩ := hinv
     simp only at i1 i2 i3 i4 i5 i6
     rw [List.drop_length, hlen, List.drop_length] at i5
     simp only [unisF, Option.some.injEq, Prod.mk.injEq] at i5
     obtain ⟨rfl, rfl, rfl⟩ := i5
     rw [List.append_nil] at i6
     subst i6
     simp -implicitDefEqProofs only [hge, zy4, h54, h54.symm, List.length_map, h1, evF, ↓evZ, implies_true, seval, tf_S4_52]
     exact ⟨qi, i3, hQ0.trans hS0 i4⟩
    obtain ⟨σi, ai, rest, qi, si⟩ := p
    obtain ⟨i1, i2, i3, i4, i5, i6⟩ := hinv
    simp only at i1 i2 i3 i4 i5 i6
    obtain ⟨y, hy⟩ : ∃ y, tsb[i]? = some y := ⟨_, List.getElem?_eq_getElem (by omega)⟩
    have hdr' : tsb.drop i = y :: tsb.drop (i + 1) := by
     obtain ⟨h1, h2⟩ := List.getElem?_eq_some_iff.1 hy
     rw [List.drop_eq_getElem_cons h1, h2]
    rw [hdr, hdr', unisF] at i5
    have f4 := i4.frame b4 _ e4 h4c h4m (hl4 q rfl)
    have f5 := i4.frame b5 _ e5 h5c h5m hl5
    have hw := wrap64 (n := (i : Int) + 1) (by omega) (by omega)
    simp -implicitDefEqProofs only [hlt', zy4, h54, h54.symm, List.length_map, h1, f4, f5, ev_at (av := Tm.av) eI_31 hx (Tm.av_width x), ev_at (av := Tm.av) eI_31 hy (Tm.av_width y), evF, ↓evZ, implies_true, seval, tf_S4_52]
    refine wP [(0, 1), (1, 1), (3, 1), (6, 1), (8, 1), (2, 2), (4, 1), (5, 2), (7, 2), (9, 1), (10, 2), (11, 0), (12, 1)] [0, 1, 3, 6, 8, 2, 4, 5, 7, 9, 10, 12] mixed ?_
    simp -implicitDefEqProofs only [zy4, h54, h54.symm, List.length_map, h1, f4, f5, ev_at (av := Tm.av) eI_31 hx (Tm.av_width x), ev_at (av := Tm.av) eI_31 hy (Tm.av_width y), evF, ↓evZ, implies_true, seval, tf_S4_52]
    cases hu : uniF g σi x y with
    | none => rw [hu] at i5; cases i5
    | some p1 =>
     obtain ⟨r1, σ1, tr1⟩ := p1
     rw [hu] at i5
     have hx1 : Sm x := hlas x (List.mem_of_getElem? hx)
     have hy1 : Sm y := hlbs y (List.mem_of_getElem? hy)
     have hU := uniF_uni i1 hu
     have hA := (uni_all sm_kids g).1 σi x y r1 σ1 tr1 i1 hu i2 hx1 hy1
     have hsub : tr1.length ≤ rest.length := by
      cases r1 with
      | false => simp only [Option.some.injEq, Prod.mk.injEq] at i5; rw [i5.2.2]; exact Nat.le_refl _
      | true =>
       simp only at i5
       cases hu2 : unisF g σ1 (tsa.drop (i + 1)) (tsb.drop (i + 1)) with
       | none => rw [hu2] at i5; cases i5
       | some p2 =>
        obtain ⟨r2, σ2, tr2⟩ := p2
        rw [hu2] at i5
        simp only [Option.some.injEq, Prod.mk.injEq] at i5
        rw [← i5.2.2, List.length_append]; omega
     have hadd : add.length = ai.length + rest.length := by rw [← i6, List.length_append]
     refine (IH σi x y r1 σ1 tr1 i1 i2 hx1 hy1 hu c m qi (tr ++ ai) si i3 (by rw [List.length_append]; omega)).mono ?_
     rintro _ s2 ⟨rfl, q2, hS2, hQ2⟩
     cases r1 with
     | false =>
      simp only [Option.some.injEq, Prod.mk.injEq] at i5
      obtain ⟨rfl, rfl, rfl⟩ := i5
      simp -implicitDefEqProofs only [zy4, h54, h54.symm, List.length_map, h1, f4, f5, ev_at (av := Tm.av) eI_31 hx (Tm.av_width x), ev_at (av := Tm.av) eI_31 hy (Tm.av_width y), evF, ↓evZ, implies_true, seval, tf_S4_52]
      rw [← i6, ← List.append_assoc]
      exact ⟨q2, hS2, hQ0.trans hS0 (i4.trans i3 hQ2)⟩
     | true =>
      simp only at i5
      cases hu2 : unisF g σ1 (tsa.drop (i + 1)) (tsb.drop (i + 1)) with
      | none => rw [hu2] at i5; cases i5
      | some p2 =>
       obtain ⟨r2, σ2, tr2⟩ := p2
       rw [hu2] at i5
       simp only [Option.some.injEq, Prod.mk.injEq] at i5
       obtain ⟨rfl, rfl, rfl⟩ := i5
       simp -implicitDefEqProofs only [zy4, h54, h54.symm, List.length_map, h1, f4, f5, ev_at (av := Tm.av) eI_31 hx (Tm.av_width x), ev_at (av := Tm.av) eI_31 hy (Tm.av_width y), evF, ↓evZ, implies_true, seval, tf_S4_52]
       exact ⟨(σ1, ai ++ tr1, tr2, q2, s2), ⟨hU.good, hA, by rw [← List.append_assoc]; exact hS2, i4.trans i3 hQ2, hu2, by rw [List.append_assoc]; exact i6⟩, zx7.mk (by simp -implicitDefEqProofs only [hw, zy4, h54, h54.symm, List.length_map, h1, f4, f5, ev_at (av := Tm.av) eI_31 hx (Tm.av_width x), ev_at (av := Tm.av) eI_31 hy (Tm.av_width y), evF, ↓evZ, implies_true, seval, tf_S4_52])⟩
  · have hd : ka = kb → na = nb → sa = sb' → ¬ (tsa.length : Int) = (tsb.length : Int) := by
     intro e1 e2 e3 e4
     have : headEq (Tm.mk ka na sa tsa) (Tm.mk kb nb sb' tsb) = true := headEq_iff.2 ⟨e1, e2, e3, by simp only [Tm.ts]; omega⟩
     rw [h3] at this; cases this
    by_cases e1 : ka = kb
    · by_cases e2 : na = nb
      · by_cases e3 : sa = sb'
        · have e4 := hd e1 e2 e3
          subst e1 e2 e3
          simp -implicitDefEqProofs only [decide_false, decide_true, zy4, h54, h54.symm, h1, List.length_map, e4, evF, ↓evZ, implies_true, seval, tf_S4_52]
          exact hfin _ _
        · subst e1 e2
          simp -implicitDefEqProofs only [decide_false, decide_true, zy4, h54, h54.symm, h1, List.length_map, e3, evF, ↓evZ, implies_true, seval, tf_S4_52]
          exact hfin _ _
      · subst e1
        simp -implicitDefEqProofs only [decide_false, decide_true, zy4, h54, h54.symm, h1, List.length_map, e2, evF, ↓evZ, implies_true, seval, tf_S4_52]
        exact hfin _ _
    · clear hd
      simp -implicitDefEqProofs only [decide_false, decide_true, zy4, h54, h54.symm, h1, h2, List.length_map, e1, evF, ↓evZ, implies_true, seval, tf_S4_52]
      exact hfin _ _
theorem mapSet_out (σ : Sub) (l : List Int) (n : Int) : mapSet (mapOf (σ.out l)) n none = mapOf (σ.out (l ++ [n])) := by
 funext x
 unfold mapSet mapOf Sub.out
 by_cases h : x = n
 · simp [h]
 · simp only [h, if_false, List.mem_append, List.mem_singleton, or_false]
theorem delete_out {P : Program} {st : zy7} {m : Nat} {σ : Sub} {l : List Int} {t kt et : TypeId} {n : Int} {K : AV → zy7 → Prop} (hm : st m = some (.map (mapOf (σ.out l)))) (hu : P.underlying t = some (.map kt et)) (hk : P.underlying kt = some (.int .i64))
 (h : K (.tup []) (st.upd m (.map (mapOf (σ.out (l ++ [n])))))) : aDelete P t st (.map m) (.int .i64 n) K := by
 unfold aDelete
 simp only [hu, hm, hk]
 rw [mapSet_out]
 exact h
theorem Sub.out_nil (σ : Sub) : σ.out [] = σ := by funext n; simp [Sub.out]
theorem slice_lo {φ : AF} {d b n k : Nat} (h : φ d = .int .i64 (k : Int)) (hk : k = 0 ∨ k < n) : aSlice prog φ 58 (.mslice b 0 n 1) (some (.tmp d)) none none = some (.mslice b k (n - k) 1) := by
 have h1 : aBound φ none n n = some n := rfl
 have h2 : aBound φ (some (.tmp d)) 0 n = some k := by
  unfold aBound
  simp only [show φ.eval (.tmp d) = φ d from rfl, h]
  rw [if_pos (by omega)]
  simp
 unfold aSlice aSlice0
 rw [if_neg (by simp [isF0])]
 simp only [eI_58, h1, h2]
 by_cases h3 : k = 0
 · subst h3; simp
 · have h4 : k < n := by omega
   simp [h3, h4]
theorem slice_loE {φ : AF} {d b n : Nat} (h : φ d = .int .i64 (n : Int)) (hn : n ≠ 0) : aSlice prog φ 58 (.mslice b 0 n 1) (some (.tmp d)) none none = some .eslice := by
 have h1 : aBound φ none n n = some n := rfl
 have h2 : aBound φ (some (.tmp d)) 0 n = some n := by
  unfold aBound
  simp only [show φ.eval (.tmp d) = φ d from rfl, h]
  rw [if_pos (by omega)]
  simp
 unfold aSlice aSlice0
 rw [if_neg (by simp [isF0])]
 simp only [eI_58, h1, h2]
 simp [hn]
theorem slice_hiW {φ : AF} {t : TypeId} {ag : Bool} {w d b n k : Nat} (hI : eI prog t = some (ag, w)) (h : φ d = .int .i64 (k : Int)) (hk : k ≤ n) : aSlice prog φ t (.mslice b 0 n w) none (some (.tmp d)) none = some (.mslice b 0 k w) := by
 have h1 : aBound φ (some (.tmp d)) n n = some k := by
  unfold aBound
  simp only [show φ.eval (.tmp d) = φ d from rfl, h]
  rw [if_pos (by omega)]
  simp
 have h2 : aBound φ none 0 k = some 0 := rfl
 unfold aSlice aSlice0
 rw [if_neg (by simp [isF0])]
 simp only [hI, h1, h2]
 simp
theorem slice_hiF {φ : AF} {t : TypeId} {ag : Bool} {w d : Nat} (hI : eI prog t = some (ag, w)) (h : φ d = .int .i64 0) : aSlice prog φ t (.fslice []) none (some (.tmp d)) none = some (.fslice []) := by
 have h1 : aBound φ (some (.tmp d)) 0 0 = some 0 := by
  unfold aBound
  simp only [show φ.eval (.tmp d) = φ d from rfl, h]
  simp
 have h2 : aBound φ none 0 0 = some 0 := rfl
 unfold aSlice
 rw [if_pos ⟨rfl, rfl⟩]
 simp only [hI, h1, h2]
theorem slice_lo0 {φ : AF} {d : Nat} (h : φ d = .int .i64 0) : aSlice prog φ 58 (.fslice []) (some (.tmp d)) none none = some (.fslice []) := by
 have h1 : aBound φ none 0 0 = some 0 := rfl
 have h2 : aBound φ (some (.tmp d)) 0 0 = some 0 := by
  unfold aBound
  simp only [show φ.eval (.tmp d) = φ d from rfl, h]
  simp
 unfold aSlice
 rw [if_pos ⟨rfl, rfl⟩]
 simp only [eI_58, h1, h2]
theorem held_atO {P : Program} {t : TypeId} {ag : Bool} {b o len w i : Nat} (hI : eI P t = some (ag, w)) (hi : i < len) : aIndexAddr P t (.mslice b o len w) (.int .i64 (i : Int)) = some (.ptr b (o + i * w)) := by
 unfold aIndexAddr
 simp only [hI]
 rw [if_pos ⟨by omega, by omega, trivial⟩]
 simp
abbrev tf_B2_188 := zi tI_3 (zi zI_3 (zi underlying3 (zi tI_58 (zi zI_58 (zi eI_58 (zi eB_58 (zi eZ_58 (zi underlying58 (zi tI_85 (zi zI_85 (zi tI_126 (zi zI_126 (zi underlying126 (zi tI_128 (zi zI_128 (zi fI_128_0 (zi fI_128_1 bI_128)))))))))))))))))
theorem c_undoG (σ : Sub) (tr : List Int) (mark : Nat) (hm : mark ≤ tr.length) (c m : Nat) (q : AV) (st : zy7) (hS : Sto st c m q σ tr) (hl : tr.length ≤ 1099511627776) :
 zq7 prog 188 [.ptr c 0, .int .i64 (mark : Int)] st (fun r st' => r = .tup [] ∧ ∃ q', Sto st' c m q' (σ.out (tr.drop mark)) (tr.take mark) ∧ (∀ b ∈ tbk q', b ∈ tbk q) ∧ ∀ x o, st x = some o → x ≠ c → x ≠ m → st' x = some o) := by
 have hcm := hS.sub.cm
 rcases hS.trail with ⟨rfl, rfl⟩ | ⟨b, cs, rfl, hb, hcs⟩
 · obtain rfl : mark = 0 := by simpa using hm
   have e1 := hS.sub.cells
   have hsl := fun (φ : AF) (d : Nat) (h : φ d = .int .i64 0) => slice_lo0 h
   have hsh := fun (φ : AF) (d : Nat) (h : φ d = .int .i64 0) => slice_hiF eI_58 h
   simp only [Int.ofNat_zero, Int.natCast_zero]
   refine wF [1000000] 2 func188 ntmps188 rfl rfl ?_
   intro _
   simp -implicitDefEqProofs only [zy4, e1, hsl, hsh, evF, ↓evZ, implies_true, seval, tf_B2_188]
   refine zy5 (σ := Unit) [1000000] [0, 1, 11, 12] ([] : List Int) (fun i _ => True) (fun i _ => [(13, .int .i64 i)]) (fun _ _ => st) (by decide +kernel) ⟨(), trivial, zx7.mk (by simp -implicitDefEqProofs only [zy4, e1, hsl, hsh, evF, ↓evZ, implies_true, seval, tf_B2_188])⟩ (fun i x _ hx hlt hlt' hdr hinv => ?_) (fun _ hge hinv => ?_)
   · simp at hlt
   · simp -implicitDefEqProofs only [List.length_nil, show decide ((0 : Int) < 0) = false from rfl, zy4, e1, hsl, hsh, evF, ↓evZ, implies_true, seval, tf_B2_188]
     rw [Sub.out_nil]
     refine ⟨.fslice [], ⟨⟨zy7.upd_same _ _ _, ?_⟩, .inl ⟨rfl, rfl⟩, by simp [tbk]⟩, fun _ h => h, fun x o h h1 h2 => by rw [zy7.upd_ne _ _ h1]; exact h⟩
     rw [zy7.upd_ne _ _ hcm.symm, hS.sub.map]
 · have e1 := hS.sub.cells
   have hbc : b ≠ c := fun e => hS.apart (by simp [tbk, e])
   have hbm : b ≠ m := fun e => hS.m_apart (by simp [tbk, e])
   have hc' : ∀ o, (st.upd m o) c = some (.cells [.map m, .mslice b 0 tr.length 1]) := fun o => by rw [zy7.upd_ne _ _ hcm]; exact e1
   have hb' : ∀ o, (st.upd m o) b = some (.cells cs) := fun o => by rw [zy7.upd_ne _ _ hbm]; exact hb
   have hm0 : st.upd m (.map (mapOf σ)) = st := by
    funext x
    unfold zy7.upd
    split
    · rename_i h; rw [h, hS.sub.map]
    · rfl
   have hfin : ∀ st', st' = (st.upd m (.map (mapOf (σ.out (tr.drop mark))))).upd c (.cells [.map m, .mslice b 0 mark 1]) → ∃ q', Sto st' c m q' (σ.out (tr.drop mark)) (tr.take mark) ∧ (∀ x ∈ tbk q', x ∈ tbk (.mslice b 0 tr.length 1)) ∧ ∀ x o, st x = some o → x ≠ c → x ≠ m → st' x = some o := by
    rintro _ rfl
    have hlt : (tr.take mark).length = mark := by rw [List.length_take]; omega
    refine ⟨.mslice b 0 mark 1, ⟨⟨zy7.upd_same _ _ _, by rw [zy7.upd_ne _ _ hcm.symm, zy7.upd_same]⟩, .inr ⟨b, cs, by rw [hlt], by rw [zy7.upd_ne _ _ hbc]; exact hb' _, ?_⟩, by simpa [tbk] using Ne.symm hbc⟩, fun x h => h, fun x o h h1 h2 => by rw [zy7.upd_ne _ _ h1, zy7.upd_ne _ _ h2]; exact h⟩
    rw [hlt, List.map_take, ← hcs, List.take_take, Nat.min_eq_left hm]
   have hsh := fun (φ : AF) (d : Nat) (h : φ d = .int .i64 (mark : Int)) => slice_hiW (b := b) eI_58 h hm
   by_cases hk : mark = 0 ∨ mark < tr.length
   · have hsl := fun (φ : AF) (d : Nat) (h : φ d = .int .i64 (mark : Int)) => slice_lo (b := b) h hk
     refine wF [1000000] 2 func188 ntmps188 rfl rfl ?_
     intro _
     simp -implicitDefEqProofs only [zy4, e1, hsl, hsh, evF, ↓evZ, implies_true, seval, tf_B2_188]
     refine zy5 (σ := Unit) [1000000] [0, 1, 11, 12] (tr.drop mark) (fun i _ => True) (fun i _ => [(13, .int .i64 i)]) (fun i _ => st.upd m (.map (mapOf (σ.out ((tr.drop mark).take i))))) (by decide +kernel) ⟨(), trivial, by rw [List.take_zero, Sub.out_nil, hm0]; exact zx7.mk (by simp -implicitDefEqProofs only [zy4, e1, hsl, hsh, evF, ↓evZ, implies_true, seval, tf_B2_188])⟩ (fun i x _ hx hlt hlt' hdr hinv => ?_) (fun _ hge hinv => ?_)
     · have hw := wrap64 (n := (i : Int) + 1) (by omega) (by rw [List.length_drop] at hlt; omega)
       have htk : (tr.drop mark).take (i + 1) = (tr.drop mark).take i ++ [x] := by rw [List.take_add_one, hx]; simp
       rw [List.length_drop] at hlt hlt'
       have hlt'' : decide ((i : Int) < ((tr.length - mark : Nat) : Int)) = true := by simp; omega
       have hxt : tr[mark + i]? = some x := by rw [List.getElem?_drop] at hx; exact hx
       have hcs2 : cs = (tr.take (mark + i)).map iv ++ [iv x] ++ ((tr.drop (mark + i + 1)).map iv ++ cs.drop tr.length) := by
        have h1 : cs = tr.map iv ++ cs.drop tr.length := by rw [← hcs]; exact (List.take_append_drop _ _).symm
        have h2 : tr.map iv = (tr.take (mark + i)).map iv ++ iv x :: (tr.drop (mark + i + 1)).map iv := by
         have h3 : tr.drop (mark + i) = x :: tr.drop (mark + i + 1) := by
          obtain ⟨g1, g2⟩ := List.getElem?_eq_some_iff.1 hxt
          rw [List.drop_eq_getElem_cons g1, g2]
         rw [← List.map_cons (f := iv), ← h3, ← List.map_append, List.take_append_drop]
        rw [h2] at h1
        exact h1.trans (by simp)
       have hA : ((tr.take (mark + i)).map iv).length = mark + i := by simp only [List.length_map, List.length_take]; omega
       have hat := held_atO (P := prog) (b := b) (o := mark) (len := tr.length - mark) (w := 1) (i := i) eI_58 hlt
       have hcb := hb' (.map (mapOf (σ.out ((tr.drop mark).take i))))
       rw [hcs2] at hcb
       have hcm2 := hc' (.map (mapOf (σ.out ((tr.drop mark).take i))))
       obtain ⟨e1', e2, e3, e4, e5, e6⟩ := midE (B := (tr.drop (mark + i + 1)).map iv ++ cs.drop tr.length) hA
       simp -implicitDefEqProofs only [e1', e2, e3, e4, e5, e6, hat, hcb, hcm2, hlt', hlt'', Nat.mul_one, hw, evF, ↓evZ, implies_true, seval, tf_B2_188]
       refine delete_out (zy7.upd_same _ _ _) underlying126 underlying3 ?_
       rw [zy7.upd_upd, ← htk]
       simp -implicitDefEqProofs only [hat, hcb, hcm2, hlt', hlt'', Nat.mul_one, hw, evF, ↓evZ, implies_true, seval, tf_B2_188]
       exact ⟨(), zx7.mk (by simp -implicitDefEqProofs only [hat, hcb, hcm2, hlt', hlt'', Nat.mul_one, hw, evF, ↓evZ, implies_true, seval, tf_B2_188])⟩
     · rw [List.take_length]
       rw [List.length_drop] at hge
       have hcm2 := hc' (.map (mapOf (σ.out (tr.drop mark))))
       have hge' : decide (((tr.length - mark : Nat) : Int) < ((tr.length - mark : Nat) : Int)) = false := by simp
       simp -implicitDefEqProofs only [hcm2, hge, hge', List.length_drop, zy4, hsh, evF, ↓evZ, implies_true, seval, tf_B2_188]
       exact hfin _ rfl
   · obtain rfl : mark = tr.length := by omega
     have hn0 : tr.length ≠ 0 := by omega
     have hsl := fun (φ : AF) (d : Nat) (h : φ d = .int .i64 (tr.length : Int)) => slice_loE (b := b) h hn0
     refine wF [1000000] 2 func188 ntmps188 rfl rfl ?_
     intro _
     simp -implicitDefEqProofs only [zy4, e1, hsl, hsh, aLen, underlying58, evF, ↓evZ, implies_true, seval, tf_B2_188]
     refine zy5 (σ := Unit) [1000000] [0, 1, 11, 12] ([] : List Int) (fun i _ => True) (fun i _ => [(13, .int .i64 i)]) (fun _ _ => st) (by decide +kernel) ⟨(), trivial, zx7.mk (by simp -implicitDefEqProofs only [zy4, e1, hsl, hsh, aLen, underlying58, evF, ↓evZ, implies_true, seval, tf_B2_188])⟩ (fun i x _ hx hlt hlt' hdr hinv => ?_) (fun _ hge hinv => ?_)
     · simp at hlt
     · simp -implicitDefEqProofs only [List.length_nil, show decide ((0 : Int) < 0) = false from rfl, show decide (((0 : Nat) : Int) < ((0 : Nat) : Int)) = false from rfl, zy4, e1, hsl, hsh, aLen, underlying58, evF, ↓evZ, implies_true, seval, tf_B2_188]
       refine hfin _ ?_
       rw [List.drop_length, Sub.out_nil, hm0]
def Rsv (v : Tm) (D : Nat) (cnt cb : Nat) (st : zy7) (r : AV) (st' : zy7) : Prop :=
 ∃ cnt' : Nat, cnt' ≤ 121 ∧ st' = st.upd cb (.cells [.int .i64 cnt']) ∧
  if v.flat D = true ∧ cnt + v.nodes ≤ 120 then r = .tup [v.av, .bool true] ∧ cnt' = cnt + v.nodes else r = .tup [Tm.zero.av, .bool false]
theorem sumL_append {α : Type} (f : α → Nat) : ∀ l m : List α, sumL f (l ++ m) = sumL f l + sumL f m
 | [], m => by simp [sumL]
 | x :: l, m => by simp only [List.cons_append, sumL, sumL_append f l m]; omega
abbrev Cv (t : Tm) : Prop := t.cv = true
theorem good_walked {σ : Sub} {R : Int → Tm} {rk : Int → Nat} {B f : Nat} (G : Good σ R rk B) {t : Tm} {k n : Int} {s : ByteArray} {ts : List Tm} (hw : WkN σ f t (.mk k n s ts)) (hc : Cv (.mk k n s ts)) : t.mapv R = .mk k n s (ts.map (Tm.mapv R)) := by
 rw [← hw.mapv G.isSol]
 by_cases hk : k = 1
 · rw [Tm.mapv_var R hk, G.free (show σ n = none from hw.end hk)]
   obtain ⟨h1, _⟩ := Tm.cv_mk.1 hc
   obtain ⟨rfl, rfl⟩ := h1 hk
   rw [hk]; rfl
 · rw [Tm.mapv_mk R hk]
abbrev tf_S5_157 := zi tI_3 (zi zI_3 (zi underlying3 (zi tI_4 (zi zI_4 (zi underlying4 (zi tI_9 (zi zI_9 (zi underlying9 (zi tI_31 (zi zI_31 (zi eI_31 (zi eB_31 (zi eZ_31 (zi underlying31 (zi tI_42 (zi zI_42 (zi fI_42_0 (zi fI_42_1 (zi fI_42_2 (zi fI_42_3 (zi bI_42 (zi tI_85 (zi zI_85 (zi tI_130 zI_130))))))))))))))))))))))))
theorem c_resolving {σ : Sub} {R : Int → Tm} {rk : Int → Nat} {B : Nat} (G : Good σ R rk B) (hcv : AllS Cv σ) (hsm : AllS Sm σ) (c m cb : Nat) (q : AV) (hcb : cb ≠ c ∧ cb ≠ m) :
 ∀ (D : Nat) (t : Tm) (cnt : Nat) (st : zy7), D ≤ 31 → Cv t → Sm t → cnt ≤ 120 → SubAt st c m q σ → st cb = some (.cells [.int .i64 cnt]) →
 zq7 prog 157 [.ptr c 0, t.av, .int .i64 (31 - D : Int), .ptr cb 0] st (Rsv (t.mapv R) D cnt cb st)
 | D, t, cnt, st, hD, hct, hst, hcnt, hS, hC => by
  have IH := fun (D' : Nat) (hlt : D' < D) (x : Tm) cnt st => c_resolving G hcv hsm c m cb q hcb D' x cnt st
  obtain ⟨f, hw⟩ := G.wk t
  generalize wk σ t = u at *
  have hcu := hw.all (p := Cv) hcv hct
  have hsu := hw.all (p := Sm) hsm hst
  have hcw := fun st (hS : SubAt st c m q σ) => c_walk hw c m q st hS
  obtain ⟨k, n, s, ts⟩ := u
  have hv := good_walked G hw hcu
  rw [hv]
  obtain ⟨hlen, hsms⟩ := Tm.small_mk hsu
  obtain ⟨_, hcvs⟩ := Tm.cv_mk.1 hcu
  refine zq7.dropS (zq7.fin ?_)
  refine wF [1000000, 5, 10] 4 func157 ntmps157 rfl rfl ?_
  intro _
  simp -implicitDefEqProofs only [zy4, evF, ↓evZ, implies_true, seval, tf_S5_157]
  intro b5 h5 b8 h8
  have h85 : b8 ≠ b5 := by rintro rfl; rw [zy7.upd_same] at h8; cases h8
  have hn8 : st b8 = none := by rw [zy7.upd_ne st _ h85] at h8; exact h8
  have hS' : ∀ o o', SubAt ((st.upd b5 o).upd b8 o') c m q σ := fun o o' => (hS.upd h5).upd (by rw [zy7.upd_ne _ _ h85]; exact hn8)
  have hb5 : cb ≠ b5 := by rintro rfl; rw [hC] at h5; cases h5
  have hb8 : cb ≠ b8 := by rintro rfl; rw [hC] at hn8; cases hn8
  have hwc : IntKind.i64.wrap ((cnt : Int) + 1) = (cnt : Int) + 1 := wrap64 (by omega) (by omega)
  simp -implicitDefEqProofs only [zy4, h85, h85.symm, hb5, hb8, hb5.symm, hb8.symm, hC, hwc, evF, ↓evZ, implies_true, seval, tf_S5_157]
  refine (hcw _ (hS' _ _)).to ?_
  simp only [Tm.av_mk]
  simp -implicitDefEqProofs only [zy4, h85, h85.symm, hb5, hb8, hb5.symm, hb8.symm, hC, hwc, evF, ↓evZ, implies_true, seval, tf_S5_157]
  have hfail : ∀ (st' : zy7) (cnt' : Nat), cnt' ≤ 121 → Drops st' (st.upd cb (.cells [.int .i64 cnt'])) → ¬ ((Tm.mk k n s (ts.map (Tm.mapv R))).flat D = true ∧ cnt + (Tm.mk k n s (ts.map (Tm.mapv R))).nodes ≤ 120) →
   ∃ b l s0, st' = accS s0 b l ∧ (l ≠ [] → s0 b = none) ∧ (∀ e ∈ l, e.isJunk = false) ∧ Even l ∧ ∃ s2, Drops s0 s2 ∧ Rsv (Tm.mk k n s (ts.map (Tm.mapv R))) D cnt cb st (AV.fin b l (.tup [.agg [.int .i64 0, .int .i64 0, .str ⟨#[]⟩, .fslice []], .bool false])) s2 := fun st' cnt' h1 h2 h3 => by
   refine ⟨0, [], st', rfl, by simp, by simp, ⟨4, by simp⟩, _, h2, cnt', h1, rfl, ?_⟩
   rw [if_neg h3]
   simp only [Tm.zero, Tm.av_mk, fin_agg, fin_tup, fin_int, fin_bool, fin_str, fin_slice, fin_fslice, fin_pptr, fin_ptr, fin_func, fin_map, fin_undef, fin_accV, tm_fin, List.map_cons, List.map_nil]
  have hdr : ∀ o5 o8 o5' o8' cnt', Drops (((((st.upd b5 o5).upd b8 o8).upd b5 o5').upd cb (.cells [.int .i64 cnt'])).upd b8 o8') (st.upd cb (.cells [.int .i64 cnt'])) := fun o5 o8 o5' o8' cnt' x => by
   by_cases e5 : x = b5 <;> by_cases e8 : x = b8 <;> by_cases ec : x = cb <;> simp_all [zy7.upd]
  refine zx4 (fun h => ?_) (fun h => ?_)
  case refine_2 =>
   simp -implicitDefEqProofs only [h, zy4, h85, h85.symm, hb5, hb8, hb5.symm, hb8.symm, hC, hwc, evF, ↓evZ, implies_true, seval, tf_S5_157]
   refine hfail _ (cnt + 1) (by omega) (hdr _ _ _ _ _) ?_
   simp at h
   rw [Tm.nodes_mk]
   omega
  simp -implicitDefEqProofs only [h, zy4, h85, h85.symm, hb5, hb8, hb5.symm, hb8.symm, hC, hwc, evF, ↓evZ, implies_true, seval, tf_S5_157]
  simp at h
  refine zq4 (fun h2 => ?_) (fun h2 => ?_)
  · simp only [decide_eq_true_eq] at h2
    obtain rfl : D = 0 := by omega
    simp -implicitDefEqProofs only [zy4, h85, h85.symm, hb5, hb8, hb5.symm, hb8.symm, hC, hwc, evF, ↓evZ, implies_true, seval, tf_S5_157]
    exact hfail _ (cnt + 1) (by omega) (hdr _ _ _ _ _) (by rw [Tm.flat_zero]; simp)
  simp only [decide_eq_false_iff_not] at h2
  obtain ⟨D', rfl⟩ : ∃ D', D = D' + 1 := ⟨D - 1, by omega⟩
  have hdeep : IntKind.i64.wrap (31 - ((D' : Int) + 1) + 1) = 31 - (D' : Int) := by rw [wrap64 (by omega) (by omega)]; omega
  simp -implicitDefEqProofs only [zy4, h85, h85.symm, hb5, hb8, hb5.symm, hb8.symm, hC, hwc, evF, ↓evZ, implies_true, seval, tf_S5_157]
  intro b10 h10
  have h105 : b10 ≠ b5 := by rintro rfl; simp [zy7.upd, hb5.symm] at h10
  have h108 : b10 ≠ b8 := by rintro rfl; simp [zy7.upd, h85, hb8.symm] at h10
  have h10c : b10 ≠ cb := by rintro rfl; simp [zy7.upd] at h10
  have hn10 : st b10 = none := by rw [zy7.upd_ne _ _ h10c, zy7.upd_ne _ _ h105, zy7.upd_ne _ _ h108, zy7.upd_ne _ _ h105] at h10; exact h10
  simp -implicitDefEqProofs only [zy4, h85, h85.symm, hb5, hb8, hb5.symm, hb8.symm, h105, h105.symm, h108, h108.symm, h10c, h10c.symm, hdeep, List.length_map, evF, ↓evZ, implies_true, seval, tf_S5_157]
  rw [zy7.upd_mid h85]
  have hWS : SubAt ((st.upd b8 (.cells [.int .i64 0, .int .i64 0, .str ⟨#[]⟩, .fslice []])).upd b5 (.cells [.int .i64 k, .int .i64 n, .str s, .slice (ts.map Tm.av)])) c m q σ := (hS.upd hn8).upd (by rw [zy7.upd_ne _ _ h85.symm]; exact h5)
  have hW8 : ((st.upd b8 (.cells [.int .i64 0, .int .i64 0, .str ⟨#[]⟩, .fslice []])).upd b5 (.cells [.int .i64 k, .int .i64 n, .str s, .slice (ts.map Tm.av)])) b8 = some (.cells [.int .i64 0, .int .i64 0, .str ⟨#[]⟩, .fslice []]) := by rw [zy7.upd_ne _ _ h85, zy7.upd_same]
  have hWd : ∀ X Y Z, Drops (((((st.upd b8 (.cells [.int .i64 0, .int .i64 0, .str ⟨#[]⟩, .fslice []])).upd b5 (.cells [.int .i64 k, .int .i64 n, .str s, .slice (ts.map Tm.av)])).upd cb X).upd b8 Y).upd b10 Z) (st.upd cb X) := fun X Y Z x => by
   by_cases e5 : x = b5 <;> by_cases e8 : x = b8 <;> by_cases ec : x = cb <;> by_cases e10 : x = b10 <;> simp_all [zy7.upd]
  generalize ((st.upd b8 (.cells [.int .i64 0, .int .i64 0, .str ⟨#[]⟩, .fslice []])).upd b5 (.cells [.int .i64 k, .int .i64 n, .str s, .slice (ts.map Tm.av)])) = W at *
  obtain ⟨h10cc, h10m⟩ := hS.ne hn10
  refine zy5 (σ := Nat) [1000000, 5, 10] [0, 2, 3, 8, 10, 40, 41] ts
   (fun i b => (((ts.take i).map (Tm.mapv R)).map Tm.av ≠ [] → (zy7.upd (W.upd cb (.cells [.int .i64 ((cnt + 1 + sumL Tm.nodes ((ts.take i).map (Tm.mapv R)) : Nat) : Int)])) b10 (.cells ([.int .i64 k, .int .i64 n, .str s] ++ [accV 4 b (((ts.take i).map (Tm.mapv R)).map Tm.av)]))) b = none) ∧
    cnt + 1 + sumL Tm.nodes ((ts.take i).map (Tm.mapv R)) ≤ 120 ∧ ((ts.take i).map (Tm.mapv R)).all (fun x => x.flat D') = true)
   (fun i b => [(9, .bool false), (42, .int .i64 i)])
   (fun i b => kidS (W.upd cb (.cells [.int .i64 ((cnt + 1 + sumL Tm.nodes ((ts.take i).map (Tm.mapv R)) : Nat) : Int)])) b10 b [.int .i64 k, .int .i64 n, .str s] (((ts.take i).map (Tm.mapv R)).map Tm.av)) (by decide +kernel)
   ⟨0, ⟨fun h => absurd rfl h, by simp [sumL]; omega, by simp⟩, zx7.mk (by simp -implicitDefEqProofs only [zy4, h85, h85.symm, hb5, hb8, hb5.symm, hb8.symm, h105, h105.symm, h108, h108.symm, h10c, h10c.symm, hdeep, List.length_map, evF, ↓evZ, implies_true, seval, tf_S5_157])⟩ (fun i x b hx hlt hlt' hdr' hinv => ?_) (fun b hge hinv => ?_)
  · obtain ⟨i1, i2, i3⟩ := hinv
    have htk : (ts.take (i + 1)).map (Tm.mapv R) = (ts.take i).map (Tm.mapv R) ++ [x.mapv R] := by rw [List.take_add_one, hx]; simp
    have hlen' : (((ts.take i).map (Tm.mapv R)).map Tm.av).length = i := by simp only [List.length_map, List.length_take]; omega
    have hw := wrap64 (n := (i : Int) + 1) (by omega) (by omega)
    have hmem := List.mem_of_getElem? hx
    generalize hl0 : (ts.take i).map (Tm.mapv R) = l0 at *
    generalize hc0 : cnt + 1 + sumL Tm.nodes l0 = c0 at *
    have hWc : (W.upd cb (.cells [.int .i64 (c0 : Int)])) cb ≠ none := by rw [zy7.upd_same]; simp
    have hs1 := kidS_ne i1 hWc h10c.symm
    have hsS : SubAt (kidS (W.upd cb (.cells [.int .i64 (c0 : Int)])) b10 b [.int .i64 k, .int .i64 n, .str s] (l0.map Tm.av)) c m q σ := by
     have h1 := (hWS.upd2 (o := .cells [.int .i64 (c0 : Int)]) hcb.1 hcb.2)
     exact ⟨by rw [kidS_ne i1 (by rw [h1.cells]; simp) h10cc.symm]; exact h1.cells, by rw [kidS_ne i1 (by rw [h1.map]; simp) h10m.symm]; exact h1.map⟩
    rw [zy7.upd_same] at hs1
    simp -implicitDefEqProofs only [hlt', zy4, hdeep, List.length_map, ev_at (av := Tm.av) eI_31 hx (Tm.av_width x), Tm.av_agg, Tm.av_width, evF, ↓evZ, implies_true, seval, tf_S5_157]
    refine (IH D' (Nat.lt_succ_self _) x c0 _ (by omega) (hcvs x hmem) (hsms x hmem) i2 hsS hs1).mono ?_
    rintro r s2 ⟨cnt', hcnt', rfl, hr⟩
    obtain ⟨e1, i1'⟩ := kidS_beside (o := .cells [.int .i64 (cnt' : Int)]) i1 hWc h10c.symm
    rw [e1, zy7.upd_upd]
    rw [zy7.upd_upd] at i1'
    have hnot : (ts.map (Tm.mapv R)) = l0 ++ (x.mapv R) :: (ts.drop (i + 1)).map (Tm.mapv R) := by rw [← hl0, ← List.map_cons, ← hdr', ← List.map_append, List.take_append_drop]
    by_cases hok : (x.mapv R).flat D' = true ∧ c0 + (x.mapv R).nodes ≤ 120
    · rw [if_pos hok] at hr
      obtain ⟨rfl, rfl⟩ := hr
      have hbo := kidS_c i1'
      simp -implicitDefEqProofs only [zy4, hdeep, List.length_map, ev_at (av := Tm.av) eI_31 hx (Tm.av_width x), Tm.av_agg, Tm.av_width, Tm.av_store, Tm.av_junk, hbo, accV_agg, accV_width, evF, ↓evZ, implies_true, seval, tf_S5_157]
      refine acc_append eI_31 eB_31 eZ_31 rfl rfl (by intro e he; simp only [List.mem_cons, List.not_mem_nil, or_false] at he; subst he; exact ⟨Tm.av_width _, Tm.av_store _⟩) (tm_widths _) i1' (by simp only [hlen', List.length_cons, List.length_nil]; omega) (by simp only [hlen', List.length_cons, List.length_nil]; omega) (fun b' hb' => ?_)
      rw [show l0.map Tm.av ++ [(x.mapv R).av] = ((ts.take (i + 1)).map (Tm.mapv R)).map Tm.av by rw [htk]; simp] at hb' ⊢
      obtain ⟨g1, g2, g3⟩ := kidS_set hb'
      simp only [List.cons_append, List.nil_append] at g1 g3
      have hcc : cnt + 1 + sumL Tm.nodes ((ts.take (i + 1)).map (Tm.mapv R)) = c0 + (x.mapv R).nodes := by rw [htk, sumL_append, sumL, sumL, ← hc0]; omega
      simp -implicitDefEqProofs only [g3, accV_cells, accV_store, Nat.le_refl, g1, hw, zy4, hdeep, List.length_map, ev_at (av := Tm.av) eI_31 hx (Tm.av_width x), Tm.av_agg, Tm.av_width, Tm.av_store, Tm.av_junk, hbo, accV_agg, accV_width, evF, ↓evZ, implies_true, seval, tf_S5_157]
      rw [hcc]
      exact ⟨b', ⟨g2, hok.2, by rw [htk, List.all_append, i3]; simp [hok.1]⟩, zx7.mk (by simp -implicitDefEqProofs only [zy4, hdeep, List.length_map, ev_at (av := Tm.av) eI_31 hx (Tm.av_width x), Tm.av_agg, Tm.av_width, Tm.av_store, Tm.av_junk, hbo, accV_agg, accV_width, evF, ↓evZ, implies_true, seval, tf_S5_157])⟩
    · rw [if_neg hok] at hr
      subst hr
      obtain ⟨e2, i2'⟩ := kidS_beside (x := b8) (o := .cells [.int .i64 0, .int .i64 0, .str ⟨#[]⟩, .fslice []]) i1' (by rw [zy7.upd_ne _ _ hb8.symm, hW8]; simp) h108.symm
      have h8o := kidS_ne i1' (x := b8) (by rw [zy7.upd_ne _ _ hb8.symm, hW8]; simp) h108.symm
      rw [zy7.upd_ne _ _ hb8.symm, hW8] at h8o
      simp -implicitDefEqProofs only [zy4, hdeep, List.length_map, Tm.av_agg, Tm.av_width, Tm.av_store, Tm.av_junk, h8o, Tm.zero, Tm.av_mk, List.map_nil, evF, ↓evZ, implies_true, seval, tf_S5_157]
      rw [e2]
      refine hfail _ cnt' hcnt' (kidS_gone (hWd _ _ _) i2') ?_
      rw [Tm.nodes_mk, Tm.flat_succ, hnot, List.all_append, List.all_cons, sumL_append, sumL]
      rintro ⟨h3, h4⟩
      simp only [Bool.and_eq_true] at h3
      exact hok ⟨h3.2.1, by omega⟩
  · obtain ⟨i1, i2, i3⟩ := hinv
    rw [List.take_length] at i1 i2 i3 ⊢
    have hbo := kidS_c i1
    have hx8 : (W.upd cb (.cells [.int .i64 ((cnt + 1 + sumL Tm.nodes (ts.map (Tm.mapv R)) : Nat) : Int)])) b8 ≠ none := by rw [zy7.upd_ne _ _ hb8.symm, hW8]; simp
    have h8o := kidS_ne i1 (x := b8) hx8 h108.symm
    rw [zy7.upd_ne _ _ hb8.symm, hW8] at h8o
    simp -implicitDefEqProofs only [zy4, hdeep, List.length_map, hge, hbo, h8o, accV_store, evF, ↓evZ, implies_true, seval, tf_S5_157]
    obtain ⟨h5, h6⟩ := kidS_upd (o := .cells [.int .i64 k, .int .i64 n, .str s, accV 4 b ((ts.map (Tm.mapv R)).map Tm.av)]) i1 hx8 h108.symm
    have hsum : cnt + (Tm.mk k n s (ts.map (Tm.mapv R))).nodes = cnt + 1 + sumL Tm.nodes (ts.map (Tm.mapv R)) := by rw [Tm.nodes_mk]; omega
    refine ⟨b, _, _, h5, h6, tm_junk _, ⟨4, tm_widths _⟩, _, ?_, _, Nat.le_succ_of_le i2, rfl, ?_⟩
    · rw [zy7.upd_comm _ _ _ h108]
      exact hWd _ _ _
    · rw [if_pos ⟨by rw [Tm.flat_succ]; exact i3, by rw [hsum]; exact i2⟩, hsum]
      refine ⟨?_, rfl⟩
      simp only [fin_tup, fin_agg, List.map_cons, List.map_nil, fin_int, fin_str, fin_bool, accV_fin, Tm.av_mk]
termination_by D => D
decreasing_by exact hlt
end Go.AW
