import Derived.Test.YtepkgoabhlnkbaaGreatDoorSesg
import Derived.Test.YtepkgoabhlnkbaaGreatDoorSesi
import Derived.Test.YtepkgoabhlnkbaaGreatDoorSesf
set_option linter.unusedSimpArgs false
set_option linter.unusedVariables false
set_option maxRecDepth 100000
namespace Go.AW
open Go.Proofs.Tryz
abbrev tf_Gs_18 := zi tI_3 (zi zI_3 (zi underlying3 (zi tI_4 (zi zI_4 underlying4))))
theorem c_within (n lo hi : Int) (st : zy7) : zq7 prog 18 [.int .i64 n, .int .i64 lo, .int .i64 hi] st (fun r st' => r = .bool (decide (lo ≤ n) && decide (n ≤ hi)) ∧ st' = st) := by
 refine wF [] 3 func18 ntmps18 rfl rfl ?_
 intro _
 repeat' (first
  | (simp -implicitDefEqProofs only [*, evF, ↓evZ, implies_true, seval, tf_Gs_18])
  | (refine zx4 (fun h => ?_) (fun h => ?_))
  | (refine zq4 (fun h => ?_) (fun h => ?_)))
 all_goals simp_all
abbrev tf_Gs_95 := zi tI_3 (zi zI_3 (zi underlying3 (zi tI_4 (zi zI_4 (zi underlying4 (zi tI_9 (zi zI_9 underlying9)))))))
theorem c_OpLevel (s : ByteArray) (st : zy7) : zq7 prog 95 [.str s] st (fun r st' => r = .tup [.int .i64 (opLevel s), .bool (opLevel s == 1 || opLevel s == 2)] ∧ st' = st) := by
 refine wF [] 1 func95 ntmps95 rfl rfl ?_
 intro _
 repeat' (first
  | (simp -implicitDefEqProofs only [*, evF, ↓evZ, implies_true, seval, tf_Gs_95])
  | (refine zx4 (fun h => ?_) (fun h => ?_))
  | (refine zq4 (fun h => ?_) (fun h => ?_)))
 all_goals (simp only [opLevel, *, Bool.or_true, Bool.true_or, Bool.or_false, Bool.false_or, Bool.or_self, cond_true, cond_false]; first | done | rfl)
abbrev tf_Gs_55 := zi tI_3 (zi zI_3 (zi underlying3 (zi tI_9 (zi zI_9 underlying9))))
theorem c_l2Level (s : ByteArray) (st : zy7) : zq7 prog 55 [.str s] st (fun r st' => r = .int .i64 (opLevel s) ∧ st' = st) := by
 refine wF [] 1 func55 ntmps55 rfl rfl ?_
 intro _
 repeat' (first
  | (simp -implicitDefEqProofs only [*, evF, ↓evZ, implies_true, seval, tf_Gs_55])
  | (refine zx4 (fun h => ?_) (fun h => ?_))
  | (refine zq4 (fun h => ?_) (fun h => ?_)))
 all_goals (simp only [opLevel, *, Bool.or_true, Bool.true_or, Bool.or_false, Bool.false_or, Bool.or_self, cond_true, cond_false]; first | done | rfl)
abbrev tf_Gs_96 := zi tI_3 (zi zI_3 (zi underlying3 (zi tI_4 (zi zI_4 (zi underlying4 (zi tI_9 (zi zI_9 underlying9)))))))
theorem c_impl_IsBuiltin (s : ByteArray) (n : Int) (st : zy7) : zq7 prog 96 [.str s, .int .i64 n] st (fun r st' => r = .bool (isBuiltin s n) ∧ st' = st) := by
 refine wF [] 2 func96 ntmps96 rfl rfl ?_
 intro _
 repeat' (first
  | (simp -implicitDefEqProofs only [*, evF, ↓evZ, implies_true, seval, tf_Gs_96])
  | (refine zx4 (fun h => ?_) (fun h => ?_))
  | (refine zq4 (fun h => ?_) (fun h => ?_)))
 all_goals (simp only [isBuiltin, *, Bool.or_true, Bool.true_or, Bool.or_false, Bool.false_or, Bool.or_self, cond_true, cond_false]; first | done | rfl)
abbrev tf_Gs_54 := zi tI_3 (zi zI_3 (zi underlying3 (zi tI_4 (zi zI_4 (zi underlying4 (zi tI_9 (zi zI_9 underlying9)))))))
theorem c_spec_IsBuiltin (s : ByteArray) (n : Int) (st : zy7) : zq7 prog 54 [.str s, .int .i64 n] st (fun r st' => r = .bool (isBuiltin s n) ∧ st' = st) := by
 refine wF [] 2 func54 ntmps54 rfl rfl ?_
 intro _
 repeat' (first
  | (simp -implicitDefEqProofs only [*, evF, ↓evZ, implies_true, seval, tf_Gs_54])
  | (refine zx4 (fun h => ?_) (fun h => ?_))
  | (refine zq4 (fun h => ?_) (fun h => ?_)))
 all_goals (simp only [isBuiltin, *, Bool.or_true, Bool.true_or, Bool.or_false, Bool.false_or, Bool.or_self, cond_true, cond_false]; first | done | rfl)
abbrev tf_Gs2_53 := zi tI_3 (zi zI_3 (zi underlying3 (zi tI_4 (zi zI_4 (zi underlying4 (zi tI_5 (zi zI_5 (zi underlying5 (zi tI_9 (zi zI_9 underlying9))))))))))
theorem c_l1Word (s : ByteArray) (st : zy7) : zq7 prog 53 [.str s] st (fun r st' => r = .bool (letters s) ∧ st' = st) := by
 refine wF [] 1 func53 ntmps53 rfl rfl ?_
 simp only [fitsL, AV.fits, and_true]
 intro hs
 simp -implicitDefEqProofs only [evF, ↓evZ, implies_true, seval, tf_Gs2_53]
 refine zy6 (α := Nat) [] (fun i => i ≤ s.size ∧ ∀ (j : Nat) c, j < i → (sb s)[j]? = some c → letter c = true)
  (fun i => [(0, .str s), (3, .int .i64 i)]) (fun _ => st) (fun i => s.size - i) (by decide +kernel)
  ⟨0, ⟨by omega, by intro j x h; omega⟩, zx7.mk (by simp -implicitDefEqProofs only [evF, ↓evZ, implies_true, seval, tf_Gs2_53])⟩ ?_
 intro i ⟨hi, hall⟩
 simp -implicitDefEqProofs only [evF, ↓evZ, implies_true, seval, tf_Gs2_53]
 refine ⟨fun h5 => ?_, fun h5 => ?_⟩
 case refine_2 =>
  simp only [decide_eq_false_iff_not, Int.ofNat_lt] at h5
  have ha : (sb s).all letter = true := all_of fun j c hc => hall j c (by have := (List.getElem?_eq_some_iff.1 hc).1; rw [sb_len] at this; omega) hc
  repeat' (first
   | (simp -implicitDefEqProofs only [*, evF, ↓evZ, implies_true, seval, tf_Gs2_53])
   | (refine zx4 (fun h => ?_) (fun h => ?_))
   | (refine zq4 (fun h => ?_) (fun h => ?_)))
  all_goals simp only [letters, ha, Bool.true_and, AV.bool.injEq]
  all_goals simp only [*, Bool.not_true, Bool.true_and, Bool.false_and]
 simp only [decide_eq_true_eq, Int.ofNat_lt] at h5
 obtain ⟨c, hc⟩ : ∃ c, (sb s)[i]? = some c := ⟨_, List.getElem?_eq_getElem (by rw [sb_len]; exact h5)⟩
 have hx := idx_byte (P := prog) (t := 9) underlying9 hc
 simp -implicitDefEqProofs only [hx, evF, ↓evZ, implies_true, seval, tf_Gs2_53]
 refine zx4 (fun h6 => ?_) (fun h6 => ?_)
 case refine_2 =>
  simp -implicitDefEqProofs only [h6, evF, ↓evZ, implies_true, seval, tf_Gs2_53]
  simp only [Bool.not_false, decide_eq_true_eq] at h6
  simp only [letters, all_at hc (show letter c = false by simp [letter]; omega), Bool.false_and]
 simp -implicitDefEqProofs only [h6, hx, evF, ↓evZ, implies_true, seval, tf_Gs2_53]
 refine ⟨fun h7 => ?_, fun h7 => ?_⟩
 · simp -implicitDefEqProofs only [evF, ↓evZ, implies_true, seval, tf_Gs2_53]
   simp only [decide_eq_true_eq] at h7
   simp only [letters, all_at hc (show letter c = false by simp [letter]; omega), Bool.false_and]
 simp only [decide_eq_false_iff_not] at h6 h7
 simp -implicitDefEqProofs only [evF, ↓evZ, implies_true, seval, tf_Gs2_53]
 refine ⟨i + 1, by omega, ⟨by omega, fun j u hj hu => ?_⟩, zx7.mk ?_⟩
 · rcases Nat.lt_or_ge j i with h8 | h8
   · exact hall j u h8 hu
   · obtain rfl : j = i := by omega
     rw [hc] at hu; cases hu
     simp [letter]; omega
 · have := wrap64 (n := (i : Int) + 1) (by omega) (by omega)
   simp -implicitDefEqProofs only [this, evF, ↓evZ, implies_true, seval, tf_Gs2_53]
abbrev tf_Gs2_68 := zi tI_3 (zi zI_3 (zi underlying3 (zi tI_4 (zi zI_4 (zi underlying4 (zi tI_5 (zi zI_5 (zi underlying5 (zi tI_6 (zi zI_6 (zi underlying6 (zi tI_9 (zi zI_9 underlying9)))))))))))))
theorem c_isLetters (s : ByteArray) (st : zy7) : zq7 prog 68 [.str s] st (fun r st' => r = .bool (letters s) ∧ st' = st) := by
 refine wF [] 1 func68 ntmps68 rfl rfl ?_
 simp only [fitsL, AV.fits, and_true]
 intro hs
 simp -implicitDefEqProofs only [evF, ↓evZ, implies_true, seval, tf_Gs2_68]
 refine zy6 (α := Nat) [] (fun i => i ≤ s.size ∧ ∀ (j : Nat) c, j < i → (sb s)[j]? = some c → letter c = true)
  (fun i => [(0, .str s), (5, .int .i64 s.size), (6, .int .i64 i)]) (fun _ => st) (fun i => s.size - i) (by decide +kernel)
  ⟨0, ⟨by omega, by intro j x h; omega⟩, zx7.mk (by simp -implicitDefEqProofs only [evF, ↓evZ, implies_true, seval, tf_Gs2_68])⟩ ?_
 intro i ⟨hi, hall⟩
 simp -implicitDefEqProofs only [evF, ↓evZ, implies_true, seval, tf_Gs2_68]
 refine ⟨fun h5 => ?_, fun h5 => ?_⟩
 case refine_2 =>
  simp only [decide_eq_false_iff_not, Int.ofNat_lt] at h5
  have ha : (sb s).all letter = true := all_of fun j c hc => hall j c (by have := (List.getElem?_eq_some_iff.1 hc).1; rw [sb_len] at this; omega) hc
  simp -implicitDefEqProofs only [evF, ↓evZ, implies_true, seval, tf_Gs2_68]
  refine (c_within _ _ _ st).to ?_
  simp -implicitDefEqProofs only [evF, ↓evZ, implies_true, seval, tf_Gs2_68]
  simp only [letters, ha, Bool.true_and]
 simp only [decide_eq_true_eq, Int.ofNat_lt] at h5
 obtain ⟨c, hc⟩ : ∃ c, (sb s)[i]? = some c := ⟨_, List.getElem?_eq_getElem (by rw [sb_len]; exact h5)⟩
 have hx := idx_byte (P := prog) (t := 9) underlying9 hc
 simp -implicitDefEqProofs only [hx, evF, ↓evZ, implies_true, seval, tf_Gs2_68]
 refine zx4 (fun h6 => ?_) (fun h6 => ?_)
 case refine_2 =>
  simp -implicitDefEqProofs only [h6, evF, ↓evZ, implies_true, seval, tf_Gs2_68]
  simp only [Bool.not_false, decide_eq_true_eq] at h6
  simp only [letters, all_at hc (show letter c = false by simp [letter]; omega), Bool.false_and]
 simp -implicitDefEqProofs only [h6, hx, evF, ↓evZ, implies_true, seval, tf_Gs2_68]
 refine ⟨fun h7 => ?_, fun h7 => ?_⟩
 · simp -implicitDefEqProofs only [evF, ↓evZ, implies_true, seval, tf_Gs2_68]
   simp only [decide_eq_true_eq] at h7
   simp only [letters, all_at hc (show letter c = false by simp [letter]; omega), Bool.false_and]
 simp only [decide_eq_false_iff_not] at h6 h7
 simp -implicitDefEqProofs only [evF, ↓evZ, implies_true, seval, tf_Gs2_68]
 refine ⟨i + 1, by omega, ⟨by omega, fun j u hj hu => ?_⟩, zx7.mk ?_⟩
 · rcases Nat.lt_or_ge j i with h8 | h8
   · exact hall j u h8 hu
   · obtain rfl : j = i := by omega
     rw [hc] at hu; cases hu
     simp [letter]; omega
 · have := wrap64 (n := (i : Int) + 1) (by omega) (by omega)
   simp -implicitDefEqProofs only [this, evF, ↓evZ, implies_true, seval, tf_Gs2_68]
abbrev tf_Gs2_69 := zi tI_3 (zi zI_3 (zi underlying3 (zi tI_4 (zi zI_4 (zi underlying4 (zi tI_9 (zi zI_9 underlying9)))))))
theorem c_isOp (s : ByteArray) (st : zy7) : zq7 prog 69 [.str s] st (fun r st' => r = .bool (decide ((0 : Int) < (opLevel s : Int))) ∧ st' = st) := by
 refine wF [] 1 func69 ntmps69 rfl rfl ?_
 intro _
 simp -implicitDefEqProofs only [evF, ↓evZ, implies_true, seval, tf_Gs2_69]
 refine (c_OpLevel s st).to ?_
 simp -implicitDefEqProofs only [evF, ↓evZ, implies_true, seval, tf_Gs2_69]
abbrev tf_Gs2_97 := zi tI_3 (zi zI_3 (zi underlying3 (zi tI_4 (zi zI_4 (zi underlying4 (zi tI_29 (zi zI_29 (zi eI_29 (zi eB_29 (zi eZ_29 (zi underlying29 (zi tI_56 (zi zI_56 (zi fI_56_0 (zi fI_56_1 (zi fI_56_2 (zi fI_56_3 bI_56)))))))))))))))))
theorem c_isAtom (k n : Int) (s : ByteArray) (ts : List Tm) (st : zy7) : zq7 prog 97 [(Tm.mk k n s ts).av] st (fun r st' => r = .bool (decide (k = 3) && decide ((ts.length : Int) = 0)) ∧ st' = st) := by
 refine wF [] 1 func97 ntmps97 rfl rfl ?_
 intro _
 simp only [Tm.av_mk]
 repeat' (first
  | (simp -implicitDefEqProofs only [*, evF, ↓evZ, implies_true, seval, tf_Gs2_97])
  | (refine zx4 (fun h => ?_) (fun h => ?_))
  | (refine zq4 (fun h => ?_) (fun h => ?_)))
 all_goals simp_all
def signs : List ByteArray := [⟨#[43]⟩, ⟨#[45]⟩, ⟨#[42]⟩, ⟨#[47, 47]⟩, ⟨#[61]⟩, ⟨#[92, 61]⟩, ⟨#[61, 61]⟩, ⟨#[60]⟩, ⟨#[62]⟩, ⟨#[61, 60]⟩, ⟨#[62, 61]⟩, ⟨#[61, 58, 61]⟩, ⟨#[46]⟩, ⟨#[91, 93]⟩, ⟨#[33]⟩]
abbrev tf_Gs3_111 := zi tI_140 (zi zI_140 (zi eI_140 (zi eB_140 (zi eZ_140 underlying140))))
theorem c_symbols (st : zy7) : zq7 prog 111 [] st (fun r st' => r = .fslice (signs.map .str) ∧ st' = st) := by
 refine wF [] 0 func111 ntmps111 rfl rfl ?_
 intro _
 simp -implicitDefEqProofs only [signs, evF, ↓evZ, implies_true, seval, tf_Gs3_111]
abbrev tf_Gs3_124 := zi tI_140 (zi zI_140 (zi eI_140 (zi eB_140 (zi eZ_140 underlying140))))
theorem c_l1Signs (st : zy7) : zq7 prog 124 [] st (fun r st' => r = .fslice (signs.map .str) ∧ st' = st) := by
 refine wF [] 0 func124 ntmps124 rfl rfl ?_
 intro _
 simp -implicitDefEqProofs only [signs, evF, ↓evZ, implies_true, seval, tf_Gs3_124]
abbrev tf_Gs3_123 := zi tI_3 (zi zI_3 (zi underlying3 (zi tI_4 (zi zI_4 (zi underlying4 (zi tI_9 (zi zI_9 (zi underlying9 (zi tI_140 (zi zI_140 (zi eI_140 (zi eB_140 (zi eZ_140 underlying140)))))))))))))
theorem c_l1Has (l : List ByteArray) (s : ByteArray) (st : zy7) : zq7 prog 123 [.slice (l.map .str), .str s] st (fun r st' => r = .bool (l.any fun x => decide (x = s)) ∧ st' = st) := by
 refine wF [] 2 func123 ntmps123 rfl rfl ?_
 simp only [fitsL, AV.fits, and_true, List.length_map]
 intro ⟨⟨hl, _⟩, _⟩
 simp -implicitDefEqProofs only [evF, ↓evZ, implies_true, seval, tf_Gs3_123]
 refine zy6 (α := Nat) [] (fun i => i ≤ l.length ∧ ∀ (j : Nat) x, j < i → l[j]? = some x → decide (x = s) = false)
  (fun i => [(0, .slice (l.map .str)), (1, .str s), (5, .int .i64 i)]) (fun _ => st) (fun i => l.length - i) (by decide +kernel)
  ⟨0, ⟨by omega, by intro j x h; omega⟩, zx7.mk (by simp -implicitDefEqProofs only [evF, ↓evZ, implies_true, seval, tf_Gs3_123])⟩ ?_
 intro i ⟨hi, hall⟩
 simp -implicitDefEqProofs only [List.length_map, evF, ↓evZ, implies_true, seval, tf_Gs3_123]
 refine ⟨fun h5 => ?_, fun h5 => ?_⟩
 case refine_2 =>
  simp -implicitDefEqProofs only [evF, ↓evZ, implies_true, seval, tf_Gs3_123]
  simp only [decide_eq_false_iff_not, Int.ofNat_lt] at h5
  have : (l.any fun x => decide (x = s)) = false := by
   rw [List.any_eq_false]
   intro x hx
   obtain ⟨j, hj⟩ := List.getElem?_of_mem hx
   simp [hall j x (by have := (List.getElem?_eq_some_iff.1 hj).1; omega) hj]
  rw [this]
 simp only [decide_eq_true_eq, Int.ofNat_lt] at h5
 obtain ⟨x, hx⟩ : ∃ x, l[i]? = some x := ⟨_, List.getElem?_eq_getElem h5⟩
 simp -implicitDefEqProofs only [ev_at (av := AV.str) eI_140 hx rfl, evF, ↓evZ, implies_true, seval, tf_Gs3_123]
 refine ⟨fun h6 => ?_, fun h6 => ?_⟩
 · simp -implicitDefEqProofs only [evF, ↓evZ, implies_true, seval, tf_Gs3_123]
   have : (l.any fun x => decide (x = s)) = true := by
    rw [List.any_eq_true]
    exact ⟨x, List.mem_of_getElem? hx, h6⟩
   rw [this]
 simp -implicitDefEqProofs only [evF, ↓evZ, implies_true, seval, tf_Gs3_123]
 refine ⟨i + 1, by omega, ⟨by omega, fun j u hj hu => ?_⟩, zx7.mk ?_⟩
 · rcases Nat.lt_or_ge j i with h8 | h8
   · exact hall j u h8 hu
   · obtain rfl : j = i := by omega
     rw [hx] at hu; cases hu
     exact h6
 · have := wrap64 (n := (i : Int) + 1) (by omega) (by omega)
   simp -implicitDefEqProofs only [this, evF, ↓evZ, implies_true, seval, tf_Gs3_123]
abbrev tf_Gs3_128 := zi tI_3 (zi zI_3 (zi underlying3 (zi tI_9 (zi zI_9 (zi underlying9 (zi tI_140 (zi zI_140 (zi eI_140 (zi eB_140 (zi eZ_140 underlying140))))))))))
theorem c_IndexS (l : List ByteArray) (s : ByteArray) (st : zy7) : zq7 prog 128 [.slice (l.map .str), .str s] st (fun r st' => (∃ k : Int, r = .int .i64 k ∧ decide (0 ≤ k) = l.any fun x => decide (s = x)) ∧ st' = st) := by
 refine wF [] 2 func128 ntmps128 rfl rfl ?_
 simp only [fitsL, AV.fits, and_true, List.length_map]
 intro ⟨⟨hl, _⟩, _⟩
 simp -implicitDefEqProofs only [List.length_map, evF, ↓evZ, implies_true, seval, tf_Gs3_128]
 refine zy6 (α := Nat) [] (fun i => i ≤ l.length ∧ ∀ (j : Nat) x, j < i → l[j]? = some x → decide (s = x) = false)
  (fun i => [(0, .slice (l.map .str)), (1, .str s), (7, .int .i64 l.length), (8, .int .i64 i)]) (fun _ => st) (fun i => l.length - i) (by decide +kernel)
  ⟨0, ⟨by omega, by intro j x h; omega⟩, zx7.mk (by simp -implicitDefEqProofs only [evF, ↓evZ, implies_true, seval, tf_Gs3_128])⟩ ?_
 intro i ⟨hi, hall⟩
 simp -implicitDefEqProofs only [List.length_map, evF, ↓evZ, implies_true, seval, tf_Gs3_128]
 refine ⟨fun h5 => ?_, fun h5 => ?_⟩
 case refine_2 =>
  simp -implicitDefEqProofs only [evF, ↓evZ, implies_true, seval, tf_Gs3_128]
  simp only [decide_eq_false_iff_not, Int.ofNat_lt] at h5
  have : (l.any fun x => decide (s = x)) = false := by
   rw [List.any_eq_false]
   intro x hx
   obtain ⟨j, hj⟩ := List.getElem?_of_mem hx
   simp [hall j x (by have := (List.getElem?_eq_some_iff.1 hj).1; omega) hj]
  rw [this]
  exact ⟨_, rfl, rfl⟩
 simp only [decide_eq_true_eq, Int.ofNat_lt] at h5
 obtain ⟨x, hx⟩ : ∃ x, l[i]? = some x := ⟨_, List.getElem?_eq_getElem h5⟩
 simp -implicitDefEqProofs only [ev_at (av := AV.str) eI_140 hx rfl, evF, ↓evZ, implies_true, seval, tf_Gs3_128]
 refine ⟨fun h6 => ?_, fun h6 => ?_⟩
 · simp -implicitDefEqProofs only [evF, ↓evZ, implies_true, seval, tf_Gs3_128]
   have : (l.any fun x => decide (s = x)) = true := by
    rw [List.any_eq_true]
    exact ⟨x, List.mem_of_getElem? hx, h6⟩
   rw [this]
   exact ⟨_, rfl, by simp⟩
 simp -implicitDefEqProofs only [evF, ↓evZ, implies_true, seval, tf_Gs3_128]
 refine ⟨i + 1, by omega, ⟨by omega, fun j u hj hu => ?_⟩, zx7.mk ?_⟩
 · rcases Nat.lt_or_ge j i with h8 | h8
   · exact hall j u h8 hu
   · obtain rfl : j = i := by omega
     rw [hx] at hu; cases hu
     exact h6
 · have := wrap64 (n := (i : Int) + 1) (by omega) (by omega)
   simp -implicitDefEqProofs only [this, evF, ↓evZ, implies_true, seval, tf_Gs3_128]
abbrev tf_Gs3_110 := zi tI_3 (zi zI_3 (zi underlying3 (zi tI_4 (zi zI_4 (zi underlying4 (zi tI_9 (zi zI_9 (zi underlying9 (zi tI_140 (zi zI_140 (zi eI_140 (zi eB_140 (zi eZ_140 underlying140)))))))))))))
theorem c_ContainsS (l : List ByteArray) (s : ByteArray) (st : zy7) : zq7 prog 110 [.slice (l.map .str), .str s] st (fun r st' => r = .bool (l.any fun x => decide (s = x)) ∧ st' = st) := by
 refine wF [] 2 func110 ntmps110 rfl rfl ?_
 intro _
 simp -implicitDefEqProofs only [evF, ↓evZ, implies_true, seval, tf_Gs3_110]
 refine (c_IndexS l s st).mono ?_
 rintro _ _ ⟨⟨k, rfl, hk⟩, rfl⟩
 simp -implicitDefEqProofs only [evF, ↓evZ, implies_true, seval, tf_Gs3_110]
 rw [← hk]
theorem c_ContainsS' (l : List ByteArray) (s : ByteArray) (st : zy7) : zq7 prog 110 [.fslice (l.map .str), .str s] st (fun r st' => r = .bool (l.any fun x => decide (s = x)) ∧ st' = st) :=
 zq7.softArgs (by simp only [softL, AV.soft]; exact c_ContainsS l s st)
theorem c_l1Has' (l : List ByteArray) (s : ByteArray) (st : zy7) : zq7 prog 123 [.fslice (l.map .str), .str s] st (fun r st' => r = .bool (l.any fun x => decide (x = s)) ∧ st' = st) :=
 zq7.softArgs (by simp only [softL, AV.soft]; exact c_l1Has l s st)
def nameValid (s : ByteArray) : Bool := letters s || signs.any fun x => decide (s = x)
theorem any_swap (s : ByteArray) : (signs.any fun x => decide (x = s)) = signs.any fun x => decide (s = x) := by
 congr 1
 funext x
 exact decide_eq_decide.2 ⟨Eq.symm, Eq.symm⟩
abbrev tf_Gs3_93 := zi tI_4 (zi zI_4 (zi underlying4 (zi tI_9 (zi zI_9 (zi underlying9 (zi tI_140 (zi zI_140 (zi eI_140 (zi eB_140 (zi eZ_140 underlying140))))))))))
theorem c_impl_NameValid (s : ByteArray) (st : zy7) : zq7 prog 93 [.str s] st (fun r st' => r = .bool (nameValid s) ∧ st' = st) := by
 refine wF [] 1 func93 ntmps93 rfl rfl ?_
 intro _
 repeat' (first
  | (simp -implicitDefEqProofs only [*, evF, ↓evZ, implies_true, seval, tf_Gs3_93])
  | (refine zx4 (fun h => ?_) (fun h => ?_))
  | (refine (c_isLetters s st).to ?_) | (refine (c_symbols st).to ?_) | (refine (c_ContainsS' signs s st).to ?_)
  | (refine zq4 (fun h => ?_) (fun h => ?_)))
 all_goals simp only [nameValid, *, Bool.not_false, Bool.true_or, Bool.false_or]
abbrev tf_Gs3_105 := zi tI_4 (zi zI_4 (zi underlying4 (zi tI_9 (zi zI_9 (zi underlying9 (zi tI_140 (zi zI_140 (zi eI_140 (zi eB_140 (zi eZ_140 underlying140))))))))))
theorem c_spec_NameValid (s : ByteArray) (st : zy7) : zq7 prog 105 [.str s] st (fun r st' => r = .bool (nameValid s) ∧ st' = st) := by
 refine wF [] 1 func105 ntmps105 rfl rfl ?_
 intro _
 repeat' (first
  | (simp -implicitDefEqProofs only [*, evF, ↓evZ, implies_true, seval, tf_Gs3_105])
  | (refine zx4 (fun h => ?_) (fun h => ?_))
  | (refine (c_l1Word s st).to ?_) | (refine (c_l1Signs st).to ?_) | (refine (c_l1Has' signs s st).to ?_)
  | (refine zq4 (fun h => ?_) (fun h => ?_)))
 all_goals simp only [nameValid, any_swap, *, Bool.not_false, Bool.true_or, Bool.false_or]
end Go.AW
namespace Go.AW
def ownOk (k n : Int) (s : ByteArray) (len : Int) : Bool :=
 cond (decide (k = 1)) (decide ((0 : Int) ≤ n) && decide (n ≤ 25) && decide (s = ⟨#[]⟩) && decide (len = 0))
  (cond (decide (k = 2)) (decide ((-999 : Int) ≤ n) && decide (n ≤ 999) && decide (s = ⟨#[]⟩) && decide (len = 0))
   (cond (decide (k = 3)) (decide (n = 0) && nameValid s && decide (len ≤ 4)) false))
mutual
def Tm.shape : Tm → Int → Bool
 | .mk k n s ts, d => decide (1 ≤ d) && ownOk k n s ts.length && tmsShape ts (d - 1)
def tmsShape : List Tm → Int → Bool
 | [], _ => true
 | t :: ts, d => t.shape d && tmsShape ts d
end
theorem tmsShape_all : ∀ (ts : List Tm) (d : Int), tmsShape ts d = ts.all fun t => t.shape d
 | [], _ => rfl
 | t :: ts, d => by simp only [tmsShape, List.all_cons, tmsShape_all ts d]
theorem Tm.shape_mk (k n : Int) (s : ByteArray) (ts : List Tm) (d : Int) : (Tm.mk k n s ts).shape d = (decide (1 ≤ d) && ownOk k n s ts.length && ts.all fun t => t.shape (d - 1)) := by simp only [Tm.shape, tmsShape_all]
mutual
def Tm.nodes : Tm → Nat
 | .mk _ _ _ ts => 1 + tmsNodes ts
def tmsNodes : List Tm → Nat
 | [] => 0
 | t :: ts => t.nodes + tmsNodes ts
end
theorem tmsNodes_sum : ∀ (ts : List Tm), tmsNodes ts = sumL Tm.nodes ts
 | [] => rfl
 | t :: ts => by simp only [tmsNodes, sumL, tmsNodes_sum ts]
theorem Tm.nodes_mk (k n : Int) (s : ByteArray) (ts : List Tm) : (Tm.mk k n s ts).nodes = 1 + sumL Tm.nodes ts := by simp only [Tm.nodes, tmsNodes_sum]
def Tm.valid (t : Tm) : Bool := t.shape 30 && decide (t.nodes ≤ 120)
mutual
def Tm.vars : Tm → List Int → List Int
 | .mk k n _ ts, l => tmsVars ts (if k = 1 ∧ n ∉ l then l ++ [n] else l)
def tmsVars : List Tm → List Int → List Int
 | [], l => l
 | t :: ts, l => tmsVars ts (t.vars l)
end
mutual
theorem Tm.vars_len : ∀ (t : Tm) (l : List Int), (t.vars l).length ≤ l.length + t.nodes
 | .mk k n s ts, l => by
  have h := tmsVars_len ts (if k = 1 ∧ n ∉ l then l ++ [n] else l)
  have h2 : (if k = 1 ∧ n ∉ l then l ++ [n] else l).length ≤ l.length + 1 := by split <;> simp
  rw [Tm.vars, Tm.nodes_mk]
  omega
theorem tmsVars_len : ∀ (ts : List Tm) (l : List Int), (tmsVars ts l).length ≤ l.length + sumL Tm.nodes ts
 | [], l => by simp [tmsVars, sumL]
 | t :: ts, l => by
  have h1 := Tm.vars_len t l
  have h2 := tmsVars_len ts (t.vars l)
  simp only [tmsVars, sumL]
  omega
end
def idxI (v : Int) : List Int → Int → Int
 | [], _ => -1
 | x :: xs, i => if v = x then i else idxI v xs (i + 1)
theorem idxI_mem (v : Int) : ∀ (l : List Int) (i : Int), 0 ≤ i → (0 ≤ idxI v l i ↔ v ∈ l)
 | [], i, h => by simp [idxI]
 | x :: xs, i, h => by
  simp only [idxI, List.mem_cons]
  split
  · rename_i e; simp [e, h]
  · rename_i e; rw [idxI_mem v xs (i + 1) (by omega)]; simp [e]
theorem accS_upd {st : zy7} {b x : Nat} {l : List AV} {o : AO} (h : l ≠ [] → x ≠ b) : (accS st b l).upd x o = accS (st.upd x o) b l := by
 cases l with
 | nil => rfl
 | cons y l => exact zy7.upd_comm _ _ _ (Ne.symm (h (by simp)))
theorem accS_drop {st : zy7} {b x : Nat} {l : List AV} {o : AO} (hx : st x = none) (h : l ≠ [] → (st.upd x o) b = none) : Drops (accS (st.upd x o) b l) (accS st b l) ∧ (l ≠ [] → st b = none) := by
 cases l with
 | nil => exact ⟨(Drops.refl _).upd hx, fun h => absurd rfl h⟩
 | cons y l =>
  have hb := h (by simp)
  have hne : b ≠ x := by rintro rfl; rw [zy7.upd_same] at hb; cases hb
  rw [zy7.upd_ne _ _ hne] at hb
  refine ⟨?_, fun _ => hb⟩
  simp only [accS]
  rw [zy7.upd_comm _ _ _ (Ne.symm hne)]
  exact (Drops.refl _).upd (by rw [zy7.upd_ne _ _ (Ne.symm hne)]; exact hx)
theorem acc_at {P : Program} {t : TypeId} {ag : Bool} {w b i : Nat} {l : List AV} {x : AV} (hI : eI P t = some (ag, w)) (h : l[i]? = some x) : aIndexAddr P t (accV w b l) (.int .i64 (i : Int)) = some (.ptr b (i * w)) := by
 have hi := (List.getElem?_eq_some_iff.1 h).1
 rw [accV_cons (by rintro rfl; simp at hi)]
 exact held_at hI hi
theorem acc_blk {st : zy7} {b i : Nat} {l : List Int} {x : Int} (h : l[i]? = some x) : accS st b (l.map iv) b = some (.cells (l.map iv)) ∧ (l.map iv)[i]? = some (iv x) := by
 have hi := (List.getElem?_eq_some_iff.1 h).1
 have hne : l.map iv ≠ [] := by rintro e; rw [List.map_eq_nil_iff] at e; subst e; simp at hi
 have hfl : (l.map iv).flatMap AV.cells = l.map iv := by
  clear h hi hne
  induction l with
  | nil => rfl
  | cons y l ih => simp only [List.map_cons, List.flatMap_cons, ih]; rfl
 exact ⟨by rw [accS_cons hne, hfl, zy7.upd_same], by rw [List.getElem?_map, h]; rfl⟩
mutual
def Tm.wf : Tm → Bool
 | .mk k _ _ ts => (!decide (k = 1) || ts.isEmpty) && tmsWf ts
def tmsWf : List Tm → Bool
 | [] => true
 | t :: ts => t.wf && tmsWf ts
end
theorem tmsWf_all : ∀ (ts : List Tm), tmsWf ts = ts.all Tm.wf
 | [] => rfl
 | t :: ts => by simp only [tmsWf, List.all_cons, tmsWf_all ts]
theorem Tm.wf_mk {k n : Int} {s : ByteArray} {ts : List Tm} (h : (Tm.mk k n s ts).wf = true) : (k = 1 → ts = []) ∧ ∀ x ∈ ts, x.wf = true := by
 simp only [Tm.wf, tmsWf_all, Bool.and_eq_true, Bool.or_eq_true, Bool.not_eq_true', decide_eq_false_iff_not, List.isEmpty_iff, List.all_eq_true] at h
 exact ⟨fun hk => h.1.resolve_left (fun hn => hn hk), h.2⟩
theorem Tm.valid_nodes {t : Tm} (h : t.valid = true) : t.nodes ≤ 120 := by simp only [Tm.valid, Bool.and_eq_true, decide_eq_true_eq] at h; exact h.2
def kidS (S : zy7) (c b : Nat) (hd : List AV) (l : List AV) : zy7 := accS (S.upd c (.cells (hd ++ [accV 4 b l]))) b l
theorem kidS_c {S : zy7} {c b : Nat} {hd l : List AV} (hb : l ≠ [] → (S.upd c (.cells (hd ++ [accV 4 b l]))) b = none) : kidS S c b hd l c = some (.cells (hd ++ [accV 4 b l])) := by
 unfold kidS
 cases l with
 | nil => simp only [accS, zy7.upd_same]
 | cons y l =>
  have h := hb (by simp)
  have hne : c ≠ b := fun e => by rw [← e, zy7.upd_same] at h; cases h
  rw [accS_ne hne, zy7.upd_same]
theorem kidS_set {S : zy7} {c b b' : Nat} {hd l l' : List AV} (hb : l' ≠ [] → (S.upd c (.cells (hd ++ [accV 4 b l]))) b' = none) :
 (accS (S.upd c (.cells (hd ++ [accV 4 b l]))) b' l').upd c (.cells (hd ++ [accV 4 b' l'])) = kidS S c b' hd l' ∧ (l' ≠ [] → (S.upd c (.cells (hd ++ [accV 4 b' l']))) b' = none) ∧ accS (S.upd c (.cells (hd ++ [accV 4 b l]))) b' l' c = some (.cells (hd ++ [accV 4 b l])) := by
 have hne : l' ≠ [] → c ≠ b' := fun h e => by have := hb h; rw [← e, zy7.upd_same] at this; cases this
 refine ⟨?_, fun h => ?_, ?_⟩
 · rw [accS_upd hne, zy7.upd_upd]; rfl
 · have := hb h
   rw [zy7.upd_ne _ _ (Ne.symm (hne h))] at this ⊢
   exact this
 · cases l' with
   | nil => simp only [accS, zy7.upd_same]
   | cons y l => rw [accS_ne (hne (by simp)), zy7.upd_same]
theorem kidS_ne {S : zy7} {c b x : Nat} {hd l : List AV} (hb : l ≠ [] → (S.upd c (.cells (hd ++ [accV 4 b l]))) b = none) (hx : S x ≠ none) (hxc : x ≠ c) : kidS S c b hd l x = S x := by
 unfold kidS
 cases l with
 | nil => simp only [accS, zy7.upd_ne _ _ hxc]
 | cons y l =>
  have h := hb (by simp)
  have hne : x ≠ b := fun e => by
   rw [← e, zy7.upd_ne _ _ hxc] at h
   exact hx h
  rw [accS_ne hne, zy7.upd_ne _ _ hxc]
theorem kidS_upd {S : zy7} {c b x : Nat} {hd l : List AV} {o : AO} (hb : l ≠ [] → (S.upd c (.cells (hd ++ [accV 4 b l]))) b = none) (hx : S x ≠ none) (hxc : x ≠ c) : (kidS S c b hd l).upd x o = accS ((S.upd c (.cells (hd ++ [accV 4 b l]))).upd x o) b l ∧ (l ≠ [] → ((S.upd c (.cells (hd ++ [accV 4 b l]))).upd x o) b = none) := by
 have hne : l ≠ [] → x ≠ b := fun h e => by
  have := hb h
  rw [← e, zy7.upd_ne _ _ hxc] at this
  exact hx this
 refine ⟨by unfold kidS; rw [accS_upd hne], fun h => by rw [zy7.upd_ne _ _ (Ne.symm (hne h))]; exact hb h⟩
theorem kidS_beside {S : zy7} {c b x : Nat} {hd l : List AV} {o : AO} (hb : l ≠ [] → (S.upd c (.cells (hd ++ [accV 4 b l]))) b = none) (hx : S x ≠ none) (hxc : x ≠ c) :
 (kidS S c b hd l).upd x o = kidS (S.upd x o) c b hd l ∧ (l ≠ [] → ((S.upd x o).upd c (.cells (hd ++ [accV 4 b l]))) b = none) := by
 have hne : l ≠ [] → x ≠ b := fun h e => by
  have := hb h
  rw [← e, zy7.upd_ne _ _ hxc] at this
  exact hx this
 refine ⟨by unfold kidS; rw [accS_upd hne, zy7.upd_comm _ _ _ (Ne.symm hxc)], fun h => ?_⟩
 have := hb h
 rw [zy7.upd_comm _ _ _ hxc, zy7.upd_ne _ _ (Ne.symm (hne h))]
 exact this
theorem kidS_gone {S T : zy7} {c b : Nat} {hd l : List AV} (D : Drops (S.upd c (.cells (hd ++ [accV 4 b l]))) T) (hb : l ≠ [] → (S.upd c (.cells (hd ++ [accV 4 b l]))) b = none) : Drops (kidS S c b hd l) T :=
 D.accS fun h => (D b).1 (hb h)
theorem zy7.upd_mid {st : zy7} {b c : Nat} {a z a' : AO} (h : b ≠ c) : ((st.upd c a).upd b z).upd c a' = (st.upd b z).upd c a' := by rw [zy7.upd_comm _ _ _ (Ne.symm h), zy7.upd_upd]
theorem tm_widths (l : List Tm) : ∀ e ∈ l.map Tm.av, e.width = 4 := by intro e h; simp only [List.mem_map] at h; obtain ⟨t, _, rfl⟩ := h; exact Tm.av_width t
theorem tm_junk (l : List Tm) : ∀ e ∈ l.map Tm.av, e.isJunk = false := by intro e h; simp only [List.mem_map] at h; obtain ⟨t, _, rfl⟩ := h; exact Tm.av_junk t
end Go.AW
namespace Go.AW
open Go.Proofs.Tryz
mutual
def Tm.small : Tm → Bool
 | .mk _ _ _ ts => decide (ts.length ≤ 1048576) && tmsSmall ts
def tmsSmall : List Tm → Bool
 | [] => true
 | t :: ts => t.small && tmsSmall ts
end
theorem tmsSmall_all : ∀ (ts : List Tm), tmsSmall ts = ts.all Tm.small
 | [] => rfl
 | t :: ts => by simp only [tmsSmall, List.all_cons, tmsSmall_all ts]
theorem Tm.small_mk {k n : Int} {s : ByteArray} {ts : List Tm} (h : (Tm.mk k n s ts).small = true) : ts.length ≤ 1048576 ∧ ∀ x ∈ ts, x.small = true := by
 simpa [Tm.small, tmsSmall_all] using h
abbrev tf_V3_77 := zi tI_3 (zi zI_3 (zi underlying3 (zi tI_29 (zi zI_29 (zi eI_29 (zi eB_29 (zi eZ_29 (zi underlying29 (zi tI_56 (zi zI_56 (zi fI_56_0 (zi fI_56_1 (zi fI_56_2 (zi fI_56_3 bI_56))))))))))))))
theorem o_ownList (l : List Tm) (st : zy7) (hb : l.length ≤ 1048576) (hc : ∀ x ∈ l, ∀ (st : zy7), zq7 prog 104 [Tm.av x] st (Made st (Tm.av x))) :
 zq7 prog 77 [.slice (l.map Tm.av)] st (Made st (.slice (l.map Tm.av))) := by
 have hws : ∀ e ∈ l.map Tm.av, e.width = 4 := fun e he => by simp only [List.mem_map] at he; obtain ⟨t, _, rfl⟩ := he; exact Tm.av_width t
 refine wF [] 1 func77 ntmps77 rfl rfl ?_
 intro _
 simp -implicitDefEqProofs only [List.length_map, evF, ↓evZ, implies_true, seval, tf_V3_77]
 refine zy5 (σ := List AV × List Nat × Nat × zy7) [] [2, 6, 7] l (fun i p => GrowTo (l.map Tm.av) st i p.1 p.2.1 p.2.2.1 p.2.2.2) (fun i p => [(3, accV 4 p.2.2.1 p.1), (8, .int .i64 i)]) (fun _ p => p.2.2.2) (by decide +kernel)
  ⟨([], [], 0, st), GrowTo.start, zx7.mk (by simp -implicitDefEqProofs only [accV_nil, evF, ↓evZ, implies_true, seval, tf_V3_77])⟩ (fun i x p hx hlt hlt' hdr hinv => ?_) (fun p hge hinv => ?_)
 case refine_2 =>
  obtain ⟨os, bs, b, s⟩ := p
  simp -implicitDefEqProofs only [List.length_map, hge, evF, ↓evZ, implies_true, seval, tf_V3_77]
  exact hinv.done (List.length_map _) hws
 obtain ⟨os, bs, b, s⟩ := p
 simp only at hinv
 have hw := wrap64 (n := (i : Int) + 1) (by omega) (by omega)
 have hset : ∀ zs : List AV, zs.length = 4 → zy4 zs 0 (Tm.av x).cells = (Tm.av x).cells := fun zs h => set_all (Tm.av_cells x) h
 simp -implicitDefEqProofs only [List.length_map, hlt', ev_at (av := Tm.av) eI_29 hx (Tm.av_width x), Tm.av_agg, Tm.av_width, Tm.av_cells, Tm.av_store, zy7.upd_upd, hset, evF, ↓evZ, implies_true, seval, tf_V3_77]
 intro b2 hb2
 try simp -implicitDefEqProofs only [su_eq, Tm.av_cells, take_all (Tm.av_cells x), agg_cells (Tm.av_agg x), Nat.le_refl, hset, zy7.upd_upd, Tm.av_store, evF, ↓evZ, implies_true, seval, tf_V3_77]
 refine (hc x (List.mem_of_getElem? hx) _).mono ?_
 rintro r s2 ⟨bx, m1, m2, m3, m4⟩
 obtain ⟨f1, f2, f3⟩ := m3.cellsFit (Tm.av_width x) (Tm.av_store x)
 have hra : r.isAgg = true := by rw [(Own.shape m3).1, Tm.av_agg]
 have hrj : r.isJunk = false := (Own.shape m3).2.2.1
 simp -implicitDefEqProofs only [f1, hra, hrj, evF, ↓evZ, implies_true, seval, tf_V3_77]
 have hlen : os.length = i := hinv.1
 have hosw : ∀ e ∈ os, e.width = 4 := fun e he => by
  obtain ⟨k, hk, rfl⟩ := List.getElem_of_mem he
  exact hinv.2.1.widths (fun q hq => hws q (List.mem_of_mem_take hq)) _ he
 have hkb : os ≠ [] → s2 b = some (.cells (os.flatMap AV.cells)) := fun hne => by
  have h := (hinv.2.2.2.2.1 hne).2.2
  have hbx : b ∉ bx := fun hq => by
   have := m2 b hq
   have hne2 : b ≠ b2 := fun e => by rw [e, hb2] at h; cases h
   rw [zy7.upd_ne _ _ hne2, h] at this; cases this
  have hne2 : b ≠ b2 := fun e => by rw [e, hb2] at h; cases h
  rw [m4 b hbx, zy7.upd_ne _ _ hne2, h]
 refine acc_appendG eI_29 eB_29 eZ_29 rfl rfl (by intro e he; simp only [List.mem_cons, List.not_mem_nil, or_false] at he; subst he; exact ⟨f1, f3⟩) hosw hkb (by simp only [List.length_cons, List.length_nil, hlen]; omega) (by simp only [List.length_cons, List.length_nil, hlen]; omega) (fun b' s' k1 k2 k3 k4 => ?_)
 have hstep := hinv.step hb2 (show (l.map Tm.av)[i]? = some (Tm.av x) by rw [List.getElem?_map, hx]; rfl) m1 m2 m3 m4 (k1 (by simp)) (k2 (by simp)) (fun q h1 h2 => k3 q (fun _ => h1) h2) k4
 simp -implicitDefEqProofs only [hw, evF, ↓evZ, implies_true, seval, tf_V3_77]
 exact ⟨(os ++ [r], bs ++ bx, b', s'.erase b2), hstep, zx7.drop (Drops.erase' _ _) (by simp -implicitDefEqProofs only [evF, ↓evZ, implies_true, seval, tf_V3_77])⟩
abbrev tf_V3_104 := zi tI_29 (zi zI_29 (zi eI_29 (zi eB_29 (zi eZ_29 (zi underlying29 (zi tI_56 (zi zI_56 (zi fI_56_0 (zi fI_56_1 (zi fI_56_2 (zi fI_56_3 bI_56)))))))))))
theorem o_own : ∀ (t : Tm) (st : zy7), t.small = true → zq7 prog 104 [t.av] st (Made st t.av)
 | .mk k n s ts, st, hb => by
  obtain ⟨hb1, hb2⟩ := Tm.small_mk hb
  have hc := fun st => o_ownList ts st hb1 fun x hx st => o_own x st (hb2 x hx)
  refine zq7.madeJ ?_
  refine wF [1] 1 func104 ntmps104 rfl rfl ?_
  intro _
  simp only [Tm.av_mk]
  simp -implicitDefEqProofs only [evF, ↓evZ, implies_true, seval, tf_V3_104]
  intro b hb1' b2 hb2'
  have hne : b2 ≠ b := by rintro rfl; rw [zy7.upd_same] at hb2'; cases hb2'
  have hn2 : st b2 = none := by rw [zy7.upd_ne st _ hne] at hb2'; exact hb2'
  simp -implicitDefEqProofs only [su_eq, hne, hne.symm, zy4, zy7.upd_upd, evF, ↓evZ, implies_true, seval, tf_V3_104]
  refine (hc _).mono ?_
  rintro q s2 ⟨bs, m1, m2, m3, m4⟩
  have hbb : b ∉ bs := fun h => by have := m2 b h; simp [su_eq, hne, hne.symm] at this
  have hbb2 : b2 ∉ bs := fun h => by have := m2 b2 h; simp [su_eq] at this
  have e1 := m4 b hbb
  have e2 := m4 b2 hbb2
  simp only [su_eq, hne, hne.symm, if_true, if_false] at e1 e2
  have hqc : q.cells = [q] := by have := (Own.shape m3).1; cases q <;> first | rfl | simp [AV.isAgg] at this
  have hqs : q.storable = true := by
   have := m3
   simp only [Own] at this
   rcases this with ⟨_, rfl, _⟩ | ⟨_, _, _, _, rfl, _⟩ <;> rfl
  simp -implicitDefEqProofs only [su_eq, hne, hne.symm, e1, e2, hqc, hqs, zy4, zy7.upd_upd, evF, ↓evZ, implies_true, seval, tf_V3_104]
  refine ⟨[b, b2], bs, m1, fun x hx => ?_, ?_, ?_, ?_⟩
  · have := m2 x hx
    have h1 : x ≠ b := fun e => hbb (e ▸ hx)
    have h2 : x ≠ b2 := fun e => hbb2 (e ▸ hx)
    simpa [su_eq, h1, h2] using this
  · simp [hb1', hn2, hbb, hbb2]
  · rw [← Tm.av_mk]
    refine own_Tm.2 ⟨q, rfl, Own.keep _ _ _ (fun x hx => ?_) m3⟩
    have h1 : x ≠ b := fun e => hbb (e ▸ hx)
    have h2 : x ≠ b2 := fun e => hbb2 (e ▸ hx)
    simp only [su_eq, h1, h2, if_false]
  · intro x hx hd
    simp only [List.mem_cons, List.not_mem_nil, or_false, not_or] at hd
    simp only [su_eq, hd.1, hd.2, if_false]
    rw [m4 x hx]
    simp only [su_eq, hd.1, hd.2, if_false]
termination_by t => SizeOf.sizeOf t
decreasing_by have := List.sizeOf_lt_of_mem hx; simp only [Tm.mk.sizeOf_spec]; omega

end Go.AW
namespace Go.AW
def Tm.k : Tm → Int | .mk k _ _ _ => k
def Tm.n : Tm → Int | .mk _ n _ _ => n
def Tm.s : Tm → ByteArray | .mk _ _ s _ => s
def Tm.ts : Tm → List Tm | .mk _ _ _ ts => ts
theorem Tm.eta (t : Tm) : t = .mk t.k t.n t.s t.ts := by cases t; rfl
def vr (n : Int) : Tm := .mk 1 n ⟨#[]⟩ []
mutual
def Tm.mapv (f : Int → Tm) : Tm → Tm
 | .mk k n s ts => if k = 1 then f n else .mk k n s (tmsMapv f ts)
def tmsMapv (f : Int → Tm) : List Tm → List Tm
 | [] => []
 | t :: ts => t.mapv f :: tmsMapv f ts
end
theorem tmsMapv_map (f : Int → Tm) : ∀ ts : List Tm, tmsMapv f ts = ts.map (Tm.mapv f)
 | [] => rfl
 | t :: ts => by simp only [tmsMapv, List.map_cons, tmsMapv_map f ts]
theorem Tm.mapv_var (f : Int → Tm) {k n : Int} {s : ByteArray} {ts : List Tm} (h : k = 1) : (Tm.mk k n s ts).mapv f = f n := by simp only [Tm.mapv, h, if_true]
theorem Tm.mapv_mk (f : Int → Tm) {k n : Int} {s : ByteArray} {ts : List Tm} (h : k ≠ 1) : (Tm.mk k n s ts).mapv f = .mk k n s (ts.map (Tm.mapv f)) := by simp only [Tm.mapv, h, if_false, tmsMapv_map]
theorem mapv_vr (f : Int → Tm) (n : Int) : (vr n).mapv f = f n := Tm.mapv_var f rfl
mutual
def Tm.vl : Tm → List Int
 | .mk k n _ ts => if k = 1 then [n] else tmsVl ts
def tmsVl : List Tm → List Int
 | [] => []
 | t :: ts => t.vl ++ tmsVl ts
end
theorem tmsVl_mem {v : Int} : ∀ {ts : List Tm}, v ∈ tmsVl ts ↔ ∃ t ∈ ts, v ∈ t.vl
 | [] => by simp [tmsVl]
 | t :: ts => by simp [tmsVl, tmsVl_mem (ts := ts)]
theorem Tm.vl_var {k n : Int} {s : ByteArray} {ts : List Tm} (h : k = 1) : (Tm.mk k n s ts).vl = [n] := by simp only [Tm.vl, h, if_true]
theorem Tm.vl_mk {k n v : Int} {s : ByteArray} {ts : List Tm} (h : k ≠ 1) : v ∈ (Tm.mk k n s ts).vl ↔ ∃ t ∈ ts, v ∈ t.vl := by simp only [Tm.vl, h, if_false, tmsVl_mem]
theorem vl_vr (n : Int) : (vr n).vl = [n] := Tm.vl_var rfl
theorem Tm.ind {p : Tm → Prop} (h : ∀ k n s ts, (∀ t ∈ ts, p t) → p (.mk k n s ts)) : ∀ t, p t
 | .mk k n s ts => h k n s ts fun t ht => Tm.ind h t
termination_by t => SizeOf.sizeOf t
decreasing_by have := List.sizeOf_lt_of_mem ht; simp only [Tm.mk.sizeOf_spec]; omega
theorem mapv_congr {f g : Int → Tm} : ∀ (t : Tm), (∀ v ∈ t.vl, f v = g v) → t.mapv f = t.mapv g := by
 intro t
 induction t using Tm.ind with
 | h k n s ts ih =>
  intro h
  by_cases hk : k = 1
  · rw [Tm.mapv_var f hk, Tm.mapv_var g hk]; exact h n (by rw [Tm.vl_var hk]; simp)
  · rw [Tm.mapv_mk f hk, Tm.mapv_mk g hk]
    congr 1
    exact List.map_congr_left fun x hx => ih x hx fun v hv => h v ((Tm.vl_mk hk).2 ⟨x, hx, hv⟩)
theorem mapv_mapv (f g : Int → Tm) (t : Tm) : (t.mapv f).mapv g = t.mapv fun v => (f v).mapv g := by
 induction t using Tm.ind with
 | h k n s ts ih =>
  by_cases hk : k = 1
  · rw [Tm.mapv_var f hk, Tm.mapv_var _ hk]
  · rw [Tm.mapv_mk f hk, Tm.mapv_mk g hk, Tm.mapv_mk _ hk, List.map_map]
    congr 1
    exact List.map_congr_left fun x hx => ih x hx
theorem vl_mapv {f : Int → Tm} {w : Int} (t : Tm) : w ∈ (t.mapv f).vl ↔ ∃ v ∈ t.vl, w ∈ (f v).vl := by
 induction t using Tm.ind with
 | h k n s ts ih =>
  by_cases hk : k = 1
  · rw [Tm.mapv_var f hk, Tm.vl_var hk]; simp
  · rw [Tm.mapv_mk f hk, Tm.vl_mk hk]
    constructor
    · rintro ⟨x, hx, hw⟩
      obtain ⟨y, hy, rfl⟩ := List.mem_map.1 hx
      obtain ⟨v, hv, hvw⟩ := (ih y hy).1 hw
      exact ⟨v, (Tm.vl_mk hk).2 ⟨y, hy, hv⟩, hvw⟩
    · rintro ⟨v, hv, hw⟩
      obtain ⟨y, hy, hvy⟩ := (Tm.vl_mk hk).1 hv
      exact ⟨_, List.mem_map.2 ⟨y, hy, rfl⟩, (ih y hy).2 ⟨v, hvy, hw⟩⟩
theorem nodes_mapv {f : Int → Tm} {v : Int} : ∀ (t : Tm), v ∈ t.vl → (f v).nodes ≤ (t.mapv f).nodes ∧ (t.k ≠ 1 → (f v).nodes < (t.mapv f).nodes) := by
 intro t
 induction t using Tm.ind with
 | h k n s ts ih =>
  intro hv
  by_cases hk : k = 1
  · rw [Tm.vl_var hk] at hv
    simp only [List.mem_cons, List.not_mem_nil, or_false] at hv
    subst hv
    rw [Tm.mapv_var f hk]
    exact ⟨Nat.le_refl _, fun h => absurd hk h⟩
  · obtain ⟨x, hx, hvx⟩ := (Tm.vl_mk hk).1 hv
    have h1 := (ih x hx hvx).1
    have h2 := sumL_mem (f := Tm.nodes) (List.mem_map.2 ⟨x, hx, rfl⟩ : x.mapv f ∈ ts.map (Tm.mapv f))
    rw [Tm.mapv_mk f hk, Tm.nodes_mk]
    omega
abbrev Sub := Int → Option Tm
def Sub.set (σ : Sub) (n : Int) (t : Tm) : Sub := fun m => if m = n then some t else σ m
def Sub.none : Sub := fun _ => Option.none
structure Good (σ : Sub) (R : Int → Tm) (rk : Int → Nat) (B : Nat) : Prop where
 sol : ∀ n, R n = match σ n with | some u => u.mapv R | .none => vr n
 rank : ∀ n u, σ n = some u → ∀ w ∈ u.vl, rk w < rk n
 bd : ∀ n, rk n < B
def Sol (θ : Int → Tm) (σ : Sub) : Prop := ∀ n u, σ n = some u → θ n = u.mapv θ
section
variable {σ : Sub} {R R' : Int → Tm} {rk rk' : Int → Nat} {B B' : Nat}
theorem Good.none : Good Sub.none vr (fun _ => 0) 1 := ⟨fun n => rfl, fun n u h => (by cases h), fun n => Nat.zero_lt_one⟩
theorem Good.free (G : Good σ R rk B) {n : Int} (h : σ n = .none) : R n = vr n := by rw [G.sol n, h]
theorem Good.bound (G : Good σ R rk B) {n : Int} {u : Tm} (h : σ n = some u) : R n = u.mapv R := by rw [G.sol n, h]
theorem Good.isSol (G : Good σ R rk B) : Sol R σ := fun n u h => G.bound h
theorem Good.ind (G : Good σ R rk B) {p : Int → Prop} (h0 : ∀ n, σ n = .none → p n) (h1 : ∀ n u, σ n = some u → (∀ w ∈ u.vl, p w) → p n) : ∀ n, p n := by
 intro n
 generalize hk : rk n = k
 induction k using Nat.strongRecOn generalizing n with
 | _ k ih =>
  cases h : σ n with
  | none => exact h0 n h
  | some u => exact h1 n u h fun w hw => ih (rk w) (hk ▸ G.rank n u h w hw) w rfl
theorem Good.uniq (G : Good σ R rk B) (G' : Good σ R' rk' B') : R = R' := by
 funext n
 refine G.ind (p := fun n => R n = R' n) (fun n h => ?_) (fun n u h ih => ?_) n
 · rw [G.free h, G'.free h]
 · rw [G.bound h, G'.bound h]; exact mapv_congr u ih
theorem Good.factor (G : Good σ R rk B) {θ : Int → Tm} (S : Sol θ σ) (n : Int) : (R n).mapv θ = θ n := by
 refine G.ind (p := fun n => (R n).mapv θ = θ n) (fun n h => ?_) (fun n u h ih => ?_) n
 · rw [G.free h, mapv_vr]
 · rw [G.bound h, mapv_mapv, S n u h]; exact mapv_congr u ih
theorem Good.factorT (G : Good σ R rk B) {θ : Int → Tm} (S : Sol θ σ) (t : Tm) : (t.mapv R).mapv θ = t.mapv θ := by
 rw [mapv_mapv]; exact mapv_congr t fun v _ => G.factor S v
theorem Good.canon (G : Good σ R rk B) (n : Int) : (R n).mapv vr = R n := by
 refine G.ind (p := fun n => (R n).mapv vr = R n) (fun n h => ?_) (fun n u h ih => ?_) n
 · rw [G.free h, mapv_vr]
 · rw [G.bound h, mapv_mapv]; exact mapv_congr u ih
theorem Good.canonT (G : Good σ R rk B) (t : Tm) : (t.mapv R).mapv vr = t.mapv R := by
 rw [mapv_mapv]; exact mapv_congr t fun v _ => G.canon v
theorem Good.bind (G : Good σ R rk B) {n : Int} {t : Tm} (hn : σ n = .none) (ho : n ∉ (t.mapv R).vl) :
 ∃ rk' B', Good (σ.set n t) (fun m => (R m).mapv fun v => if v = n then t.mapv R else vr v) rk' B' := by
 have key : (t.mapv R).mapv (fun v => if v = n then t.mapv R else vr v) = t.mapv R := by
  rw [mapv_congr (g := vr) (t.mapv R) (fun v hv => if_neg fun e => ho (by rw [← e]; exact hv)), G.canonT]
 refine ⟨fun v => if n ∈ (R v).vl then rk v + B else rk v, B + B, fun m => ?_, fun m u h w hw => ?_, fun m => ?_⟩
 · by_cases hm : m = n
   · subst hm
     simp only [Sub.set, if_true]
     rw [G.free hn, mapv_vr, if_pos rfl]
     rw [← mapv_mapv, key]
   · simp only [Sub.set, hm, if_false]
     cases h : σ m with
     | none => rw [G.free h, mapv_vr, if_neg hm]
     | some u => rw [G.bound h, mapv_mapv]
 · by_cases hm : m = n
   · subst hm
     simp only [Sub.set, if_true, Option.some.injEq] at h
     subst h
     have hw' : m ∉ (R w).vl := fun h => ho ((vl_mapv t).2 ⟨w, hw, h⟩)
     have : m ∈ (R m).vl := by rw [G.free hn, vl_vr]; simp
     have := G.bd w
     simp only [hw', if_false]
     rw [if_pos (by assumption)]
     omega
   · simp only [Sub.set, hm, if_false] at h
     have h1 := G.rank m u h w hw
     by_cases hw' : n ∈ (R w).vl
     · have : n ∈ (R m).vl := by rw [G.bound h]; exact (vl_mapv u).2 ⟨w, hw, hw'⟩
       simp only [hw', this, if_true]; omega
     · simp only [hw', if_false]; split <;> omega
 · have := G.bd m
   split <;> omega
end
open Classical in
noncomputable def rs (σ : Sub) : Int → Tm := if h : ∃ R rk B, Good σ R rk B then h.choose else vr
theorem Good.rs {σ : Sub} {R : Int → Tm} {rk : Int → Nat} {B : Nat} (G : Good σ R rk B) : rs σ = R := by
 unfold AW.rs
 have h : ∃ R rk B, Good σ R rk B := ⟨R, rk, B, G⟩
 rw [dif_pos h]
 obtain ⟨rk', B', G'⟩ := h.choose_spec
 exact G'.uniq G
inductive WkN (σ : Sub) : Nat → Tm → Tm → Prop
 | stop {t : Tm} (h : t.k = 1 → σ t.n = none) : WkN σ 0 t t
 | go {f : Nat} {t u v : Tm} (h1 : t.k = 1) (h2 : σ t.n = some u) (h3 : WkN σ f u v) : WkN σ (f + 1) t v
theorem WkN.det {σ : Sub} {f g : Nat} {t u v : Tm} (h : WkN σ f t u) : WkN σ g t v → u = v := by
 induction h generalizing g v with
 | stop h =>
  intro h'
  cases h' with
  | stop => rfl
  | go h1 h2 h3 => rw [h h1] at h2; cases h2
 | go h1 h2 h3 ih =>
  intro h'
  cases h' with
  | stop h => rw [h h1] at h2; cases h2
  | go h1' h2' h3' => rw [h2] at h2'; cases h2'; exact ih h3'
theorem WkN.total {σ : Sub} {R : Int → Tm} {rk : Int → Nat} {B : Nat} (G : Good σ R rk B) (t : Tm) : ∃ f u, WkN σ f t u := by
 have key : ∀ n, ∀ t : Tm, t.k = 1 → t.n = n → ∃ f u, WkN σ f t u := by
  intro n
  refine G.ind (p := fun n => ∀ t : Tm, t.k = 1 → t.n = n → ∃ f u, WkN σ f t u) (fun n h t hk hn => ?_) (fun n u h ih t hk hn => ?_) n
  · exact ⟨0, t, .stop fun _ => by rw [hn, h]⟩
  · by_cases hu : u.k = 1
    · have : u.n ∈ u.vl := by rw [Tm.eta u, Tm.vl_var hu]; simp [Tm.n]
      obtain ⟨f, v, hv⟩ := ih u.n this u hu rfl
      exact ⟨f + 1, v, .go hk (by rw [hn, h]) hv⟩
    · exact ⟨1, u, .go hk (by rw [hn, h]) (.stop fun h => absurd h hu)⟩
 by_cases hk : t.k = 1
 · exact key t.n t hk rfl
 · exact ⟨0, t, .stop fun h => absurd h hk⟩
theorem Tm.vl_k1 {t : Tm} (h : t.k = 1) : t.vl = [t.n] := by cases t; exact Tm.vl_var h
theorem Tm.mapv_k1 {t : Tm} (f : Int → Tm) (h : t.k = 1) : t.mapv f = f t.n := by cases t; exact Tm.mapv_var f h
theorem Tm.mapv_k {t : Tm} (f : Int → Tm) (h : t.k ≠ 1) : t.mapv f = .mk t.k t.n t.s (t.ts.map (Tm.mapv f)) := by cases t; exact Tm.mapv_mk f h
theorem WkN.end {σ : Sub} {f : Nat} {t u : Tm} (h : WkN σ f t u) : u.k = 1 → σ u.n = none := by induction h with | stop h => exact h | go _ _ _ ih => exact ih
theorem WkN.mapv {σ : Sub} {θ : Int → Tm} (S : Sol θ σ) {f : Nat} {t u : Tm} (h : WkN σ f t u) : u.mapv θ = t.mapv θ := by
 induction h with
 | stop => rfl
 | go h1 h2 _ ih => rw [ih, Tm.mapv_k1 θ h1, S _ _ h2]
theorem WkN.rank {σ : Sub} {R : Int → Tm} {rk : Int → Nat} {B : Nat} (G : Good σ R rk B) {f : Nat} {t u : Tm} (h : WkN σ f t u) : ∀ w ∈ u.vl, ∃ v ∈ t.vl, rk w ≤ rk v ∧ (f ≠ 0 → rk w < rk v) := by
 induction h with
 | stop h => exact fun w hw => ⟨w, hw, Nat.le_refl _, fun h => absurd rfl h⟩
 | @go f t u v h1 h2 _ ih =>
  intro w hw
  obtain ⟨x, hx, hle, _⟩ := ih w hw
  have := G.rank _ _ h2 x hx
  exact ⟨t.n, by rw [Tm.vl_k1 h1]; simp, by omega, fun _ => by omega⟩
theorem WkN.all {σ : Sub} {p : Tm → Prop} (hp : ∀ n u, σ n = some u → p u) {f : Nat} {t u : Tm} (h : WkN σ f t u) (ht : p t) : p u := by
 induction h with
 | stop => exact ht
 | go _ h2 _ ih => exact ih (hp _ _ h2)
open Classical in
noncomputable def wk (σ : Sub) (t : Tm) : Tm := if h : ∃ u f, WkN σ f t u then h.choose else t
theorem WkN.wk {σ : Sub} {f : Nat} {t u : Tm} (h : WkN σ f t u) : wk σ t = u := by
 unfold AW.wk
 have h' : ∃ u f, WkN σ f t u := ⟨u, f, h⟩
 rw [dif_pos h']
 obtain ⟨g, hg⟩ := h'.choose_spec
 exact hg.det h
theorem Good.wk {σ : Sub} {R : Int → Tm} {rk : Int → Nat} {B : Nat} (G : Good σ R rk B) (t : Tm) : ∃ f, WkN σ f t (wk σ t) := by
 obtain ⟨f, u, h⟩ := WkN.total G t
 exact ⟨f, by rw [h.wk]; exact h⟩
open Classical in
noncomputable def bnd (σ : Sub) (n : Int) (t : Tm) : Bool × Sub × List Int := if n ∈ (t.mapv (rs σ)).vl then (false, σ, []) else (true, σ.set n t, [n])
open Classical in
def headEq (a b : Tm) : Bool := decide (a.k = b.k) && decide (a.n = b.n) && decide (a.s = b.s) && decide (a.ts.length = b.ts.length)
mutual
noncomputable def uniF : Nat → Sub → Tm → Tm → Option (Bool × Sub × List Int)
 | 0, _, _, _ => none
 | g + 1, σ, a, b =>
  if (wk σ a).k = 1 ∧ (wk σ b).k = 1 ∧ (wk σ a).n = (wk σ b).n then some (true, σ, [])
  else if (wk σ a).k = 1 then some (bnd σ (wk σ a).n (wk σ b))
  else if (wk σ b).k = 1 then some (bnd σ (wk σ b).n (wk σ a))
  else if headEq (wk σ a) (wk σ b) = true then unisF g σ (wk σ a).ts (wk σ b).ts
  else some (false, σ, [])
termination_by g => (g, 0)
noncomputable def unisF : Nat → Sub → List Tm → List Tm → Option (Bool × Sub × List Int)
 | g, σ, a :: xs, b :: ys => match uniF g σ a b with
  | none => none
  | some (false, σ', tr) => some (false, σ', tr)
  | some (true, σ', tr) => match unisF g σ' xs ys with
   | none => none
   | some (r, σ'', tr') => some (r, σ'', tr ++ tr')
 | _, σ, _, _ => some (true, σ, [])
termination_by g _ xs => (g, xs.length + 1)
end
theorem uniF_cases {g : Nat} {σ σ' : Sub} {a b : Tm} {r : Bool} {add : List Int} (h : uniF (g + 1) σ a b = some (r, σ', add)) :
 ((wk σ a).k = 1 ∧ (wk σ b).k = 1 ∧ (wk σ a).n = (wk σ b).n ∧ true = r ∧ σ = σ' ∧ [] = add) ∨
 ((wk σ a).k = 1 ∧ ¬((wk σ b).k = 1 ∧ (wk σ a).n = (wk σ b).n) ∧ bnd σ (wk σ a).n (wk σ b) = (r, σ', add)) ∨
 ((wk σ a).k ≠ 1 ∧ (wk σ b).k = 1 ∧ bnd σ (wk σ b).n (wk σ a) = (r, σ', add)) ∨
 ((wk σ a).k ≠ 1 ∧ (wk σ b).k ≠ 1 ∧ headEq (wk σ a) (wk σ b) = true ∧ unisF g σ (wk σ a).ts (wk σ b).ts = some (r, σ', add)) ∨
 ((wk σ a).k ≠ 1 ∧ (wk σ b).k ≠ 1 ∧ headEq (wk σ a) (wk σ b) = false ∧ false = r ∧ σ = σ' ∧ [] = add) := by
 rw [uniF] at h
 split at h
 · rename_i h1; exact .inl ⟨h1.1, h1.2.1, h1.2.2, by simpa using h⟩
 · rename_i h1
   split at h
   · rename_i h2; exact .inr (.inl ⟨h2, fun h3 => h1 ⟨h2, h3⟩, Option.some.inj h⟩)
   · rename_i h2
     split at h
     · rename_i h3; exact .inr (.inr (.inl ⟨h2, h3, Option.some.inj h⟩))
     · rename_i h3
       split at h
       · rename_i h4; exact .inr (.inr (.inr (.inl ⟨h2, h3, h4, h⟩)))
       · rename_i h4; exact .inr (.inr (.inr (.inr ⟨h2, h3, by simpa using h4, by simpa using h⟩)))
theorem Tm.soft (t : Tm) : t.av.soft = t.av := by cases t; simp [Tm.av_mk, AV.soft, softL]
theorem Tm.fin0 (t : Tm) (b : Nat) : t.av.fin b [] = t.av := Tm.soft t
abbrev Bd := Int × Tm
def findB : List Bd → Int → Option Tm
 | [], _ => none
 | (m, x) :: r, n => if m = n then some x else findB r n
def subB (bs : List Bd) (n : Int) : Tm := (findB bs n).getD (vr n)
def Tm.zero : Tm := .mk 0 0 ⟨#[]⟩ []
mutual
def Tm.cv : Tm → Bool
 | .mk k _ s ts => (!decide (k = 1) || (decide (s = ⟨#[]⟩) && ts.isEmpty)) && tmsCv ts
def tmsCv : List Tm → Bool
 | [] => true
 | t :: ts => t.cv && tmsCv ts
end
theorem tmsCv_all : ∀ (ts : List Tm), tmsCv ts = ts.all Tm.cv
 | [] => rfl
 | t :: ts => by simp only [tmsCv, List.all_cons, tmsCv_all ts]
theorem Tm.cv_mk {k n : Int} {s : ByteArray} {ts : List Tm} : (Tm.mk k n s ts).cv = true ↔ (k = 1 → s = ⟨#[]⟩ ∧ ts = []) ∧ ∀ x ∈ ts, x.cv = true := by
 simp only [Tm.cv, tmsCv_all, Bool.and_eq_true, Bool.or_eq_true, Bool.not_eq_true', decide_eq_false_iff_not, List.isEmpty_iff, List.all_eq_true, decide_eq_true_eq]
 constructor
 · exact fun h => ⟨fun hk => h.1.resolve_left (fun hn => hn hk), h.2⟩
 · intro h
   refine ⟨?_, h.2⟩
   by_cases hk : k = 1
   · exact .inr (h.1 hk)
   · exact .inl hk
theorem Tm.cv_wf : ∀ (t : Tm), t.cv = true → t.wf = true := by
 intro t
 induction t using Tm.ind with
 | h k n s ts ih =>
  intro h
  obtain ⟨h1, h2⟩ := Tm.cv_mk.1 h
  simp only [Tm.wf, tmsWf_all, Bool.and_eq_true, Bool.or_eq_true, Bool.not_eq_true', decide_eq_false_iff_not, List.isEmpty_iff, List.all_eq_true]
  refine ⟨?_, fun x hx => ih x hx (h2 x hx)⟩
  by_cases hk : k = 1
  · exact .inr (h1 hk).2
  · exact .inl hk
theorem Tm.shape_small : ∀ (t : Tm) (d : Int), t.shape d = true → t.small = true := by
 intro t
 induction t using Tm.ind with
 | h k n s ts ih =>
  intro d h
  rw [Tm.shape_mk] at h
  simp only [Bool.and_eq_true, List.all_eq_true] at h
  obtain ⟨⟨_, h1⟩, h2⟩ := h
  simp only [Tm.small, tmsSmall_all, Bool.and_eq_true, decide_eq_true_eq, List.all_eq_true]
  refine ⟨?_, fun x hx => ih x hx _ (h2 x hx)⟩
  unfold ownOk at h1
  cases h3 : decide (k = 1) <;> rw [h3] at h1
  · cases h4 : decide (k = 2) <;> rw [h4] at h1
    · cases h5 : decide (k = 3) <;> rw [h5] at h1 <;> simp at h1; omega
    · simp at h1; rw [h1.2]; simp
  · simp at h1; rw [h1.2]; simp
theorem Tm.valid_small {t : Tm} (h : t.valid = true) : t.small = true := by simp only [Tm.valid, Bool.and_eq_true] at h; exact Tm.shape_small t 30 h.1
def idxP {α : Type} (p : α → Bool) : List α → Int → Int
 | [], _ => -1
 | x :: xs, i => if p x = true then i else idxP p xs (i + 1)
theorem idxP_spec {α : Type} (p : α → Bool) : ∀ (l : List α) (i : Int), 0 ≤ i → (idxP p l i = -1 ∧ l.any p = false) ∨ ∃ (j : Nat) (x : α), idxP p l i = i + j ∧ l[j]? = some x ∧ p x = true ∧ l.any p = true ∧ ∀ (k : Nat) y, k < j → l[k]? = some y → p y = false
 | [], i, _ => .inl ⟨rfl, rfl⟩
 | x :: xs, i, h => by
  by_cases hp : p x = true
  · exact .inr ⟨0, x, by simp [idxP, hp], rfl, hp, by simp [hp], fun k y hk => absurd hk (Nat.not_lt_zero k)⟩
  · rcases idxP_spec p xs (i + 1) (by omega) with ⟨h1, h2⟩ | ⟨j, y, h1, h2, h3, h4, h5⟩
    · exact .inl ⟨by simp [idxP, hp, h1], by simp [hp, h2]⟩
    · refine .inr ⟨j + 1, y, by simp only [idxP, hp, h1]; simp; omega, by simpa using h2, h3, by simp [h4], fun k z hk hz => ?_⟩
      cases k with
      | zero => simp at hz; subst hz; simpa using hp
      | succ k => exact h5 k z (by omega) (by simpa using hz)
theorem idxP_any {α : Type} (p : α → Bool) (l : List α) : decide (0 ≤ idxP p l 0) = l.any p := by
 rcases idxP_spec p l 0 (Int.le_refl 0) with ⟨h1, h2⟩ | ⟨j, y, h1, _, _, h4, _⟩
 · rw [h1, h2]; rfl
 · rw [h1, h4]; simp
end Go.AW
namespace Go.AW
open Go.Proofs.Tryz
abbrev tf_Gs5_78 := zi tI_3 (zi zI_3 (zi underlying3 (zi tI_4 (zi zI_4 (zi underlying4 (zi tI_9 (zi zI_9 (zi underlying9 (zi tI_29 (zi zI_29 (zi eI_29 (zi eB_29 (zi eZ_29 (zi underlying29 (zi tI_56 (zi zI_56 (zi fI_56_0 (zi fI_56_1 (zi fI_56_2 (zi fI_56_3 bI_56))))))))))))))))))))
theorem c_l1Own (k n : Int) (s : ByteArray) (ts : List Tm) (st : zy7) : zq7 prog 78 [(Tm.mk k n s ts).av] st (fun r st' => r = .bool (ownOk k n s ts.length) ∧ st' = st) := by
 refine wF [] 1 func78 ntmps78 rfl rfl ?_
 intro _
 simp only [Tm.av_mk]
 have hl : (ts.map Tm.av).length = ts.length := List.length_map _
 repeat' (first
  | (simp -implicitDefEqProofs only [*, evF, ↓evZ, implies_true, seval, tf_Gs5_78])
  | (refine zx4 (fun h => ?_) (fun h => ?_))
  | (refine (c_spec_NameValid s st).to ?_)
  | (refine zq4 (fun h => ?_) (fun h => ?_)))
 all_goals simp only [ownOk, *, cond_true, cond_false, Bool.not_true, Bool.not_false, Bool.true_and, Bool.false_and, Bool.and_false, Bool.and_true]
abbrev tf_Gs5_51 := zi tI_3 (zi zI_3 (zi underlying3 (zi tI_4 (zi zI_4 (zi underlying4 (zi tI_29 (zi zI_29 (zi eI_29 (zi eB_29 (zi eZ_29 (zi underlying29 (zi tI_56 (zi zI_56 (zi fI_56_0 (zi fI_56_1 (zi fI_56_2 (zi fI_56_3 bI_56)))))))))))))))))
theorem c_l1Shape : ∀ (t : Tm) (d : Int) (st : zy7), d ≤ 30 → -1 ≤ d → zq7 prog 51 [t.av, .int .i64 d] st (fun r st' => r = .bool (t.shape d) ∧ st' = st)
 | .mk k n s ts, d, st, hd, hd0 => by
  have hc := fun (x : Tm) (hx : x ∈ ts) d st h h0 => c_l1Shape x d st h h0
  have h1 := c_l1Own k n s ts st
  rw [Tm.av_mk] at h1
  refine wF [] 2 func51 ntmps51 rfl rfl ?_
  simp only [Tm.av_mk, fitsL, AV.fits, and_true, List.length_map, Tm.shape_mk]
  intro ⟨_, _, _, hl, _⟩
  generalize ownOk k n s ts.length = z at *
  simp -implicitDefEqProofs only [evF, ↓evZ, implies_true, seval, tf_Gs5_51]
  refine zx4 (fun h => ?_) (fun h => ?_)
  case refine_2 =>
   simp -implicitDefEqProofs only [h, evF, ↓evZ, implies_true, seval, tf_Gs5_51]
   simp only [Bool.not_false, decide_eq_true_eq] at h
   simp; omega
  simp -implicitDefEqProofs only [h, evF, ↓evZ, implies_true, seval, tf_Gs5_51]
  refine h1.to ?_
  simp -implicitDefEqProofs only [h, evF, ↓evZ, implies_true, seval, tf_Gs5_51]
  refine ⟨fun h2 => ?_, fun h2 => ?_⟩
  · simp -implicitDefEqProofs only [evF, ↓evZ, implies_true, seval, tf_Gs5_51]
    simp only [Bool.not_eq_true'] at h2
    simp [h2]
  simp only [Bool.not_eq_false', decide_eq_false_iff_not] at h2 h
  subst h2
  have hw := wrap64 (n := d - 1) (by omega) (by omega)
  rw [show decide (1 ≤ d) = true by simp; omega]
  simp -implicitDefEqProofs only [evF, ↓evZ, implies_true, seval, tf_Gs5_51]
  refine zy6 (α := Nat) [] (fun i => i ≤ ts.length ∧ ∀ (j : Nat) x, j < i → ts[j]? = some x → x.shape (d - 1) = true)
   (fun i => [(1, .int .i64 d), (2, .pptr (.agg [.int .i64 k, .int .i64 n, .str s, .slice (ts.map Tm.av)])), (5, .int .i64 i)]) (fun _ => st) (fun i => ts.length - i) (by decide +kernel)
   ⟨0, ⟨by omega, by intro j x h; omega⟩, zx7.mk (by simp -implicitDefEqProofs only [evF, ↓evZ, implies_true, seval, tf_Gs5_51])⟩ ?_
  intro i ⟨hi, hall⟩
  simp -implicitDefEqProofs only [List.length_map, evF, ↓evZ, implies_true, seval, tf_Gs5_51]
  refine ⟨fun h5 => ?_, fun h5 => ?_⟩
  case refine_2 =>
   simp -implicitDefEqProofs only [evF, ↓evZ, implies_true, seval, tf_Gs5_51]
   simp only [decide_eq_false_iff_not, Int.ofNat_lt] at h5
   rw [all_of fun j x hx => hall j x (by have := (List.getElem?_eq_some_iff.1 hx).1; omega) hx]
  simp only [decide_eq_true_eq, Int.ofNat_lt] at h5
  obtain ⟨x, hx⟩ : ∃ x, ts[i]? = some x := ⟨_, List.getElem?_eq_getElem h5⟩
  simp -implicitDefEqProofs only [ev_at (av := Tm.av) eI_29 hx (Tm.av_width x), Tm.av_agg, Tm.av_width, hw, evF, ↓evZ, implies_true, seval, tf_Gs5_51]
  refine (hc x (List.mem_of_getElem? hx) (d - 1) st (by omega) (by omega)).to ?_
  simp -implicitDefEqProofs only [evF, ↓evZ, implies_true, seval, tf_Gs5_51]
  refine ⟨fun h6 => ?_, fun h6 => ?_⟩
  · simp -implicitDefEqProofs only [evF, ↓evZ, implies_true, seval, tf_Gs5_51]
    simp only [Bool.not_eq_true'] at h6
    rw [all_at hx h6]
  simp only [Bool.not_eq_false'] at h6
  simp -implicitDefEqProofs only [evF, ↓evZ, implies_true, seval, tf_Gs5_51]
  refine ⟨i + 1, by omega, ⟨by omega, fun j u hj hu => ?_⟩, zx7.mk ?_⟩
  · rcases Nat.lt_or_ge j i with h8 | h8
    · exact hall j u h8 hu
    · obtain rfl : j = i := by omega
      rw [hx] at hu; cases hu; exact h6
  · have := wrap64 (n := (i : Int) + 1) (by omega) (by omega)
    simp -implicitDefEqProofs only [this, evF, ↓evZ, implies_true, seval, tf_Gs5_51]
termination_by t => SizeOf.sizeOf t
decreasing_by have := List.sizeOf_lt_of_mem hx; simp only [Tm.mk.sizeOf_spec]; omega
abbrev tf_Gs5_52 := zi tI_3 (zi zI_3 (zi underlying3 (zi tI_29 (zi zI_29 (zi eI_29 (zi eB_29 (zi eZ_29 (zi underlying29 (zi tI_56 (zi zI_56 (zi fI_56_0 (zi fI_56_1 (zi fI_56_2 (zi fI_56_3 bI_56))))))))))))))
theorem c_l1Count : ∀ (t : Tm) (m : Int) (st : zy7), 0 ≤ m → m ≤ 120 → zq7 prog 52 [t.av, .int .i64 m] st (fun r st' => r = .int .i64 (min (t.nodes : Int) (m + 1)) ∧ st' = st)
 | .mk k n s ts, m, st, hm0, hm => by
  have hc := fun (x : Tm) (hx : x ∈ ts) m st h h0 => c_l1Count x m st h h0
  refine wF [] 2 func52 ntmps52 rfl rfl ?_
  simp only [Tm.av_mk, fitsL, AV.fits, and_true, List.length_map, Tm.nodes_mk]
  intro ⟨_, _, _, hl, _⟩
  simp -implicitDefEqProofs only [evF, ↓evZ, implies_true, seval, tf_Gs5_52]
  refine zy6 (α := Nat) [] (fun i => i ≤ ts.length)
   (fun i => [(1, .int .i64 m), (2, .pptr (.agg [.int .i64 k, .int .i64 n, .str s, .slice (ts.map Tm.av)])), (5, .int .i64 (min ((1 + sumL Tm.nodes (ts.take i) : Nat) : Int) (m + 1))), (6, .int .i64 i)]) (fun _ => st) (fun i => ts.length - i) (by decide +kernel)
   ⟨0, by omega, zx7.mk (by simp -implicitDefEqProofs only [List.take_zero, sumL, show min ((0 : Int) + 1) (m + 1) = 1 by omega, evE, ↓evZ2, ↓evZ3, ↓Int.cast_ofNat_Int, implies_true, zy2, aFn, List.contains, List.elem, zq3, zy1, zq2, sub, zx3, zw2, zw3, zy3, gd, zq1, zw0, zq0, zx0, zx2, zx1, zy0, zw1, List.range', ↓reduceIte, reduceCtorEq, Nat.reduceEqDiff, Nat.reduceAdd, Nat.reduceLeDiff, Nat.reduceMul, Nat.reduceLT, Nat.reduceBEq, Int.reduceEq, tf_Gs5_52])⟩ ?_
  intro i hi
  simp -implicitDefEqProofs only [List.length_map, evF, ↓evZ, implies_true, seval, tf_Gs5_52]
  have hfull : ¬ i < ts.length → sumL Tm.nodes (ts.take i) = sumL Tm.nodes ts := fun h => by rw [List.take_of_length_le (by omega)]
  refine zx4 (fun h5 => ?_) (fun h5 => ?_)
  case refine_2 =>
   simp -implicitDefEqProofs only [h5, evF, ↓evZ, implies_true, seval, tf_Gs5_52]
   simp only [Bool.not_true, decide_eq_false_iff_not, Int.ofNat_lt] at h5
   rw [hfull h5]
  simp -implicitDefEqProofs only [h5, evF, ↓evZ, implies_true, seval, tf_Gs5_52]
  simp only [decide_eq_true_eq, Int.ofNat_lt] at h5
  obtain ⟨x, hx⟩ : ∃ x, ts[i]? = some x := ⟨_, List.getElem?_eq_getElem h5⟩
  have hs := sumL_take Tm.nodes hx
  refine ⟨fun h6 => ?_, fun h6 => ?_⟩
  case refine_2 =>
   simp -implicitDefEqProofs only [evF, ↓evZ, implies_true, seval, tf_Gs5_52]
   simp only [decide_eq_false_iff_not] at h6
   simp only [AV.int.injEq, true_and]
   omega
  simp only [decide_eq_true_eq] at h6
  have e6 : min (((1 + sumL Tm.nodes (ts.take i) : Nat) : Int)) (m + 1) = ((1 + sumL Tm.nodes (ts.take i) : Nat) : Int) := by omega
  rw [e6] at h6 ⊢
  have hw := wrap64 (n := m - ((1 + sumL Tm.nodes (ts.take i) : Nat) : Int)) (by omega) (by omega)
  simp -implicitDefEqProofs only [ev_at (av := Tm.av) eI_29 hx (Tm.av_width x), Tm.av_agg, Tm.av_width, hw, evF, ↓evZ, implies_true, seval, tf_Gs5_52]
  refine (hc x (List.mem_of_getElem? hx) _ st (by omega) (by omega)).to ?_
  have hw2 := wrap64 (n := ((1 + sumL Tm.nodes (ts.take i) : Nat) : Int) + min (x.nodes : Int) (m - ((1 + sumL Tm.nodes (ts.take i) : Nat) : Int) + 1)) (by omega) (by omega)
  simp -implicitDefEqProofs only [hw2, evF, ↓evZ, implies_true, seval, tf_Gs5_52]
  refine ⟨i + 1, by omega, by omega, zx7.mk ?_⟩
  have := wrap64 (n := (i : Int) + 1) (by omega) (by omega)
  simp -implicitDefEqProofs only [this, show ((1 + sumL Tm.nodes (ts.take i) : Nat) : Int) + min (x.nodes : Int) (m - ((1 + sumL Tm.nodes (ts.take i) : Nat) : Int) + 1) = min ((1 + sumL Tm.nodes (ts.take (i + 1)) : Nat) : Int) (m + 1) by omega, evF, ↓evZ, implies_true, seval, tf_Gs5_52]
termination_by t => SizeOf.sizeOf t
decreasing_by have := List.sizeOf_lt_of_mem hx; simp only [Tm.mk.sizeOf_spec]; omega
abbrev tf_Gs5_36 := zi tI_3 (zi zI_3 (zi underlying3 (zi tI_4 (zi zI_4 (zi underlying4 (zi tI_30 (zi zI_30 (zi fI_30_0 (zi fI_30_1 (zi fI_30_2 (zi fI_30_3 (zi fI_30_4 (zi fI_30_5 (zi bI_30 (zi tI_56 (zi zI_56 (zi fI_56_0 (zi fI_56_1 (zi fI_56_2 (zi fI_56_3 bI_56))))))))))))))))))))
theorem c_spec_TermValid (t : Tm) (st : zy7) : zq7 prog 36 [t.av] st (fun r st' => r = .bool t.valid ∧ st' = st) := by
 refine wF [] 1 func36 ntmps36 rfl rfl ?_
 intro _
 simp -implicitDefEqProofs only [Tm.av_junk, Tm.av_agg, Tm.av_width, evF, ↓evZ, implies_true, seval, tf_Gs5_36]
 refine (c_l1Shape t 30 st (by omega) (by omega)).to ?_
 simp -implicitDefEqProofs only [evF, ↓evZ, implies_true, seval, tf_Gs5_36]
 refine zx4 (fun h => ?_) (fun h => ?_)
 · simp -implicitDefEqProofs only [h, Tm.av_agg, Tm.av_width, evF, ↓evZ, implies_true, seval, tf_Gs5_36]
   refine (c_l1Count t 120 st (by omega) (by omega)).to ?_
   simp -implicitDefEqProofs only [h, evF, ↓evZ, implies_true, seval, tf_Gs5_36]
   simp only [Tm.valid, h, Bool.true_and, AV.bool.injEq, decide_eq_decide]
   omega
 · simp -implicitDefEqProofs only [h, evF, ↓evZ, implies_true, seval, tf_Gs5_36]
   simp at h
   simp [Tm.valid, h]
abbrev tf_Gs4_56 := zi tI_3 (zi zI_3 (zi underlying3 (zi tI_4 (zi zI_4 (zi underlying4 (zi tI_9 (zi zI_9 (zi underlying9 (zi tI_29 (zi zI_29 (zi eI_29 (zi eB_29 (zi eZ_29 (zi underlying29 (zi tI_56 (zi zI_56 (zi fI_56_0 (zi fI_56_1 (zi fI_56_2 (zi fI_56_3 bI_56))))))))))))))))))))
theorem c_l4Cut (k n : Int) (s : ByteArray) (ts : List Tm) (st : zy7) : zq7 prog 56 [(Tm.mk k n s ts).av] st (fun r st' => r = .bool (decide (k = 3) && decide (s = ⟨#[33]⟩) && decide ((ts.length : Int) = 0)) ∧ st' = st) := by
 refine wF [] 1 func56 ntmps56 rfl rfl ?_
 intro _
 simp only [Tm.av_mk]
 repeat' (first
  | (simp -implicitDefEqProofs only [*, evF, ↓evZ, implies_true, seval, tf_Gs4_56])
  | (refine zx4 (fun h => ?_) (fun h => ?_))
  | (refine zq4 (fun h => ?_) (fun h => ?_)))
 all_goals simp only [*, List.length_map, Bool.not_true, Bool.not_false, Bool.true_and, Bool.false_and, Bool.and_false, Bool.and_true]
abbrev tf_Gs4_72 := zi tI_4 (zi zI_4 (zi underlying4 (zi tI_9 (zi zI_9 (zi underlying9 (zi tI_56 (zi zI_56 (zi fI_56_0 (zi fI_56_1 (zi fI_56_2 (zi fI_56_3 bI_56)))))))))))
theorem c_isCut (k n : Int) (s : ByteArray) (ts : List Tm) (st : zy7) : zq7 prog 72 [(Tm.mk k n s ts).av] st (fun r st' => r = .bool (decide (k = 3) && decide ((ts.length : Int) = 0) && decide (s = ⟨#[33]⟩)) ∧ st' = st) := by
 have h1 := c_isAtom k n s ts st
 rw [Tm.av_mk] at h1
 refine wF [] 1 func72 ntmps72 rfl rfl ?_
 intro _
 simp only [Tm.av_mk]
 simp -implicitDefEqProofs only [evF, ↓evZ, implies_true, seval, tf_Gs4_72]
 refine h1.to ?_
 clear h1
 repeat' (first
  | (simp -implicitDefEqProofs only [*, evF, ↓evZ, implies_true, seval, tf_Gs4_72])
  | (refine zx4 (fun h => ?_) (fun h => ?_))
  | (refine zq4 (fun h => ?_) (fun h => ?_)))
 all_goals simp_all
abbrev tf_Gs4_70 := zi tI_3 (zi zI_3 (zi underlying3 (zi tI_4 (zi zI_4 (zi underlying4 (zi tI_9 (zi zI_9 (zi underlying9 (zi tI_29 (zi zI_29 (zi eI_29 (zi eB_29 (zi eZ_29 (zi underlying29 (zi tI_56 (zi zI_56 (zi fI_56_0 (zi fI_56_1 (zi fI_56_2 (zi fI_56_3 bI_56))))))))))))))))))))
theorem c_isBuilt (k n : Int) (s : ByteArray) (ts : List Tm) (st : zy7) : zq7 prog 70 [(Tm.mk k n s ts).av] st (fun r st' => r = .bool (decide (k = 3) && isBuiltin s (ts.length : Int)) ∧ st' = st) := by
 have h1 := c_impl_IsBuiltin s ts.length st
 refine wF [] 1 func70 ntmps70 rfl rfl ?_
 intro _
 simp only [Tm.av_mk]
 simp -implicitDefEqProofs only [List.length_map, evF, ↓evZ, implies_true, seval, tf_Gs4_70]
 refine zx4 (fun h => ?_) (fun h => ?_)
 · simp -implicitDefEqProofs only [h, List.length_map, evF, ↓evZ, implies_true, seval, tf_Gs4_70]
   refine h1.to ?_
   clear h1
   simp -implicitDefEqProofs only [h, evF, ↓evZ, implies_true, seval, tf_Gs4_70]
 · simp -implicitDefEqProofs only [h, evF, ↓evZ, implies_true, seval, tf_Gs4_70]
   simp at h
   simp [h]
def plainGoal (k : Int) (s : ByteArray) (len : Int) : Bool := decide (k = 3) && letters s && !isBuiltin s len && decide ((opLevel s : Int) = 0)
abbrev tf_Gs4_46 := zi tI_3 (zi zI_3 (zi underlying3 (zi tI_4 (zi zI_4 (zi underlying4 (zi tI_9 (zi zI_9 (zi underlying9 (zi tI_56 (zi zI_56 (zi fI_56_0 (zi fI_56_1 (zi fI_56_2 (zi fI_56_3 bI_56))))))))))))))
theorem c_isPlain (k n : Int) (s : ByteArray) (ts : List Tm) (st : zy7) : zq7 prog 46 [(Tm.mk k n s ts).av] st (fun r st' => r = .bool (plainGoal k s (ts.length : Int)) ∧ st' = st) := by
 have h1 := c_isBuilt k n s ts st
 rw [Tm.av_mk] at h1
 have e : decide ((0 : Int) < (opLevel s : Int)) = !decide ((opLevel s : Int) = 0) := by
  by_cases h : opLevel s = 0
  · simp [h]
  · simp [h]; omega
 have e3 : ∀ b : Bool, k = 3 → (decide (k = 3) && b) = b := fun b h => by simp [h]
 refine wF [] 1 func46 ntmps46 rfl rfl ?_
 intro _
 simp only [Tm.av_mk]
 repeat' (first
  | (simp -implicitDefEqProofs only [*, evF, ↓evZ, implies_true, seval, tf_Gs4_46])
  | (refine zx4 (fun h => ?_) (fun h => ?_))
  | (refine (c_isLetters s st).to ?_) | (refine (c_isOp s st).to ?_) | (refine h1.to ?_)
  | (refine zq4 (fun h => ?_) (fun h => ?_)))
 all_goals (clear h1; simp_all [plainGoal])
abbrev tf_Gs4_37 := zi tI_3 (zi zI_3 (zi underlying3 (zi tI_4 (zi zI_4 (zi underlying4 (zi tI_9 (zi zI_9 (zi underlying9 (zi tI_29 (zi zI_29 (zi eI_29 (zi eB_29 (zi eZ_29 (zi underlying29 (zi tI_56 (zi zI_56 (zi fI_56_0 (zi fI_56_1 (zi fI_56_2 (zi fI_56_3 bI_56))))))))))))))))))))
theorem c_l4Plain (k n : Int) (s : ByteArray) (ts : List Tm) (st : zy7) : zq7 prog 37 [(Tm.mk k n s ts).av] st (fun r st' => r = .bool (plainGoal k s (ts.length : Int)) ∧ st' = st) := by
 refine wF [] 1 func37 ntmps37 rfl rfl ?_
 intro _
 simp only [Tm.av_mk]
 have hl : (ts.map Tm.av).length = ts.length := List.length_map _
 repeat' (first
  | (simp -implicitDefEqProofs only [*, evF, ↓evZ, implies_true, seval, tf_Gs4_37])
  | (refine zx4 (fun h => ?_) (fun h => ?_))
  | (refine (c_l1Word s st).to ?_) | (refine (c_spec_IsBuiltin s _ st).to ?_) | (refine (c_l2Level s st).to ?_)
  | (refine zq4 (fun h => ?_) (fun h => ?_)))
 all_goals simp_all [plainGoal]
def goalOk (k : Int) (s : ByteArray) (len : Int) : Bool := (decide (k = 3) && decide (s = ⟨#[33]⟩) && decide (len = 0)) || plainGoal k s len || (decide (k = 3) && isBuiltin s len)
abbrev tf_Gs4_38 := zi tI_3 (zi zI_3 (zi underlying3 (zi tI_4 (zi zI_4 (zi underlying4 (zi tI_9 (zi zI_9 (zi underlying9 (zi tI_29 (zi zI_29 (zi eI_29 (zi eB_29 (zi eZ_29 (zi underlying29 (zi tI_56 (zi zI_56 (zi fI_56_0 (zi fI_56_1 (zi fI_56_2 (zi fI_56_3 bI_56))))))))))))))))))))
theorem c_l4Goal (k n : Int) (s : ByteArray) (ts : List Tm) (st : zy7) : zq7 prog 38 [(Tm.mk k n s ts).av] st (fun r st' => r = .bool (goalOk k s (ts.length : Int)) ∧ st' = st) := by
 have h1 := c_l4Cut k n s ts st
 have h2 := c_l4Plain k n s ts st
 rw [Tm.av_mk] at h1 h2
 refine wF [] 1 func38 ntmps38 rfl rfl ?_
 intro _
 simp only [Tm.av_mk]
 have hl : (ts.map Tm.av).length = ts.length := List.length_map _
 unfold goalOk
 generalize (decide (k = 3) && decide (s = ⟨#[33]⟩) && decide ((ts.length : Int) = 0)) = z1 at *
 generalize plainGoal k s (ts.length : Int) = z2 at *
 repeat' (first
  | (simp -implicitDefEqProofs only [*, evF, ↓evZ, implies_true, seval, tf_Gs4_38])
  | (refine zx4 (fun h => ?_) (fun h => ?_))
  | (refine h1.to ?_) | (refine h2.to ?_) | (refine (c_spec_IsBuiltin s _ st).to ?_)
  | (refine zq4 (fun h => ?_) (fun h => ?_)))
 all_goals (clear h1 h2; simp_all)
theorem upd_self {st : zy7} {b : Nat} {o : AO} (h : st b = some o) : st.upd b o = st := by
 funext x; simp only [zy7.upd]; split
 · rename_i e; rw [e, h]
 · rfl
def scanned (ok : Bool) (c n : Int) (b : Nat) (st : zy7) (r : AV) (st' : zy7) : Prop :=
 ∃ c', r = .bool (decide (c + n ≤ 120) && ok) ∧ st' = st.upd b (.cells [.int .i64 c']) ∧ ((decide (c + n ≤ 120) && ok) = true → c' = c + n)
abbrev tf_Gs6_94 := zi tI_3 (zi zI_3 (zi underlying3 (zi tI_4 (zi zI_4 (zi underlying4 (zi tI_56 (zi zI_56 (zi fI_56_0 (zi fI_56_1 (zi fI_56_2 (zi fI_56_3 (zi bI_56 (zi tI_104 zI_104)))))))))))))
theorem c_scan_1 (x : Tm) (d c : Int) (b : Nat) (st : zy7) (hd : -1000 ≤ d) (hd1 : d ≤ 1000)
 (h : zq7 prog 67 [x.av, .int .i64 (d + 1), .ptr b 0] st (scanned (x.shape (30 - d)) c x.nodes b st)) :
 zq7 prog 94 [x.av, .pptr (.int .i64 d), .pptr (.ptr b 0)] st (fun r st' => ∃ c', r = .bool (!(decide (c + x.nodes ≤ 120) && x.shape (30 - d))) ∧ st' = st.upd b (.cells [.int .i64 c']) ∧ ((decide (c + (x.nodes : Int) ≤ 120) && x.shape (30 - d)) = true → c' = c + x.nodes)) := by
 have hw := wrap64 (n := d + 1) (by omega) (by omega)
 refine wF [] 3 func94 ntmps94 rfl rfl ?_
 intro _
 simp -implicitDefEqProofs only [hw, Tm.av_junk, Tm.av_agg, Tm.av_width, evF, ↓evZ, implies_true, seval, tf_Gs6_94]
 refine h.mono ?_
 rintro _ _ ⟨c', rfl, rfl, hc⟩
 simp -implicitDefEqProofs only [evF, ↓evZ, implies_true, seval, tf_Gs6_94]
 refine ⟨c', ?_⟩
 first | exact hc | exact ⟨rfl, rfl, hc⟩ | exact ⟨rfl, hc⟩ | trace_state
abbrev tf_Gs6_71 := zi tI_3 (zi zI_3 (zi underlying3 (zi tI_29 (zi zI_29 (zi eI_29 (zi eB_29 (zi eZ_29 (zi underlying29 (zi tI_56 (zi zI_56 (zi fI_56_0 (zi fI_56_1 (zi fI_56_2 (zi fI_56_3 bI_56))))))))))))))
theorem c_IndexScan (l : List Tm) (d c : Int) (b : Nat) (st : zy7) (hd : -1000 ≤ d) (hd1 : d ≤ 1000) (hb : st b = some (.cells [.int .i64 c])) (hc0 : 0 ≤ c) (hc1 : c ≤ 120)
 (h : ∀ x ∈ l, ∀ (c : Int) (st : zy7), st b = some (.cells [.int .i64 c]) → 0 ≤ c → c ≤ 120 → zq7 prog 67 [x.av, .int .i64 (d + 1), .ptr b 0] st (scanned (x.shape (30 - d)) c x.nodes b st)) :
 zq7 prog 71 [.slice (l.map Tm.av), .func 94 [.pptr (.int .i64 d), .pptr (.ptr b 0)]] st
  (fun r st' => ∃ j c', r = .int .i64 j ∧ decide (0 ≤ j) = (!(decide (c + (sumL Tm.nodes l : Int) ≤ 120) && l.all fun t => t.shape (30 - d))) ∧ st' = st.upd b (.cells [.int .i64 c']) ∧ (decide (0 ≤ j) = false → c' = c + (sumL Tm.nodes l : Int))) := by
 refine wF [] 2 func71 ntmps71 rfl rfl ?_
 simp only [fitsL, AV.fits, and_true, List.length_map]
 intro ⟨hl, _⟩
 simp -implicitDefEqProofs only [List.length_map, evF, ↓evZ, implies_true, seval, tf_Gs6_71]
 refine zy6 (α := Nat) [] (fun i => i ≤ l.length ∧ c + (sumL Tm.nodes (l.take i) : Int) ≤ 120 ∧ ∀ (j : Nat) x, j < i → l[j]? = some x → x.shape (30 - d) = true)
  (fun i => [(0, .slice (l.map Tm.av)), (1, .func 94 [.pptr (.int .i64 d), .pptr (.ptr b 0)]), (7, .int .i64 l.length), (8, .int .i64 i)]) (fun i => st.upd b (.cells [.int .i64 (c + (sumL Tm.nodes (l.take i) : Int))])) (fun i => l.length - i) (by decide +kernel)
  ⟨0, ⟨by omega, by simp only [List.take_zero, sumL]; omega, by intro j x h; omega⟩, by
   simp only [List.take_zero, sumL]
   rw [show c + ((0 : Nat) : Int) = c by omega, upd_self hb]
   exact zx7.mk (by simp -implicitDefEqProofs only [evF, ↓evZ, implies_true, seval, tf_Gs6_71])⟩ ?_
 intro i ⟨hi, hsum, hall⟩
 simp -implicitDefEqProofs only [List.length_map, evF, ↓evZ, implies_true, seval, tf_Gs6_71]
 refine ⟨fun h5 => ?_, fun h5 => ?_⟩
 case refine_2 =>
  simp -implicitDefEqProofs only [evF, ↓evZ, implies_true, seval, tf_Gs6_71]
  simp only [decide_eq_false_iff_not, Int.ofNat_lt] at h5
  rw [List.take_of_length_le (by omega)] at hsum ⊢
  have ha : (l.all fun t => t.shape (30 - d)) = true := all_of fun j x hx => hall j x (by have := (List.getElem?_eq_some_iff.1 hx).1; omega) hx
  exact ⟨-1, _, rfl, by rw [ha]; simp <;> omega, rfl, fun _ => rfl⟩
 simp only [decide_eq_true_eq, Int.ofNat_lt] at h5
 obtain ⟨x, hx⟩ : ∃ x, l[i]? = some x := ⟨_, List.getElem?_eq_getElem h5⟩
 have hs := sumL_take Tm.nodes hx
 simp -implicitDefEqProofs only [ev_at (av := Tm.av) eI_29 hx (Tm.av_width x), Tm.av_agg, Tm.av_width, evF, ↓evZ, implies_true, seval, tf_Gs6_71]
 refine (c_scan_1 x d (c + (sumL Tm.nodes (l.take i) : Int)) b _ hd hd1 (h x (List.mem_of_getElem? hx) _ _ (zy7.upd_same _ _ _) (by omega) hsum)).mono ?_
 rintro _ _ ⟨c', rfl, rfl, hc'⟩
 simp -implicitDefEqProofs only [zy7.upd_upd, evF, ↓evZ, implies_true, seval, tf_Gs6_71]
 refine ⟨fun h6 => ?_, fun h6 => ?_⟩
 · simp -implicitDefEqProofs only [evF, ↓evZ, implies_true, seval, tf_Gs6_71]
   refine ⟨i, c', rfl, ?_, rfl, fun h7 => absurd h7 (by simp)⟩
   simp only [Bool.not_eq_true', Bool.and_eq_false_iff, decide_eq_false_iff_not] at h6
   rcases h6 with h6 | h6
   · rw [show decide (c + (sumL Tm.nodes l : Int) ≤ 120) = false by simp; omega]
     simp
   · rw [all_at hx h6]
     simp
 simp only [Bool.not_eq_false'] at h6
 rw [hc' h6]
 simp only [Bool.and_eq_true, decide_eq_true_eq] at h6
 simp -implicitDefEqProofs only [evF, ↓evZ, implies_true, seval, tf_Gs6_71]
 refine ⟨i + 1, by omega, ⟨by omega, by omega, fun j u hj hu => ?_⟩, ?_⟩
 · rcases Nat.lt_or_ge j i with h8 | h8
   · exact hall j u h8 hu
   · obtain rfl : j = i := by omega
     rw [hx] at hu; cases hu; exact h6.2
 · rw [show c + (sumL Tm.nodes (l.take i) : Int) + (x.nodes : Int) = c + (sumL Tm.nodes (l.take (i + 1)) : Int) by omega]
   have := wrap64 (n := (i : Int) + 1) (by omega) (by omega)
   exact zx7.mk (by simp -implicitDefEqProofs only [this, evF, ↓evZ, implies_true, seval, tf_Gs6_71])
abbrev tf_Gs6_47 := zi tI_3 (zi zI_3 (zi underlying3 (zi tI_4 (zi zI_4 (zi underlying4 (zi tI_29 (zi zI_29 (zi eI_29 (zi eB_29 (zi eZ_29 underlying29))))))))))
theorem c_ContainsScan (l : List Tm) (d c : Int) (b : Nat) (st : zy7) (hd : -1000 ≤ d) (hd1 : d ≤ 1000) (hb : st b = some (.cells [.int .i64 c])) (hc0 : 0 ≤ c) (hc1 : c ≤ 120)
 (h : ∀ x ∈ l, ∀ (c : Int) (st : zy7), st b = some (.cells [.int .i64 c]) → 0 ≤ c → c ≤ 120 → zq7 prog 67 [x.av, .int .i64 (d + 1), .ptr b 0] st (scanned (x.shape (30 - d)) c x.nodes b st)) :
 zq7 prog 47 [.slice (l.map Tm.av), .func 94 [.pptr (.int .i64 d), .pptr (.ptr b 0)]] st
  (fun r st' => ∃ c', r = .bool (!(decide (c + (sumL Tm.nodes l : Int) ≤ 120) && l.all fun t => t.shape (30 - d))) ∧ st' = st.upd b (.cells [.int .i64 c']) ∧ ((decide (c + (sumL Tm.nodes l : Int) ≤ 120) && l.all fun t => t.shape (30 - d)) = true → c' = c + (sumL Tm.nodes l : Int))) := by
 have h1 := c_IndexScan l d c b st hd hd1 hb hc0 hc1 h
 refine wF [] 2 func47 ntmps47 rfl rfl ?_
 intro _
 simp -implicitDefEqProofs only [evF, ↓evZ, implies_true, seval, tf_Gs6_47]
 refine h1.mono ?_
 rintro _ _ ⟨j, c', rfl, hj, rfl, hc⟩
 simp -implicitDefEqProofs only [evF, ↓evZ, implies_true, seval, tf_Gs6_47]
 refine ⟨c', by rw [hj], rfl, fun h => hc (by rw [hj, h]; rfl)⟩
abbrev tf_Gs7_67 := zi tI_3 (zi zI_3 (zi underlying3 (zi tI_4 (zi zI_4 (zi underlying4 (zi tI_9 (zi zI_9 (zi underlying9 (zi tI_25 (zi zI_25 (zi fI_25_0 (zi fI_25_1 (zi fI_25_2 (zi fI_25_3 (zi fI_25_4 (zi fI_25_5 (zi bI_25 (zi tI_29 (zi zI_29 (zi eI_29 (zi eB_29 (zi eZ_29 (zi underlying29 (zi tI_56 (zi zI_56 (zi fI_56_0 (zi fI_56_1 (zi fI_56_2 (zi fI_56_3 (zi bI_56 (zi tI_104 zI_104)))))))))))))))))))))))))))))))
theorem c_scan : ∀ (t : Tm) (d c : Int) (b : Nat) (st : zy7), st b = some (.cells [.int .i64 c]) → 0 ≤ c → c ≤ 120 → 0 ≤ d → d ≤ 31 → zq7 prog 67 [t.av, .int .i64 d, .ptr b 0] st (scanned (t.shape (31 - d)) c t.nodes b st)
 | .mk k n s ts, d, c, b, st, hb, hc0, hc1, hd0, hd1 => by
  have hk := fun (st : zy7) (hb : st b = some (.cells [.int .i64 (c + 1)])) (h1 : c + 1 ≤ 120) (h2 : d ≤ 30) => c_ContainsScan ts d (c + 1) b st (by omega) (by omega) hb (by omega) h1 fun x hx c st hb hc0 hc1 => by
   have := c_scan x (d + 1) c b st hb hc0 hc1 (by omega) (by omega)
   rw [show (31 : Int) - (d + 1) = 30 - d by omega] at this
   exact this
  have hw := wrap64 (n := c + 1) (by omega) (by omega)
  unfold scanned
  rw [Tm.nodes_mk, Tm.shape_mk]
  refine wF [] 3 func67 ntmps67 rfl rfl ?_
  simp only [Tm.av_mk, fitsL, AV.fits, and_true, List.length_map]
  intro ⟨_, _, _, hl, _⟩
  simp -implicitDefEqProofs only [hb, zy4, hw, evF, ↓evZ, implies_true, seval, tf_Gs7_67]
  have hL : (ts.map Tm.av).length = ts.length := List.length_map _
  have hfin : ∀ (v : Bool), v = (decide (c + ((1 + sumL Tm.nodes ts : Nat) : Int) ≤ 120) && (decide (1 ≤ 31 - d) && ownOk k n s ts.length && ts.all fun t => t.shape (31 - d - 1))) → (v = true → ts = []) →
   ∃ c', AV.bool v = AV.bool (decide (c + ((1 + sumL Tm.nodes ts : Nat) : Int) ≤ 120) && (decide (1 ≤ 31 - d) && ownOk k n s ts.length && ts.all fun t => t.shape (31 - d - 1))) ∧ st.upd b (.cells [.int .i64 (c + 1)]) = st.upd b (.cells [.int .i64 c']) ∧ ((decide (c + ((1 + sumL Tm.nodes ts : Nat) : Int) ≤ 120) && (decide (1 ≤ 31 - d) && ownOk k n s ts.length && ts.all fun t => t.shape (31 - d - 1))) = true → c' = c + ((1 + sumL Tm.nodes ts : Nat) : Int)) :=
   fun v h1 h2 => ⟨c + 1, by rw [h1], rfl, fun h3 => by rw [h2 (h1.trans h3)]; simp [sumL]⟩
  refine zx4 (fun h1 => ?_) (fun h1 => ?_)
  case refine_2 =>
   simp -implicitDefEqProofs only [h1, evF, ↓evZ, implies_true, seval, tf_Gs7_67]
   simp only [Bool.not_false, decide_eq_true_eq] at h1
   refine hfin false ?_ (by intro h; cases h)
   rw [show decide (c + ((1 + sumL Tm.nodes ts : Nat) : Int) ≤ 120) = false by simp; omega]
   rfl
  simp -implicitDefEqProofs only [h1, evF, ↓evZ, implies_true, seval, tf_Gs7_67]
  refine ⟨fun h2 => ?_, fun h2 => ?_⟩
  · simp -implicitDefEqProofs only [evF, ↓evZ, implies_true, seval, tf_Gs7_67]
    simp only [decide_eq_true_eq] at h2
    refine hfin false ?_ (by intro h; cases h)
    rw [show decide (1 ≤ 31 - d) = false by simp; omega]
    simp
  simp only [decide_eq_false_iff_not] at h1 h2
  rw [show decide (1 ≤ 31 - d) = true by simp; omega] at hfin ⊢
  simp only [Bool.true_and] at hfin ⊢
  rw [show 31 - d - 1 = 30 - d by omega] at hfin ⊢
  -- no kids
  have hleaf : ∀ q : Bool, (∀ h : ts = [], ownOk k n s ts.length = q) → (ts ≠ [] → ownOk k n s ts.length = false) → (q && decide ((ts.length : Int) = 0)) = (decide (c + ((1 + sumL Tm.nodes ts : Nat) : Int) ≤ 120) && (ownOk k n s ts.length && ts.all fun t => t.shape (30 - d))) := by
   intro q hq1 hq2
   by_cases ht : ts = []
   · rw [hq1 ht]; subst ht
     have e : c + ((1 + sumL Tm.nodes [] : Nat) : Int) ≤ 120 := by simp only [sumL]; omega
     rw [decide_eq_true e]
     simp
   · rw [hq2 ht]
     have : ¬ (ts.length : Int) = 0 := by intro h; exact ht (List.eq_nil_of_length_eq_zero (by omega))
     rw [decide_eq_false this]
     simp
  simp -implicitDefEqProofs only [evF, ↓evZ, implies_true, seval, tf_Gs7_67]
  refine zq4 (fun hk1 => ?_) (fun hk1 => ?_)
  · simp only [decide_eq_true_eq] at hk1
    subst hk1
    simp -implicitDefEqProofs only [evF, ↓evZ, implies_true, seval, tf_Gs7_67]
    refine (c_within _ _ _ _).to ?_
    repeat' (first
     | (simp -implicitDefEqProofs only [*, evF, ↓evZ, implies_true, seval, tf_Gs7_67])
     | (refine zx4 (fun h => ?_) (fun h => ?_))
     | (refine zq4 (fun h => ?_) (fun h => ?_)))
    all_goals first
     | (refine hfin false ?_ (by intro h; cases h); rw [show ownOk 1 n s ts.length = false by first | (simp only [ownOk, *, show decide ((2 : Int) = 1) = false from rfl, show decide ((2 : Int) = 2) = true from rfl, show decide ((1 : Int) = 1) = true from rfl, cond_true, cond_false, Bool.not_true, Bool.not_false, Bool.false_and, Bool.and_false, Bool.true_and]; done) | (simp_all [ownOk]; done) | (simp_all [ownOk]; intro a e; have := h a; omega)]; simp; done)
     | (refine hfin _ ?_ (fun h => List.eq_nil_of_length_eq_zero (by simpa using h)); rw [← hleaf true (fun h => by simp_all [ownOk]) (fun h => by simp [ownOk, h])]; simp; done)
  simp only [decide_eq_false_iff_not] at hk1
  simp -implicitDefEqProofs only [evF, ↓evZ, implies_true, seval, tf_Gs7_67]
  refine zq4 (fun hk2 => ?_) (fun hk2 => ?_)
  · simp only [decide_eq_true_eq] at hk2
    subst hk2
    simp -implicitDefEqProofs only [evF, ↓evZ, implies_true, seval, tf_Gs7_67]
    refine (c_within _ _ _ _).to ?_
    repeat' (first
     | (simp -implicitDefEqProofs only [*, evF, ↓evZ, implies_true, seval, tf_Gs7_67])
     | (refine zx4 (fun h => ?_) (fun h => ?_))
     | (refine zq4 (fun h => ?_) (fun h => ?_)))
    all_goals first
     | (refine hfin false ?_ (by intro h; cases h); rw [show ownOk 2 n s ts.length = false by first | (simp only [ownOk, *, show decide ((2 : Int) = 1) = false from rfl, show decide ((2 : Int) = 2) = true from rfl, show decide ((1 : Int) = 1) = true from rfl, cond_true, cond_false, Bool.not_true, Bool.not_false, Bool.false_and, Bool.and_false, Bool.true_and]; done) | (simp_all [ownOk]; done) | (simp_all [ownOk]; intro a e; have := h a; omega)]; simp; done)
     | (refine hfin _ ?_ (fun h => List.eq_nil_of_length_eq_zero (by simpa using h)); rw [← hleaf true (fun h => by simp_all [ownOk]) (fun h => by simp [ownOk, h])]; simp; done)
  simp only [decide_eq_false_iff_not] at hk2
  simp -implicitDefEqProofs only [evF, ↓evZ, implies_true, seval, tf_Gs7_67]
  refine zq4 (fun hk3 => ?_) (fun hk3 => ?_)
  case refine_2 =>
   simp only [decide_eq_false_iff_not] at hk3
   simp -implicitDefEqProofs only [evF, ↓evZ, implies_true, seval, tf_Gs7_67]
   refine hfin false ?_ (by intro h; cases h)
   rw [show ownOk k n s ts.length = false by simp [ownOk, hk1, hk2, hk3]]
   simp
  simp only [decide_eq_true_eq] at hk3
  subst hk3
  have hk' := fun st hb => hk st hb (by omega) (by omega)
  clear hk
  repeat' (first
   | (simp -implicitDefEqProofs only [*, evF, ↓evZ, implies_true, seval, tf_Gs7_67])
   | (refine zx4 (fun h => ?_) (fun h => ?_))
   | (refine (c_impl_NameValid s _).to ?_)
   | (refine zq4 (fun h => ?_) (fun h => ?_)))
  all_goals first
   | (refine hfin false ?_ (by intro h; cases h); rw [show ownOk 3 n s ts.length = false by (simp_all [ownOk]; done)]; simp; done)
   | skip
  refine (hk' _ (zy7.upd_same _ _ _)).mono ?_
  rintro _ _ ⟨c', rfl, rfl, hc'⟩
  simp -implicitDefEqProofs only [zy7.upd_upd, evF, ↓evZ, implies_true, seval, tf_Gs7_67]
  have ho : ownOk 3 n s ts.length = true := by simp_all [ownOk]
  rw [ho, show c + ((1 + sumL Tm.nodes ts : Nat) : Int) = c + 1 + (sumL Tm.nodes ts : Int) by omega]
  simp only [Bool.true_and, Bool.not_not]
  first | exact ⟨c', trivial, rfl, hc'⟩ | exact ⟨c', rfl, rfl, hc'⟩
termination_by t => SizeOf.sizeOf t
decreasing_by have := List.sizeOf_lt_of_mem hx; simp only [Tm.mk.sizeOf_spec]; omega
abbrev tf_Gs8_45 := zi tI_3 (zi zI_3 (zi underlying3 (zi tI_4 (zi zI_4 (zi underlying4 (zi tI_56 (zi zI_56 (zi fI_56_0 (zi fI_56_1 (zi fI_56_2 (zi fI_56_3 (zi bI_56 (zi tI_104 zI_104)))))))))))))
theorem c_impl_TermValid (t : Tm) (st : zy7) : zq7 prog 45 [t.av] st (fun r st' => r = .bool t.valid ∧ st' = st) := by
 have hd : zq7 prog 45 [t.av] st (fun r st' => Drops st' st ∧ r = .bool t.valid) := by
  refine wF [] 1 func45 ntmps45 rfl rfl ?_
  intro _
  simp -implicitDefEqProofs only [Tm.av_junk, Tm.av_agg, Tm.av_width, evF, ↓evZ, implies_true, seval, tf_Gs8_45]
  intro b hb
  simp -implicitDefEqProofs only [zy4, zy7.upd_upd, Tm.av_junk, Tm.av_agg, Tm.av_width, evF, ↓evZ, implies_true, seval, tf_Gs8_45]
  refine (c_scan t 1 0 b _ (zy7.upd_same _ _ _) (by omega) (by omega) (by omega) (by omega)).mono ?_
  rintro _ _ ⟨c', rfl, rfl, _⟩
  simp -implicitDefEqProofs only [zy7.upd_upd, evE, ↓evZ2, ↓evZ3, ↓Int.cast_ofNat_Int, implies_true, zy2, aFn, List.contains, List.elem, zq3, zy1, zq2, sub, zx3, zw2, zw3, zy3, gd, zq1, zw0, zq0, zx0, zx2, zx1, zy0, zw1, List.range', ↓reduceIte, reduceCtorEq, Nat.reduceEqDiff, Nat.reduceAdd, Nat.reduceLeDiff, Nat.reduceMul, Nat.reduceLT, Nat.reduceBEq, Int.reduceEq, tf_Gs8_45]
  refine ⟨(Drops.refl st).upd hb, ?_⟩
  simp only [Tm.valid, AV.bool.injEq]
  rw [Bool.and_comm, show (31 : Int) - 1 = 30 from rfl]
  congr 1
  simp only [decide_eq_decide]
  omega
 exact hd.drop
def Tm.goal : Tm → Bool
 | .mk k n s ts => (Tm.mk k n s ts).valid && goalOk k s ts.length
abbrev tf_Gs8_25 := zi tI_4 (zi zI_4 (zi underlying4 (zi tI_56 (zi zI_56 (zi fI_56_0 (zi fI_56_1 (zi fI_56_2 (zi fI_56_3 bI_56))))))))
theorem c_spec_GoalValid : ∀ (t : Tm) (st : zy7), zq7 prog 25 [t.av] st (fun r st' => r = .bool t.goal ∧ st' = st)
 | .mk k n s ts, st => by
  have h1 := c_spec_TermValid (.mk k n s ts) st
  have h2 := c_l4Goal k n s ts st
  rw [show (Tm.mk k n s ts).goal = ((Tm.mk k n s ts).valid && goalOk k s ts.length) from rfl]
  generalize (Tm.mk k n s ts).valid = z at *
  rw [Tm.av_mk] at *
  refine wF [] 1 func25 ntmps25 rfl rfl ?_
  intro _
  simp -implicitDefEqProofs only [evF, ↓evZ, implies_true, seval, tf_Gs8_25]
  refine h1.to ?_
  simp -implicitDefEqProofs only [evF, ↓evZ, implies_true, seval, tf_Gs8_25]
  refine zx4 (fun h => ?_) (fun h => ?_)
  · simp -implicitDefEqProofs only [h, evF, ↓evZ, implies_true, seval, tf_Gs8_25]
    refine h2.to ?_
    simp -implicitDefEqProofs only [h, evF, ↓evZ, implies_true, seval, tf_Gs8_25]
  · simp -implicitDefEqProofs only [h, evF, ↓evZ, implies_true, seval, tf_Gs8_25]
    simp at h
    simp [h]
abbrev tf_Gs8_49 := zi tI_4 (zi zI_4 (zi underlying4 (zi tI_56 (zi zI_56 (zi fI_56_0 (zi fI_56_1 (zi fI_56_2 (zi fI_56_3 bI_56))))))))
theorem c_impl_GoalValid : ∀ (t : Tm) (st : zy7), zq7 prog 49 [t.av] st (fun r st' => r = .bool t.goal ∧ st' = st)
 | .mk k n s ts, st => by
  have h1 := c_impl_TermValid (.mk k n s ts) st
  have h2 := c_isPlain k n s ts st
  have h3 := c_isBuilt k n s ts st
  have h4 := c_isCut k n s ts st
  rw [show (Tm.mk k n s ts).goal = ((Tm.mk k n s ts).valid && goalOk k s ts.length) from rfl]
  unfold goalOk
  generalize (Tm.mk k n s ts).valid = z at *
  generalize plainGoal k s (ts.length : Int) = z2 at *
  generalize (decide (k = 3) && isBuiltin s (ts.length : Int)) = z3 at *
  rw [show (decide (k = 3) && decide (s = ⟨#[33]⟩) && decide ((ts.length : Int) = 0)) = (decide (k = 3) && decide ((ts.length : Int) = 0) && decide (s = ⟨#[33]⟩)) from by cases decide (k = 3) <;> cases decide (s = ⟨#[33]⟩) <;> cases decide ((ts.length : Int) = 0) <;> rfl]
  generalize (decide (k = 3) && decide ((ts.length : Int) = 0) && decide (s = ⟨#[33]⟩)) = z4 at *
  rw [Tm.av_mk] at *
  refine wF [] 1 func49 ntmps49 rfl rfl ?_
  intro _
  repeat' (first
   | (simp -implicitDefEqProofs only [*, evF, ↓evZ, implies_true, seval, tf_Gs8_49])
   | (refine zx4 (fun h => ?_) (fun h => ?_))
   | (refine h1.to ?_) | (refine h2.to ?_) | (refine h3.to ?_) | (refine h4.to ?_)
   | (refine zq4 (fun h => ?_) (fun h => ?_)))
  all_goals (clear h1 h2 h3 h4; simp_all)
abbrev tf_V2_71 := zi tI_3 (zi zI_3 (zi underlying3 (zi tI_29 (zi zI_29 (zi eI_29 (zi eB_29 (zi eZ_29 (zi underlying29 (zi tI_56 (zi zI_56 (zi fI_56_0 (zi fI_56_1 (zi fI_56_2 (zi fI_56_3 bI_56))))))))))))))
theorem c_IndexFuncTm (l : List Tm) (g : FuncId) (caps : List AV) (p : Tm → Bool) (st : zy7) (hc : ∀ x ∈ l, zq7 prog g ([Tm.av x] ++ caps) st (fun r st' => r = .bool (p x) ∧ st' = st)) :
 zq7 prog 71 [.slice (l.map Tm.av), .func g caps] st (fun r st' => ∃ j : Int, r = .int .i64 j ∧ decide (0 ≤ j) = l.any p ∧ st' = st) := by
 refine wF [] 2 func71 ntmps71 rfl rfl ?_
 simp only [fitsL, AV.fits, and_true, List.length_map]
 intro ⟨hl, _⟩
 simp -implicitDefEqProofs only [List.length_map, evF, ↓evZ, implies_true, seval, tf_V2_71]
 refine zy5 (σ := Unit) [] [0, 1, 7] l (fun i _ => (l.drop i).any p = l.any p) (fun i _ => [(8, .int .i64 i)]) (fun _ _ => st) (by decide +kernel) ⟨(), rfl, zx7.mk (by simp -implicitDefEqProofs only [evF, ↓evZ, implies_true, seval, tf_V2_71])⟩ (fun i x _ hx hlt hlt' hdr hinv => ?_) (fun _ hge hinv => ?_)
 case refine_2 =>
  simp -implicitDefEqProofs only [List.length_map, hge, evF, ↓evZ, implies_true, seval, tf_V2_71]
  rw [List.drop_length] at hinv
  exact ⟨-1, rfl, by rw [← hinv]; rfl⟩
 rw [hdr, List.any_cons] at hinv
 have hw := wrap64 (n := (i : Int) + 1) (by omega) (by omega)
 simp -implicitDefEqProofs only [List.length_map, hlt', ev_at (av := Tm.av) eI_29 hx (Tm.av_width x), Tm.av_agg, Tm.av_width, evF, ↓evZ, implies_true, seval, tf_V2_71]
 refine (hc x (List.mem_of_getElem? hx)).to ?_
 simp -implicitDefEqProofs only [evF, ↓evZ, implies_true, seval, tf_V2_71]
 refine zq4 (fun h => ?_) (fun h => ?_)
 · simp -implicitDefEqProofs only [evF, ↓evZ, implies_true, seval, tf_V2_71]
   exact ⟨i, rfl, by rw [← hinv, h]; simp⟩
 · rw [h, Bool.false_or] at hinv
   simp -implicitDefEqProofs only [evF, ↓evZ, implies_true, seval, tf_V2_71]
   exact ⟨(), hinv, zx7.mk (by simp -implicitDefEqProofs only [hw, evF, ↓evZ, implies_true, seval, tf_V2_71])⟩
abbrev tf_V2_47 := zi tI_3 (zi zI_3 (zi underlying3 (zi tI_4 (zi zI_4 (zi underlying4 (zi tI_29 (zi zI_29 (zi eI_29 (zi eB_29 (zi eZ_29 underlying29))))))))))
theorem c_ContainsFuncTm (l : List Tm) (g : FuncId) (caps : List AV) (p : Tm → Bool) (st : zy7) (hc : ∀ x ∈ l, zq7 prog g ([Tm.av x] ++ caps) st (fun r st' => r = .bool (p x) ∧ st' = st)) :
 zq7 prog 47 [.slice (l.map Tm.av), .func g caps] st (fun r st' => r = .bool (l.any p) ∧ st' = st) := by
 refine wF [] 2 func47 ntmps47 rfl rfl ?_
 intro _
 simp -implicitDefEqProofs only [evF, ↓evZ, implies_true, seval, tf_V2_47]
 refine (c_IndexFuncTm l g caps p st hc).mono ?_
 rintro _ _ ⟨j, rfl, hj, rfl⟩
 simp -implicitDefEqProofs only [hj, evF, ↓evZ, implies_true, seval, tf_V2_47]
theorem any_not_all {α : Type} (p : α → Bool) : ∀ l : List α, (!(l.any fun x => !p x)) = l.all p
 | [] => rfl
 | x :: l => by rw [List.any_cons, List.all_cons, ← any_not_all p l]; cases p x <;> simp
abbrev tf_V2_48 := zi tI_4 (zi zI_4 (zi underlying4 (zi tI_56 (zi zI_56 (zi fI_56_0 (zi fI_56_1 (zi fI_56_2 (zi fI_56_3 bI_56))))))))
theorem c_goalsValid_1 (t : Tm) (st : zy7) : zq7 prog 48 [t.av] st (fun r st' => r = .bool (!t.goal) ∧ st' = st) := by
 refine wF [] 1 func48 ntmps48 rfl rfl ?_
 intro _
 simp -implicitDefEqProofs only [Tm.av_junk, Tm.av_agg, Tm.av_width, evF, ↓evZ, implies_true, seval, tf_V2_48]
 refine (c_impl_GoalValid t st).to ?_
 simp -implicitDefEqProofs only [evF, ↓evZ, implies_true, seval, tf_V2_48]
def queryOk (l : List Tm) : Bool := decide (l.length ≤ 6) && l.all Tm.goal
abbrev tf_V2_32 := zi tI_3 (zi zI_3 (zi underlying3 (zi tI_4 (zi zI_4 (zi underlying4 (zi tI_29 (zi zI_29 (zi eI_29 (zi eB_29 (zi eZ_29 underlying29))))))))))
theorem c_goalsValid (l : List Tm) (st : zy7) : zq7 prog 32 [.slice (l.map Tm.av)] st (fun r st' => r = .bool (queryOk l) ∧ st' = st) := by
 refine wF [] 1 func32 ntmps32 rfl rfl ?_
 simp only [fitsL, AV.fits, and_true, List.length_map]
 intro _
 unfold queryOk
 simp -implicitDefEqProofs only [List.length_map, evF, ↓evZ, implies_true, seval, tf_V2_32]
 refine zx4 (fun h => ?_) (fun h => ?_)
 · simp only [decide_eq_true_eq] at h
   rw [show decide (l.length ≤ 6) = true by simp; omega]
   simp -implicitDefEqProofs only [h, evF, ↓evZ, implies_true, seval, tf_V2_32]
   refine (c_ContainsFuncTm l _ [] (fun t => !t.goal) st fun x _ => c_goalsValid_1 x st).to ?_
   simp -implicitDefEqProofs only [h, any_not_all, evF, ↓evZ, implies_true, seval, tf_V2_32]
 · simp only [Bool.not_true, decide_eq_false_iff_not] at h
   rw [show decide (l.length ≤ 6) = false by simp; omega]
   simp -implicitDefEqProofs only [h, evF, ↓evZ, implies_true, seval, tf_V2_32]
   rfl
abbrev tf_V2_17 := zi tI_4 (zi zI_4 (zi underlying4 (zi tI_29 (zi zI_29 (zi eI_29 (zi eB_29 (zi eZ_29 underlying29)))))))
theorem c_impl_QueryValid (l : List Tm) (st : zy7) : zq7 prog 17 [.slice (l.map Tm.av)] st (fun r st' => r = .bool (queryOk l) ∧ st' = st) := by
 refine wF [] 1 func17 ntmps17 rfl rfl ?_
 intro _
 simp -implicitDefEqProofs only [evF, ↓evZ, implies_true, seval, tf_V2_17]
 refine (c_goalsValid l st).to ?_
 simp -implicitDefEqProofs only [evF, ↓evZ, implies_true, seval, tf_V2_17]
abbrev tf_V2_12 := zi tI_3 (zi zI_3 (zi underlying3 (zi tI_4 (zi zI_4 (zi underlying4 (zi tI_29 (zi zI_29 (zi eI_29 (zi eB_29 (zi eZ_29 (zi underlying29 (zi tI_56 (zi zI_56 (zi fI_56_0 (zi fI_56_1 (zi fI_56_2 (zi fI_56_3 bI_56)))))))))))))))))
theorem c_spec_QueryValid (l : List Tm) (st : zy7) : zq7 prog 12 [.slice (l.map Tm.av)] st (fun r st' => r = .bool (queryOk l) ∧ st' = st) := by
 refine wF [] 1 func12 ntmps12 rfl rfl ?_
 simp only [fitsL, AV.fits, and_true, List.length_map]
 intro ⟨hl, _⟩
 simp -implicitDefEqProofs only [List.length_map, evF, ↓evZ, implies_true, seval, tf_V2_12]
 refine zy5 (σ := Unit) [] [0] l (fun i _ => i ≤ 7 ∧ (l.take i).all Tm.goal = true) (fun i _ => [(3, .int .i64 i)]) (fun _ _ => st) (by decide +kernel) ⟨(), ⟨by omega, by simp⟩, zx7.mk (by simp -implicitDefEqProofs only [List.length_map, evF, ↓evZ, implies_true, seval, tf_V2_12])⟩ (fun i x _ hx hlt hlt' hdr hinv => ?_) (fun _ hge hinv => ?_)
 case refine_2 =>
  obtain ⟨i1, i2⟩ := hinv
  rw [List.take_length] at i2
  simp -implicitDefEqProofs only [List.length_map, hge, evF, ↓evZ, implies_true, seval, tf_V2_12]
  simp only [queryOk, i2, Bool.and_true, AV.bool.injEq, decide_eq_decide]
  omega
 obtain ⟨i1, i2⟩ := hinv
 have hw := wrap64 (n := (i : Int) + 1) (by omega) (by omega)
 simp -implicitDefEqProofs only [List.length_map, hlt', evF, ↓evZ, implies_true, seval, tf_V2_12]
 refine zq4 (fun h => ?_) (fun h => ?_)
 case refine_2 =>
  simp only [decide_eq_false_iff_not] at h
  simp -implicitDefEqProofs only [List.length_map, evF, ↓evZ, implies_true, seval, tf_V2_12]
  simp only [queryOk, AV.bool.injEq]
  rw [show decide (l.length ≤ 6) = false by simp; omega, show decide ((l.length : Int) ≤ 6) = false by simp; omega]
  rfl
 simp only [decide_eq_true_eq] at h
 simp -implicitDefEqProofs only [List.length_map, ev_at (av := Tm.av) eI_29 hx (Tm.av_width x), Tm.av_agg, Tm.av_width, evF, ↓evZ, implies_true, seval, tf_V2_12]
 refine (c_spec_GoalValid x st).to ?_
 simp -implicitDefEqProofs only [evF, ↓evZ, implies_true, seval, tf_V2_12]
 refine zq4 (fun h2 => ?_) (fun h2 => ?_)
 · simp only [Bool.not_eq_true'] at h2
   simp -implicitDefEqProofs only [evF, ↓evZ, implies_true, seval, tf_V2_12]
   have : l.all Tm.goal = false := all_at hx h2
   simp only [queryOk, this, Bool.and_false]
 · simp only [Bool.not_eq_false'] at h2
   simp -implicitDefEqProofs only [evF, ↓evZ, implies_true, seval, tf_V2_12]
   refine ⟨(), ⟨by omega, ?_⟩, zx7.mk (by simp -implicitDefEqProofs only [hw, evF, ↓evZ, implies_true, seval, tf_V2_12])⟩
   rw [List.take_add_one, hx, List.all_append, i2]
   simp [h2]
abbrev tf_V6_120 := zi tI_3 (zi zI_3 (zi underlying3 (zi tI_56 (zi zI_56 (zi fI_56_0 (zi fI_56_1 (zi fI_56_2 (zi fI_56_3 bI_56))))))))
theorem c_variable (n : Int) (st : zy7) : zq7 prog 120 [.int .i64 n] st (fun r st' => r = (vr n).av ∧ st' = st) := by
 refine zq7.done ?_
 refine wF [1000000] 1 func120 ntmps120 rfl rfl ?_
 intro _
 simp -implicitDefEqProofs only [evF, ↓evZ, implies_true, seval, tf_V6_120]
 intro b hb
 simp -implicitDefEqProofs only [zy4, evF, ↓evZ, implies_true, seval, tf_V6_120]
 exact ⟨by simp only [vr, Tm.av_mk, soft_agg, soft_tup, soft_int, soft_bool, soft_str, soft_slice, soft_fslice, soft_ptr, soft_pptr, soft_map, soft_mslice, Tm.soft, List.map_cons, List.map_nil, List.map_nil], (Drops.refl _).upd hb⟩
abbrev tf_V6_144 := zi tI_3 (zi zI_3 (zi underlying3 (zi tI_29 (zi zI_29 (zi eI_29 (zi eB_29 (zi eZ_29 (zi underlying29 (zi tI_56 (zi zI_56 (zi fI_56_0 (zi fI_56_1 (zi fI_56_2 (zi fI_56_3 bI_56))))))))))))))
theorem c_mapVars (f : Int → Tm) (g : FuncId) (caps : List AV) (hcap : zq1 caps = true) : ∀ (t : Tm) (st : zy7), t.small = true → (∀ n ∈ t.vl, ∀ s, zq7 prog g (.int .i64 n :: caps) s (fun r s' => r = (f n).av ∧ s' = s)) →
 zq7 prog 144 [t.av, .func g caps] st (fun r st' => r = (t.mapv f).av ∧ st' = st)
 | .mk k n s ts, st, hsm, hg => by
  obtain ⟨hlen, hsms⟩ := Tm.small_mk hsm
  have IH := fun (x : Tm) (hx : x ∈ ts) st h => c_mapVars f g caps hcap x st (hsms x hx) h
  refine zq7.drop2 (zq7.fin ?_)
  simp only [Tm.av_mk]
  refine wF [1000000, 2] 2 func144 ntmps144 rfl rfl ?_
  simp only [fitsL, AV.fits, and_true, List.length_map]
  intro ⟨_, _, _, hl, _⟩
  simp -implicitDefEqProofs only [evF, ↓evZ, implies_true, seval, tf_V6_144]
  intro c hc b2 hb2
  have hne : b2 ≠ c := by rintro rfl; rw [zy7.upd_same] at hb2; cases hb2
  have hn2 : st b2 = none := by rw [zy7.upd_ne st _ hne] at hb2; exact hb2
  simp -implicitDefEqProofs only [hne, hne.symm, evF, ↓evZ, implies_true, seval, tf_V6_144]
  refine zq4 (fun h => ?_) (fun h => ?_)
  · simp only [decide_eq_true_eq] at h
    subst h
    simp -implicitDefEqProofs only [hne, hne.symm, evF, ↓evZ, implies_true, seval, tf_V6_144]
    refine (hg n (by rw [Tm.vl_var rfl]; simp) _).to ?_
    simp -implicitDefEqProofs only [hne, hne.symm, evF, ↓evZ, implies_true, seval, tf_V6_144]
    refine ⟨0, [], _, rfl, by simp, by simp, ⟨4, by simp⟩, by rw [Tm.fin0, Tm.mapv_var f rfl], ?_⟩
    exact ((Drops.refl _).upd hc).upd hn2
  simp only [decide_eq_false_iff_not] at h
  have hg' : ∀ x ∈ ts, ∀ v ∈ x.vl, ∀ s, zq7 prog g (.int .i64 v :: caps) s (fun r s' => r = (f v).av ∧ s' = s) := fun x hx v hv => hg v ((Tm.vl_mk h).2 ⟨x, hx, hv⟩)
  simp -implicitDefEqProofs only [hne, hne.symm, zy4, List.length_map, evF, ↓evZ, implies_true, seval, tf_V6_144]
  rw [zy7.upd_mid hne]
  refine zy5 (σ := Nat) [1000000] [1, 2, 4, 18, 19] ts (fun i b => (((ts.take i).map (Tm.mapv f)).map Tm.av ≠ [] → (zy7.upd (st.upd b2 (.cells [AV.int .i64 0, AV.int .i64 0, AV.str ⟨#[]⟩, AV.fslice []])) c (.cells ([AV.int .i64 k, AV.int .i64 n, AV.str s] ++ [accV 4 b (((ts.take i).map (Tm.mapv f)).map Tm.av)]))) b = none)) (fun i b => [(20, .int .i64 i)]) (fun i b => kidS (st.upd b2 (.cells [AV.int .i64 0, AV.int .i64 0, AV.str ⟨#[]⟩, AV.fslice []])) c b [AV.int .i64 k, AV.int .i64 n, AV.str s] (((ts.take i).map (Tm.mapv f)).map Tm.av)) (by decide +kernel)
   ⟨0, fun h => absurd rfl h, zx7.mk (by simp -implicitDefEqProofs only [List.length_map, evF, ↓evZ, implies_true, seval, tf_V6_144])⟩ (fun i x b hx hlt hlt' hdr hinv => ?_) (fun b hge hinv => ?_)
  case refine_1 =>
   have hw := wrap64 (n := (i : Int) + 1) (by omega) (by omega)
   have hlen' : (((ts.take i).map (Tm.mapv f)).map Tm.av).length = i := by simp only [List.length_map, List.length_take]; omega
   have htk : (ts.take (i + 1)).map (Tm.mapv f) = (ts.take i).map (Tm.mapv f) ++ [(Tm.mapv f) x] := by rw [List.take_add_one, hx]; simp
   have hbo := kidS_c hinv
   simp -implicitDefEqProofs only [List.length_map, hlt', ev_at (av := Tm.av) eI_29 hx (Tm.av_width x), hne, evF, ↓evZ, implies_true, seval, tf_V6_144]
   refine wP [(0, 1), (3, 1), (1, 2), (2, 2), (4, 2), (5, 1), (6, 0), (7, 1), (8, 0)] [0, 3, 1, 2, 4, 5, 7] mixed ?_
   simp -implicitDefEqProofs only [ev_at (av := Tm.av) eI_29 hx (Tm.av_width x), Tm.av_agg, Tm.av_width, hbo, accV_agg, accV_width, hne, evF, ↓evZ, implies_true, seval, tf_V6_144]
   refine zw4 (IH x (List.mem_of_getElem? hx) _ (hg' x (List.mem_of_getElem? hx))) ?_
   simp -implicitDefEqProofs only [Tm.av_agg, Tm.av_width, Tm.av_junk, hbo, accV_agg, accV_width, hne, evF, ↓evZ, implies_true, seval, tf_V6_144]
   refine acc_append eI_29 eB_29 eZ_29 rfl rfl (by intro e he; simp only [List.mem_cons, List.not_mem_nil, or_false] at he; subst he; exact ⟨Tm.av_width _, Tm.av_store _⟩) (tm_widths _) hinv (by simp only [hlen', List.length_cons, List.length_nil]; omega) (by simp only [hlen', List.length_cons, List.length_nil]; omega) (fun b' hb' => ?_)
   rw [show (((ts.take i).map (Tm.mapv f)).map Tm.av) ++ [((Tm.mapv f) x).av] = ((ts.take (i + 1)).map (Tm.mapv f)).map Tm.av by rw [htk]; simp] at hb' ⊢
   obtain ⟨g1, g2, g3⟩ := kidS_set hb'
   simp only [List.cons_append, List.nil_append] at g1 g3
   simp -implicitDefEqProofs only [g3, accV_cells, accV_store, zy4, Nat.le_refl, g1, hw, evF, ↓evZ, implies_true, seval, tf_V6_144]
   exact ⟨b', g2, zx7.mk (by simp -implicitDefEqProofs only [evF, ↓evZ, implies_true, seval, tf_V6_144])⟩
  have hbo := kidS_c hinv
  rw [List.take_length] at hinv hbo ⊢
  simp -implicitDefEqProofs only [List.length_map, hge, evF, ↓evZ, implies_true, seval, tf_V6_144]
  simp -implicitDefEqProofs only [hbo, evF, ↓evZ, implies_true, seval, tf_V6_144]
  have hS : (st.upd b2 (.cells [AV.int .i64 0, AV.int .i64 0, AV.str ⟨#[]⟩, AV.fslice []])) b2 ≠ none := by rw [zy7.upd_same]; simp
  have h1 := kidS_ne hinv hS hne
  rw [zy7.upd_same] at h1
  simp -implicitDefEqProofs only [h1, accV_store, accV_cells, zy4, Nat.le_refl, evF, ↓evZ, implies_true, seval, tf_V6_144]
  obtain ⟨h2, h3⟩ := kidS_upd (o := .cells [AV.int .i64 k, AV.int .i64 n, AV.str s, accV 4 b ((ts.map (Tm.mapv f)).map Tm.av)]) hinv hS hne
  refine ⟨b, _, _, h2, h3, tm_junk _, ⟨4, tm_widths _⟩, ?_, ?_⟩
  · rw [Tm.mapv_mk f h]
    simp only [fin_agg, List.map_cons, List.map_nil, fin_int, fin_str, accV_fin, Tm.av_mk]
  · exact (((Drops.refl _).upd hn2).upd hc).upd hn2
termination_by t => SizeOf.sizeOf t
decreasing_by have := List.sizeOf_lt_of_mem hx; simp only [Tm.mk.sizeOf_spec]; omega


end Go.AW
namespace Go.AW
abbrev IsGood (σ : Sub) : Prop := ∃ R rk B, Good σ R rk B
theorem IsGood.rs {σ : Sub} (h : IsGood σ) : ∃ rk B, Good σ (rs σ) rk B := by
 obtain ⟨R, rk, B, G⟩ := h
 exact ⟨rk, B, by rw [G.rs]; exact G⟩
theorem IsGood.none : IsGood Sub.none := ⟨_, _, _, Good.none⟩
structure Uni (σ : Sub) (a b : List Tm) (r : Bool) (σ' : Sub) (tr : List Int) : Prop where
 good : IsGood σ'
 keep : ∀ m, m ∉ tr → σ' m = σ m
 new : ∀ m ∈ tr, σ m = none ∧ σ' m ≠ none
 nodup : tr.Nodup
 eq : r = true → a.map (Tm.mapv (rs σ')) = b.map (Tm.mapv (rs σ'))
 gen : ∀ θ, Sol θ σ → a.map (Tm.mapv θ) = b.map (Tm.mapv θ) → r = true ∧ Sol θ σ'
 same : tr = [] → σ' = σ
theorem Sol.sub {σ σ' : Sub} {θ : Int → Tm} {tr : List Int} (S : Sol θ σ') (keep : ∀ m, m ∉ tr → σ' m = σ m) (new : ∀ m ∈ tr, σ m = none ∧ σ' m ≠ none) : Sol θ σ := fun n u h => by
 by_cases hn : n ∈ tr
 · rw [(new n hn).1] at h; cases h
 · exact S n u (by rw [keep n hn]; exact h)
theorem Uni.isSol {σ σ' : Sub} {a b : List Tm} {r : Bool} {tr : List Int} (h : Uni σ a b r σ' tr) : Sol (rs σ') σ := by
 obtain ⟨rk, B, G⟩ := h.good.rs
 exact G.isSol.sub h.keep h.new
theorem Uni.stays {σ σ' : Sub} {a b : List Tm} {r : Bool} {tr : List Int} (h : Uni σ a b r σ' tr) (hg : IsGood σ) {x y : Tm} (e : x.mapv (rs σ) = y.mapv (rs σ)) : x.mapv (rs σ') = y.mapv (rs σ') := by
 obtain ⟨rk, B, G⟩ := hg.rs
 rw [← G.factorT h.isSol x, ← G.factorT h.isSol y, e]
theorem bnd_uni {σ : Sub} (hg : IsGood σ) {a b : Tm} {n : Int} (ha : a.k = 1) (han : a.n = n) (hn : σ n = none) (hb : b.k = 1 → σ b.n = none ∧ b.n ≠ n) {r : Bool} {σ' : Sub} {tr : List Int} (h : bnd σ n b = (r, σ', tr)) : Uni σ [a] [b] r σ' tr := by
 obtain ⟨rk, B, G⟩ := hg.rs
 have hav : ∀ θ, a.mapv θ = θ n := fun θ => by rw [Tm.mapv_k1 θ ha, han]
 unfold bnd at h
 split at h
 · rename_i hmem
   cases h
   refine ⟨hg, fun _ _ => rfl, fun _ h => absurd h (List.not_mem_nil), List.nodup_nil, fun h => (by cases h), fun θ S e => ?_, fun _ => rfl⟩
   exfalso
   simp only [List.map_cons, List.map_nil, List.cons.injEq, and_true] at e
   rw [hav] at e
   by_cases hbk : b.k = 1
   · rw [Tm.mapv_k1 _ hbk, G.free (hb hbk).1, vl_vr] at hmem
     simp only [List.mem_cons, List.not_mem_nil, or_false] at hmem
     exact (hb hbk).2 hmem.symm
   · rw [← G.factorT S b] at e
     have h1 : ((b.mapv (rs σ)).mapv θ) = (b.mapv (rs σ)).mapv θ := rfl
     have hk : (b.mapv (rs σ)).k ≠ 1 := by rw [Tm.mapv_k _ hbk]; exact hbk
     have := (nodes_mapv (f := θ) (b.mapv (rs σ)) hmem).2 hk
     rw [e] at this
     exact absurd this (Nat.lt_irrefl _)
 · rename_i hmem
   cases h
   obtain ⟨rk', B', G'⟩ := G.bind hn hmem
   have hR := G'.rs
   refine ⟨⟨_, _, _, G'⟩, fun m hm => ?_, fun m hm => ?_, by simp, fun _ => ?_, fun θ S e => ⟨rfl, fun m u hu => ?_⟩, fun h => (by cases h)⟩
   · simp only [List.mem_cons, List.not_mem_nil, or_false] at hm
     simp only [Sub.set, hm, if_false]
   · simp only [List.mem_cons, List.not_mem_nil, or_false] at hm
     subst hm
     exact ⟨hn, by simp [Sub.set]⟩
   · simp only [List.map_cons, List.map_nil, List.cons.injEq, and_true]
     rw [hav, hR]
     exact G'.bound (by simp [Sub.set])
   · simp only [List.map_cons, List.map_nil, List.cons.injEq, and_true] at e
     rw [hav] at e
     simp only [Sub.set] at hu
     split at hu
     · rename_i hmn
       cases hu
       rw [hmn, e]
     · exact S m u hu
theorem headEq_iff {a b : Tm} : headEq a b = true ↔ a.k = b.k ∧ a.n = b.n ∧ a.s = b.s ∧ a.ts.length = b.ts.length := by
 simp only [headEq, Bool.and_eq_true, decide_eq_true_eq, and_assoc]
theorem unisF_list (g : Nat) (ihU0 : ∀ σ a b r σ' tr, IsGood σ → uniF g σ a b = some (r, σ', tr) → Uni σ [a] [b] r σ' tr) : ∀ xs ys σ r σ' tr, IsGood σ → xs.length = ys.length → unisF g σ xs ys = some (r, σ', tr) → Uni σ xs ys r σ' tr := by
 intro xs
 have ihU := ihU0
 induction xs with
 | nil =>
  intro ys σ r σ' tr hg hl h
  cases ys with
  | cons _ _ => simp at hl
  | nil =>
   simp only [unisF, Option.some.injEq, Prod.mk.injEq] at h
   obtain ⟨rfl, rfl, rfl⟩ := h
   exact ⟨hg, fun _ _ => rfl, fun _ h => absurd h (List.not_mem_nil), List.nodup_nil, fun _ => rfl, fun θ S _ => ⟨rfl, S⟩, fun _ => rfl⟩
 | cons a xs ih =>
  intro ys σ r σ' tr hg hl h
  cases ys with
  | nil => simp at hl
  | cons b ys =>
   rw [unisF] at h
   cases h1 : uniF g σ a b with
   | none => rw [h1] at h; cases h
   | some p =>
    obtain ⟨r1, σ1, tr1⟩ := p
    have U1 := ihU σ a b r1 σ1 tr1 hg h1
    rw [h1] at h
    cases r1 with
    | false =>
     simp only [Option.some.injEq, Prod.mk.injEq] at h
     obtain ⟨rfl, rfl, rfl⟩ := h
     refine ⟨U1.good, U1.keep, U1.new, U1.nodup, fun h => (by cases h), fun θ S e => ?_, U1.same⟩
     simp only [List.map_cons, List.cons.injEq] at e
     exact U1.gen θ S (by simp [e.1])
    | true =>
     simp only at h
     cases h2 : unisF g σ1 xs ys with
     | none => rw [h2] at h; cases h
     | some p2 =>
      obtain ⟨r2, σ2, tr2⟩ := p2
      rw [h2] at h
      simp only [Option.some.injEq, Prod.mk.injEq] at h
      obtain ⟨rfl, rfl, rfl⟩ := h
      have U2 := ih ys σ1 r2 σ2 tr2 U1.good (by simpa using hl) h2
      refine ⟨U2.good, fun m hm => ?_, fun m hm => ?_, ?_, fun hr => ?_, fun θ S e => ?_, fun h => ?_⟩
      · simp only [List.mem_append, not_or] at hm
        rw [U2.keep m hm.2, U1.keep m hm.1]
      · rcases List.mem_append.1 hm with hm | hm
        · refine ⟨(U1.new m hm).1, fun h => (U1.new m hm).2 ?_⟩
          by_cases h3 : m ∈ tr2
          · exact (U2.new m h3).1
          · rw [← U2.keep m h3]; exact h
        · refine ⟨?_, (U2.new m hm).2⟩
          by_cases h3 : m ∈ tr1
          · exact (U1.new m h3).1
          · rw [← U1.keep m h3]; exact (U2.new m hm).1
      · rw [List.nodup_append]
        refine ⟨U1.nodup, U2.nodup, fun x hx y hy e => ?_⟩
        subst e
        exact (U1.new x hx).2 (U2.new x hy).1
      · have e1 := U1.eq rfl
        simp only [List.map_cons, List.map_nil, List.cons.injEq, and_true] at e1
        simp only [List.map_cons]
        rw [U2.stays U1.good e1, U2.eq hr]
      · simp only [List.map_cons, List.cons.injEq] at e
        obtain ⟨_, S1⟩ := U1.gen θ S (by simp [e.1])
        exact U2.gen θ S1 e.2
      · simp only [List.append_eq_nil_iff] at h
        rw [U2.same h.2, U1.same h.1]
theorem uniF_both : ∀ (g : Nat), (∀ σ a b r σ' tr, IsGood σ → uniF g σ a b = some (r, σ', tr) → Uni σ [a] [b] r σ' tr) ∧
 ∀ xs ys σ r σ' tr, IsGood σ → xs.length = ys.length → unisF g σ xs ys = some (r, σ', tr) → Uni σ xs ys r σ' tr := by
 intro g
 induction g with
 | zero =>
  have h0 : ∀ σ a b r σ' tr, IsGood σ → uniF 0 σ a b = some (r, σ', tr) → Uni σ [a] [b] r σ' tr := fun σ a b r σ' tr hg h => by simp only [uniF] at h; cases h
  exact ⟨h0, unisF_list _ h0⟩
 | succ g ih =>
  suffices hU : ∀ σ a b r σ' tr, IsGood σ → uniF (g + 1) σ a b = some (r, σ', tr) → Uni σ [a] [b] r σ' tr from ⟨hU, unisF_list _ hU⟩
  intro σ a b r σ' tr hg h
  obtain ⟨ihU, ihL⟩ := ih
  have ihL' := fun xs ys σ r σ' tr hg hl h => ihL xs ys σ r σ' tr hg hl h
  obtain ⟨rk, B, G⟩ := hg.rs
  obtain ⟨fa, wa⟩ := G.wk a
  obtain ⟨fb, wb⟩ := G.wk b
  have hma : ∀ θ, Sol θ σ → (wk σ a).mapv θ = a.mapv θ := fun θ S => wa.mapv S
  have hmb : ∀ θ, Sol θ σ → (wk σ b).mapv θ = b.mapv θ := fun θ S => wb.mapv S
  -- it suffices to speak of the walked terms
  suffices hw : Uni σ [wk σ a] [wk σ b] r σ' tr by
   refine ⟨hw.good, hw.keep, hw.new, hw.nodup, fun hr => ?_, fun θ S e => ?_, hw.same⟩
   · have := hw.eq hr
     simp only [List.map_cons, List.map_nil, List.cons.injEq, and_true] at this ⊢
     rw [← hma _ hw.isSol, ← hmb _ hw.isSol]; exact this
   · refine hw.gen θ S ?_
     simp only [List.map_cons, List.map_nil, List.cons.injEq, and_true] at e ⊢
     rw [hma θ S, hmb θ S]; exact e
  have ea := wa.end
  have eb := wb.end
  rw [uniF] at h
  generalize wk σ a = a at *
  generalize wk σ b = b at *
  split at h
  · rename_i hc
    simp only [Option.some.injEq, Prod.mk.injEq] at h
    obtain ⟨rfl, rfl, rfl⟩ := h
    have he : ∀ θ, a.mapv θ = b.mapv θ := fun θ => by rw [Tm.mapv_k1 θ hc.1, Tm.mapv_k1 θ hc.2.1, hc.2.2]
    exact ⟨hg, fun _ _ => rfl, fun _ h => absurd h (List.not_mem_nil), List.nodup_nil, fun _ => by simp [he], fun θ S _ => ⟨rfl, S⟩, fun _ => rfl⟩
  · rename_i hc
    split at h
    · rename_i ha
      exact bnd_uni hg ha rfl (ea ha) (fun hb => ⟨eb hb, fun e => hc ⟨ha, hb, e.symm⟩⟩) (Option.some.inj h)
    · rename_i ha
      split at h
      · rename_i hb
        have U := bnd_uni hg hb rfl (eb hb) (fun ha' => absurd ha' ha) (Option.some.inj h)
        exact ⟨U.good, U.keep, U.new, U.nodup, fun hr => (U.eq hr).symm, fun θ S e => U.gen θ S e.symm, U.same⟩
      · rename_i hb
        split at h
        · rename_i hh
          rw [headEq_iff] at hh
          have U := ihL' a.ts b.ts σ r σ' tr hg hh.2.2.2 h
          refine ⟨U.good, U.keep, U.new, U.nodup, fun hr => ?_, fun θ S e => ?_, U.same⟩
          · simp only [List.map_cons, List.map_nil, List.cons.injEq, and_true]
            rw [Tm.mapv_k _ ha, Tm.mapv_k _ hb, hh.1, hh.2.1, hh.2.2.1, U.eq hr]
          · simp only [List.map_cons, List.map_nil, List.cons.injEq, and_true] at e
            rw [Tm.mapv_k _ ha, Tm.mapv_k _ hb] at e
            exact U.gen θ S (by injection e)
        · rename_i hh
          simp only [Option.some.injEq, Prod.mk.injEq] at h
          obtain ⟨rfl, rfl, rfl⟩ := h
          refine ⟨hg, fun _ _ => rfl, fun _ h => absurd h (List.not_mem_nil), List.nodup_nil, fun h => (by cases h), fun θ S e => ?_, fun _ => rfl⟩
          exfalso
          simp only [List.map_cons, List.map_nil, List.cons.injEq, and_true] at e
          rw [Tm.mapv_k _ ha, Tm.mapv_k _ hb] at e
          injection e with e1 e2 e3 e4
          exact hh (headEq_iff.2 ⟨e1, e2, e3, by simpa using congrArg List.length e4⟩)
theorem uniF_uni {g : Nat} {σ : Sub} {a b : Tm} {r : Bool} {σ' : Sub} {tr : List Int} (hg : IsGood σ) (h : uniF g σ a b = some (r, σ', tr)) : Uni σ [a] [b] r σ' tr := (uniF_both g).1 σ a b r σ' tr hg h
end Go.AW
