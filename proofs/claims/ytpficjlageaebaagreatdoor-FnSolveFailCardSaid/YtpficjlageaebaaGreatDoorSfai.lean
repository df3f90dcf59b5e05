import Derived.Test.YtpficjlageaebaaGreatDoorSfaf
import Derived.Test.YtpficjlageaebaaGreatDoorSfah
set_option linter.unusedSimpArgs false
set_option linter.unusedVariables false
set_option maxRecDepth 100000
namespace Go.AW
open Go.Proofs.Tryz
theorem C5 (n lo hi : Int) (st : aB) : aD prog 84 [.int .i64 n, .int .i64 lo, .int .i64 hi] st (fun r st' => r = .bool (decide (lo ≤ n) && decide (n ≤ hi)) ∧ st' = st) := by
 refine wF [] 3 func84 ntmps84 rfl rfl ?_
 intro _
 repeat' (first
  | (simp -implicitDefEqProofs only [*, aA, seval])
  | (refine cT (fun h => ?_) (fun h => ?_))
  | (refine aQ (fun h => ?_) (fun h => ?_)))
 all_goals simp_all
theorem aVI (s : ByteArray) (st : aB) : aD prog 219 [.str s] st (fun r st' => r = .tup [.int .i64 (dL s), .bool (dL s == 1 || dL s == 2)] ∧ st' = st) := by
 refine wF [] 1 func219 ntmps219 rfl rfl ?_
 intro _
 repeat' (first
  | (simp -implicitDefEqProofs only [*, aA, seval])
  | (refine cT (fun h => ?_) (fun h => ?_))
  | (refine aQ (fun h => ?_) (fun h => ?_)))
 all_goals (simp only [dL, *, AC, xS, Bool.or_self, cond_true, AD]; first | done | rfl)
theorem uL (s : ByteArray) (st : aB) : aD prog 138 [.str s] st (fun r st' => r = .int .i64 (dL s) ∧ st' = st) := by
 refine wF [] 1 func138 ntmps138 rfl rfl ?_
 intro _
 repeat' (first
  | (simp -implicitDefEqProofs only [*, aA, seval])
  | (refine cT (fun h => ?_) (fun h => ?_))
  | (refine aQ (fun h => ?_) (fun h => ?_)))
 all_goals (simp only [dL, *, AC, xS, Bool.or_self, cond_true, AD]; first | done | rfl)
theorem aQT (s : ByteArray) (n : Int) (st : aB) : aD prog 184 [.str s, .int .i64 n] st (fun r st' => r = .bool (isBuiltin s n) ∧ st' = st) := by
 refine wF [] 2 func184 ntmps184 rfl rfl ?_
 intro _
 repeat' (first
  | (simp -implicitDefEqProofs only [*, aA, seval])
  | (refine cT (fun h => ?_) (fun h => ?_))
  | (refine aQ (fun h => ?_) (fun h => ?_)))
 all_goals (simp only [isBuiltin, *, AC, xS, Bool.or_self, cond_true, AD]; first | done | rfl)
theorem PQ (s : ByteArray) (n : Int) (st : aB) : aD prog 131 [.str s, .int .i64 n] st (fun r st' => r = .bool (isBuiltin s n) ∧ st' = st) := by
 refine wF [] 2 func131 ntmps131 rfl rfl ?_
 intro _
 repeat' (first
  | (simp -implicitDefEqProofs only [*, aA, seval])
  | (refine cT (fun h => ?_) (fun h => ?_))
  | (refine aQ (fun h => ?_) (fun h => ?_)))
 all_goals (simp only [isBuiltin, *, AC, xS, Bool.or_self, cond_true, AD]; first | done | rfl)
abbrev TS := zi tI_3 (zi zI_3 (zi aX (zi tI_4 (zi zI_4 (zi cD (zi tI_5 (zi zI_5 (zi kI (zi tI_9 (zi zI_9 cH))))))))))
theorem aH7 (s : ByteArray) (st : aB) : aD prog 137 [.str s] st (fun r st' => r = .bool (rY s) ∧ st' = st) := by
 refine wF [] 1 func137 ntmps137 rfl rfl ?_
 simp only [eG, AV.fits, eM]
 intro hs
 simp -implicitDefEqProofs only [aA, seval]
 refine uU (α := Nat) [] (fun i => i ≤ s.size ∧ ∀ (j : Nat) c, j < i → (sb s)[j]? = some c → letter c = true)
  (fun i => [(0, .str s), (3, .int .i64 i)]) (fun _ => st) (fun i => s.size - i) (by decide +kernel)
  ⟨0, ⟨by omega, by intro j x h; omega⟩, aO.mk (by simp -implicitDefEqProofs only [aA, ↓aU, seval])⟩ ?_
 intro i ⟨hi, dV⟩
 simp -implicitDefEqProofs only [aA, seval, TS]
 refine ⟨fun h5 => ?_, fun h5 => ?_⟩
 case refine_2 =>
  simp only [dH, mS] at h5
  have ha : (sb s).all letter = true := I3 fun j c hc => dV j c (by have := (gS.1 hc).1; rw [cJ] at this; omega) hc
  repeat' (first
   | (simp -implicitDefEqProofs only [*, aA, seval, TS])
   | (refine cT (fun h => ?_) (fun h => ?_))
   | (refine aQ (fun h => ?_) (fun h => ?_)))
  all_goals simp only [rY, ha, eT, AV.bool.injEq]
  all_goals simp only [*, oW, eT, gN]
 simp only [bJ, mS] at h5
 obtain ⟨c, hc⟩ : ∃ c, (sb s)[i]? = some c := ⟨_, fH (by rw [cJ]; exact h5)⟩
 have hx := sL (P := prog) (t := 9) cH hc
 simp -implicitDefEqProofs only [hx, aA, seval]
 refine cT (fun h6 => ?_) (fun h6 => ?_)
 case refine_2 =>
  simp -implicitDefEqProofs only [h6, aA, seval]
  simp only [n0, bJ] at h6
  simp only [rY, t7 hc (show letter c = false by simp [letter]; omega), gN]
 simp -implicitDefEqProofs only [h6, hx, aA, seval]
 refine ⟨fun h7 => ?_, fun h7 => ?_⟩
 · simp -implicitDefEqProofs only [aA, seval]
   simp only [bJ] at h7
   simp only [rY, t7 hc (show letter c = false by simp [letter]; omega), gN]
 simp only [dH] at h6 h7
 simp -implicitDefEqProofs only [aA, seval]
 refine ⟨i + 1, by omega, ⟨by omega, fun j u hj hu => ?_⟩, aO.mk ?_⟩
 · rcases kT j i with h8 | h8
   · exact dV j u h8 hu
   · obtain rfl : j = i := by omega
     rw [hc] at hu; cases hu
     simp [letter]; omega
 · have := bK (n := (i : Int) + 1)
   simp -implicitDefEqProofs only [this, aA, seval]
abbrev R9 := zi tI_3 (zi zI_3 (zi aX (zi tI_4 (zi zI_4 (zi cD (zi tI_5 (zi zI_5 (zi kI (zi tI_6 (zi zI_6 (zi uU6 (zi tI_9 (zi zI_9 cH)))))))))))))
theorem SZ (s : ByteArray) (st : aB) : aD prog 201 [.str s] st (fun r st' => r = .bool (rY s) ∧ st' = st) := by
 refine wF [] 1 func201 ntmps201 rfl rfl ?_
 simp only [eG, AV.fits, eM]
 intro hs
 simp -implicitDefEqProofs only [aA, seval, R9]
 refine uU (α := Nat) [] (fun i => i ≤ s.size ∧ ∀ (j : Nat) c, j < i → (sb s)[j]? = some c → letter c = true)
  (fun i => [(0, .str s), (5, .int .i64 s.size), (6, .int .i64 i)]) (fun _ => st) (fun i => s.size - i) (by decide +kernel)
  ⟨0, ⟨by omega, by intro j x h; omega⟩, aO.mk (by simp -implicitDefEqProofs only [aA, ↓aU, seval])⟩ ?_
 intro i ⟨hi, dV⟩
 simp -implicitDefEqProofs only [aA, seval]
 refine ⟨fun h5 => ?_, fun h5 => ?_⟩
 case refine_2 =>
  simp only [dH, mS] at h5
  have ha : (sb s).all letter = true := I3 fun j c hc => dV j c (by have := (gS.1 hc).1; rw [cJ] at this; omega) hc
  simp -implicitDefEqProofs only [aA, seval, R9]
  refine (C5 _ _ _ st).to ?_
  simp -implicitDefEqProofs only [aA, seval]
  simp only [rY, ha, eT]
 simp only [bJ, mS] at h5
 obtain ⟨c, hc⟩ : ∃ c, (sb s)[i]? = some c := ⟨_, fH (by rw [cJ]; exact h5)⟩
 have hx := sL (P := prog) (t := 9) cH hc
 simp -implicitDefEqProofs only [hx, aA, seval]
 refine cT (fun h6 => ?_) (fun h6 => ?_)
 case refine_2 =>
  simp -implicitDefEqProofs only [h6, aA, seval]
  simp only [n0, bJ] at h6
  simp only [rY, t7 hc (show letter c = false by simp [letter]; omega), gN]
 simp -implicitDefEqProofs only [h6, hx, aA, seval]
 refine ⟨fun h7 => ?_, fun h7 => ?_⟩
 · simp -implicitDefEqProofs only [aA, seval]
   simp only [bJ] at h7
   simp only [rY, t7 hc (show letter c = false by simp [letter]; omega), gN]
 simp only [dH] at h6 h7
 simp -implicitDefEqProofs only [aA, seval]
 refine ⟨i + 1, by omega, ⟨by omega, fun j u hj hu => ?_⟩, aO.mk ?_⟩
 · rcases kT j i with h8 | h8
   · exact dV j u h8 hu
   · obtain rfl : j = i := by omega
     rw [hc] at hu; cases hu
     simp [letter]; omega
 · have := bK (n := (i : Int) + 1)
   simp -implicitDefEqProofs only [this, aA, seval]
theorem aOO (s : ByteArray) (st : aB) : aD prog 202 [.str s] st (fun r st' => r = .bool (decide ((0 : Int) < (dL s : Int))) ∧ st' = st) := by
 refine wF [] 1 func202 ntmps202 rfl rfl ?_
 intro _
 simp -implicitDefEqProofs only [aA, seval]
 refine (aVI s st).to ?_
 simp -implicitDefEqProofs only [aA, seval]
abbrev aU8 := zi tI_3 (zi zI_3 (zi aX (zi tI_4 (zi zI_4 (zi cD (zi tI_31 (zi zI_31 (zi aN (zi bE (zi bF (zi b9 (zi tI_63 (zi zI_63 (zi bP (zi bQ (zi bT (zi bS bR)))))))))))))))))
theorem GH (k n : Int) (s : ByteArray) (ts : List Tm) (st : aB) : aD prog 183 [(Tm.mk k n s ts).av] st (fun r st' => r = .bool (decide (k = 3) && decide ((ts.length : Int) = 0)) ∧ st' = st) := by
 refine wF [] 1 func183 ntmps183 rfl rfl ?_
 intro _
 simp only [aV]
 repeat' (first
  | (simp -implicitDefEqProofs only [*, aA, seval, aU8])
  | (refine cT (fun h => ?_) (fun h => ?_))
  | (refine aQ (fun h => ?_) (fun h => ?_)))
 all_goals simp_all
def iU : List ByteArray := [⟨#[43]⟩, ⟨#[45]⟩, ⟨#[42]⟩, ⟨#[47, 47]⟩, ⟨#[61]⟩, ⟨#[92, 61]⟩, ⟨#[61, 61]⟩, ⟨#[60]⟩, ⟨#[62]⟩, ⟨#[61, 60]⟩, ⟨#[62, 61]⟩, ⟨#[61, 58, 61]⟩, ⟨#[46]⟩, ⟨#[91, 93]⟩, ⟨#[33]⟩]
abbrev aQO := zi tI_125 (zi zI_125 (zi iS (zi lR (zi lQ mF))))
theorem a0X (st : aB) : aD prog 235 [] st (fun r st' => r = .fslice (iU.map .str) ∧ st' = st) := by
 refine wF [] 0 func235 ntmps235 rfl rfl ?_
 intro _
 simp -implicitDefEqProofs only [iU, aA, seval, aQO]
abbrev aST := zi tI_125 (zi zI_125 (zi iS (zi lR (zi lQ mF))))
theorem aKE (st : aB) : aD prog 231 [] st (fun r st' => r = .fslice (iU.map .str) ∧ st' = st) := by
 refine wF [] 0 func231 ntmps231 rfl rfl ?_
 intro _
 simp -implicitDefEqProofs only [iU, aA, seval, aST]
abbrev aFG := zi tI_3 (zi zI_3 (zi aX (zi tI_4 (zi zI_4 (zi cD (zi tI_9 (zi zI_9 (zi cH (zi tI_125 (zi zI_125 (zi iS (zi lR (zi lQ mF)))))))))))))
theorem aNS (l : List ByteArray) (s : ByteArray) (st : aB) : aD prog 230 [.slice (l.map .str), .str s] st (fun r st' => r = .bool (l.any fun x => decide (x = s)) ∧ st' = st) := by
 refine wF [] 2 func230 ntmps230 rfl rfl ?_
 simp only [eG, AV.fits, eM, aF]
 intro ⟨⟨hl, _⟩, _⟩
 simp -implicitDefEqProofs only [aA, seval]
 refine uU (α := Nat) [] (fun i => i ≤ l.length ∧ ∀ (j : Nat) x, j < i → l[j]? = some x → decide (x = s) = false)
  (fun i => [(0, .slice (l.map .str)), (1, .str s), (5, .int .i64 i)]) (fun _ => st) (fun i => l.length - i) (by decide +kernel)
  ⟨0, ⟨by omega, by intro j x h; omega⟩, aO.mk (by simp -implicitDefEqProofs only [aA, ↓aU, seval])⟩ ?_
 intro i ⟨hi, dV⟩
 simp -implicitDefEqProofs only [aF, aA, seval, aFG]
 refine ⟨fun h5 => ?_, fun h5 => ?_⟩
 case refine_2 =>
  simp -implicitDefEqProofs only [aA, seval]
  simp only [dH, mS] at h5
  have : (l.any fun x => decide (x = s)) = false := by
   rw [List.any_eq_false]
   intro x hx
   obtain ⟨j, hj⟩ := GV hx
   simp [dV j x (by have := (gS.1 hj).1; omega) hj]
  rw [this]
 simp only [bJ, mS] at h5
 obtain ⟨x, hx⟩ : ∃ x, l[i]? = some x := ⟨_, fH h5⟩
 simp -implicitDefEqProofs only [bL (av := AV.str) iS hx rfl, aA, seval, aFG]
 refine ⟨fun h6 => ?_, fun h6 => ?_⟩
 · simp -implicitDefEqProofs only [aA, seval]
   have : (l.any fun x => decide (x = s)) = true := by
    rw [List.any_eq_true]
    exact ⟨x, cW hx, h6⟩
   rw [this]
 simp -implicitDefEqProofs only [aA, seval]
 refine ⟨i + 1, by omega, ⟨by omega, fun j u hj hu => ?_⟩, aO.mk ?_⟩
 · rcases kT j i with h8 | h8
   · exact dV j u h8 hu
   · obtain rfl : j = i := by omega
     rw [hx] at hu; cases hu
     exact h6
 · have := bK (n := (i : Int) + 1)
   simp -implicitDefEqProofs only [this, aA, seval]
abbrev aIP := zi tI_3 (zi zI_3 (zi aX (zi tI_9 (zi zI_9 (zi cH (zi tI_125 (zi zI_125 (zi iS (zi lR (zi lQ mF))))))))))
theorem aRQ (l : List ByteArray) (s : ByteArray) (st : aB) : aD prog 232 [.slice (l.map .str), .str s] st (fun r st' => (∃ k : Int, r = .int .i64 k ∧ decide (0 ≤ k) = l.any fun x => decide (s = x)) ∧ st' = st) := by
 refine wF [] 2 func232 ntmps232 rfl rfl ?_
 simp only [eG, AV.fits, eM, aF]
 intro ⟨⟨hl, _⟩, _⟩
 simp -implicitDefEqProofs only [aF, aA, seval, aIP]
 refine uU (α := Nat) [] (fun i => i ≤ l.length ∧ ∀ (j : Nat) x, j < i → l[j]? = some x → decide (s = x) = false)
  (fun i => [(0, .slice (l.map .str)), (1, .str s), (7, .int .i64 l.length), (8, .int .i64 i)]) (fun _ => st) (fun i => l.length - i) (by decide +kernel)
  ⟨0, ⟨by omega, by intro j x h; omega⟩, aO.mk (by simp -implicitDefEqProofs only [aA, ↓aU, seval])⟩ ?_
 intro i ⟨hi, dV⟩
 simp -implicitDefEqProofs only [aA, seval]
 refine ⟨fun h5 => ?_, fun h5 => ?_⟩
 case refine_2 =>
  simp -implicitDefEqProofs only [aA, seval]
  simp only [dH, mS] at h5
  have : (l.any fun x => decide (s = x)) = false := by
   rw [List.any_eq_false]
   intro x hx
   obtain ⟨j, hj⟩ := GV hx
   simp [dV j x (by have := (gS.1 hj).1; omega) hj]
  rw [this]
  exact ⟨_, rfl, rfl⟩
 simp only [bJ, mS] at h5
 obtain ⟨x, hx⟩ : ∃ x, l[i]? = some x := ⟨_, fH h5⟩
 simp -implicitDefEqProofs only [bL (av := AV.str) iS hx rfl, aA, seval, aIP]
 refine ⟨fun h6 => ?_, fun h6 => ?_⟩
 · simp -implicitDefEqProofs only [aA, seval]
   have : (l.any fun x => decide (s = x)) = true := by
    rw [List.any_eq_true]
    exact ⟨x, cW hx, h6⟩
   rw [this]
   exact ⟨_, rfl, by simp⟩
 simp -implicitDefEqProofs only [aA, seval]
 refine ⟨i + 1, by omega, ⟨by omega, fun j u hj hu => ?_⟩, aO.mk ?_⟩
 · rcases kT j i with h8 | h8
   · exact dV j u h8 hu
   · obtain rfl : j = i := by omega
     rw [hx] at hu; cases hu
     exact h6
 · have := bK (n := (i : Int) + 1)
   simp -implicitDefEqProofs only [this, aA, seval]
theorem aMY (l : List ByteArray) (s : ByteArray) (st : aB) : aD prog 213 [.slice (l.map .str), .str s] st (fun r st' => r = .bool (l.any fun x => decide (s = x)) ∧ st' = st) := by
 refine wF [] 2 func213 ntmps213 rfl rfl ?_
 intro _
 simp -implicitDefEqProofs only [aA, seval]
 refine (aRQ l s st).mono ?_
 rintro _ _ ⟨⟨k, rfl, hk⟩, rfl⟩
 simp -implicitDefEqProofs only [aA, seval]
 rw [← hk]
theorem NK (l : List ByteArray) (s : ByteArray) (st : aB) : aD prog 213 [.fslice (l.map .str), .str s] st (fun r st' => r = .bool (l.any fun x => decide (s = x)) ∧ st' = st) :=
 aD.n7 (by simp only [gO, AV.soft]; exact aMY l s st)
theorem aRP (l : List ByteArray) (s : ByteArray) (st : aB) : aD prog 230 [.fslice (l.map .str), .str s] st (fun r st' => r = .bool (l.any fun x => decide (x = s)) ∧ st' = st) :=
 aD.n7 (by simp only [gO, AV.soft]; exact aNS l s st)
def wA (s : ByteArray) : Bool := rY s || iU.any fun x => decide (s = x)
theorem aQ2 (s : ByteArray) : (iU.any fun x => decide (x = s)) = iU.any fun x => decide (s = x) := by
 congr 1
 funext x
 exact AE.2 ⟨Eq.symm, Eq.symm⟩
theorem aWT (s : ByteArray) (st : aB) : aD prog 217 [.str s] st (fun r st' => r = .bool (wA s) ∧ st' = st) := by
 refine wF [] 1 func217 ntmps217 rfl rfl ?_
 intro _
 repeat' (first
  | (simp -implicitDefEqProofs only [*, aA, seval])
  | (refine cT (fun h => ?_) (fun h => ?_))
  | (refine (SZ s st).to ?_) | (refine (a0X st).to ?_) | (refine (NK iU s st).to ?_)
  | (refine aQ (fun h => ?_) (fun h => ?_)))
 all_goals simp only [wA, *, n0, xS, qX]
theorem aVA (s : ByteArray) (st : aB) : aD prog 209 [.str s] st (fun r st' => r = .bool (wA s) ∧ st' = st) := by
 refine wF [] 1 func209 ntmps209 rfl rfl ?_
 intro _
 repeat' (first
  | (simp -implicitDefEqProofs only [*, aA, seval])
  | (refine cT (fun h => ?_) (fun h => ?_))
  | (refine (aH7 s st).to ?_) | (refine (aKE st).to ?_) | (refine (aRP iU s st).to ?_)
  | (refine aQ (fun h => ?_) (fun h => ?_)))
 all_goals simp only [wA, aQ2, *, n0, xS, qX]
end Go.AW
namespace Go.AW
def eE (k n : Int) (s : ByteArray) (len : Int) : Bool :=
 cond (decide (k = 1)) (decide ((0 : Int) ≤ n) && decide (n ≤ 25) && decide (s = ⟨#[]⟩) && decide (len = 0))
  (cond (decide (k = 2)) (decide ((-999 : Int) ≤ n) && decide (n ≤ 999) && decide (s = ⟨#[]⟩) && decide (len = 0))
   (cond (decide (k = 3)) (decide (n = 0) && wA s && decide (len ≤ 4)) false))
mutual
def Tm.shape : Tm → Int → Bool
 | .mk k n s ts, d => decide (1 ≤ d) && eE k n s ts.length && IM ts (d - 1)
def IM : List Tm → Int → Bool
 | [], _ => true
 | t :: ts, d => t.shape d && IM ts d
end
theorem aLF : ∀ (ts : List Tm) (d : Int), IM ts d = ts.all fun t => t.shape d
 | [], _ => rfl
 | t :: ts, d => by simp only [IM, kG, aLF ts d]
theorem Tm.BV (k n : Int) (s : ByteArray) (ts : List Tm) (d : Int) : (Tm.mk k n s ts).shape d = (decide (1 ≤ d) && eE k n s ts.length && ts.all fun t => t.shape (d - 1)) := by simp only [Tm.shape, aLF]
mutual
def Tm.nodes : Tm → Nat
 | .mk _ _ _ ts => 1 + H2 ts
def H2 : List Tm → Nat
 | [] => 0
 | t :: ts => t.nodes + H2 ts
end
theorem WS : ∀ (ts : List Tm), H2 ts = bG Tm.nodes ts
 | [] => rfl
 | t :: ts => by simp only [H2, bG, WS ts]
theorem Tm.gP (k n : Int) (s : ByteArray) (ts : List Tm) : (Tm.mk k n s ts).nodes = 1 + bG Tm.nodes ts := by simp only [Tm.nodes, WS]
def Tm.valid (t : Tm) : Bool := t.shape 30 && decide (t.nodes ≤ 120)
mutual
def Tm.vars : Tm → List Int → List Int
 | .mk k n _ ts, l => b7 ts (if k = 1 ∧ n ∉ l then l ++ [n] else l)
def b7 : List Tm → List Int → List Int
 | [], l => l
 | t :: ts, l => b7 ts (t.vars l)
end
mutual
theorem Tm.AM : ∀ (t : Tm) (l : List Int), (t.vars l).length ≤ l.length + t.nodes
 | .mk k n s ts, l => by
  have h := xK ts (if k = 1 ∧ n ∉ l then l ++ [n] else l)
  have h2 : (if k = 1 ∧ n ∉ l then l ++ [n] else l).length ≤ l.length + 1 := by split <;> simp
  rw [Tm.vars, Tm.gP]
  omega
theorem xK : ∀ (ts : List Tm) (l : List Int), (b7 ts l).length ≤ l.length + bG Tm.nodes ts
 | [], l => by simp [b7, bG]
 | t :: ts, l => by
  have h1 := Tm.AM t l
  have h2 := xK ts (t.vars l)
  simp only [b7, bG]
  omega
end
def eN (v : Int) : List Int → Int → Int
 | [], _ => -1
 | x :: xs, i => if v = x then i else eN v xs (i + 1)
theorem aJS (v : Int) : ∀ (l : List Int) (i : Int), 0 ≤ i → (0 ≤ eN v l i ↔ v ∈ l)
 | [], i, h => by simp [eN]
 | x :: xs, i, h => by
  simp only [eN, cY]
  split
  · rename_i e; simp [e, h]
  · rename_i e; rw [aJS v xs (i + 1) (by omega)]; simp [e]
theorem oJ {st : aB} {b x : Nat} {l : List AV} {o : AO} (h : l ≠ [] → x ≠ b) : (aZ st b l).aC x o = aZ (st.aC x o) b l := by
 cases l with
 | nil => rfl
 | cons y l => exact aB.nX _ _ _ (dB (h (by simp)))
theorem IL {st : aB} {b x : Nat} {l : List AV} {o : AO} (hx : st x = none) (h : l ≠ [] → (st.aC x o) b = none) : aL (aZ (st.aC x o) b l) (aZ st b l) ∧ (l ≠ [] → st b = none) := by
 cases l with
 | nil => exact ⟨(aL.refl _).aC hx, fun h => absurd rfl h⟩
 | cons y l =>
  have hb := h (by simp)
  have hne : b ≠ x := by rintro rfl; rw [aB.aP] at hb; cases hb
  rw [aB.aM _ _ hne] at hb
  refine ⟨?_, fun _ => hb⟩
  simp only [aZ]
  rw [aB.nX _ _ _ (dB hne)]
  exact (aL.refl _).aC (by rw [aB.aM _ _ (dB hne)]; exact hx)
theorem aAI {P : Program} {t : TypeId} {ag : Bool} {w b i : Nat} {l : List AV} {x : AV} (hI : eI P t = some (ag, w)) (h : l[i]? = some x) : dJ P t (a9 w b l) (.int .i64 (i : Int)) = some (.ptr b (i * w)) := by
 have hi := (gS.1 h).1
 rw [oB (by rintro rfl; simp at hi)]
 exact xX hI hi
theorem S3 {st : aB} {b i : Nat} {l : List Int} {x : Int} (h : l[i]? = some x) : aZ st b (l.map iv) b = some (.cells (l.map iv)) ∧ (l.map iv)[i]? = some (iv x) := by
 have hi := (gS.1 h).1
 have hne : l.map iv ≠ [] := by rintro e; rw [List.map_eq_nil_iff] at e; subst e; simp at hi
 have hfl : (l.map iv).flatMap AV.cells = l.map iv := by
  clear h hi hne
  induction l with
  | nil => rfl
  | cons y l ih => simp only [bA, tS, ih]; rfl
 exact ⟨by rw [jF hne, hfl, aB.aP], by rw [oV, h]; try rfl⟩
mutual
def Tm.wf : Tm → Bool
 | .mk k _ _ ts => (!decide (k = 1) || ts.isEmpty) && KR ts
def KR : List Tm → Bool
 | [] => true
 | t :: ts => t.wf && KR ts
end
theorem NJ : ∀ (ts : List Tm), KR ts = ts.all Tm.wf
 | [] => rfl
 | t :: ts => by simp only [KR, kG, NJ ts]
theorem Tm.Q0 {k n : Int} {s : ByteArray} {ts : List Tm} (h : (Tm.mk k n s ts).wf = true) : (k = 1 → ts = []) ∧ ∀ x ∈ ts, x.wf = true := by
 simp only [Tm.wf, NJ, cM, q9, lZ, dH, List.isEmpty_iff, eW] at h
 exact ⟨fun hk => h.1.resolve_left (fun hn => hn hk), h.2⟩
theorem Tm.G9 {t : Tm} (h : t.valid = true) : t.nodes ≤ 120 := by simp only [Tm.valid, cM, bJ] at h; exact h.2
def eU (S : aB) (c b : Nat) (hd : List AV) (l : List AV) : aB := aZ (S.aC c (.cells (hd ++ [a9 4 b l]))) b l
theorem eD {S : aB} {c b : Nat} {hd l : List AV} (hb : l ≠ [] → (S.aC c (.cells (hd ++ [a9 4 b l]))) b = none) : eU S c b hd l c = some (.cells (hd ++ [a9 4 b l])) := by
 unfold eU
 cases l with
 | nil => simp only [aZ, aB.aP]
 | cons y l =>
  have h := hb (by simp)
  have hne : c ≠ b := fun e => by rw [← e, aB.aP] at h; cases h
  rw [pX hne, aB.aP]
theorem nO {S : aB} {c b b' : Nat} {hd l l' : List AV} (hb : l' ≠ [] → (S.aC c (.cells (hd ++ [a9 4 b l]))) b' = none) :
 (aZ (S.aC c (.cells (hd ++ [a9 4 b l]))) b' l').aC c (.cells (hd ++ [a9 4 b' l'])) = eU S c b' hd l' ∧ (l' ≠ [] → (S.aC c (.cells (hd ++ [a9 4 b' l']))) b' = none) ∧ aZ (S.aC c (.cells (hd ++ [a9 4 b l]))) b' l' c = some (.cells (hd ++ [a9 4 b l])) := by
 have hne : l' ≠ [] → c ≠ b' := fun h e => by have := hb h; rw [← e, aB.aP] at this; cases this
 refine ⟨?_, fun h => ?_, ?_⟩
 · rw [oJ hne, dE]; try rfl
 · have := hb h
   rw [aB.aM _ _ (dB (hne h))] at this ⊢
   exact this
 · cases l' with
   | nil => simp only [aZ, aB.aP]
   | cons y l => rw [pX (hne (by simp)), aB.aP]
theorem gF {S : aB} {c b x : Nat} {hd l : List AV} (hb : l ≠ [] → (S.aC c (.cells (hd ++ [a9 4 b l]))) b = none) (hx : S x ≠ none) (hxc : x ≠ c) : eU S c b hd l x = S x := by
 unfold eU
 cases l with
 | nil => simp only [aZ, aB.aM _ _ hxc]
 | cons y l =>
  have h := hb (by simp)
  have hne : x ≠ b := fun e => by
   rw [← e, aB.aM _ _ hxc] at h
   exact hx h
  rw [pX hne, aB.aM _ _ hxc]
theorem j8 {S : aB} {c b x : Nat} {hd l : List AV} {o : AO} (hb : l ≠ [] → (S.aC c (.cells (hd ++ [a9 4 b l]))) b = none) (hx : S x ≠ none) (hxc : x ≠ c) : (eU S c b hd l).aC x o = aZ ((S.aC c (.cells (hd ++ [a9 4 b l]))).aC x o) b l ∧ (l ≠ [] → ((S.aC c (.cells (hd ++ [a9 4 b l]))).aC x o) b = none) := by
 have hne : l ≠ [] → x ≠ b := fun h e => by
  have := hb h
  rw [← e, aB.aM _ _ hxc] at this
  exact hx this
 refine ⟨by unfold eU; rw [oJ hne], fun h => by rw [aB.aM _ _ (dB (hne h))]; exact hb h⟩
theorem pU {S : aB} {c b x : Nat} {hd l : List AV} {o : AO} (hb : l ≠ [] → (S.aC c (.cells (hd ++ [a9 4 b l]))) b = none) (hx : S x ≠ none) (hxc : x ≠ c) :
 (eU S c b hd l).aC x o = eU (S.aC x o) c b hd l ∧ (l ≠ [] → ((S.aC x o).aC c (.cells (hd ++ [a9 4 b l]))) b = none) := by
 have hne : l ≠ [] → x ≠ b := fun h e => by
  have := hb h
  rw [← e, aB.aM _ _ hxc] at this
  exact hx this
 refine ⟨by unfold eU; rw [oJ hne, aB.nX _ _ _ (dB hxc)], fun h => ?_⟩
 have := hb h
 rw [aB.nX _ _ _ hxc, aB.aM _ _ (dB (hne h))]
 exact this
theorem aN4 {S T : aB} {c b : Nat} {hd l : List AV} (D : aL (S.aC c (.cells (hd ++ [a9 4 b l]))) T) (hb : l ≠ [] → (S.aC c (.cells (hd ++ [a9 4 b l]))) b = none) : aL (eU S c b hd l) T :=
 D.aZ fun h => (D b).1 (hb h)
theorem aB.vJ {st : aB} {b c : Nat} {a z a' : AO} (h : b ≠ c) : ((st.aC c a).aC b z).aC c a' = (st.aC b z).aC c a' := by rw [aB.nX _ _ _ (dB h), dE]
theorem dR (l : List Tm) : ∀ e ∈ l.map Tm.av, e.width = 4 := by intro e h; simp only [cU] at h; obtain ⟨t, _, rfl⟩ := h; exact aH t
theorem iB (l : List Tm) : ∀ e ∈ l.map Tm.av, e.cB = false := by intro e h; simp only [cU] at h; obtain ⟨t, _, rfl⟩ := h; exact cG t
end Go.AW
namespace Go.AW
open Go.Proofs.Tryz
mutual
def Tm.small : Tm → Bool
 | .mk _ _ _ ts => decide (ts.length ≤ 1048576) && E4 ts
def E4 : List Tm → Bool
 | [] => true
 | t :: ts => t.small && E4 ts
end
theorem EK : ∀ (ts : List Tm), E4 ts = ts.all Tm.small
 | [] => rfl
 | t :: ts => by simp only [E4, kG, EK ts]
theorem Tm.oE {k n : Int} {s : ByteArray} {ts : List Tm} (h : (Tm.mk k n s ts).small = true) : ts.length ≤ 1048576 ∧ ∀ x ∈ ts, x.small = true := by
 simpa [Tm.small, EK] using h
abbrev KE := zi tI_3 (zi zI_3 (zi aX (zi tI_31 (zi zI_31 (zi aN (zi bE (zi bF (zi b9 (zi tI_63 (zi zI_63 (zi bP (zi bQ (zi bT (zi bS bR))))))))))))))
theorem aDO (l : List Tm) (st : aB) (hb : l.length ≤ 1048576) (hc : ∀ x ∈ l, ∀ (st : aB), aD prog 117 [Tm.av x] st (Made st (Tm.av x))) :
 aD prog 78 [.slice (l.map Tm.av)] st (Made st (.slice (l.map Tm.av))) := by
 have hws : ∀ e ∈ l.map Tm.av, e.width = 4 := fun e he => by simp only [cU] at he; obtain ⟨t, _, rfl⟩ := he; exact aH t
 refine wF [] 1 func78 ntmps78 rfl rfl ?_
 intro _
 simp -implicitDefEqProofs only [aF, aA, seval, KE]
 refine eL (σ := List AV × List Nat × Nat × aB) [] [2, 6, 7] l (fun i p => vC (l.map Tm.av) st i p.1 p.2.1 p.2.2.1 p.2.2.2) (fun i p => [(3, a9 4 p.2.2.1 p.1), (8, .int .i64 i)]) (fun _ p => p.2.2.2) (by decide +kernel)
  ⟨([], [], 0, st), vC.start, aO.mk (by simp -implicitDefEqProofs only [jG, aA, ↓aU, seval])⟩ (fun i x p hx hlt bU hdr hinv => ?_) (fun p hge hinv => ?_)
 case refine_2 =>
  obtain ⟨os, bs, b, s⟩ := p
  simp -implicitDefEqProofs only [hge, aA, seval]
  exact hinv.done (aF _) hws
 obtain ⟨os, bs, b, s⟩ := p
 simp only at hinv
 have hw := bK (n := (i : Int) + 1)
 have w7 : ∀ zs : List AV, zs.length = 4 → aK zs 0 (Tm.av x).cells = (Tm.av x).cells := fun zs h => yZ (bO x) h
 simp -implicitDefEqProofs only [bU, bL (av := Tm.av) aN hx (aH x), aT, aH, bO, bZ, dE, w7, aA, seval, KE]
 intro b2 hb2
 try simp -implicitDefEqProofs only [tP, bO, d9 (bO x), d8 (aT x), c7, w7, dE, bZ, aA, ↓aU, seval, KE]
 refine (hc x (cW hx) _).mono ?_
 rintro r s2 ⟨bx, m1, m2, m3, m4⟩
 obtain ⟨f1, f2, f3⟩ := m3.aYI (aH x) (bZ x)
 have hra : r.isAgg = true := by rw [(cK.shape m3).1, aT]
 have hrj : r.cB = false := (cK.shape m3).2.2.1
 simp -implicitDefEqProofs only [f1, hra, hrj, aA, seval, KE]
 have hlen : os.length = i := hinv.1
 have aW8 : ∀ e ∈ os, e.width = 4 := fun e he => by
  obtain ⟨k, hk, rfl⟩ := List.getElem_of_mem he
  exact hinv.2.1.aIY (fun q hq => hws q (lY hq)) _ he
 have hkb : os ≠ [] → s2 b = some (.cells (os.flatMap AV.cells)) := fun hne => by
  have h := (hinv.2.2.2.2.1 hne).2.2
  have hbx : b ∉ bx := fun hq => by
   have := m2 b hq
   have F5 : b ≠ b2 := fun e => by rw [e, hb2] at h; cases h
   rw [aB.aM _ _ F5, h] at this; cases this
  have F5 : b ≠ b2 := fun e => by rw [e, hb2] at h; cases h
  rw [m4 b hbx, aB.aM _ _ F5, h]
 refine aZJ aN bE bF rfl rfl (fB f1 f3) aW8 hkb (by simp only [aS, a7, hlen]; omega) (by simp only [aS, a7, hlen]; omega) (fun b' s' k1 k2 k3 k4 => ?_)
 have iJ := hinv.step hb2 (show (l.map Tm.av)[i]? = some (Tm.av x) by rw [oV, hx]; try rfl) m1 m2 m3 m4 (k1 (by simp)) (k2 (by simp)) (fun q h1 h2 => k3 q (fun _ => h1) h2) k4
 simp -implicitDefEqProofs only [hw, aA, seval]
 exact ⟨(os ++ [r], bs ++ bx, b', s'.erase b2), iJ, aO.drop (jH _ _) (by simp -implicitDefEqProofs only [aA, seval])⟩
abbrev V9 := zi tI_31 (zi zI_31 (zi aN (zi bE (zi bF (zi b9 (zi tI_63 (zi zI_63 (zi bP (zi bQ (zi bT (zi bS bR)))))))))))
theorem aC9 : ∀ (t : Tm) (st : aB), t.small = true → aD prog 117 [t.av] st (Made st t.av)
 | .mk k n s ts, st, hb => by
  obtain ⟨hb1, hb2⟩ := Tm.oE hb
  have hc := fun st => aDO ts st hb1 fun x hx st => aC9 x st (hb2 x hx)
  refine aD.aPX ?_
  refine wF [1] 1 func117 ntmps117 rfl rfl ?_
  intro _
  simp only [aV]
  simp -implicitDefEqProofs only [aA, seval, V9]
  intro b aNU b2 J3
  have hne : b2 ≠ b := by rintro rfl; rw [aB.aP] at J3; cases J3
  have hn2 : st b2 = none := by rw [aB.aM st _ hne] at J3; exact J3
  simp -implicitDefEqProofs only [tP, hne.symm, aA, seval]
  refine (hc _).mono ?_
  rintro q s2 ⟨bs, m1, m2, m3, m4⟩
  have hbb : b ∉ bs := fun h => by have := m2 b h; simp [tP, hne.symm] at this
  have J6 : b2 ∉ bs := fun h => by have := m2 b2 h; simp [tP] at this
  have e1 := m4 b hbb
  have e2 := m4 b2 J6
  simp only [tP, hne, hne.symm, fZ, dZ] at e1 e2
  have hqc : q.cells = [q] := by have := (cK.shape m3).1; cases q <;> first | rfl | simp [AV.isAgg] at this
  have hqs : q.storable = true := by
   have := m3
   simp only [cK] at this
   rcases this with ⟨_, rfl, _⟩ | ⟨_, _, _, _, rfl, _⟩ <;> rfl
  simp -implicitDefEqProofs only [tP, hne, e1, e2, hqc, hqs, aK, aA, seval, V9]
  refine ⟨[b, b2], bs, m1, fun x hx => ?_, ?_, ?_, ?_⟩
  · have := m2 x hx
    have h1 : x ≠ b := fun e => hbb (e ▸ hx)
    have h2 : x ≠ b2 := fun e => J6 (e ▸ hx)
    simpa [tP, h1, h2] using this
  · simp [aNU, hn2, hbb, J6]
  · rw [← aV]
    refine aNH.2 ⟨q, rfl, cK.a8 _ _ _ (fun x hx => ?_) m3⟩
    have h1 : x ≠ b := fun e => hbb (e ▸ hx)
    have h2 : x ≠ b2 := fun e => J6 (e ▸ hx)
    simp only [tP, h1, h2, dZ]
  · intro x hx hd
    simp only [cY, dP, d4, not_or] at hd
    simp only [tP, hd.1, hd.2, dZ]
    rw [m4 x hx]
    simp only [tP, hd.1, hd.2, dZ]
termination_by t => SizeOf.sizeOf t
decreasing_by have := List.sizeOf_lt_of_mem hx; simp only [Tm.mk.sizeOf_spec]; omega
abbrev zN := zi tI_3 (zi zI_3 (zi aX (zi tI_9 (zi zI_9 (zi cH (zi tI_31 (zi zI_31 (zi aN (zi bE (zi bF (zi b9 (zi tI_63 (zi zI_63 (zi bP (zi bQ (zi bT (zi bS bR)))))))))))))))))
theorem yR : ∀ (t : Tm) (st : aB), t.small = true → aD prog 81 [t.av] st (fun r st' => r = t.av ∧ st' = st)
 | .mk k n s ts, st, hsm => by
  obtain ⟨hlen, oK⟩ := Tm.oE hsm
  have IH := fun (x : Tm) (hx : x ∈ ts) st => yR x st (oK x hx)
  refine aD.pO (aD.fin ?_)
  simp only [aV]
  refine wF [] 1 func81 ntmps81 rfl rfl ?_
  simp only [eG, AV.fits, eM, aF]
  intro ⟨_, _, _, hl, _⟩
  simp -implicitDefEqProofs only [aA, seval, zN]
  intro b2 hb2 c hc
  have hne : c ≠ b2 := by rintro rfl; rw [aB.aP] at hc; cases hc
  have hn2 : st c = none := by rw [aB.aM st _ hne] at hc; exact hc
  simp -implicitDefEqProofs only [aK, aA, seval]
  refine eL (σ := Nat) [] [1, 2, 3] ts (fun i b => (((ts.take i).map (fun y => y)).map Tm.av ≠ [] → (aB.aC (st.aC b2 (.cells [AV.int .i64 0, AV.int .i64 0, AV.str ⟨#[]⟩, AV.fslice []])) c (.cells ([AV.int .i64 k, AV.int .i64 n, AV.str s] ++ [a9 4 b (((ts.take i).map (fun y => y)).map Tm.av)]))) b = none)) (fun i b => [(4, .int .i64 i)]) (fun i b => eU (st.aC b2 (.cells [AV.int .i64 0, AV.int .i64 0, AV.str ⟨#[]⟩, AV.fslice []])) c b [AV.int .i64 k, AV.int .i64 n, AV.str s] (((ts.take i).map (fun y => y)).map Tm.av)) (by decide +kernel)
   ⟨0, fun h => absurd rfl h, aO.mk (by simp -implicitDefEqProofs only [aA, ↓aU, seval])⟩ (fun i x b hx hlt bU hdr hinv => ?_) (fun b hge hinv => ?_)
  case refine_1 =>
   have hw := bK (n := (i : Int) + 1)
   have cV : (((ts.take i).map (fun y => y)).map Tm.av).length = i := by simp only [aF, d7]; omega
   have htk : (ts.take (i + 1)).map (fun y => y) = (ts.take i).map (fun y => y) ++ [(fun y => y) x] := by rw [fN, hx]; simp
   have hbo := eD hinv
   simp -implicitDefEqProofs only [aF, bU, aA, seval, zN]
   refine wP [(0, 1), (2, 1), (4, 1), (1, 2), (3, 2), (5, 1), (6, 2), (7, 2), (8, 1), (9, 0), (10, 1), (11, 0)] [0, 2, 4, 1, 3, 5, 6, 7, 8, 10] mixed ?_
   simp -implicitDefEqProofs only [bL (av := Tm.av) aN hx (aH x), aT, aH, hbo, mK, gY, aA, seval, zN]
   refine jC (IH x (cW hx) _) ?_
   simp -implicitDefEqProofs only [aT, aH, cG, gY, aA, seval, zN]
   refine eO aN bE bF rfl rfl (fB (aH _) (bZ _)) (dR _) hinv (by simp only [cV, aS, a7]; omega) (by simp only [cV, aS, a7]; omega) (fun b' hb' => ?_)
   rw [show (((ts.take i).map (fun y => y)).map Tm.av) ++ [((fun y => y) x).av] = ((ts.take (i + 1)).map (fun y => y)).map Tm.av by rw [htk]; simp] at hb' ⊢
   obtain ⟨g1, g2, g3⟩ := nO hb'
   simp only [fF, eR] at g1 g3
   simp -implicitDefEqProofs only [g3, mB, eV, aK, g1, hw, aA, seval, zN]
   exact ⟨b', g2, aO.mk (by simp -implicitDefEqProofs only [aA, seval])⟩
  have hbo := eD hinv
  rw [eS] at hinv hbo ⊢
  simp -implicitDefEqProofs only [aF, hge, aA, seval, zN]
  simp -implicitDefEqProofs only [hbo, aA, seval, zN]
  have nA : b2 ≠ c := dB hne
  have hS : (st.aC b2 (.cells [AV.int .i64 0, AV.int .i64 0, AV.str ⟨#[]⟩, AV.fslice []])) b2 ≠ none := by rw [aB.aP]; simp
  have h1 := gF hinv hS nA
  rw [aB.aP] at h1
  simp -implicitDefEqProofs only [h1, eV, aK, aA, seval]
  obtain ⟨h2, h3⟩ := j8 (o := .cells [AV.int .i64 k, AV.int .i64 n, AV.str s, a9 4 b ((ts.map fun y => y).map Tm.av)]) hinv hS nA
  refine ⟨b, _, _, h2, h3, iB _, ⟨4, dR _⟩, ?_, ?_⟩
  · simp only [fM, bA, aW, eC, iP, iD, List.map_id']
  · exact (((aL.refl _).aC hb2).aC hn2).aC hb2
termination_by t => SizeOf.sizeOf t
decreasing_by have := List.sizeOf_lt_of_mem hx; simp only [Tm.mk.sizeOf_spec]; omega
end Go.AW
namespace Go.AW
def Tm.k : Tm → Int | .mk k _ _ _ => k
def Tm.n : Tm → Int | .mk _ n _ _ => n
def Tm.s : Tm → ByteArray | .mk _ _ s _ => s
def Tm.ts : Tm → List Tm | .mk _ _ _ ts => ts
theorem Tm.eta (t : Tm) : t = .mk t.k t.n t.s t.ts := by cases t; rfl
def vr (n : Int) : Tm := .mk 1 n ⟨#[]⟩ []
mutual
def Tm.aJ (f : Int → Tm) : Tm → Tm
 | .mk k n s ts => if k = 1 then f n else .mk k n s (HV f ts)
def HV (f : Int → Tm) : List Tm → List Tm
 | [] => []
 | t :: ts => t.aJ f :: HV f ts
end
theorem aIQ (f : Int → Tm) : ∀ ts : List Tm, HV f ts = ts.map (Tm.aJ f)
 | [] => rfl
 | t :: ts => by simp only [HV, bA, aIQ f ts]
theorem Tm.mM (f : Int → Tm) {k n : Int} {s : ByteArray} {ts : List Tm} (h : k = 1) : (Tm.mk k n s ts).aJ f = f n := by simp only [Tm.aJ, h, fZ]
theorem Tm.lB (f : Int → Tm) {k n : Int} {s : ByteArray} {ts : List Tm} (h : k ≠ 1) : (Tm.mk k n s ts).aJ f = .mk k n s (ts.map (Tm.aJ f)) := by simp only [Tm.aJ, h, dZ, aIQ]
theorem t9 (f : Int → Tm) (n : Int) : (vr n).aJ f = f n := Tm.mM f rfl
mutual
def Tm.vl : Tm → List Int
 | .mk k n _ ts => if k = 1 then [n] else EA ts
def EA : List Tm → List Int
 | [] => []
 | t :: ts => t.vl ++ EA ts
end
theorem aHH {v : Int} : ∀ {ts : List Tm}, v ∈ EA ts ↔ ∃ t ∈ ts, v ∈ t.vl
 | [] => by simp [EA]
 | t :: ts => by simp [EA, aHH (ts := ts)]
theorem Tm.mI {k n : Int} {s : ByteArray} {ts : List Tm} (h : k = 1) : (Tm.mk k n s ts).vl = [n] := by simp only [Tm.vl, h, fZ]
theorem Tm.kJ {k n v : Int} {s : ByteArray} {ts : List Tm} (h : k ≠ 1) : v ∈ (Tm.mk k n s ts).vl ↔ ∃ t ∈ ts, v ∈ t.vl := by simp only [Tm.vl, h, dZ, aHH]
theorem wG (n : Int) : (vr n).vl = [n] := Tm.mI rfl
theorem Tm.ind {p : Tm → Prop} (h : ∀ k n s ts, (∀ t ∈ ts, p t) → p (.mk k n s ts)) : ∀ t, p t
 | .mk k n s ts => h k n s ts fun t ht => Tm.ind h t
termination_by t => SizeOf.sizeOf t
decreasing_by have := List.sizeOf_lt_of_mem ht; simp only [Tm.mk.sizeOf_spec]; omega
theorem pV {f g : Int → Tm} : ∀ (t : Tm), (∀ v ∈ t.vl, f v = g v) → t.aJ f = t.aJ g := by
 intro t
 induction t using Tm.ind with
 | h k n s ts ih =>
  intro h
  by_cases hk : k = 1
  · rw [Tm.mM f hk, Tm.mM g hk]; exact h n (by rw [Tm.mI hk]; simp)
  · rw [Tm.lB f hk, Tm.lB g hk]
    congr 1
    exact q7 fun x hx => ih x hx fun v hv => h v ((Tm.kJ hk).2 ⟨x, hx, hv⟩)
theorem xC (f g : Int → Tm) (t : Tm) : (t.aJ f).aJ g = t.aJ fun v => (f v).aJ g := by
 induction t using Tm.ind with
 | h k n s ts ih =>
  by_cases hk : k = 1
  · rw [Tm.mM f hk, Tm.mM _ hk]
  · rw [Tm.lB f hk, Tm.lB g hk, Tm.lB _ hk, xT]
    congr 1
    exact q7 fun x hx => ih x hx
theorem xF {f : Int → Tm} {w : Int} (t : Tm) : w ∈ (t.aJ f).vl ↔ ∃ v ∈ t.vl, w ∈ (f v).vl := by
 induction t using Tm.ind with
 | h k n s ts ih =>
  by_cases hk : k = 1
  · rw [Tm.mM f hk, Tm.mI hk]; simp
  · rw [Tm.lB f hk, Tm.kJ hk]
    constructor
    · rintro ⟨x, hx, hw⟩
      obtain ⟨y, hy, rfl⟩ := cU.1 hx
      obtain ⟨v, hv, hvw⟩ := (ih y hy).1 hw
      exact ⟨v, (Tm.kJ hk).2 ⟨y, hy, hv⟩, hvw⟩
    · rintro ⟨v, hv, hw⟩
      obtain ⟨y, hy, hvy⟩ := (Tm.kJ hk).1 hv
      exact ⟨_, cU.2 ⟨y, hy, rfl⟩, (ih y hy).2 ⟨v, hvy, hw⟩⟩
theorem aYK {f : Int → Tm} {v : Int} : ∀ (t : Tm), v ∈ t.vl → (f v).nodes ≤ (t.aJ f).nodes ∧ (t.k ≠ 1 → (f v).nodes < (t.aJ f).nodes) := by
 intro t
 induction t using Tm.ind with
 | h k n s ts ih =>
  intro hv
  by_cases hk : k = 1
  · rw [Tm.mI hk] at hv
    simp only [cY, dP, d4] at hv
    subst hv
    rw [Tm.mM f hk]
    exact ⟨c7 _, fun h => absurd hk h⟩
  · obtain ⟨x, hx, hvx⟩ := (Tm.kJ hk).1 hv
    have h1 := (ih x hx hvx).1
    have h2 := DQ (f := Tm.nodes) (cU.2 ⟨x, hx, rfl⟩ : x.aJ f ∈ ts.map (Tm.aJ f))
    rw [Tm.lB f hk, Tm.gP]
    omega
abbrev Sub := Int → Option Tm
def Sub.set (σ : Sub) (n : Int) (t : Tm) : Sub := fun m => if m = n then some t else σ m
def Sub.none : Sub := fun _ => Option.none
structure Good (σ : Sub) (R : Int → Tm) (rk : Int → Nat) (B : Nat) : Prop where
 uI : ∀ n, R n = match σ n with | some u => u.aJ R | .none => vr n
 DY : ∀ n u, σ n = some u → ∀ w ∈ u.vl, rk w < rk n
 bd : ∀ n, rk n < B
def qH (θ : Int → Tm) (σ : Sub) : Prop := ∀ n u, σ n = some u → θ n = u.aJ θ
section
variable {σ : Sub} {R R' : Int → Tm} {rk rk' : Int → Nat} {B B' : Nat}
theorem Good.none : Good Sub.none vr (fun _ => 0) 1 := ⟨fun n => rfl, fun n u h => (by cases h), fun n => Nat.zero_lt_one⟩
theorem Good.free (G : Good σ R rk B) {n : Int} (h : σ n = .none) : R n = vr n := by rw [G.uI n, h]
theorem Good.bound (G : Good σ R rk B) {n : Int} {u : Tm} (h : σ n = some u) : R n = u.aJ R := by rw [G.uI n, h]
theorem Good.uR (G : Good σ R rk B) : qH R σ := fun n u h => G.bound h
theorem Good.ind (G : Good σ R rk B) {p : Int → Prop} (h0 : ∀ n, σ n = .none → p n) (h1 : ∀ n u, σ n = some u → (∀ w ∈ u.vl, p w) → p n) : ∀ n, p n := by
 intro n
 generalize hk : rk n = k
 induction k using Nat.strongRecOn generalizing n with
 | _ k ih =>
  cases h : σ n with
  | none => exact h0 n h
  | some u => exact h1 n u h fun w hw => ih (rk w) (hk ▸ G.DY n u h w hw) w rfl
theorem Good.uniq (G : Good σ R rk B) (G' : Good σ R' rk' B') : R = R' := by
 funext n
 refine G.ind (p := fun n => R n = R' n) (fun n h => ?_) (fun n u h ih => ?_) n
 · rw [G.free h, G'.free h]
 · rw [G.bound h, G'.bound h]; exact pV u ih
theorem Good.aM1 (G : Good σ R rk B) {θ : Int → Tm} (S : qH θ σ) (n : Int) : (R n).aJ θ = θ n := by
 refine G.ind (p := fun n => (R n).aJ θ = θ n) (fun n h => ?_) (fun n u h ih => ?_) n
 · rw [G.free h, t9]
 · rw [G.bound h, xC, S n u h]; exact pV u ih
theorem Good.P6 (G : Good σ R rk B) {θ : Int → Tm} (S : qH θ σ) (t : Tm) : (t.aJ R).aJ θ = t.aJ θ := by
 rw [xC]; exact pV t fun v _ => G.aM1 S v
theorem Good.canon (G : Good σ R rk B) (n : Int) : (R n).aJ vr = R n := by
 refine G.ind (p := fun n => (R n).aJ vr = R n) (fun n h => ?_) (fun n u h ih => ?_) n
 · rw [G.free h, t9]
 · rw [G.bound h, xC]; exact pV u ih
theorem Good.aN5 (G : Good σ R rk B) (t : Tm) : (t.aJ R).aJ vr = t.aJ R := by
 rw [xC]; exact pV t fun v _ => G.canon v
theorem Good.bind (G : Good σ R rk B) {n : Int} {t : Tm} (hn : σ n = .none) (ho : n ∉ (t.aJ R).vl) :
 ∃ rk' B', Good (σ.set n t) (fun m => (R m).aJ fun v => if v = n then t.aJ R else vr v) rk' B' := by
 have key : (t.aJ R).aJ (fun v => if v = n then t.aJ R else vr v) = t.aJ R := by
  rw [pV (g := vr) (t.aJ R) (fun v hv => aE fun e => ho (by rw [← e]; exact hv)), G.aN5]
 refine ⟨fun v => if n ∈ (R v).vl then rk v + B else rk v, B + B, fun m => ?_, fun m u h w hw => ?_, fun m => ?_⟩
 · by_cases hm : m = n
   · subst hm
     simp only [Sub.set, fZ]
     rw [G.free hn, t9, aG rfl]
     rw [← xC, key]
   · simp only [Sub.set, hm, dZ]
     cases h : σ m with
     | none => rw [G.free h, t9, aE hm]
     | some u => rw [G.bound h, xC]
 · by_cases hm : m = n
   · subst hm
     simp only [Sub.set, fZ, Option.some.injEq] at h
     subst h
     have hw' : m ∉ (R w).vl := fun h => ho ((xF t).2 ⟨w, hw, h⟩)
     have : m ∈ (R m).vl := by rw [G.free hn, wG]; simp
     have := G.bd w
     simp only [hw', dZ]
     rw [aG (by assumption)]
     omega
   · simp only [Sub.set, hm, dZ] at h
     have h1 := G.DY m u h w hw
     by_cases hw' : n ∈ (R w).vl
     · have : n ∈ (R m).vl := by rw [G.bound h]; exact (xF u).2 ⟨w, hw, hw'⟩
       simp only [hw', this, fZ]; omega
     · simp only [hw', dZ]; split <;> omega
 · have := G.bd m
   split <;> omega
end
open Classical in
noncomputable def rs (σ : Sub) : Int → Tm := if h : ∃ R rk B, Good σ R rk B then h.choose else vr
theorem Good.rs {σ : Sub} {R : Int → Tm} {rk : Int → Nat} {B : Nat} (G : Good σ R rk B) : rs σ = R := by
 unfold AW.rs
 have h : ∃ R rk B, Good σ R rk B := ⟨R, rk, B, G⟩
 rw [dif_pos h]
 obtain ⟨rk', B', G'⟩ := h.choose_spec
 exact G'.uniq G
inductive fQ (σ : Sub) : Nat → Tm → Tm → Prop
 | stop {t : Tm} (h : t.k = 1 → σ t.n = none) : fQ σ 0 t t
 | go {f : Nat} {t u v : Tm} (h1 : t.k = 1) (h2 : σ t.n = some u) (h3 : fQ σ f u v) : fQ σ (f + 1) t v
theorem fQ.det {σ : Sub} {f g : Nat} {t u v : Tm} (h : fQ σ f t u) : fQ σ g t v → u = v := by
 induction h generalizing g v with
 | stop h =>
  intro h'
  cases h' with
  | stop => rfl
  | go h1 h2 h3 => rw [h h1] at h2; cases h2
 | go h1 h2 h3 ih =>
  intro h'
  cases h' with
  | stop h => rw [h h1] at h2; cases h2
  | go h1' h2' h3' => rw [h2] at h2'; cases h2'; exact ih h3'
theorem fQ.total {σ : Sub} {R : Int → Tm} {rk : Int → Nat} {B : Nat} (G : Good σ R rk B) (t : Tm) : ∃ f u, fQ σ f t u := by
 have key : ∀ n, ∀ t : Tm, t.k = 1 → t.n = n → ∃ f u, fQ σ f t u := by
  intro n
  refine G.ind (p := fun n => ∀ t : Tm, t.k = 1 → t.n = n → ∃ f u, fQ σ f t u) (fun n h t hk hn => ?_) (fun n u h ih t hk hn => ?_) n
  · exact ⟨0, t, .stop fun _ => by rw [hn, h]⟩
  · by_cases hu : u.k = 1
    · have : u.n ∈ u.vl := by rw [Tm.eta u, Tm.mI hu]; simp [Tm.n]
      obtain ⟨f, v, hv⟩ := ih u.n this u hu rfl
      exact ⟨f + 1, v, .go hk (by rw [hn, h]) hv⟩
    · exact ⟨1, u, .go hk (by rw [hn, h]) (.stop fun h => absurd h hu)⟩
 by_cases hk : t.k = 1
 · exact key t.n t hk rfl
 · exact ⟨0, t, .stop fun h => absurd h hk⟩
theorem Tm.AG {t : Tm} (h : t.k = 1) : t.vl = [t.n] := by cases t; exact Tm.mI h
theorem Tm.C6 {t : Tm} (f : Int → Tm) (h : t.k = 1) : t.aJ f = f t.n := by cases t; exact Tm.mM f h
theorem Tm.qJ {t : Tm} (f : Int → Tm) (h : t.k ≠ 1) : t.aJ f = .mk t.k t.n t.s (t.ts.map (Tm.aJ f)) := by cases t; exact Tm.lB f h
theorem fQ.end {σ : Sub} {f : Nat} {t u : Tm} (h : fQ σ f t u) : u.k = 1 → σ u.n = none := by induction h with | stop h => exact h | go _ _ _ ih => exact ih
theorem fQ.aJ {σ : Sub} {θ : Int → Tm} (S : qH θ σ) {f : Nat} {t u : Tm} (h : fQ σ f t u) : u.aJ θ = t.aJ θ := by
 induction h with
 | stop => rfl
 | go h1 h2 _ ih => rw [ih, Tm.C6 θ h1, S _ _ h2]
theorem fQ.DY {σ : Sub} {R : Int → Tm} {rk : Int → Nat} {B : Nat} (G : Good σ R rk B) {f : Nat} {t u : Tm} (h : fQ σ f t u) : ∀ w ∈ u.vl, ∃ v ∈ t.vl, rk w ≤ rk v ∧ (f ≠ 0 → rk w < rk v) := by
 induction h with
 | stop h => exact fun w hw => ⟨w, hw, c7 _, fun h => absurd rfl h⟩
 | @go f t u v h1 h2 _ ih =>
  intro w hw
  obtain ⟨x, hx, hle, _⟩ := ih w hw
  have := G.DY _ _ h2 x hx
  exact ⟨t.n, by rw [Tm.AG h1]; simp, by omega, fun _ => by omega⟩
theorem fQ.all {σ : Sub} {p : Tm → Prop} (hp : ∀ n u, σ n = some u → p u) {f : Nat} {t u : Tm} (h : fQ σ f t u) (ht : p t) : p u := by
 induction h with
 | stop => exact ht
 | go _ h2 _ ih => exact ih (hp _ _ h2)
open Classical in
noncomputable def wk (σ : Sub) (t : Tm) : Tm := if h : ∃ u f, fQ σ f t u then h.choose else t
theorem fQ.wk {σ : Sub} {f : Nat} {t u : Tm} (h : fQ σ f t u) : wk σ t = u := by
 unfold AW.wk
 have h' : ∃ u f, fQ σ f t u := ⟨u, f, h⟩
 rw [dif_pos h']
 obtain ⟨g, hg⟩ := h'.choose_spec
 exact hg.det h
theorem Good.wk {σ : Sub} {R : Int → Tm} {rk : Int → Nat} {B : Nat} (G : Good σ R rk B) (t : Tm) : ∃ f, fQ σ f t (wk σ t) := by
 obtain ⟨f, u, h⟩ := fQ.total G t
 exact ⟨f, by rw [h.wk]; exact h⟩
open Classical in
noncomputable def jU (σ : Sub) (n : Int) (t : Tm) : Bool × Sub × List Int := if n ∈ (t.aJ (rs σ)).vl then (false, σ, []) else (true, σ.set n t, [n])
open Classical in
def tR (a b : Tm) : Bool := decide (a.k = b.k) && decide (a.n = b.n) && decide (a.s = b.s) && decide (a.ts.length = b.ts.length)
mutual
noncomputable def dD : Nat → Sub → Tm → Tm → Option (Bool × Sub × List Int)
 | 0, _, _, _ => none
 | g + 1, σ, a, b =>
  if (wk σ a).k = 1 ∧ (wk σ b).k = 1 ∧ (wk σ a).n = (wk σ b).n then some (true, σ, [])
  else if (wk σ a).k = 1 then some (jU σ (wk σ a).n (wk σ b))
  else if (wk σ b).k = 1 then some (jU σ (wk σ b).n (wk σ a))
  else if tR (wk σ a) (wk σ b) = true then dU g σ (wk σ a).ts (wk σ b).ts
  else some (false, σ, [])
termination_by g => (g, 0)
noncomputable def dU : Nat → Sub → List Tm → List Tm → Option (Bool × Sub × List Int)
 | g, σ, a :: xs, b :: ys => match dD g σ a b with
  | none => none
  | some (false, σ', tr) => some (false, σ', tr)
  | some (true, σ', tr) => match dU g σ' xs ys with
   | none => none
   | some (r, σ'', tr') => some (r, σ'', tr ++ tr')
 | _, σ, _, _ => some (true, σ, [])
termination_by g _ xs => (g, xs.length + 1)
end
theorem KA {g : Nat} {σ σ' : Sub} {a b : Tm} {r : Bool} {add : List Int} (h : dD (g + 1) σ a b = some (r, σ', add)) :
 ((wk σ a).k = 1 ∧ (wk σ b).k = 1 ∧ (wk σ a).n = (wk σ b).n ∧ true = r ∧ σ = σ' ∧ [] = add) ∨
 ((wk σ a).k = 1 ∧ ¬((wk σ b).k = 1 ∧ (wk σ a).n = (wk σ b).n) ∧ jU σ (wk σ a).n (wk σ b) = (r, σ', add)) ∨
 ((wk σ a).k ≠ 1 ∧ (wk σ b).k = 1 ∧ jU σ (wk σ b).n (wk σ a) = (r, σ', add)) ∨
 ((wk σ a).k ≠ 1 ∧ (wk σ b).k ≠ 1 ∧ tR (wk σ a) (wk σ b) = true ∧ dU g σ (wk σ a).ts (wk σ b).ts = some (r, σ', add)) ∨
 ((wk σ a).k ≠ 1 ∧ (wk σ b).k ≠ 1 ∧ tR (wk σ a) (wk σ b) = false ∧ false = r ∧ σ = σ' ∧ [] = add) := by
 rw [dD] at h
 split at h
 · rename_i h1; exact .inl ⟨h1.1, h1.2.1, h1.2.2, by simpa using h⟩
 · rename_i h1
   split at h
   · rename_i h2; exact .inr (.inl ⟨h2, fun h3 => h1 ⟨h2, h3⟩, nG h⟩)
   · rename_i h2
     split at h
     · rename_i h3; exact .inr (.inr (.inl ⟨h2, h3, nG h⟩))
     · rename_i h3
       split at h
       · rename_i h4; exact .inr (.inr (.inr (.inl ⟨h2, h3, h4, h⟩)))
       · rename_i h4; exact .inr (.inr (.inr (.inr ⟨h2, h3, by simpa using h4, by simpa using h⟩)))
theorem Tm.soft (t : Tm) : t.av.soft = t.av := by cases t; simp [aV, AV.soft, gO]
theorem Tm.u9 (t : Tm) (b : Nat) : t.av.fin b [] = t.av := Tm.soft t
abbrev Bd := Int × Tm
def WC : List Bd → Int → Option Tm
 | [], _ => none
 | (m, x) :: r, n => if m = n then some x else WC r n
def MW (bs : List Bd) (n : Int) : Tm := (WC bs n).getD (vr n)
def Tm.zero : Tm := .mk 0 0 ⟨#[]⟩ []
mutual
def Tm.cv : Tm → Bool
 | .mk k _ s ts => (!decide (k = 1) || (decide (s = ⟨#[]⟩) && ts.isEmpty)) && HY ts
def HY : List Tm → Bool
 | [] => true
 | t :: ts => t.cv && HY ts
end
theorem Z7 : ∀ (ts : List Tm), HY ts = ts.all Tm.cv
 | [] => rfl
 | t :: ts => by simp only [HY, kG, Z7 ts]
theorem Tm.nW {k n : Int} {s : ByteArray} {ts : List Tm} : (Tm.mk k n s ts).cv = true ↔ (k = 1 → s = ⟨#[]⟩ ∧ ts = []) ∧ ∀ x ∈ ts, x.cv = true := by
 simp only [Tm.cv, Z7, cM, q9, lZ, dH, List.isEmpty_iff, eW, bJ]
 constructor
 · exact fun h => ⟨fun hk => h.1.resolve_left (fun hn => hn hk), h.2⟩
 · intro h
   refine ⟨?_, h.2⟩
   by_cases hk : k = 1
   · exact .inr (h.1 hk)
   · exact .inl hk
theorem Tm.sS : ∀ (t : Tm), t.cv = true → t.wf = true := by
 intro t
 induction t using Tm.ind with
 | h k n s ts ih =>
  intro h
  obtain ⟨h1, h2⟩ := Tm.nW.1 h
  simp only [Tm.wf, NJ, cM, q9, lZ, dH, List.isEmpty_iff, eW]
  refine ⟨?_, fun x hx => ih x hx (h2 x hx)⟩
  by_cases hk : k = 1
  · exact .inr (h1 hk).2
  · exact .inl hk
theorem Tm.aQ7 : ∀ (t : Tm) (d : Int), t.shape d = true → t.small = true := by
 intro t
 induction t using Tm.ind with
 | h k n s ts ih =>
  intro d h
  rw [Tm.BV] at h
  simp only [cM, eW] at h
  obtain ⟨⟨_, h1⟩, h2⟩ := h
  simp only [Tm.small, EK, cM, bJ, eW]
  refine ⟨?_, fun x hx => ih x hx _ (h2 x hx)⟩
  unfold eE at h1
  cases h3 : decide (k = 1) <;> rw [h3] at h1
  · cases h4 : decide (k = 2) <;> rw [h4] at h1
    · cases h5 : decide (k = 3) <;> rw [h5] at h1 <;> simp at h1; omega
    · simp at h1; rw [h1.2]; simp
  · simp at h1; rw [h1.2]; simp
theorem Tm.aXO {t : Tm} (h : t.valid = true) : t.small = true := by simp only [Tm.valid, cM] at h; exact Tm.aQ7 t 30 h.1
def rW {α : Type} (p : α → Bool) : List α → Int → Int
 | [], _ => -1
 | x :: xs, i => if p x = true then i else rW p xs (i + 1)
theorem aH0 {α : Type} (p : α → Bool) : ∀ (l : List α) (i : Int), 0 ≤ i → (rW p l i = -1 ∧ l.any p = false) ∨ ∃ (j : Nat) (x : α), rW p l i = i + j ∧ l[j]? = some x ∧ p x = true ∧ l.any p = true ∧ ∀ (k : Nat) y, k < j → l[k]? = some y → p y = false
 | [], i, _ => .inl ⟨rfl, rfl⟩
 | x :: xs, i, h => by
  by_cases hp : p x = true
  · exact .inr ⟨0, x, by simp [rW, hp], rfl, hp, by simp [hp], fun k y hk => absurd hk (Nat.not_lt_zero k)⟩
  · rcases aH0 p xs (i + 1) (by omega) with ⟨h1, h2⟩ | ⟨j, y, h1, h2, h3, h4, h5⟩
    · exact .inl ⟨by simp [rW, hp, h1], by simp [hp, h2]⟩
    · refine .inr ⟨j + 1, y, by simp only [rW, hp, h1]; simp; omega, by simpa using h2, h3, by simp [h4], fun k z hk hz => ?_⟩
      cases k with
      | zero => simp at hz; subst hz; simpa using hp
      | succ k => exact h5 k z (by omega) (by simpa using hz)
theorem aPG {α : Type} (p : α → Bool) (l : List α) : decide (0 ≤ rW p l 0) = l.any p := by
 rcases aH0 p l 0 (Int.le_refl 0) with ⟨h1, h2⟩ | ⟨j, y, h1, _, _, h4, _⟩
 · rw [h1, h2]; try rfl
 · rw [h1, h4]; simp
end Go.AW
namespace Go.AW
open Go.Proofs.Tryz
abbrev aPV := zi tI_3 (zi zI_3 (zi aX (zi tI_4 (zi zI_4 (zi cD (zi tI_9 (zi zI_9 (zi cH (zi tI_31 (zi zI_31 (zi aN (zi bE (zi bF (zi b9 (zi tI_63 (zi zI_63 (zi bP (zi bQ (zi bT (zi bS bR))))))))))))))))))))
theorem aXW (k n : Int) (s : ByteArray) (ts : List Tm) (st : aB) : aD prog 176 [(Tm.mk k n s ts).av] st (fun r st' => r = .bool (eE k n s ts.length) ∧ st' = st) := by
 refine wF [] 1 func176 ntmps176 rfl rfl ?_
 intro _
 simp only [aV]
 have hl : (ts.map Tm.av).length = ts.length := aF _
 repeat' (first
  | (simp -implicitDefEqProofs only [*, aA, seval, aPV])
  | (refine cT (fun h => ?_) (fun h => ?_))
  | (refine (aVA s st).to ?_)
  | (refine aQ (fun h => ?_) (fun h => ?_)))
 all_goals simp only [eE, *, cond_true, AD, oW, eT, gN, tW, DD]
abbrev KM := zi tI_3 (zi zI_3 (zi aX (zi tI_4 (zi zI_4 (zi cD (zi tI_31 (zi zI_31 (zi aN (zi bE (zi bF (zi b9 (zi tI_63 (zi zI_63 (zi bP (zi bQ (zi bT (zi bS bR)))))))))))))))))
theorem ZY : ∀ (t : Tm) (d : Int) (st : aB), d ≤ 30 → -1 ≤ d → aD prog 135 [t.av, .int .i64 d] st (fun r st' => r = .bool (t.shape d) ∧ st' = st)
 | .mk k n s ts, d, st, hd, hd0 => by
  have hc := fun (x : Tm) (hx : x ∈ ts) d st h h0 => ZY x d st h h0
  have h1 := aXW k n s ts st
  rw [aV] at h1
  refine wF [] 2 func135 ntmps135 rfl rfl ?_
  simp only [aV, eG, AV.fits, eM, aF, Tm.BV]
  intro ⟨_, _, _, hl, _⟩
  generalize eE k n s ts.length = z at *
  simp -implicitDefEqProofs only [aA, seval, KM]
  refine cT (fun h => ?_) (fun h => ?_)
  case refine_2 =>
   simp -implicitDefEqProofs only [h, aA, seval]
   simp only [n0, bJ] at h
   simp; omega
  simp -implicitDefEqProofs only [h, aA, seval, KM]
  refine h1.to ?_
  simp -implicitDefEqProofs only [aA, seval]
  refine ⟨fun h2 => ?_, fun h2 => ?_⟩
  · simp -implicitDefEqProofs only [aA, seval]
    simp only [lZ] at h2
    simp [h2]
  simp only [tX, dH] at h2 h
  subst h2
  have hw := bK (n := d - 1)
  rw [show decide (1 ≤ d) = true by simp; omega]
  simp -implicitDefEqProofs only [aA, seval]
  refine uU (α := Nat) [] (fun i => i ≤ ts.length ∧ ∀ (j : Nat) x, j < i → ts[j]? = some x → x.shape (d - 1) = true)
   (fun i => [(1, .int .i64 d), (2, .pptr (.agg [.int .i64 k, .int .i64 n, .str s, .slice (ts.map Tm.av)])), (5, .int .i64 i)]) (fun _ => st) (fun i => ts.length - i) (by decide +kernel)
   ⟨0, ⟨by omega, by intro j x h; omega⟩, aO.mk (by simp -implicitDefEqProofs only [aA, ↓aU, seval])⟩ ?_
  intro i ⟨hi, dV⟩
  simp -implicitDefEqProofs only [aF, aA, seval, KM]
  refine ⟨fun h5 => ?_, fun h5 => ?_⟩
  case refine_2 =>
   simp -implicitDefEqProofs only [aA, seval]
   simp only [dH, mS] at h5
   rw [I3 fun j x hx => dV j x (by have := (gS.1 hx).1; omega) hx]
  simp only [bJ, mS] at h5
  obtain ⟨x, hx⟩ : ∃ x, ts[i]? = some x := ⟨_, fH h5⟩
  simp -implicitDefEqProofs only [bL (av := Tm.av) aN hx (aH x), aT, aH, hw, aA, seval, KM]
  refine (hc x (cW hx) (d - 1) st (by omega) (by omega)).to ?_
  simp -implicitDefEqProofs only [aA, seval]
  refine ⟨fun h6 => ?_, fun h6 => ?_⟩
  · simp -implicitDefEqProofs only [aA, seval]
    simp only [lZ] at h6
    rw [t7 hx h6]
  simp only [tX] at h6
  simp -implicitDefEqProofs only [aA, seval]
  refine ⟨i + 1, by omega, ⟨by omega, fun j u hj hu => ?_⟩, aO.mk ?_⟩
  · rcases kT j i with h8 | h8
    · exact dV j u h8 hu
    · obtain rfl : j = i := by omega
      rw [hx] at hu; cases hu; exact h6
  · have := bK (n := (i : Int) + 1)
    simp -implicitDefEqProofs only [this, aA, seval]
termination_by t => SizeOf.sizeOf t
decreasing_by have := List.sizeOf_lt_of_mem hx; simp only [Tm.mk.sizeOf_spec]; omega
abbrev LG := zi tI_3 (zi zI_3 (zi aX (zi tI_31 (zi zI_31 (zi aN (zi bE (zi bF (zi b9 (zi tI_63 (zi zI_63 (zi bP (zi bQ (zi bT (zi bS bR))))))))))))))
theorem aBN : ∀ (t : Tm) (m : Int) (st : aB), 0 ≤ m → m ≤ 120 → aD prog 136 [t.av, .int .i64 m] st (fun r st' => r = .int .i64 (min (t.nodes : Int) (m + 1)) ∧ st' = st)
 | .mk k n s ts, m, st, hm0, hm => by
  have hc := fun (x : Tm) (hx : x ∈ ts) m st h h0 => aBN x m st h h0
  refine wF [] 2 func136 ntmps136 rfl rfl ?_
  simp only [aV, eG, AV.fits, eM, aF, Tm.gP]
  intro ⟨_, _, _, hl, _⟩
  simp -implicitDefEqProofs only [aA, seval, LG]
  refine uU (α := Nat) [] (fun i => i ≤ ts.length)
   (fun i => [(1, .int .i64 m), (2, .pptr (.agg [.int .i64 k, .int .i64 n, .str s, .slice (ts.map Tm.av)])), (5, .int .i64 (min ((1 + bG Tm.nodes (ts.take i) : Nat) : Int) (m + 1))), (6, .int .i64 i)]) (fun _ => st) (fun i => ts.length - i) (by decide +kernel)
   ⟨0, by omega, aO.mk (by simp -implicitDefEqProofs only [kU, bG, show min ((0 : Int) + 1) (m + 1) = 1 by omega, vA, ↓K5, ↓reduceIte, reduceCtorEq, Nat.reduceEqDiff, Nat.reduceAdd])⟩ ?_
  intro i hi
  simp -implicitDefEqProofs only [aF, aA, seval, LG]
  have MD : ¬ i < ts.length → bG Tm.nodes (ts.take i) = bG Tm.nodes ts := fun h => by rw [mR (by omega)]
  refine cT (fun h5 => ?_) (fun h5 => ?_)
  case refine_2 =>
   simp -implicitDefEqProofs only [h5, aA, seval]
   simp only [oW, dH, mS] at h5
   rw [MD h5]
  simp -implicitDefEqProofs only [h5, aA, seval]
  simp only [bJ, mS] at h5
  obtain ⟨x, hx⟩ : ∃ x, ts[i]? = some x := ⟨_, fH h5⟩
  have hs := E5 Tm.nodes hx
  refine ⟨fun h6 => ?_, fun h6 => ?_⟩
  case refine_2 =>
   simp -implicitDefEqProofs only [aA, seval]
   simp only [dH] at h6
   simp only [AV.int.injEq, sP]
   omega
  simp only [bJ] at h6
  have e6 : min (((1 + bG Tm.nodes (ts.take i) : Nat) : Int)) (m + 1) = ((1 + bG Tm.nodes (ts.take i) : Nat) : Int) := by omega
  rw [e6] at h6 ⊢
  have hw := bK (n := m - ((1 + bG Tm.nodes (ts.take i) : Nat) : Int))
  simp -implicitDefEqProofs only [bL (av := Tm.av) aN hx (aH x), aT, aH, hw, aA, seval, LG]
  refine (hc x (cW hx) _ st (by omega) (by omega)).to ?_
  have hw2 := bK (n := ((1 + bG Tm.nodes (ts.take i) : Nat) : Int) + min (x.nodes : Int) (m - ((1 + bG Tm.nodes (ts.take i) : Nat) : Int) + 1))
  simp -implicitDefEqProofs only [hw2, aA, seval]
  refine ⟨i + 1, by omega, by omega, aO.mk ?_⟩
  have := bK (n := (i : Int) + 1)
  simp -implicitDefEqProofs only [this, show ((1 + bG Tm.nodes (ts.take i) : Nat) : Int) + min (x.nodes : Int) (m - ((1 + bG Tm.nodes (ts.take i) : Nat) : Int) + 1) = min ((1 + bG Tm.nodes (ts.take (i + 1)) : Nat) : Int) (m + 1) by omega, aA, seval]
termination_by t => SizeOf.sizeOf t
decreasing_by have := List.sizeOf_lt_of_mem hx; simp only [Tm.mk.sizeOf_spec]; omega
abbrev U0 := zi tI_3 (zi zI_3 (zi aX (zi tI_4 (zi zI_4 (zi cD (zi tI_63 (zi zI_63 (zi bP (zi bQ (zi bT (zi bS bR)))))))))))
theorem LX (t : Tm) (st : aB) : aD prog 100 [t.av] st (fun r st' => r = .bool t.valid ∧ st' = st) := by
 refine wF [] 1 func100 ntmps100 rfl rfl ?_
 intro _
 simp -implicitDefEqProofs only [cG, aT, aH, aA, seval, U0]
 refine (ZY t 30 st (by omega) (by omega)).to ?_
 simp -implicitDefEqProofs only [aA, seval]
 refine cT (fun h => ?_) (fun h => ?_)
 · simp -implicitDefEqProofs only [h, aT, aH, aA, seval, U0]
   refine (aBN t 120 st (by omega) (by omega)).to ?_
   simp -implicitDefEqProofs only [aA, seval]
   simp only [Tm.valid, h, eT, AV.bool.injEq, AE]
   omega
 · simp -implicitDefEqProofs only [h, aA, seval]
   simp at h
   simp [Tm.valid, h]
abbrev aVN := zi tI_3 (zi zI_3 (zi aX (zi tI_4 (zi zI_4 (zi cD (zi tI_9 (zi zI_9 (zi cH (zi tI_31 (zi zI_31 (zi aN (zi bE (zi bF (zi b9 (zi tI_63 (zi zI_63 (zi bP (zi bQ (zi bT (zi bS bR))))))))))))))))))))
theorem ZU (k n : Int) (s : ByteArray) (ts : List Tm) (st : aB) : aD prog 130 [(Tm.mk k n s ts).av] st (fun r st' => r = .bool (decide (k = 3) && decide (s = ⟨#[33]⟩) && decide ((ts.length : Int) = 0)) ∧ st' = st) := by
 refine wF [] 1 func130 ntmps130 rfl rfl ?_
 intro _
 simp only [aV]
 repeat' (first
  | (simp -implicitDefEqProofs only [*, aA, seval, aVN])
  | (refine cT (fun h => ?_) (fun h => ?_))
  | (refine aQ (fun h => ?_) (fun h => ?_)))
 all_goals simp only [*, aF, gN]
abbrev aE9 := zi tI_4 (zi zI_4 (zi cD (zi tI_9 (zi zI_9 (zi cH (zi tI_63 (zi zI_63 (zi bP (zi bQ (zi bT (zi bS bR)))))))))))
theorem aDE (k n : Int) (s : ByteArray) (ts : List Tm) (st : aB) : aD prog 148 [(Tm.mk k n s ts).av] st (fun r st' => r = .bool (decide (k = 3) && decide ((ts.length : Int) = 0) && decide (s = ⟨#[33]⟩)) ∧ st' = st) := by
 have h1 := GH k n s ts st
 rw [aV] at h1
 refine wF [] 1 func148 ntmps148 rfl rfl ?_
 intro _
 simp only [aV]
 simp -implicitDefEqProofs only [aA, seval, aE9]
 refine h1.to ?_
 clear h1
 repeat' (first
  | (simp -implicitDefEqProofs only [*, aA, seval, aE9])
  | (refine cT (fun h => ?_) (fun h => ?_))
  | (refine aQ (fun h => ?_) (fun h => ?_)))
 all_goals simp_all
abbrev aAX := zi tI_3 (zi zI_3 (zi aX (zi tI_4 (zi zI_4 (zi cD (zi tI_9 (zi zI_9 (zi cH (zi tI_31 (zi zI_31 (zi aN (zi bE (zi bF (zi b9 (zi tI_63 (zi zI_63 (zi bP (zi bQ (zi bT (zi bS bR))))))))))))))))))))
theorem QX (k n : Int) (s : ByteArray) (ts : List Tm) (st : aB) : aD prog 149 [(Tm.mk k n s ts).av] st (fun r st' => r = .bool (decide (k = 3) && isBuiltin s (ts.length : Int)) ∧ st' = st) := by
 have h1 := aQT s ts.length st
 refine wF [] 1 func149 ntmps149 rfl rfl ?_
 intro _
 simp only [aV]
 simp -implicitDefEqProofs only [aA, seval, aAX]
 refine cT (fun h => ?_) (fun h => ?_)
 · simp -implicitDefEqProofs only [h, aF, aA, seval, aAX]
   refine h1.to ?_
   clear h1
   simp -implicitDefEqProofs only [aA, seval]
 · simp -implicitDefEqProofs only [h, aA, seval]
   simp at h
   simp []
def pS (k : Int) (s : ByteArray) (len : Int) : Bool := decide (k = 3) && rY s && !isBuiltin s len && decide ((dL s : Int) = 0)
abbrev aTH := zi tI_3 (zi zI_3 (zi aX (zi tI_4 (zi zI_4 (zi cD (zi tI_9 (zi zI_9 (zi cH (zi tI_63 (zi zI_63 (zi bP (zi bQ (zi bT (zi bS bR))))))))))))))
theorem aLM (k n : Int) (s : ByteArray) (ts : List Tm) (st : aB) : aD prog 161 [(Tm.mk k n s ts).av] st (fun r st' => r = .bool (pS k s (ts.length : Int)) ∧ st' = st) := by
 have h1 := QX k n s ts st
 rw [aV] at h1
 have e : decide ((0 : Int) < (dL s : Int)) = !decide ((dL s : Int) = 0) := by
  by_cases h : dL s = 0
  · simp [h]
  · simp [h]; omega
 have e3 : ∀ b : Bool, k = 3 → (decide (k = 3) && b) = b := fun b h => by simp [h]
 refine wF [] 1 func161 ntmps161 rfl rfl ?_
 intro _
 simp only [aV]
 repeat' (first
  | (simp -implicitDefEqProofs only [*, aA, seval, aTH])
  | (refine cT (fun h => ?_) (fun h => ?_))
  | (refine (SZ s st).to ?_) | (refine (aOO s st).to ?_) | (refine h1.to ?_)
  | (refine aQ (fun h => ?_) (fun h => ?_)))
 all_goals (clear h1; simp_all [pS])
abbrev aWC := zi tI_3 (zi zI_3 (zi aX (zi tI_4 (zi zI_4 (zi cD (zi tI_9 (zi zI_9 (zi cH (zi tI_31 (zi zI_31 (zi aN (zi bE (zi bF (zi b9 (zi tI_63 (zi zI_63 (zi bP (zi bQ (zi bT (zi bS bR))))))))))))))))))))
theorem aB7 (k n : Int) (s : ByteArray) (ts : List Tm) (st : aB) : aD prog 101 [(Tm.mk k n s ts).av] st (fun r st' => r = .bool (pS k s (ts.length : Int)) ∧ st' = st) := by
 refine wF [] 1 func101 ntmps101 rfl rfl ?_
 intro _
 simp only [aV]
 have hl : (ts.map Tm.av).length = ts.length := aF _
 repeat' (first
  | (simp -implicitDefEqProofs only [*, aA, seval, aWC])
  | (refine cT (fun h => ?_) (fun h => ?_))
  | (refine (aH7 s st).to ?_) | (refine (PQ s _ st).to ?_) | (refine (uL s st).to ?_)
  | (refine aQ (fun h => ?_) (fun h => ?_)))
 all_goals simp_all [pS]
def wR (k : Int) (s : ByteArray) (len : Int) : Bool := (decide (k = 3) && decide (s = ⟨#[33]⟩) && decide (len = 0)) || pS k s len || (decide (k = 3) && isBuiltin s len)
abbrev aW6 := zi tI_3 (zi zI_3 (zi aX (zi tI_4 (zi zI_4 (zi cD (zi tI_9 (zi zI_9 (zi cH (zi tI_31 (zi zI_31 (zi aN (zi bE (zi bF (zi b9 (zi tI_63 (zi zI_63 (zi bP (zi bQ (zi bT (zi bS bR))))))))))))))))))))
theorem aMH (k n : Int) (s : ByteArray) (ts : List Tm) (st : aB) : aD prog 102 [(Tm.mk k n s ts).av] st (fun r st' => r = .bool (wR k s (ts.length : Int)) ∧ st' = st) := by
 have h1 := ZU k n s ts st
 have h2 := aB7 k n s ts st
 rw [aV] at h1 h2
 refine wF [] 1 func102 ntmps102 rfl rfl ?_
 intro _
 simp only [aV]
 have hl : (ts.map Tm.av).length = ts.length := aF _
 unfold wR
 generalize (decide (k = 3) && decide (s = ⟨#[33]⟩) && decide ((ts.length : Int) = 0)) = z1 at *
 generalize pS k s (ts.length : Int) = z2 at *
 repeat' (first
  | (simp -implicitDefEqProofs only [*, aA, seval, aW6])
  | (refine cT (fun h => ?_) (fun h => ?_))
  | (refine h1.to ?_) | (refine h2.to ?_) | (refine (PQ s _ st).to ?_)
  | (refine aQ (fun h => ?_) (fun h => ?_)))
 all_goals (clear h1 h2; simp_all)
theorem LA {st : aB} {b : Nat} {o : AO} (h : st b = some o) : st.aC b o = st := by
 funext x; simp only [aB.aC]; split
 · rename_i e; rw [e, h]
 · rfl
def GM (ok : Bool) (c n : Int) (b : Nat) (st : aB) (r : AV) (st' : aB) : Prop :=
 ∃ c', r = .bool (decide (c + n ≤ 120) && ok) ∧ st' = st.aC b (.cells [.int .i64 c']) ∧ ((decide (c + n ≤ 120) && ok) = true → c' = c + n)
abbrev aU2 := zi tI_3 (zi zI_3 (zi aX (zi tI_4 (zi zI_4 (zi cD (zi tI_63 (zi zI_63 (zi bP (zi bQ (zi bT (zi bS (zi bR (zi tI_216 zI_216)))))))))))))
theorem aZE (x : Tm) (d c : Int) (b : Nat) (st : aB) (hd : -1000 ≤ d) (hd1 : d ≤ 1000)
 (h : aD prog 200 [x.av, .int .i64 (d + 1), .ptr b 0] st (GM (x.shape (30 - d)) c x.nodes b st)) :
 aD prog 218 [x.av, .pptr (.int .i64 d), .pptr (.ptr b 0)] st (fun r st' => ∃ c', r = .bool (!(decide (c + x.nodes ≤ 120) && x.shape (30 - d))) ∧ st' = st.aC b (.cells [.int .i64 c']) ∧ ((decide (c + (x.nodes : Int) ≤ 120) && x.shape (30 - d)) = true → c' = c + x.nodes)) := by
 have hw := bK (n := d + 1)
 refine wF [] 3 func218 ntmps218 rfl rfl ?_
 intro _
 simp -implicitDefEqProofs only [hw, cG, aT, aH, aA, seval, aU2]
 refine h.mono ?_
 rintro _ _ ⟨c', rfl, rfl, hc⟩
 simp -implicitDefEqProofs only [aA, seval]
 refine ⟨c', ?_⟩
 first | exact hc | exact ⟨rfl, rfl, hc⟩ | exact ⟨rfl, hc⟩ | trace_state
abbrev aK7 := zi tI_3 (zi zI_3 (zi aX (zi tI_31 (zi zI_31 (zi aN (zi bE (zi bF (zi b9 (zi tI_63 (zi zI_63 (zi bP (zi bQ (zi bT (zi bS bR))))))))))))))
theorem aTZ (l : List Tm) (d c : Int) (b : Nat) (st : aB) (hd : -1000 ≤ d) (hd1 : d ≤ 1000) (hb : st b = some (.cells [.int .i64 c])) (hc0 : 0 ≤ c) (hc1 : c ≤ 120)
 (h : ∀ x ∈ l, ∀ (c : Int) (st : aB), st b = some (.cells [.int .i64 c]) → 0 ≤ c → c ≤ 120 → aD prog 200 [x.av, .int .i64 (d + 1), .ptr b 0] st (GM (x.shape (30 - d)) c x.nodes b st)) :
 aD prog 203 [.slice (l.map Tm.av), .func 218 [.pptr (.int .i64 d), .pptr (.ptr b 0)]] st
  (fun r st' => ∃ j c', r = .int .i64 j ∧ decide (0 ≤ j) = (!(decide (c + (bG Tm.nodes l : Int) ≤ 120) && l.all fun t => t.shape (30 - d))) ∧ st' = st.aC b (.cells [.int .i64 c']) ∧ (decide (0 ≤ j) = false → c' = c + (bG Tm.nodes l : Int))) := by
 refine wF [] 2 func203 ntmps203 rfl rfl ?_
 simp only [eG, AV.fits, eM, aF]
 intro ⟨hl, _⟩
 simp -implicitDefEqProofs only [aF, aA, seval, aK7]
 refine uU (α := Nat) [] (fun i => i ≤ l.length ∧ c + (bG Tm.nodes (l.take i) : Int) ≤ 120 ∧ ∀ (j : Nat) x, j < i → l[j]? = some x → x.shape (30 - d) = true)
  (fun i => [(0, .slice (l.map Tm.av)), (1, .func 218 [.pptr (.int .i64 d), .pptr (.ptr b 0)]), (7, .int .i64 l.length), (8, .int .i64 i)]) (fun i => st.aC b (.cells [.int .i64 (c + (bG Tm.nodes (l.take i) : Int))])) (fun i => l.length - i) (by decide +kernel)
  ⟨0, ⟨by omega, by simp only [kU, bG]; omega, by intro j x h; omega⟩, by
   simp only [kU, bG]
   rw [show c + ((0 : Nat) : Int) = c by omega, LA hb]
   exact aO.mk (by simp -implicitDefEqProofs only [aA, ↓aU, seval])⟩ ?_
 intro i ⟨hi, xA, dV⟩
 simp -implicitDefEqProofs only [aA, seval]
 refine ⟨fun h5 => ?_, fun h5 => ?_⟩
 case refine_2 =>
  simp -implicitDefEqProofs only [aA, seval]
  simp only [dH, mS] at h5
  rw [mR (by omega)] at xA ⊢
  have ha : (l.all fun t => t.shape (30 - d)) = true := I3 fun j x hx => dV j x (by have := (gS.1 hx).1; omega) hx
  exact ⟨-1, _, rfl, by rw [ha]; simp <;> omega, rfl, fun _ => rfl⟩
 simp only [bJ, mS] at h5
 obtain ⟨x, hx⟩ : ∃ x, l[i]? = some x := ⟨_, fH h5⟩
 have hs := E5 Tm.nodes hx
 simp -implicitDefEqProofs only [bL (av := Tm.av) aN hx (aH x), aT, aH, aA, seval, aK7]
 refine (aZE x d (c + (bG Tm.nodes (l.take i) : Int)) b _ hd hd1 (h x (cW hx) _ _ (aB.aP _ _ _) (by omega) xA)).mono ?_
 rintro _ _ ⟨c', rfl, rfl, hc'⟩
 simp -implicitDefEqProofs only [dE, aA, seval]
 refine ⟨fun h6 => ?_, fun h6 => ?_⟩
 · simp -implicitDefEqProofs only [aA, seval]
   refine ⟨i, c', rfl, ?_, rfl, fun h7 => absurd h7 (by simp)⟩
   simp only [lZ, Bool.and_eq_false_iff, dH] at h6
   rcases h6 with h6 | h6
   · rw [show decide (c + (bG Tm.nodes l : Int) ≤ 120) = false by simp; omega]
     simp
   · rw [t7 hx h6]
     simp
 simp only [tX] at h6
 rw [hc' h6]
 simp only [cM, bJ] at h6
 simp -implicitDefEqProofs only [aA, seval]
 refine ⟨i + 1, by omega, ⟨by omega, by omega, fun j u hj hu => ?_⟩, ?_⟩
 · rcases kT j i with h8 | h8
   · exact dV j u h8 hu
   · obtain rfl : j = i := by omega
     rw [hx] at hu; cases hu; exact h6.2
 · rw [show c + (bG Tm.nodes (l.take i) : Int) + (x.nodes : Int) = c + (bG Tm.nodes (l.take (i + 1)) : Int) by omega]
   have := bK (n := (i : Int) + 1)
   exact aO.mk (by simp -implicitDefEqProofs only [this, aA, seval])
theorem aRZ (l : List Tm) (d c : Int) (b : Nat) (st : aB) (hd : -1000 ≤ d) (hd1 : d ≤ 1000) (hb : st b = some (.cells [.int .i64 c])) (hc0 : 0 ≤ c) (hc1 : c ≤ 120)
 (h : ∀ x ∈ l, ∀ (c : Int) (st : aB), st b = some (.cells [.int .i64 c]) → 0 ≤ c → c ≤ 120 → aD prog 200 [x.av, .int .i64 (d + 1), .ptr b 0] st (GM (x.shape (30 - d)) c x.nodes b st)) :
 aD prog 162 [.slice (l.map Tm.av), .func 218 [.pptr (.int .i64 d), .pptr (.ptr b 0)]] st
  (fun r st' => ∃ c', r = .bool (!(decide (c + (bG Tm.nodes l : Int) ≤ 120) && l.all fun t => t.shape (30 - d))) ∧ st' = st.aC b (.cells [.int .i64 c']) ∧ ((decide (c + (bG Tm.nodes l : Int) ≤ 120) && l.all fun t => t.shape (30 - d)) = true → c' = c + (bG Tm.nodes l : Int))) := by
 have h1 := aTZ l d c b st hd hd1 hb hc0 hc1 h
 refine wF [] 2 func162 ntmps162 rfl rfl ?_
 intro _
 simp -implicitDefEqProofs only [aA, seval]
 refine h1.mono ?_
 rintro _ _ ⟨j, c', rfl, hj, rfl, hc⟩
 simp -implicitDefEqProofs only [aA, seval]
 refine ⟨c', by rw [hj], rfl, fun h => hc (by rw [hj, h]; try rfl)⟩
abbrev vW := zi tI_3 (zi zI_3 (zi aX (zi tI_4 (zi zI_4 (zi cD (zi tI_9 (zi zI_9 (zi cH (zi tI_31 (zi zI_31 (zi aN (zi bE (zi bF (zi b9 (zi tI_63 (zi zI_63 (zi bP (zi bQ (zi bT (zi bS (zi bR (zi tI_216 zI_216))))))))))))))))))))))
theorem aIB : ∀ (t : Tm) (d c : Int) (b : Nat) (st : aB), st b = some (.cells [.int .i64 c]) → 0 ≤ c → c ≤ 120 → 0 ≤ d → d ≤ 31 → aD prog 200 [t.av, .int .i64 d, .ptr b 0] st (GM (t.shape (31 - d)) c t.nodes b st)
 | .mk k n s ts, d, c, b, st, hb, hc0, hc1, hd0, hd1 => by
  have hk := fun (st : aB) (hb : st b = some (.cells [.int .i64 (c + 1)])) (h1 : c + 1 ≤ 120) (h2 : d ≤ 30) => aRZ ts d (c + 1) b st (by omega) (by omega) hb (by omega) h1 fun x hx c st hb hc0 hc1 => by
   have := aIB x (d + 1) c b st hb hc0 hc1 (by omega) (by omega)
   rw [show (31 : Int) - (d + 1) = 30 - d by omega] at this
   exact this
  have hw := bK (n := c + 1)
  unfold GM
  rw [Tm.gP, Tm.BV]
  refine wF [] 3 func200 ntmps200 rfl rfl ?_
  simp only [aV, eG, AV.fits, eM, aF]
  intro ⟨_, _, _, hl, _⟩
  simp -implicitDefEqProofs only [hb, aK, hw, aA, seval, vW]
  have hL : (ts.map Tm.av).length = ts.length := aF _
  have gW : ∀ (v : Bool), v = (decide (c + ((1 + bG Tm.nodes ts : Nat) : Int) ≤ 120) && (decide (1 ≤ 31 - d) && eE k n s ts.length && ts.all fun t => t.shape (31 - d - 1))) → (v = true → ts = []) →
   ∃ c', AV.bool v = AV.bool (decide (c + ((1 + bG Tm.nodes ts : Nat) : Int) ≤ 120) && (decide (1 ≤ 31 - d) && eE k n s ts.length && ts.all fun t => t.shape (31 - d - 1))) ∧ st.aC b (.cells [.int .i64 (c + 1)]) = st.aC b (.cells [.int .i64 c']) ∧ ((decide (c + ((1 + bG Tm.nodes ts : Nat) : Int) ≤ 120) && (decide (1 ≤ 31 - d) && eE k n s ts.length && ts.all fun t => t.shape (31 - d - 1))) = true → c' = c + ((1 + bG Tm.nodes ts : Nat) : Int)) :=
   fun v h1 h2 => ⟨c + 1, by rw [h1], rfl, fun h3 => by rw [h2 (h1.trans h3)]; simp [bG]⟩
  refine cT (fun h1 => ?_) (fun h1 => ?_)
  case refine_2 =>
   simp -implicitDefEqProofs only [h1, aA, seval]
   simp only [n0, bJ] at h1
   refine gW false ?_ (by intro h; cases h)
   rw [show decide (c + ((1 + bG Tm.nodes ts : Nat) : Int) ≤ 120) = false by simp; omega]
   try rfl
  simp -implicitDefEqProofs only [h1, aA, seval, vW]
  refine ⟨fun h2 => ?_, fun h2 => ?_⟩
  · simp -implicitDefEqProofs only [aA, seval]
    simp only [bJ] at h2
    refine gW false ?_ (by intro h; cases h)
    rw [show decide (1 ≤ 31 - d) = false by simp; omega]
    simp
  simp only [dH] at h1 h2
  rw [show decide (1 ≤ 31 - d) = true by simp; omega] at gW ⊢
  simp only [eT] at gW ⊢
  rw [show 31 - d - 1 = 30 - d by omega] at gW ⊢
  -- no kids
  have aAM : ∀ q : Bool, (∀ h : ts = [], eE k n s ts.length = q) → (ts ≠ [] → eE k n s ts.length = false) → (q && decide ((ts.length : Int) = 0)) = (decide (c + ((1 + bG Tm.nodes ts : Nat) : Int) ≤ 120) && (eE k n s ts.length && ts.all fun t => t.shape (30 - d))) := by
   intro q hq1 hq2
   by_cases ht : ts = []
   · rw [hq1 ht]; subst ht
     have e : c + ((1 + bG Tm.nodes [] : Nat) : Int) ≤ 120 := by simp only [bG]; omega
     rw [gD e]
     simp
   · rw [hq2 ht]
     have : ¬ (ts.length : Int) = 0 := by intro h; exact ht (sM (by omega))
     rw [fJ this]
     simp
  simp -implicitDefEqProofs only [aA, seval, vW]
  refine aQ (fun hk1 => ?_) (fun hk1 => ?_)
  · simp only [bJ] at hk1
    subst hk1
    simp -implicitDefEqProofs only [aA, seval, vW]
    refine (C5 _ _ _ _).to ?_
    repeat' (first
     | (simp -implicitDefEqProofs only [*, aA, seval, vW])
     | (refine cT (fun h => ?_) (fun h => ?_))
     | (refine aQ (fun h => ?_) (fun h => ?_)))
    all_goals first
     | (refine gW false ?_ (by intro h; cases h); rw [show eE 1 n s ts.length = false by first | (simp only [eE, *, oW, gN, tW]; done) | (simp_all [eE]; done) | (simp_all [eE]; intro a e; have := h a; omega)]; simp; done)
     | (refine gW _ ?_ (fun h => sM (by simpa using h)); rw [← aAM true (fun h => by simp_all [eE]) (fun h => by simp [eE, h])]; simp; done)
  simp only [dH] at hk1
  simp -implicitDefEqProofs only [aA, seval]
  refine aQ (fun hk2 => ?_) (fun hk2 => ?_)
  · simp only [bJ] at hk2
    subst hk2
    simp -implicitDefEqProofs only [aA, seval, vW]
    refine (C5 _ _ _ _).to ?_
    repeat' (first
     | (simp -implicitDefEqProofs only [*, aA, seval, vW])
     | (refine cT (fun h => ?_) (fun h => ?_))
     | (refine aQ (fun h => ?_) (fun h => ?_)))
    all_goals first
     | (refine gW false ?_ (by intro h; cases h); rw [show eE 2 n s ts.length = false by first | (simp only [eE, *, oW, gN, tW]; done) | (simp_all [eE]; done) | (simp_all [eE]; intro a e; have := h a; omega)]; simp; done)
     | (refine gW _ ?_ (fun h => sM (by simpa using h)); rw [← aAM true (fun h => by simp_all [eE]) (fun h => by simp [eE, h])]; simp; done)
  simp only [dH] at hk2
  simp -implicitDefEqProofs only [aA, seval]
  refine aQ (fun hk3 => ?_) (fun hk3 => ?_)
  case refine_2 =>
   simp only [dH] at hk3
   simp -implicitDefEqProofs only [aA, seval]
   refine gW false ?_ (by intro h; cases h)
   rw [show eE k n s ts.length = false by simp [eE, hk1, hk2, hk3]]
   simp
  simp only [bJ] at hk3
  subst hk3
  have hk' := fun st hb => hk st hb (by omega) (by omega)
  clear hk
  repeat' (first
   | (simp -implicitDefEqProofs only [*, aA, seval, vW])
   | (refine cT (fun h => ?_) (fun h => ?_))
   | (refine (aWT s _).to ?_)
   | (refine aQ (fun h => ?_) (fun h => ?_)))
  all_goals first
   | (refine gW false ?_ (by intro h; cases h); rw [show eE 3 n s ts.length = false by (simp_all [eE]; done)]; simp; done)
   | skip
  refine (hk' _ (aB.aP _ _ _)).mono ?_
  rintro _ _ ⟨c', rfl, rfl, hc'⟩
  simp -implicitDefEqProofs only [dE, aA, seval]
  have ho : eE 3 n s ts.length = true := by simp_all [eE]
  rw [ho, show c + ((1 + bG Tm.nodes ts : Nat) : Int) = c + 1 + (bG Tm.nodes ts : Int) by omega]
  simp only [eT, Bool.not_not]
  first | exact ⟨c', trivial, rfl, hc'⟩ | exact ⟨c', rfl, rfl, hc'⟩
termination_by t => SizeOf.sizeOf t
decreasing_by have := List.sizeOf_lt_of_mem hx; simp only [Tm.mk.sizeOf_spec]; omega
abbrev aQL := zi tI_3 (zi zI_3 (zi aX (zi tI_4 (zi zI_4 (zi cD (zi tI_63 (zi zI_63 (zi bP (zi bQ (zi bT (zi bS (zi bR (zi tI_216 zI_216)))))))))))))
theorem W7 (t : Tm) (st : aB) : aD prog 160 [t.av] st (fun r st' => r = .bool t.valid ∧ st' = st) := by
 have hd : aD prog 160 [t.av] st (fun r st' => aL st' st ∧ r = .bool t.valid) := by
  refine wF [] 1 func160 ntmps160 rfl rfl ?_
  intro _
  simp -implicitDefEqProofs only [cG, aT, aH, aA, seval, aQL]
  intro b hb
  simp -implicitDefEqProofs only [aK, aA, seval]
  refine (aIB t 1 0 b _ (aB.aP _ _ _) (by omega) (by omega) (by omega) (by omega)).mono ?_
  rintro _ _ ⟨c', rfl, rfl, _⟩
  simp -implicitDefEqProofs only [dE, vA, ↓reduceIte]
  refine ⟨(aL.refl st).aC hb, ?_⟩
  simp only [Tm.valid, AV.bool.injEq]
  rw [Bool.and_comm, show (31 : Int) - 1 = 30 from rfl]
  congr 1
  simp only [AE]
  omega
 exact hd.drop
def Tm.goal : Tm → Bool
 | .mk k n s ts => (Tm.mk k n s ts).valid && wR k s ts.length
abbrev aI7 := zi tI_4 (zi zI_4 (zi cD (zi tI_63 (zi zI_63 (zi bP (zi bQ (zi bT (zi bS bR))))))))
theorem aHW : ∀ (t : Tm) (st : aB), aD prog 68 [t.av] st (fun r st' => r = .bool t.goal ∧ st' = st)
 | .mk k n s ts, st => by
  have h1 := LX (.mk k n s ts) st
  have h2 := aMH k n s ts st
  rw [show (Tm.mk k n s ts).goal = ((Tm.mk k n s ts).valid && wR k s ts.length) from rfl]
  generalize (Tm.mk k n s ts).valid = z at *
  rw [aV] at *
  refine wF [] 1 func68 ntmps68 rfl rfl ?_
  intro _
  simp -implicitDefEqProofs only [aA, seval, aI7]
  refine h1.to ?_
  simp -implicitDefEqProofs only [aA, seval]
  refine cT (fun h => ?_) (fun h => ?_)
  · simp -implicitDefEqProofs only [h, aA, seval, aI7]
    refine h2.to ?_
    simp -implicitDefEqProofs only [aA, seval]
  · simp -implicitDefEqProofs only [h, aA, seval]
    simp at h
    simp []
abbrev aUC := zi tI_4 (zi zI_4 (zi cD (zi tI_63 (zi zI_63 (zi bP (zi bQ (zi bT (zi bS bR))))))))
theorem aO2 : ∀ (t : Tm) (st : aB), aD prog 164 [t.av] st (fun r st' => r = .bool t.goal ∧ st' = st)
 | .mk k n s ts, st => by
  have h1 := W7 (.mk k n s ts) st
  have h2 := aLM k n s ts st
  have h3 := QX k n s ts st
  have h4 := aDE k n s ts st
  rw [show (Tm.mk k n s ts).goal = ((Tm.mk k n s ts).valid && wR k s ts.length) from rfl]
  unfold wR
  generalize (Tm.mk k n s ts).valid = z at *
  generalize pS k s (ts.length : Int) = z2 at *
  generalize (decide (k = 3) && isBuiltin s (ts.length : Int)) = z3 at *
  rw [show (decide (k = 3) && decide (s = ⟨#[33]⟩) && decide ((ts.length : Int) = 0)) = (decide (k = 3) && decide ((ts.length : Int) = 0) && decide (s = ⟨#[33]⟩)) from by cases decide (k = 3) <;> cases decide (s = ⟨#[33]⟩) <;> cases decide ((ts.length : Int) = 0) <;> rfl]
  generalize (decide (k = 3) && decide ((ts.length : Int) = 0) && decide (s = ⟨#[33]⟩)) = z4 at *
  rw [aV] at *
  refine wF [] 1 func164 ntmps164 rfl rfl ?_
  intro _
  repeat' (first
   | (simp -implicitDefEqProofs only [*, aA, seval, aUC])
   | (refine cT (fun h => ?_) (fun h => ?_))
   | (refine h1.to ?_) | (refine h2.to ?_) | (refine h3.to ?_) | (refine h4.to ?_)
   | (refine aQ (fun h => ?_) (fun h => ?_)))
  all_goals (clear h1 h2 h3 h4; simp_all)
abbrev SU := zi tI_3 (zi zI_3 (zi aX (zi tI_31 (zi zI_31 (zi aN (zi bE (zi bF (zi b9 (zi tI_63 (zi zI_63 (zi bP (zi bQ (zi bT (zi bS bR))))))))))))))
theorem aSN (l : List Tm) (g : FuncId) (dS : List AV) (p : Tm → Bool) (st : aB) (hc : ∀ x ∈ l, aD prog g ([Tm.av x] ++ dS) st (fun r st' => r = .bool (p x) ∧ st' = st)) :
 aD prog 203 [.slice (l.map Tm.av), .func g dS] st (fun r st' => ∃ j : Int, r = .int .i64 j ∧ decide (0 ≤ j) = l.any p ∧ st' = st) := by
 refine wF [] 2 func203 ntmps203 rfl rfl ?_
 simp only [eG, AV.fits, eM, aF]
 intro ⟨hl, _⟩
 simp -implicitDefEqProofs only [aF, aA, seval, SU]
 refine eL (σ := Unit) [] [0, 1, 7] l (fun i _ => (l.drop i).any p = l.any p) (fun i _ => [(8, .int .i64 i)]) (fun _ _ => st) (by decide +kernel) ⟨(), rfl, aO.mk (by simp -implicitDefEqProofs only [aA, ↓aU, seval])⟩ (fun i x _ hx hlt bU hdr hinv => ?_) (fun _ hge hinv => ?_)
 case refine_2 =>
  simp -implicitDefEqProofs only [hge, aA, seval]
  rw [kH] at hinv
  exact ⟨-1, rfl, by rw [← hinv]; try rfl⟩
 rw [hdr, DE] at hinv
 have hw := bK (n := (i : Int) + 1)
 simp -implicitDefEqProofs only [bU, bL (av := Tm.av) aN hx (aH x), aT, aH, aA, seval, SU]
 refine (hc x (cW hx)).to ?_
 simp -implicitDefEqProofs only [aA, seval]
 refine aQ (fun h => ?_) (fun h => ?_)
 · simp -implicitDefEqProofs only [aA, seval]
   exact ⟨i, rfl, by rw [← hinv, h]; simp⟩
 · rw [h, qX] at hinv
   simp -implicitDefEqProofs only [aA, seval]
   exact ⟨(), hinv, aO.mk (by simp -implicitDefEqProofs only [hw, aA, seval])⟩
theorem aVX (l : List Tm) (g : FuncId) (dS : List AV) (p : Tm → Bool) (st : aB) (hc : ∀ x ∈ l, aD prog g ([Tm.av x] ++ dS) st (fun r st' => r = .bool (p x) ∧ st' = st)) :
 aD prog 162 [.slice (l.map Tm.av), .func g dS] st (fun r st' => r = .bool (l.any p) ∧ st' = st) := by
 refine wF [] 2 func162 ntmps162 rfl rfl ?_
 intro _
 simp -implicitDefEqProofs only [aA, seval]
 refine (aSN l g dS p st hc).mono ?_
 rintro _ _ ⟨j, rfl, hj, rfl⟩
 simp -implicitDefEqProofs only [hj, aA, seval]
theorem OB {α : Type} (p : α → Bool) : ∀ l : List α, (!(l.any fun x => !p x)) = l.all p
 | [] => rfl
 | x :: l => by rw [DE, kG, ← OB p l]; cases p x <;> simp
abbrev aPQ := zi tI_4 (zi zI_4 (zi cD (zi tI_63 (zi zI_63 (zi bP (zi bQ (zi bT (zi bS bR))))))))
theorem aT7 (t : Tm) (st : aB) : aD prog 163 [t.av] st (fun r st' => r = .bool (!t.goal) ∧ st' = st) := by
 refine wF [] 1 func163 ntmps163 rfl rfl ?_
 intro _
 simp -implicitDefEqProofs only [cG, aT, aH, aA, seval, aPQ]
 refine (aO2 t st).to ?_
 simp -implicitDefEqProofs only [aA, seval]
def lW (l : List Tm) : Bool := decide (l.length ≤ 6) && l.all Tm.goal
abbrev aUQ := zi tI_3 (zi zI_3 (zi aX (zi tI_4 (zi zI_4 (zi cD (zi tI_31 (zi zI_31 (zi aN (zi bE (zi bF b9))))))))))
theorem aKG (l : List Tm) (st : aB) : aD prog 121 [.slice (l.map Tm.av)] st (fun r st' => r = .bool (lW l) ∧ st' = st) := by
 refine wF [] 1 func121 ntmps121 rfl rfl ?_
 simp only [eG, AV.fits, eM, aF]
 intro _
 unfold lW
 simp -implicitDefEqProofs only [aF, aA, seval, aUQ]
 refine cT (fun h => ?_) (fun h => ?_)
 · simp only [bJ] at h
   rw [show decide (l.length ≤ 6) = true by simp; omega]
   simp -implicitDefEqProofs only [h, aA, seval]
   refine (aVX l _ [] (fun t => !t.goal) st fun x _ => aT7 x st).to ?_
   simp -implicitDefEqProofs only [OB, aA, seval]
 · simp only [oW, dH] at h
   rw [show decide (l.length ≤ 6) = false by simp; omega]
   simp -implicitDefEqProofs only [h, aA, seval]
   rfl
theorem aTL (l : List Tm) (st : aB) : aD prog 83 [.slice (l.map Tm.av)] st (fun r st' => r = .bool (lW l) ∧ st' = st) := by
 refine wF [] 1 func83 ntmps83 rfl rfl ?_
 intro _
 simp -implicitDefEqProofs only [aA, seval]
 refine (aKG l st).to ?_
 simp -implicitDefEqProofs only [aA, seval]
abbrev G4 := zi tI_3 (zi zI_3 (zi aX (zi tI_4 (zi zI_4 (zi cD (zi tI_31 (zi zI_31 (zi aN (zi bE (zi bF (zi b9 (zi tI_63 (zi zI_63 (zi bP (zi bQ (zi bT (zi bS bR)))))))))))))))))
theorem WO (l : List Tm) (st : aB) : aD prog 42 [.slice (l.map Tm.av)] st (fun r st' => r = .bool (lW l) ∧ st' = st) := by
 refine wF [] 1 func42 ntmps42 rfl rfl ?_
 simp only [eG, AV.fits, eM, aF]
 intro ⟨hl, _⟩
 simp -implicitDefEqProofs only [aA, seval]
 refine eL (σ := Unit) [] [0] l (fun i _ => i ≤ 7 ∧ (l.take i).all Tm.goal = true) (fun i _ => [(3, .int .i64 i)]) (fun _ _ => st) (by decide +kernel) ⟨(), ⟨by omega, by simp⟩, aO.mk (by simp -implicitDefEqProofs only [aA, ↓aU, seval])⟩ (fun i x _ hx hlt bU hdr hinv => ?_) (fun _ hge hinv => ?_)
 case refine_2 =>
  obtain ⟨i1, i2⟩ := hinv
  rw [eS] at i2
  simp -implicitDefEqProofs only [aF, hge, aA, seval, G4]
  simp only [lW, i2, DD, AV.bool.injEq, AE]
  omega
 obtain ⟨i1, i2⟩ := hinv
 have hw := bK (n := (i : Int) + 1)
 simp -implicitDefEqProofs only [aF, bU, aA, seval, G4]
 refine aQ (fun h => ?_) (fun h => ?_)
 case refine_2 =>
  simp only [dH] at h
  simp -implicitDefEqProofs only [aF, aA, seval, G4]
  simp only [lW, AV.bool.injEq]
  rw [show decide (l.length ≤ 6) = false by simp; omega, show decide ((l.length : Int) ≤ 6) = false by simp; omega]
  try rfl
 simp only [bJ] at h
 simp -implicitDefEqProofs only [bL (av := Tm.av) aN hx (aH x), aT, aH, aA, seval, G4]
 refine (aHW x st).to ?_
 simp -implicitDefEqProofs only [aA, seval]
 refine aQ (fun h2 => ?_) (fun h2 => ?_)
 · simp only [lZ] at h2
   simp -implicitDefEqProofs only [aA, seval]
   have : l.all Tm.goal = false := t7 hx h2
   simp only [lW, this, tW]
 · simp only [tX] at h2
   simp -implicitDefEqProofs only [aA, seval]
   refine ⟨(), ⟨by omega, ?_⟩, aO.mk (by simp -implicitDefEqProofs only [hw, aA, seval])⟩
   rw [fN, hx, DF, i2]
   simp [h2]
abbrev aXH := zi tI_3 (zi zI_3 (zi aX (zi tI_63 (zi zI_63 (zi bP (zi bQ (zi bT (zi bS bR))))))))
theorem MH (n : Int) (st : aB) : aD prog 156 [.int .i64 n] st (fun r st' => r = (vr n).av ∧ st' = st) := by
 refine aD.done ?_
 refine wF [1000000] 1 func156 ntmps156 rfl rfl ?_
 intro _
 simp -implicitDefEqProofs only [aA, seval, aXH]
 intro b hb
 simp -implicitDefEqProofs only [aK, aA, seval]
 exact ⟨by simp only [vr, aV, kA, jP, kW, mG, bA, aW, aW], (aL.refl _).aC hb⟩
abbrev sQ := zi tI_3 (zi zI_3 (zi aX (zi tI_31 (zi zI_31 (zi aN (zi bE (zi bF (zi b9 (zi tI_63 (zi zI_63 (zi bP (zi bQ (zi bT (zi bS bR))))))))))))))
theorem NM (f : Int → Tm) (g : FuncId) (dS : List AV) (B3 : kB dS = true) : ∀ (t : Tm) (st : aB), t.small = true → (∀ n ∈ t.vl, ∀ s, aD prog g (.int .i64 n :: dS) s (fun r s' => r = (f n).av ∧ s' = s)) →
 aD prog 197 [t.av, .func g dS] st (fun r st' => r = (t.aJ f).av ∧ st' = st)
 | .mk k n s ts, st, hsm, hg => by
  obtain ⟨hlen, oK⟩ := Tm.oE hsm
  have IH := fun (x : Tm) (hx : x ∈ ts) st h => NM f g dS B3 x st (oK x hx) h
  refine aD.pO (aD.fin ?_)
  simp only [aV]
  refine wF [1000000, 2] 2 func197 ntmps197 rfl rfl ?_
  simp only [eG, AV.fits, eM, aF]
  intro ⟨_, _, _, hl, _⟩
  simp -implicitDefEqProofs only [aA, seval, sQ]
  intro c hc b2 hb2
  have hne : b2 ≠ c := by rintro rfl; rw [aB.aP] at hb2; cases hb2
  have hn2 : st b2 = none := by rw [aB.aM st _ hne] at hb2; exact hb2
  simp -implicitDefEqProofs only [hne.symm, aA, seval]
  refine aQ (fun h => ?_) (fun h => ?_)
  · simp only [bJ] at h
    subst h
    simp -implicitDefEqProofs only [hne.symm, aA, seval, sQ]
    refine (hg n (by rw [Tm.mI rfl]; simp) _).to ?_
    simp -implicitDefEqProofs only [aA, seval, sQ]
    refine ⟨0, [], _, rfl, by simp, by simp, ⟨4, by simp⟩, by rw [Tm.u9, Tm.mM f rfl], ?_⟩
    exact ((aL.refl _).aC hc).aC hn2
  simp only [dH] at h
  have hg' : ∀ x ∈ ts, ∀ v ∈ x.vl, ∀ s, aD prog g (.int .i64 v :: dS) s (fun r s' => r = (f v).av ∧ s' = s) := fun x hx v hv => hg v ((Tm.kJ h).2 ⟨x, hx, hv⟩)
  simp -implicitDefEqProofs only [hne.symm, aK, aF, aA, seval, sQ]
  rw [aB.vJ hne]
  refine eL (σ := Nat) [1000000] [1, 2, 4, 18, 19] ts (fun i b => (((ts.take i).map (Tm.aJ f)).map Tm.av ≠ [] → (aB.aC (st.aC b2 (.cells [AV.int .i64 0, AV.int .i64 0, AV.str ⟨#[]⟩, AV.fslice []])) c (.cells ([AV.int .i64 k, AV.int .i64 n, AV.str s] ++ [a9 4 b (((ts.take i).map (Tm.aJ f)).map Tm.av)]))) b = none)) (fun i b => [(20, .int .i64 i)]) (fun i b => eU (st.aC b2 (.cells [AV.int .i64 0, AV.int .i64 0, AV.str ⟨#[]⟩, AV.fslice []])) c b [AV.int .i64 k, AV.int .i64 n, AV.str s] (((ts.take i).map (Tm.aJ f)).map Tm.av)) (by decide +kernel)
   ⟨0, fun h => absurd rfl h, aO.mk (by simp -implicitDefEqProofs only [aA, ↓aU, seval])⟩ (fun i x b hx hlt bU hdr hinv => ?_) (fun b hge hinv => ?_)
  case refine_1 =>
   have hw := bK (n := (i : Int) + 1)
   have cV : (((ts.take i).map (Tm.aJ f)).map Tm.av).length = i := by simp only [aF, d7]; omega
   have htk : (ts.take (i + 1)).map (Tm.aJ f) = (ts.take i).map (Tm.aJ f) ++ [(Tm.aJ f) x] := by rw [fN, hx]; simp
   have hbo := eD hinv
   simp -implicitDefEqProofs only [bU, bL (av := Tm.av) aN hx (aH x), aA, ↓aU, seval, sQ]
   refine wP [(0, 1), (3, 1), (1, 2), (2, 2), (4, 2), (5, 1), (6, 0), (7, 1), (8, 0)] [0, 3, 1, 2, 4, 5, 7] mixed ?_
   simp -implicitDefEqProofs only [aT, aH, hbo, mK, aA, seval, sQ]
   refine jC (IH x (cW hx) _ (hg' x (cW hx))) ?_
   simp -implicitDefEqProofs only [aT, aH, cG, aA, seval, sQ]
   refine eO aN bE bF rfl rfl (fB (aH _) (bZ _)) (dR _) hinv (by simp only [cV, aS, a7]; omega) (by simp only [cV, aS, a7]; omega) (fun b' hb' => ?_)
   rw [show (((ts.take i).map (Tm.aJ f)).map Tm.av) ++ [((Tm.aJ f) x).av] = ((ts.take (i + 1)).map (Tm.aJ f)).map Tm.av by rw [htk]; simp] at hb' ⊢
   obtain ⟨g1, g2, g3⟩ := nO hb'
   simp only [fF, eR] at g1 g3
   simp -implicitDefEqProofs only [g3, mB, eV, aK, g1, hw, aA, seval, sQ]
   exact ⟨b', g2, aO.mk (by simp -implicitDefEqProofs only [aA, seval])⟩
  have hbo := eD hinv
  rw [eS] at hinv hbo ⊢
  simp -implicitDefEqProofs only [hge, aA, seval, sQ]
  simp -implicitDefEqProofs only [hbo, aA, seval, sQ]
  have hS : (st.aC b2 (.cells [AV.int .i64 0, AV.int .i64 0, AV.str ⟨#[]⟩, AV.fslice []])) b2 ≠ none := by rw [aB.aP]; simp
  have h1 := gF hinv hS hne
  rw [aB.aP] at h1
  simp -implicitDefEqProofs only [h1, eV, aK, aA, seval]
  obtain ⟨h2, h3⟩ := j8 (o := .cells [AV.int .i64 k, AV.int .i64 n, AV.str s, a9 4 b ((ts.map (Tm.aJ f)).map Tm.av)]) hinv hS hne
  refine ⟨b, _, _, h2, h3, iB _, ⟨4, dR _⟩, ?_, ?_⟩
  · rw [Tm.lB f h]
    simp only [fM, bA, aW, eC, iP, iD, aV]
  · exact (((aL.refl _).aC hn2).aC hc).aC hn2
termination_by t => SizeOf.sizeOf t
decreasing_by have := List.sizeOf_lt_of_mem hx; simp only [Tm.mk.sizeOf_spec]; omega


end Go.AW
namespace Go.AW
abbrev cL (σ : Sub) : Prop := ∃ R rk B, Good σ R rk B
theorem cL.rs {σ : Sub} (h : cL σ) : ∃ rk B, Good σ (rs σ) rk B := by
 obtain ⟨R, rk, B, G⟩ := h
 exact ⟨rk, B, by rw [G.rs]; exact G⟩
theorem cL.none : cL Sub.none := ⟨_, _, _, Good.none⟩
structure nL (σ : Sub) (a b : List Tm) (r : Bool) (σ' : Sub) (tr : List Int) : Prop where
 gK : cL σ'
 a8 : ∀ m, m ∉ tr → σ' m = σ m
 new : ∀ m ∈ tr, σ m = none ∧ σ' m ≠ none
 nodup : tr.Nodup
 eq : r = true → a.map (Tm.aJ (rs σ')) = b.map (Tm.aJ (rs σ'))
 gen : ∀ θ, qH θ σ → a.map (Tm.aJ θ) = b.map (Tm.aJ θ) → r = true ∧ qH θ σ'
 same : tr = [] → σ' = σ
theorem qH.sub {σ σ' : Sub} {θ : Int → Tm} {tr : List Int} (S : qH θ σ') (a8 : ∀ m, m ∉ tr → σ' m = σ m) (new : ∀ m ∈ tr, σ m = none ∧ σ' m ≠ none) : qH θ σ := fun n u h => by
 by_cases hn : n ∈ tr
 · rw [(new n hn).1] at h; cases h
 · exact S n u (by rw [a8 n hn]; exact h)
theorem nL.uR {σ σ' : Sub} {a b : List Tm} {r : Bool} {tr : List Int} (h : nL σ a b r σ' tr) : qH (rs σ') σ := by
 obtain ⟨rk, B, G⟩ := h.gK.rs
 exact G.uR.sub h.a8 h.new
theorem nL.stays {σ σ' : Sub} {a b : List Tm} {r : Bool} {tr : List Int} (h : nL σ a b r σ' tr) (hg : cL σ) {x y : Tm} (e : x.aJ (rs σ) = y.aJ (rs σ)) : x.aJ (rs σ') = y.aJ (rs σ') := by
 obtain ⟨rk, B, G⟩ := hg.rs
 rw [← G.P6 h.uR x, ← G.P6 h.uR y, e]
theorem XU {σ : Sub} (hg : cL σ) {a b : Tm} {n : Int} (ha : a.k = 1) (han : a.n = n) (hn : σ n = none) (hb : b.k = 1 → σ b.n = none ∧ b.n ≠ n) {r : Bool} {σ' : Sub} {tr : List Int} (h : jU σ n b = (r, σ', tr)) : nL σ [a] [b] r σ' tr := by
 obtain ⟨rk, B, G⟩ := hg.rs
 have hav : ∀ θ, a.aJ θ = θ n := fun θ => by rw [Tm.C6 θ ha, han]
 unfold jU at h
 split at h
 · rename_i gM
   cases h
   refine ⟨hg, fun _ _ => rfl, fun _ h => absurd h (dP), pZ, fun h => (by cases h), fun θ S e => ?_, fun _ => rfl⟩
   exfalso
   simp only [bA, aW, List.cons.injEq, eM] at e
   rw [hav] at e
   by_cases hbk : b.k = 1
   · rw [Tm.C6 _ hbk, G.free (hb hbk).1, wG] at gM
     simp only [cY, dP, d4] at gM
     exact (hb hbk).2 gM.symm
   · rw [← G.P6 S b] at e
     have h1 : ((b.aJ (rs σ)).aJ θ) = (b.aJ (rs σ)).aJ θ := rfl
     have hk : (b.aJ (rs σ)).k ≠ 1 := by rw [Tm.qJ _ hbk]; exact hbk
     have := (aYK (f := θ) (b.aJ (rs σ)) gM).2 hk
     rw [e] at this
     exact absurd this (Nat.lt_irrefl _)
 · rename_i gM
   cases h
   obtain ⟨rk', B', G'⟩ := G.bind hn gM
   have hR := G'.rs
   refine ⟨⟨_, _, _, G'⟩, fun m hm => ?_, fun m hm => ?_, by simp, fun _ => ?_, fun θ S e => ⟨rfl, fun m u hu => ?_⟩, fun h => (by cases h)⟩
   · simp only [cY, dP, d4] at hm
     simp only [Sub.set, hm, dZ]
   · simp only [cY, dP, d4] at hm
     subst hm
     exact ⟨hn, by simp [Sub.set]⟩
   · simp only [bA, aW, List.cons.injEq, eM]
     rw [hav, hR]
     exact G'.bound (by simp [Sub.set])
   · simp only [bA, aW, List.cons.injEq, eM] at e
     rw [hav] at e
     simp only [Sub.set] at hu
     split at hu
     · rename_i hmn
       cases hu
       rw [hmn, e]
     · exact S m u hu
theorem rK {a b : Tm} : tR a b = true ↔ a.k = b.k ∧ a.n = b.n ∧ a.s = b.s ∧ a.ts.length = b.ts.length := by
 simp only [tR, cM, bJ, and_assoc]
theorem aA4 (g : Nat) (aQY : ∀ σ a b r σ' tr, cL σ → dD g σ a b = some (r, σ', tr) → nL σ [a] [b] r σ' tr) : ∀ xs ys σ r σ' tr, cL σ → xs.length = ys.length → dU g σ xs ys = some (r, σ', tr) → nL σ xs ys r σ' tr := by
 intro xs
 have ihU := aQY
 induction xs with
 | nil =>
  intro ys σ r σ' tr hg hl h
  cases ys with
  | cons _ _ => simp at hl
  | nil =>
   simp only [dU, Option.some.injEq, Prod.mk.injEq] at h
   obtain ⟨rfl, rfl, rfl⟩ := h
   exact ⟨hg, fun _ _ => rfl, fun _ h => absurd h (dP), pZ, fun _ => rfl, fun θ S _ => ⟨rfl, S⟩, fun _ => rfl⟩
 | cons a xs ih =>
  intro ys σ r σ' tr hg hl h
  cases ys with
  | nil => simp at hl
  | cons b ys =>
   rw [dU] at h
   cases h1 : dD g σ a b with
   | none => rw [h1] at h; cases h
   | some p =>
    obtain ⟨r1, σ1, tr1⟩ := p
    have U1 := ihU σ a b r1 σ1 tr1 hg h1
    rw [h1] at h
    cases r1 with
    | false =>
     simp only [Option.some.injEq, Prod.mk.injEq] at h
     obtain ⟨rfl, rfl, rfl⟩ := h
     refine ⟨U1.gK, U1.a8, U1.new, U1.nodup, fun h => (by cases h), fun θ S e => ?_, U1.same⟩
     simp only [bA, List.cons.injEq] at e
     exact U1.gen θ S (by simp [e.1])
    | true =>
     simp only at h
     cases h2 : dU g σ1 xs ys with
     | none => rw [h2] at h; cases h
     | some p2 =>
      obtain ⟨r2, σ2, tr2⟩ := p2
      rw [h2] at h
      simp only [Option.some.injEq, Prod.mk.injEq] at h
      obtain ⟨rfl, rfl, rfl⟩ := h
      have U2 := ih ys σ1 r2 σ2 tr2 U1.gK (by simpa using hl) h2
      refine ⟨U2.gK, fun m hm => ?_, fun m hm => ?_, ?_, fun hr => ?_, fun θ S e => ?_, fun h => ?_⟩
      · simp only [fS, not_or] at hm
        rw [U2.a8 m hm.2, U1.a8 m hm.1]
      · rcases fS.1 hm with hm | hm
        · refine ⟨(U1.new m hm).1, fun h => (U1.new m hm).2 ?_⟩
          by_cases h3 : m ∈ tr2
          · exact (U2.new m h3).1
          · rw [← U2.a8 m h3]; exact h
        · refine ⟨?_, (U2.new m hm).2⟩
          by_cases h3 : m ∈ tr1
          · exact (U1.new m h3).1
          · rw [← U1.a8 m h3]; exact (U2.new m hm).1
      · rw [tV]
        refine ⟨U1.nodup, U2.nodup, fun x hx y hy e => ?_⟩
        subst e
        exact (U1.new x hx).2 (U2.new x hy).1
      · have e1 := U1.eq rfl
        simp only [bA, aW, List.cons.injEq, eM] at e1
        simp only [bA]
        rw [U2.stays U1.gK e1, U2.eq hr]
      · simp only [bA, List.cons.injEq] at e
        obtain ⟨_, S1⟩ := U1.gen θ S (by simp [e.1])
        exact U2.gen θ S1 e.2
      · simp only [List.append_eq_nil_iff] at h
        rw [U2.same h.2, U1.same h.1]
theorem aUF : ∀ (g : Nat), (∀ σ a b r σ' tr, cL σ → dD g σ a b = some (r, σ', tr) → nL σ [a] [b] r σ' tr) ∧
 ∀ xs ys σ r σ' tr, cL σ → xs.length = ys.length → dU g σ xs ys = some (r, σ', tr) → nL σ xs ys r σ' tr := by
 intro g
 induction g with
 | zero =>
  have h0 : ∀ σ a b r σ' tr, cL σ → dD 0 σ a b = some (r, σ', tr) → nL σ [a] [b] r σ' tr := fun σ a b r σ' tr hg h => by simp only [dD] at h; cases h
  exact ⟨h0, aA4 _ h0⟩
 | succ g ih =>
  suffices hU : ∀ σ a b r σ' tr, cL σ → dD (g + 1) σ a b = some (r, σ', tr) → nL σ [a] [b] r σ' tr from ⟨hU, aA4 _ hU⟩
  intro σ a b r σ' tr hg h
  obtain ⟨ihU, ihL⟩ := ih
  have aNY := fun xs ys σ r σ' tr hg hl h => ihL xs ys σ r σ' tr hg hl h
  obtain ⟨rk, B, G⟩ := hg.rs
  obtain ⟨fa, wa⟩ := G.wk a
  obtain ⟨fb, wb⟩ := G.wk b
  have hma : ∀ θ, qH θ σ → (wk σ a).aJ θ = a.aJ θ := fun θ S => wa.aJ S
  have hmb : ∀ θ, qH θ σ → (wk σ b).aJ θ = b.aJ θ := fun θ S => wb.aJ S
  -- it suffices to speak of the walked terms
  suffices hw : nL σ [wk σ a] [wk σ b] r σ' tr by
   refine ⟨hw.gK, hw.a8, hw.new, hw.nodup, fun hr => ?_, fun θ S e => ?_, hw.same⟩
   · have := hw.eq hr
     simp only [bA, aW, List.cons.injEq, eM] at this ⊢
     rw [← hma _ hw.uR, ← hmb _ hw.uR]; exact this
   · refine hw.gen θ S ?_
     simp only [bA, aW, List.cons.injEq, eM] at e ⊢
     rw [hma θ S, hmb θ S]; exact e
  have ea := wa.end
  have eb := wb.end
  rw [dD] at h
  generalize wk σ a = a at *
  generalize wk σ b = b at *
  split at h
  · rename_i hc
    simp only [Option.some.injEq, Prod.mk.injEq] at h
    obtain ⟨rfl, rfl, rfl⟩ := h
    have he : ∀ θ, a.aJ θ = b.aJ θ := fun θ => by rw [Tm.C6 θ hc.1, Tm.C6 θ hc.2.1, hc.2.2]
    exact ⟨hg, fun _ _ => rfl, fun _ h => absurd h (dP), pZ, fun _ => by simp [he], fun θ S _ => ⟨rfl, S⟩, fun _ => rfl⟩
  · rename_i hc
    split at h
    · rename_i ha
      exact XU hg ha rfl (ea ha) (fun hb => ⟨eb hb, fun e => hc ⟨ha, hb, e.symm⟩⟩) (nG h)
    · rename_i ha
      split at h
      · rename_i hb
        have U := XU hg hb rfl (eb hb) (fun ha' => absurd ha' ha) (nG h)
        exact ⟨U.gK, U.a8, U.new, U.nodup, fun hr => (U.eq hr).symm, fun θ S e => U.gen θ S e.symm, U.same⟩
      · rename_i hb
        split at h
        · rename_i hh
          rw [rK] at hh
          have U := aNY a.ts b.ts σ r σ' tr hg hh.2.2.2 h
          refine ⟨U.gK, U.a8, U.new, U.nodup, fun hr => ?_, fun θ S e => ?_, U.same⟩
          · simp only [bA, aW, List.cons.injEq, eM]
            rw [Tm.qJ _ ha, Tm.qJ _ hb, hh.1, hh.2.1, hh.2.2.1, U.eq hr]
          · simp only [bA, aW, List.cons.injEq, eM] at e
            rw [Tm.qJ _ ha, Tm.qJ _ hb] at e
            exact U.gen θ S (by injection e)
        · rename_i hh
          simp only [Option.some.injEq, Prod.mk.injEq] at h
          obtain ⟨rfl, rfl, rfl⟩ := h
          refine ⟨hg, fun _ _ => rfl, fun _ h => absurd h (dP), pZ, fun h => (by cases h), fun θ S e => ?_, fun _ => rfl⟩
          exfalso
          simp only [bA, aW, List.cons.injEq, eM] at e
          rw [Tm.qJ _ ha, Tm.qJ _ hb] at e
          injection e with e1 e2 e3 e4
          exact hh (rK.2 ⟨e1, e2, e3, by simpa using n6 List.length e4⟩)
theorem uT {g : Nat} {σ : Sub} {a b : Tm} {r : Bool} {σ' : Sub} {tr : List Int} (hg : cL σ) (h : dD g σ a b = some (r, σ', tr)) : nL σ [a] [b] r σ' tr := (aUF g).1 σ a b r σ' tr hg h
end Go.AW
