import Derived.Test.YtpficjlageaebaaGreatDoorStrf
import Derived.Test.YtpficjlageaebaaGreatDoorStrh
set_option linter.unusedSimpArgs false
set_option linter.unusedVariables false
set_option maxRecDepth 100000
namespace Go.AW
open Go.Proofs.Tryz
theorem A7 (n lo hi : Int) (st : aB) : aD prog 84 [.int .i64 n, .int .i64 lo, .int .i64 hi] st (fun r st' => r = .bool (decide (lo ≤ n) && decide (n ≤ hi)) ∧ st' = st) := by
 refine wF [] 3 func84 ntmps84 rfl rfl ?_
 intro _
 repeat' (first
  | (simp -implicitDefEqProofs only [*, aA, seval])
  | (refine cS (fun h => ?_) (fun h => ?_))
  | (refine aQ (fun h => ?_) (fun h => ?_)))
 all_goals simp_all
theorem aSN (s : ByteArray) (st : aB) : aD prog 219 [.str s] st (fun r st' => r = .tup [.int .i64 (dK s), .bool (dK s == 1 || dK s == 2)] ∧ st' = st) := by
 refine wF [] 1 func219 ntmps219 rfl rfl ?_
 intro _
 repeat' (first
  | (simp -implicitDefEqProofs only [*, aA, seval])
  | (refine cS (fun h => ?_) (fun h => ?_))
  | (refine aQ (fun h => ?_) (fun h => ?_)))
 all_goals (simp only [dK, *, z9, xQ, Bool.or_self, cond_true, AA]; first | done | rfl)
theorem t8 (s : ByteArray) (st : aB) : aD prog 138 [.str s] st (fun r st' => r = .int .i64 (dK s) ∧ st' = st) := by
 refine wF [] 1 func138 ntmps138 rfl rfl ?_
 intro _
 repeat' (first
  | (simp -implicitDefEqProofs only [*, aA, seval])
  | (refine cS (fun h => ?_) (fun h => ?_))
  | (refine aQ (fun h => ?_) (fun h => ?_)))
 all_goals (simp only [dK, *, z9, xQ, Bool.or_self, cond_true, AA]; first | done | rfl)
theorem aYM (s : ByteArray) (n : Int) (st : aB) : aD prog 184 [.str s, .int .i64 n] st (fun r st' => r = .bool (isBuiltin s n) ∧ st' = st) := by
 refine wF [] 2 func184 ntmps184 rfl rfl ?_
 intro _
 repeat' (first
  | (simp -implicitDefEqProofs only [*, aA, seval])
  | (refine cS (fun h => ?_) (fun h => ?_))
  | (refine aQ (fun h => ?_) (fun h => ?_)))
 all_goals (simp only [isBuiltin, *, z9, xQ, Bool.or_self, cond_true, AA]; first | done | rfl)
theorem MO (s : ByteArray) (n : Int) (st : aB) : aD prog 131 [.str s, .int .i64 n] st (fun r st' => r = .bool (isBuiltin s n) ∧ st' = st) := by
 refine wF [] 2 func131 ntmps131 rfl rfl ?_
 intro _
 repeat' (first
  | (simp -implicitDefEqProofs only [*, aA, seval])
  | (refine cS (fun h => ?_) (fun h => ?_))
  | (refine aQ (fun h => ?_) (fun h => ?_)))
 all_goals (simp only [isBuiltin, *, z9, xQ, Bool.or_self, cond_true, AA]; first | done | rfl)
abbrev aH7 := zi tI_3 (zi zI_3 (zi aX (zi tI_4 (zi zI_4 (zi cF (zi tI_5 (zi zI_5 (zi kN (zi tI_9 (zi zI_9 cH))))))))))
theorem aK2 (s : ByteArray) (st : aB) : aD prog 137 [.str s] st (fun r st' => r = .bool (rY s) ∧ st' = st) := by
 refine wF [] 1 func137 ntmps137 rfl rfl ?_
 simp only [eE, AV.fits, eM]
 intro hs
 simp -implicitDefEqProofs only [aA, seval]
 refine uU (α := Nat) [] (fun i => i ≤ s.size ∧ ∀ (j : Nat) c, j < i → (sb s)[j]? = some c → letter c = true)
  (fun i => [(0, .str s), (3, .int .i64 i)]) (fun _ => st) (fun i => s.size - i) (by decide +kernel)
  ⟨0, ⟨by omega, by intro j x h; omega⟩, aP.mk (by simp -implicitDefEqProofs only [aA, ↓aU, seval])⟩ ?_
 intro i ⟨hi, dW⟩
 simp -implicitDefEqProofs only [aA, seval, aH7]
 refine ⟨fun h5 => ?_, fun h5 => ?_⟩
 case refine_2 =>
  simp only [dH, mQ] at h5
  have ha : (sb s).all letter = true := G4 fun j c hc => dW j c (by have := (gQ.1 hc).1; rw [cJ] at this; omega) hc
  repeat' (first
   | (simp -implicitDefEqProofs only [*, aA, seval, aH7])
   | (refine cS (fun h => ?_) (fun h => ?_))
   | (refine aQ (fun h => ?_) (fun h => ?_)))
  all_goals simp only [rY, ha, eT, AV.bool.injEq]
  all_goals simp only [*, oU, eT, gK]
 simp only [bJ, mQ] at h5
 obtain ⟨c, hc⟩ : ∃ c, (sb s)[i]? = some c := ⟨_, fG (by rw [cJ]; exact h5)⟩
 have hx := rA (P := prog) (t := 9) cH hc
 simp -implicitDefEqProofs only [hx, aA, seval]
 refine cS (fun h6 => ?_) (fun h6 => ?_)
 case refine_2 =>
  simp -implicitDefEqProofs only [h6, aA, seval]
  simp only [nY, bJ] at h6
  simp only [rY, tX hc (show letter c = false by simp [letter]; omega), gK]
 simp -implicitDefEqProofs only [h6, hx, aA, seval]
 refine ⟨fun h7 => ?_, fun h7 => ?_⟩
 · simp -implicitDefEqProofs only [aA, seval]
   simp only [bJ] at h7
   simp only [rY, tX hc (show letter c = false by simp [letter]; omega), gK]
 simp only [dH] at h6 h7
 simp -implicitDefEqProofs only [aA, seval]
 refine ⟨i + 1, by omega, ⟨by omega, fun j u hj hu => ?_⟩, aP.mk ?_⟩
 · rcases kQ j i with h8 | h8
   · exact dW j u h8 hu
   · obtain rfl : j = i := by omega
     rw [hc] at hu; cases hu
     simp [letter]; omega
 · have := bK (n := (i : Int) + 1)
   simp -implicitDefEqProofs only [this, aA, seval]
abbrev SX := zi tI_3 (zi zI_3 (zi aX (zi tI_4 (zi zI_4 (zi cF (zi tI_5 (zi zI_5 (zi kN (zi tI_6 (zi zI_6 (zi uU6 (zi tI_9 (zi zI_9 cH)))))))))))))
theorem VM (s : ByteArray) (st : aB) : aD prog 201 [.str s] st (fun r st' => r = .bool (rY s) ∧ st' = st) := by
 refine wF [] 1 func201 ntmps201 rfl rfl ?_
 simp only [eE, AV.fits, eM]
 intro hs
 simp -implicitDefEqProofs only [aA, seval, SX]
 refine uU (α := Nat) [] (fun i => i ≤ s.size ∧ ∀ (j : Nat) c, j < i → (sb s)[j]? = some c → letter c = true)
  (fun i => [(0, .str s), (5, .int .i64 s.size), (6, .int .i64 i)]) (fun _ => st) (fun i => s.size - i) (by decide +kernel)
  ⟨0, ⟨by omega, by intro j x h; omega⟩, aP.mk (by simp -implicitDefEqProofs only [aA, ↓aU, seval])⟩ ?_
 intro i ⟨hi, dW⟩
 simp -implicitDefEqProofs only [aA, seval]
 refine ⟨fun h5 => ?_, fun h5 => ?_⟩
 case refine_2 =>
  simp only [dH, mQ] at h5
  have ha : (sb s).all letter = true := G4 fun j c hc => dW j c (by have := (gQ.1 hc).1; rw [cJ] at this; omega) hc
  simp -implicitDefEqProofs only [aA, seval, SX]
  refine (A7 _ _ _ st).to ?_
  simp -implicitDefEqProofs only [aA, seval]
  simp only [rY, ha, eT]
 simp only [bJ, mQ] at h5
 obtain ⟨c, hc⟩ : ∃ c, (sb s)[i]? = some c := ⟨_, fG (by rw [cJ]; exact h5)⟩
 have hx := rA (P := prog) (t := 9) cH hc
 simp -implicitDefEqProofs only [hx, aA, seval]
 refine cS (fun h6 => ?_) (fun h6 => ?_)
 case refine_2 =>
  simp -implicitDefEqProofs only [h6, aA, seval]
  simp only [nY, bJ] at h6
  simp only [rY, tX hc (show letter c = false by simp [letter]; omega), gK]
 simp -implicitDefEqProofs only [h6, hx, aA, seval]
 refine ⟨fun h7 => ?_, fun h7 => ?_⟩
 · simp -implicitDefEqProofs only [aA, seval]
   simp only [bJ] at h7
   simp only [rY, tX hc (show letter c = false by simp [letter]; omega), gK]
 simp only [dH] at h6 h7
 simp -implicitDefEqProofs only [aA, seval]
 refine ⟨i + 1, by omega, ⟨by omega, fun j u hj hu => ?_⟩, aP.mk ?_⟩
 · rcases kQ j i with h8 | h8
   · exact dW j u h8 hu
   · obtain rfl : j = i := by omega
     rw [hc] at hu; cases hu
     simp [letter]; omega
 · have := bK (n := (i : Int) + 1)
   simp -implicitDefEqProofs only [this, aA, seval]
theorem aQW (s : ByteArray) (st : aB) : aD prog 202 [.str s] st (fun r st' => r = .bool (decide ((0 : Int) < (dK s : Int))) ∧ st' = st) := by
 refine wF [] 1 func202 ntmps202 rfl rfl ?_
 intro _
 simp -implicitDefEqProofs only [aA, seval]
 refine (aSN s st).to ?_
 simp -implicitDefEqProofs only [aA, seval]
abbrev aPA := zi tI_3 (zi zI_3 (zi aX (zi tI_4 (zi zI_4 (zi cF (zi tI_31 (zi zI_31 (zi aN (zi bF (zi bE (zi b9 (zi tI_63 (zi zI_63 (zi bS (zi bR (zi bP (zi bQ bT)))))))))))))))))
theorem D6 (k n : Int) (s : ByteArray) (ts : List Tm) (st : aB) : aD prog 183 [(Tm.mk k n s ts).av] st (fun r st' => r = .bool (decide (k = 3) && decide ((ts.length : Int) = 0)) ∧ st' = st) := by
 refine wF [] 1 func183 ntmps183 rfl rfl ?_
 intro _
 simp only [aV]
 repeat' (first
  | (simp -implicitDefEqProofs only [*, aA, seval, aPA])
  | (refine cS (fun h => ?_) (fun h => ?_))
  | (refine aQ (fun h => ?_) (fun h => ?_)))
 all_goals simp_all
def iS : List ByteArray := [⟨#[43]⟩, ⟨#[45]⟩, ⟨#[42]⟩, ⟨#[47, 47]⟩, ⟨#[61]⟩, ⟨#[92, 61]⟩, ⟨#[61, 61]⟩, ⟨#[60]⟩, ⟨#[62]⟩, ⟨#[61, 60]⟩, ⟨#[62, 61]⟩, ⟨#[61, 58, 61]⟩, ⟨#[46]⟩, ⟨#[91, 93]⟩, ⟨#[33]⟩]
abbrev aP4 := zi tI_125 (zi zI_125 (zi iV (zi lO (zi lJ mO))))
theorem aVJ (st : aB) : aD prog 235 [] st (fun r st' => r = .fslice (iS.map .str) ∧ st' = st) := by
 refine wF [] 0 func235 ntmps235 rfl rfl ?_
 intro _
 simp -implicitDefEqProofs only [iS, aA, seval, aP4]
abbrev aQU := zi tI_125 (zi zI_125 (zi iV (zi lO (zi lJ mO))))
theorem US (st : aB) : aD prog 231 [] st (fun r st' => r = .fslice (iS.map .str) ∧ st' = st) := by
 refine wF [] 0 func231 ntmps231 rfl rfl ?_
 intro _
 simp -implicitDefEqProofs only [iS, aA, seval, aQU]
abbrev aLX := zi tI_3 (zi zI_3 (zi aX (zi tI_4 (zi zI_4 (zi cF (zi tI_9 (zi zI_9 (zi cH (zi tI_125 (zi zI_125 (zi iV (zi lO (zi lJ mO)))))))))))))
theorem aVN (l : List ByteArray) (s : ByteArray) (st : aB) : aD prog 230 [.slice (l.map .str), .str s] st (fun r st' => r = .bool (l.any fun x => decide (x = s)) ∧ st' = st) := by
 refine wF [] 2 func230 ntmps230 rfl rfl ?_
 simp only [eE, AV.fits, eM, aF]
 intro ⟨⟨hl, _⟩, _⟩
 simp -implicitDefEqProofs only [aA, seval]
 refine uU (α := Nat) [] (fun i => i ≤ l.length ∧ ∀ (j : Nat) x, j < i → l[j]? = some x → decide (x = s) = false)
  (fun i => [(0, .slice (l.map .str)), (1, .str s), (5, .int .i64 i)]) (fun _ => st) (fun i => l.length - i) (by decide +kernel)
  ⟨0, ⟨by omega, by intro j x h; omega⟩, aP.mk (by simp -implicitDefEqProofs only [aA, ↓aU, seval])⟩ ?_
 intro i ⟨hi, dW⟩
 simp -implicitDefEqProofs only [aF, aA, seval, aLX]
 refine ⟨fun h5 => ?_, fun h5 => ?_⟩
 case refine_2 =>
  simp -implicitDefEqProofs only [aA, seval]
  simp only [dH, mQ] at h5
  have : (l.any fun x => decide (x = s)) = false := by
   rw [List.any_eq_false]
   intro x hx
   obtain ⟨j, hj⟩ := GU hx
   simp [dW j x (by have := (gQ.1 hj).1; omega) hj]
  rw [this]
 simp only [bJ, mQ] at h5
 obtain ⟨x, hx⟩ : ∃ x, l[i]? = some x := ⟨_, fG h5⟩
 simp -implicitDefEqProofs only [bL (av := AV.str) iV hx rfl, aA, seval, aLX]
 refine ⟨fun h6 => ?_, fun h6 => ?_⟩
 · simp -implicitDefEqProofs only [aA, seval]
   have : (l.any fun x => decide (x = s)) = true := by
    rw [List.any_eq_true]
    exact ⟨x, cW hx, h6⟩
   rw [this]
 simp -implicitDefEqProofs only [aA, seval]
 refine ⟨i + 1, by omega, ⟨by omega, fun j u hj hu => ?_⟩, aP.mk ?_⟩
 · rcases kQ j i with h8 | h8
   · exact dW j u h8 hu
   · obtain rfl : j = i := by omega
     rw [hx] at hu; cases hu
     exact h6
 · have := bK (n := (i : Int) + 1)
   simp -implicitDefEqProofs only [this, aA, seval]
abbrev aGR := zi tI_3 (zi zI_3 (zi aX (zi tI_9 (zi zI_9 (zi cH (zi tI_125 (zi zI_125 (zi iV (zi lO (zi lJ mO))))))))))
theorem aMJ (l : List ByteArray) (s : ByteArray) (st : aB) : aD prog 232 [.slice (l.map .str), .str s] st (fun r st' => (∃ k : Int, r = .int .i64 k ∧ decide (0 ≤ k) = l.any fun x => decide (s = x)) ∧ st' = st) := by
 refine wF [] 2 func232 ntmps232 rfl rfl ?_
 simp only [eE, AV.fits, eM, aF]
 intro ⟨⟨hl, _⟩, _⟩
 simp -implicitDefEqProofs only [aF, aA, seval, aGR]
 refine uU (α := Nat) [] (fun i => i ≤ l.length ∧ ∀ (j : Nat) x, j < i → l[j]? = some x → decide (s = x) = false)
  (fun i => [(0, .slice (l.map .str)), (1, .str s), (7, .int .i64 l.length), (8, .int .i64 i)]) (fun _ => st) (fun i => l.length - i) (by decide +kernel)
  ⟨0, ⟨by omega, by intro j x h; omega⟩, aP.mk (by simp -implicitDefEqProofs only [aA, ↓aU, seval])⟩ ?_
 intro i ⟨hi, dW⟩
 simp -implicitDefEqProofs only [aA, seval]
 refine ⟨fun h5 => ?_, fun h5 => ?_⟩
 case refine_2 =>
  simp -implicitDefEqProofs only [aA, seval]
  simp only [dH, mQ] at h5
  have : (l.any fun x => decide (s = x)) = false := by
   rw [List.any_eq_false]
   intro x hx
   obtain ⟨j, hj⟩ := GU hx
   simp [dW j x (by have := (gQ.1 hj).1; omega) hj]
  rw [this]
  exact ⟨_, rfl, rfl⟩
 simp only [bJ, mQ] at h5
 obtain ⟨x, hx⟩ : ∃ x, l[i]? = some x := ⟨_, fG h5⟩
 simp -implicitDefEqProofs only [bL (av := AV.str) iV hx rfl, aA, seval, aGR]
 refine ⟨fun h6 => ?_, fun h6 => ?_⟩
 · simp -implicitDefEqProofs only [aA, seval]
   have : (l.any fun x => decide (s = x)) = true := by
    rw [List.any_eq_true]
    exact ⟨x, cW hx, h6⟩
   rw [this]
   exact ⟨_, rfl, by simp⟩
 simp -implicitDefEqProofs only [aA, seval]
 refine ⟨i + 1, by omega, ⟨by omega, fun j u hj hu => ?_⟩, aP.mk ?_⟩
 · rcases kQ j i with h8 | h8
   · exact dW j u h8 hu
   · obtain rfl : j = i := by omega
     rw [hx] at hu; cases hu
     exact h6
 · have := bK (n := (i : Int) + 1)
   simp -implicitDefEqProofs only [this, aA, seval]
theorem aNA (l : List ByteArray) (s : ByteArray) (st : aB) : aD prog 213 [.slice (l.map .str), .str s] st (fun r st' => r = .bool (l.any fun x => decide (s = x)) ∧ st' = st) := by
 refine wF [] 2 func213 ntmps213 rfl rfl ?_
 intro _
 simp -implicitDefEqProofs only [aA, seval]
 refine (aMJ l s st).mono ?_
 rintro _ _ ⟨⟨k, rfl, hk⟩, rfl⟩
 simp -implicitDefEqProofs only [aA, seval]
 rw [← hk]
theorem QK (l : List ByteArray) (s : ByteArray) (st : aB) : aD prog 213 [.fslice (l.map .str), .str s] st (fun r st' => r = .bool (l.any fun x => decide (s = x)) ∧ st' = st) :=
 aD.oA (by simp only [gP, AV.soft]; exact aNA l s st)
theorem aPB (l : List ByteArray) (s : ByteArray) (st : aB) : aD prog 230 [.fslice (l.map .str), .str s] st (fun r st' => r = .bool (l.any fun x => decide (x = s)) ∧ st' = st) :=
 aD.oA (by simp only [gP, AV.soft]; exact aVN l s st)
def xD (s : ByteArray) : Bool := rY s || iS.any fun x => decide (s = x)
theorem aY9 (s : ByteArray) : (iS.any fun x => decide (x = s)) = iS.any fun x => decide (s = x) := by
 congr 1
 funext x
 exact AB.2 ⟨Eq.symm, Eq.symm⟩
theorem aZZ (s : ByteArray) (st : aB) : aD prog 217 [.str s] st (fun r st' => r = .bool (xD s) ∧ st' = st) := by
 refine wF [] 1 func217 ntmps217 rfl rfl ?_
 intro _
 repeat' (first
  | (simp -implicitDefEqProofs only [*, aA, seval])
  | (refine cS (fun h => ?_) (fun h => ?_))
  | (refine (VM s st).to ?_) | (refine (aVJ st).to ?_) | (refine (QK iS s st).to ?_)
  | (refine aQ (fun h => ?_) (fun h => ?_)))
 all_goals simp only [xD, *, nY, xQ, qV]
theorem aWY (s : ByteArray) (st : aB) : aD prog 209 [.str s] st (fun r st' => r = .bool (xD s) ∧ st' = st) := by
 refine wF [] 1 func209 ntmps209 rfl rfl ?_
 intro _
 repeat' (first
  | (simp -implicitDefEqProofs only [*, aA, seval])
  | (refine cS (fun h => ?_) (fun h => ?_))
  | (refine (aK2 s st).to ?_) | (refine (US st).to ?_) | (refine (aPB iS s st).to ?_)
  | (refine aQ (fun h => ?_) (fun h => ?_)))
 all_goals simp only [xD, aY9, *, nY, xQ, qV]
end Go.AW
namespace Go.AW
def eF (k n : Int) (s : ByteArray) (len : Int) : Bool :=
 cond (decide (k = 1)) (decide ((0 : Int) ≤ n) && decide (n ≤ 25) && decide (s = ⟨#[]⟩) && decide (len = 0))
  (cond (decide (k = 2)) (decide ((-999 : Int) ≤ n) && decide (n ≤ 999) && decide (s = ⟨#[]⟩) && decide (len = 0))
   (cond (decide (k = 3)) (decide (n = 0) && xD s && decide (len ≤ 4)) false))
mutual
def Tm.shape : Tm → Int → Bool
 | .mk k n s ts, d => decide (1 ≤ d) && eF k n s ts.length && HC ts (d - 1)
def HC : List Tm → Int → Bool
 | [], _ => true
 | t :: ts, d => t.shape d && HC ts d
end
theorem aJC : ∀ (ts : List Tm) (d : Int), HC ts d = ts.all fun t => t.shape d
 | [], _ => rfl
 | t :: ts, d => by simp only [HC, kE, aJC ts d]
theorem Tm.BH (k n : Int) (s : ByteArray) (ts : List Tm) (d : Int) : (Tm.mk k n s ts).shape d = (decide (1 ≤ d) && eF k n s ts.length && ts.all fun t => t.shape (d - 1)) := by simp only [Tm.shape, aJC]
mutual
def Tm.nodes : Tm → Nat
 | .mk _ _ _ ts => 1 + JU ts
def JU : List Tm → Nat
 | [] => 0
 | t :: ts => t.nodes + JU ts
end
theorem aBL : ∀ (ts : List Tm), JU ts = bG Tm.nodes ts
 | [] => rfl
 | t :: ts => by simp only [JU, bG, aBL ts]
theorem Tm.gN (k n : Int) (s : ByteArray) (ts : List Tm) : (Tm.mk k n s ts).nodes = 1 + bG Tm.nodes ts := by simp only [Tm.nodes, aBL]
def Tm.valid (t : Tm) : Bool := t.shape 30 && decide (t.nodes ≤ 120)
mutual
def Tm.vars : Tm → List Int → List Int
 | .mk k n _ ts, l => bY ts (if k = 1 ∧ n ∉ l then l ++ [n] else l)
def bY : List Tm → List Int → List Int
 | [], l => l
 | t :: ts, l => bY ts (t.vars l)
end
mutual
theorem Tm.AY : ∀ (t : Tm) (l : List Int), (t.vars l).length ≤ l.length + t.nodes
 | .mk k n s ts, l => by
  have h := v4 ts (if k = 1 ∧ n ∉ l then l ++ [n] else l)
  have h2 : (if k = 1 ∧ n ∉ l then l ++ [n] else l).length ≤ l.length + 1 := by split <;> simp
  rw [Tm.vars, Tm.gN]
  omega
theorem v4 : ∀ (ts : List Tm) (l : List Int), (bY ts l).length ≤ l.length + bG Tm.nodes ts
 | [], l => by simp [bY, bG]
 | t :: ts, l => by
  have h1 := Tm.AY t l
  have h2 := v4 ts (t.vars l)
  simp only [bY, bG]
  omega
end
def eO (v : Int) : List Int → Int → Int
 | [], _ => -1
 | x :: xs, i => if v = x then i else eO v xs (i + 1)
theorem TM (v : Int) : ∀ (l : List Int) (i : Int), 0 ≤ i → (0 ≤ eO v l i ↔ v ∈ l)
 | [], i, h => by simp [eO]
 | x :: xs, i, h => by
  simp only [eO, cY]
  split
  · rename_i e; simp [e, h]
  · rename_i e; rw [TM v xs (i + 1) (by omega)]; simp [e]
theorem oM {st : aB} {b x : Nat} {l : List AV} {o : AO} (h : l ≠ [] → x ≠ b) : (aZ st b l).aC x o = aZ (st.aC x o) b l := by
 cases l with
 | nil => rfl
 | cons y l => exact aB.nK _ _ _ (dB (h (by simp)))
theorem IZ {st : aB} {b x : Nat} {l : List AV} {o : AO} (hx : st x = none) (h : l ≠ [] → (st.aC x o) b = none) : aL (aZ (st.aC x o) b l) (aZ st b l) ∧ (l ≠ [] → st b = none) := by
 cases l with
 | nil => exact ⟨(aL.refl _).aC hx, fun h => absurd rfl h⟩
 | cons y l =>
  have hb := h (by simp)
  have hne : b ≠ x := by rintro rfl; rw [aB.aO] at hb; cases hb
  rw [aB.aM _ _ hne] at hb
  refine ⟨?_, fun _ => hb⟩
  simp only [aZ]
  rw [aB.nK _ _ _ (dB hne)]
  exact (aL.refl _).aC (by rw [aB.aM _ _ (dB hne)]; exact hx)
theorem UK {P : Program} {t : TypeId} {ag : Bool} {w b i : Nat} {l : List AV} {x : AV} (hI : eI P t = some (ag, w)) (h : l[i]? = some x) : dJ P t (a9 w b l) (.int .i64 (i : Int)) = some (.ptr b (i * w)) := by
 have hi := (gQ.1 h).1
 rw [oE (by rintro rfl; simp at hi)]
 exact zE hI hi
theorem TW {st : aB} {b i : Nat} {l : List Int} {x : Int} (h : l[i]? = some x) : aZ st b (l.map iv) b = some (.cells (l.map iv)) ∧ (l.map iv)[i]? = some (iv x) := by
 have hi := (gQ.1 h).1
 have hne : l.map iv ≠ [] := by rintro e; rw [List.map_eq_nil_iff] at e; subst e; simp at hi
 have hfl : (l.map iv).flatMap AV.cells = l.map iv := by
  clear h hi hne
  induction l with
  | nil => rfl
  | cons y l ih => simp only [bA, tR, ih]; rfl
 exact ⟨by rw [jF hne, hfl, aB.aO], by rw [oT, h]; try rfl⟩
mutual
def Tm.wf : Tm → Bool
 | .mk k _ _ ts => (!decide (k = 1) || ts.isEmpty) && HG ts
def HG : List Tm → Bool
 | [] => true
 | t :: ts => t.wf && HG ts
end
theorem QF : ∀ (ts : List Tm), HG ts = ts.all Tm.wf
 | [] => rfl
 | t :: ts => by simp only [HG, kE, QF ts]
theorem Tm.OH {k n : Int} {s : ByteArray} {ts : List Tm} (h : (Tm.mk k n s ts).wf = true) : (k = 1 → ts = []) ∧ ∀ x ∈ ts, x.wf = true := by
 simp only [Tm.wf, QF, cM, qZ, lX, dH, List.isEmpty_iff, eW] at h
 exact ⟨fun hk => h.1.resolve_left (fun hn => hn hk), h.2⟩
theorem Tm.HJ {t : Tm} (h : t.valid = true) : t.nodes ≤ 120 := by simp only [Tm.valid, cM, bJ] at h; exact h.2
def eV (S : aB) (c b : Nat) (hd : List AV) (l : List AV) : aB := aZ (S.aC c (.cells (hd ++ [a9 4 b l]))) b l
theorem eC {S : aB} {c b : Nat} {hd l : List AV} (hb : l ≠ [] → (S.aC c (.cells (hd ++ [a9 4 b l]))) b = none) : eV S c b hd l c = some (.cells (hd ++ [a9 4 b l])) := by
 unfold eV
 cases l with
 | nil => simp only [aZ, aB.aO]
 | cons y l =>
  have h := hb (by simp)
  have hne : c ≠ b := fun e => by rw [← e, aB.aO] at h; cases h
  rw [pP hne, aB.aO]
theorem nG {S : aB} {c b b' : Nat} {hd l l' : List AV} (hb : l' ≠ [] → (S.aC c (.cells (hd ++ [a9 4 b l]))) b' = none) :
 (aZ (S.aC c (.cells (hd ++ [a9 4 b l]))) b' l').aC c (.cells (hd ++ [a9 4 b' l'])) = eV S c b' hd l' ∧ (l' ≠ [] → (S.aC c (.cells (hd ++ [a9 4 b' l']))) b' = none) ∧ aZ (S.aC c (.cells (hd ++ [a9 4 b l]))) b' l' c = some (.cells (hd ++ [a9 4 b l])) := by
 have hne : l' ≠ [] → c ≠ b' := fun h e => by have := hb h; rw [← e, aB.aO] at this; cases this
 refine ⟨?_, fun h => ?_, ?_⟩
 · rw [oM hne, dE]; try rfl
 · have := hb h
   rw [aB.aM _ _ (dB (hne h))] at this ⊢
   exact this
 · cases l' with
   | nil => simp only [aZ, aB.aO]
   | cons y l => rw [pP (hne (by simp)), aB.aO]
theorem gC {S : aB} {c b x : Nat} {hd l : List AV} (hb : l ≠ [] → (S.aC c (.cells (hd ++ [a9 4 b l]))) b = none) (hx : S x ≠ none) (hxc : x ≠ c) : eV S c b hd l x = S x := by
 unfold eV
 cases l with
 | nil => simp only [aZ, aB.aM _ _ hxc]
 | cons y l =>
  have h := hb (by simp)
  have hne : x ≠ b := fun e => by
   rw [← e, aB.aM _ _ hxc] at h
   exact hx h
  rw [pP hne, aB.aM _ _ hxc]
theorem j0 {S : aB} {c b x : Nat} {hd l : List AV} {o : AO} (hb : l ≠ [] → (S.aC c (.cells (hd ++ [a9 4 b l]))) b = none) (hx : S x ≠ none) (hxc : x ≠ c) : (eV S c b hd l).aC x o = aZ ((S.aC c (.cells (hd ++ [a9 4 b l]))).aC x o) b l ∧ (l ≠ [] → ((S.aC c (.cells (hd ++ [a9 4 b l]))).aC x o) b = none) := by
 have hne : l ≠ [] → x ≠ b := fun h e => by
  have := hb h
  rw [← e, aB.aM _ _ hxc] at this
  exact hx this
 refine ⟨by unfold eV; rw [oM hne], fun h => by rw [aB.aM _ _ (dB (hne h))]; exact hb h⟩
theorem pL {S : aB} {c b x : Nat} {hd l : List AV} {o : AO} (hb : l ≠ [] → (S.aC c (.cells (hd ++ [a9 4 b l]))) b = none) (hx : S x ≠ none) (hxc : x ≠ c) :
 (eV S c b hd l).aC x o = eV (S.aC x o) c b hd l ∧ (l ≠ [] → ((S.aC x o).aC c (.cells (hd ++ [a9 4 b l]))) b = none) := by
 have hne : l ≠ [] → x ≠ b := fun h e => by
  have := hb h
  rw [← e, aB.aM _ _ hxc] at this
  exact hx this
 refine ⟨by unfold eV; rw [oM hne, aB.nK _ _ _ (dB hxc)], fun h => ?_⟩
 have := hb h
 rw [aB.nK _ _ _ hxc, aB.aM _ _ (dB (hne h))]
 exact this
theorem aT1 {S T : aB} {c b : Nat} {hd l : List AV} (D : aL (S.aC c (.cells (hd ++ [a9 4 b l]))) T) (hb : l ≠ [] → (S.aC c (.cells (hd ++ [a9 4 b l]))) b = none) : aL (eV S c b hd l) T :=
 D.aZ fun h => (D b).1 (hb h)
theorem aB.t6 {st : aB} {b c : Nat} {a z a' : AO} (h : b ≠ c) : ((st.aC c a).aC b z).aC c a' = (st.aC b z).aC c a' := by rw [aB.nK _ _ _ (dB h), dE]
theorem dR (l : List Tm) : ∀ e ∈ l.map Tm.av, e.width = 4 := by intro e h; simp only [cU] at h; obtain ⟨t, _, rfl⟩ := h; exact aH t
theorem hH (l : List Tm) : ∀ e ∈ l.map Tm.av, e.cB = false := by intro e h; simp only [cU] at h; obtain ⟨t, _, rfl⟩ := h; exact cG t
end Go.AW
namespace Go.AW
open Go.Proofs.Tryz
mutual
def Tm.small : Tm → Bool
 | .mk _ _ _ ts => decide (ts.length ≤ 1048576) && E6 ts
def E6 : List Tm → Bool
 | [] => true
 | t :: ts => t.small && E6 ts
end
theorem ES : ∀ (ts : List Tm), E6 ts = ts.all Tm.small
 | [] => rfl
 | t :: ts => by simp only [E6, kE, ES ts]
theorem Tm.oD {k n : Int} {s : ByteArray} {ts : List Tm} (h : (Tm.mk k n s ts).small = true) : ts.length ≤ 1048576 ∧ ∀ x ∈ ts, x.small = true := by
 simpa [Tm.small, ES] using h
abbrev HW := zi tI_3 (zi zI_3 (zi aX (zi tI_31 (zi zI_31 (zi aN (zi bF (zi bE (zi b9 (zi tI_63 (zi zI_63 (zi bS (zi bR (zi bP (zi bQ bT))))))))))))))
theorem aGL (l : List Tm) (st : aB) (hb : l.length ≤ 1048576) (hc : ∀ x ∈ l, ∀ (st : aB), aD prog 117 [Tm.av x] st (Made st (Tm.av x))) :
 aD prog 78 [.slice (l.map Tm.av)] st (Made st (.slice (l.map Tm.av))) := by
 have hws : ∀ e ∈ l.map Tm.av, e.width = 4 := fun e he => by simp only [cU] at he; obtain ⟨t, _, rfl⟩ := he; exact aH t
 refine wF [] 1 func78 ntmps78 rfl rfl ?_
 intro _
 simp -implicitDefEqProofs only [aF, aA, seval, HW]
 refine eK (σ := List AV × List Nat × Nat × aB) [] [2, 6, 7] l (fun i p => vB (l.map Tm.av) st i p.1 p.2.1 p.2.2.1 p.2.2.2) (fun i p => [(3, a9 4 p.2.2.1 p.1), (8, .int .i64 i)]) (fun _ p => p.2.2.2) (by decide +kernel)
  ⟨([], [], 0, st), vB.start, aP.mk (by simp -implicitDefEqProofs only [jH, aA, ↓aU, seval])⟩ (fun i x p hx hlt bU hdr hinv => ?_) (fun p hge hinv => ?_)
 case refine_2 =>
  obtain ⟨os, bs, b, s⟩ := p
  simp -implicitDefEqProofs only [hge, aA, seval]
  exact hinv.done (aF _) hws
 obtain ⟨os, bs, b, s⟩ := p
 simp only at hinv
 have hw := bK (n := (i : Int) + 1)
 have v7 : ∀ zs : List AV, zs.length = 4 → aK zs 0 (Tm.av x).cells = (Tm.av x).cells := fun zs h => yT (bO x) h
 simp -implicitDefEqProofs only [bU, bL (av := Tm.av) aN hx (aH x), aT, aH, bO, bZ, dE, v7, aA, seval, HW]
 intro b2 hb2
 try simp -implicitDefEqProofs only [sZ, bO, d8 (bO x), eD (aT x), c7, v7, dE, bZ, aA, ↓aU, seval, HW]
 refine (hc x (cW hx) _).mono ?_
 rintro r s2 ⟨bx, m1, m2, m3, m4⟩
 obtain ⟨f1, f2, f3⟩ := m3.aNJ (aH x) (bZ x)
 have hra : r.isAgg = true := by rw [(cL.shape m3).1, aT]
 have hrj : r.cB = false := (cL.shape m3).2.2.1
 simp -implicitDefEqProofs only [f1, hra, hrj, aA, seval, HW]
 have hlen : os.length = i := hinv.1
 have aU6 : ∀ e ∈ os, e.width = 4 := fun e he => by
  obtain ⟨k, hk, rfl⟩ := List.getElem_of_mem he
  exact hinv.2.1.aDC (fun q hq => hws q (lW hq)) _ he
 have hkb : os ≠ [] → s2 b = some (.cells (os.flatMap AV.cells)) := fun hne => by
  have h := (hinv.2.2.2.2.1 hne).2.2
  have hbx : b ∉ bx := fun hq => by
   have := m2 b hq
   have EW : b ≠ b2 := fun e => by rw [e, hb2] at h; cases h
   rw [aB.aM _ _ EW, h] at this; cases this
  have EW : b ≠ b2 := fun e => by rw [e, hb2] at h; cases h
  rw [m4 b hbx, aB.aM _ _ EW, h]
 refine aRQ aN bF bE rfl rfl (fC f1 f3) aU6 hkb (by simp only [aS, a7, hlen]; omega) (by simp only [aS, a7, hlen]; omega) (fun b' s' k1 k2 k3 k4 => ?_)
 have iK := hinv.step hb2 (show (l.map Tm.av)[i]? = some (Tm.av x) by rw [oT, hx]; try rfl) m1 m2 m3 m4 (k1 (by simp)) (k2 (by simp)) (fun q h1 h2 => k3 q (fun _ => h1) h2) k4
 simp -implicitDefEqProofs only [hw, aA, seval]
 exact ⟨(os ++ [r], bs ++ bx, b', s'.erase b2), iK, aP.drop (jJ _ _) (by simp -implicitDefEqProofs only [aA, seval])⟩
abbrev aJV := zi tI_31 (zi zI_31 (zi aN (zi bF (zi bE (zi b9 (zi tI_63 (zi zI_63 (zi bS (zi bR (zi bP (zi bQ bT)))))))))))
theorem aKY : ∀ (t : Tm) (st : aB), t.small = true → aD prog 117 [t.av] st (Made st t.av)
 | .mk k n s ts, st, hb => by
  obtain ⟨hb1, hb2⟩ := Tm.oD hb
  have hc := fun st => aGL ts st hb1 fun x hx st => aKY x st (hb2 x hx)
  refine aD.aV1 ?_
  refine wF [1] 1 func117 ntmps117 rfl rfl ?_
  intro _
  simp only [aV]
  simp -implicitDefEqProofs only [aA, seval, aJV]
  intro b aNI b2 KG
  have hne : b2 ≠ b := by rintro rfl; rw [aB.aO] at KG; cases KG
  have hn2 : st b2 = none := by rw [aB.aM st _ hne] at KG; exact KG
  simp -implicitDefEqProofs only [sZ, hne.symm, aA, seval]
  refine (hc _).mono ?_
  rintro q s2 ⟨bs, m1, m2, m3, m4⟩
  have hbb : b ∉ bs := fun h => by have := m2 b h; simp [sZ, hne.symm] at this
  have HV : b2 ∉ bs := fun h => by have := m2 b2 h; simp [sZ] at this
  have e1 := m4 b hbb
  have e2 := m4 b2 HV
  simp only [sZ, hne, hne.symm, fY, dZ] at e1 e2
  have hqc : q.cells = [q] := by have := (cL.shape m3).1; cases q <;> first | rfl | simp [AV.isAgg] at this
  have hqs : q.storable = true := by
   have := m3
   simp only [cL] at this
   rcases this with ⟨_, rfl, _⟩ | ⟨_, _, _, _, rfl, _⟩ <;> rfl
  simp -implicitDefEqProofs only [sZ, hne, e1, e2, hqc, hqs, aK, aA, seval, aJV]
  refine ⟨[b, b2], bs, m1, fun x hx => ?_, ?_, ?_, ?_⟩
  · have := m2 x hx
    have h1 : x ≠ b := fun e => hbb (e ▸ hx)
    have h2 : x ≠ b2 := fun e => HV (e ▸ hx)
    simpa [sZ, h1, h2] using this
  · simp [aNI, hn2, hbb, HV]
  · rw [← aV]
    refine aXG.2 ⟨q, rfl, cL.a8 _ _ _ (fun x hx => ?_) m3⟩
    have h1 : x ≠ b := fun e => hbb (e ▸ hx)
    have h2 : x ≠ b2 := fun e => HV (e ▸ hx)
    simp only [sZ, h1, h2, dZ]
  · intro x hx hd
    simp only [cY, dP, d4, not_or] at hd
    simp only [sZ, hd.1, hd.2, dZ]
    rw [m4 x hx]
    simp only [sZ, hd.1, hd.2, dZ]
termination_by t => SizeOf.sizeOf t
decreasing_by have := List.sizeOf_lt_of_mem hx; simp only [Tm.mk.sizeOf_spec]; omega
abbrev yY := zi tI_3 (zi zI_3 (zi aX (zi tI_9 (zi zI_9 (zi cH (zi tI_31 (zi zI_31 (zi aN (zi bF (zi bE (zi b9 (zi tI_63 (zi zI_63 (zi bS (zi bR (zi bP (zi bQ bT)))))))))))))))))
theorem xT : ∀ (t : Tm) (st : aB), t.small = true → aD prog 81 [t.av] st (fun r st' => r = t.av ∧ st' = st)
 | .mk k n s ts, st, hsm => by
  obtain ⟨hlen, oJ⟩ := Tm.oD hsm
  have IH := fun (x : Tm) (hx : x ∈ ts) st => xT x st (oJ x hx)
  refine aD.pR (aD.fin ?_)
  simp only [aV]
  refine wF [] 1 func81 ntmps81 rfl rfl ?_
  simp only [eE, AV.fits, eM, aF]
  intro ⟨_, _, _, hl, _⟩
  simp -implicitDefEqProofs only [aA, seval, yY]
  intro b2 hb2 c hc
  have hne : c ≠ b2 := by rintro rfl; rw [aB.aO] at hc; cases hc
  have hn2 : st c = none := by rw [aB.aM st _ hne] at hc; exact hc
  simp -implicitDefEqProofs only [aK, aA, seval]
  refine eK (σ := Nat) [] [1, 2, 3] ts (fun i b => (((ts.take i).map (fun y => y)).map Tm.av ≠ [] → (aB.aC (st.aC b2 (.cells [AV.int .i64 0, AV.int .i64 0, AV.str ⟨#[]⟩, AV.fslice []])) c (.cells ([AV.int .i64 k, AV.int .i64 n, AV.str s] ++ [a9 4 b (((ts.take i).map (fun y => y)).map Tm.av)]))) b = none)) (fun i b => [(4, .int .i64 i)]) (fun i b => eV (st.aC b2 (.cells [AV.int .i64 0, AV.int .i64 0, AV.str ⟨#[]⟩, AV.fslice []])) c b [AV.int .i64 k, AV.int .i64 n, AV.str s] (((ts.take i).map (fun y => y)).map Tm.av)) (by decide +kernel)
   ⟨0, fun h => absurd rfl h, aP.mk (by simp -implicitDefEqProofs only [aA, ↓aU, seval])⟩ (fun i x b hx hlt bU hdr hinv => ?_) (fun b hge hinv => ?_)
  case refine_1 =>
   have hw := bK (n := (i : Int) + 1)
   have cV : (((ts.take i).map (fun y => y)).map Tm.av).length = i := by simp only [aF, d7]; omega
   have htk : (ts.take (i + 1)).map (fun y => y) = (ts.take i).map (fun y => y) ++ [(fun y => y) x] := by rw [fM, hx]; simp
   have hbo := eC hinv
   simp -implicitDefEqProofs only [aF, bU, aA, seval, yY]
   refine wP [(0, 1), (2, 1), (4, 1), (1, 2), (3, 2), (5, 1), (6, 2), (7, 2), (8, 1), (9, 0), (10, 1), (11, 0)] [0, 2, 4, 1, 3, 5, 6, 7, 8, 10] mixed ?_
   simp -implicitDefEqProofs only [bL (av := Tm.av) aN hx (aH x), aT, aH, hbo, mD, gV, aA, seval, yY]
   refine i8 (IH x (cW hx) _) ?_
   simp -implicitDefEqProofs only [aT, aH, cG, gV, aA, seval, yY]
   refine eN aN bF bE rfl rfl (fC (aH _) (bZ _)) (dR _) hinv (by simp only [cV, aS, a7]; omega) (by simp only [cV, aS, a7]; omega) (fun b' hb' => ?_)
   rw [show (((ts.take i).map (fun y => y)).map Tm.av) ++ [((fun y => y) x).av] = ((ts.take (i + 1)).map (fun y => y)).map Tm.av by rw [htk]; simp] at hb' ⊢
   obtain ⟨g1, g2, g3⟩ := nG hb'
   simp only [fF, eR] at g1 g3
   simp -implicitDefEqProofs only [g3, mB, eU, aK, g1, hw, aA, seval, yY]
   exact ⟨b', g2, aP.mk (by simp -implicitDefEqProofs only [aA, seval])⟩
  have hbo := eC hinv
  rw [eS] at hinv hbo ⊢
  simp -implicitDefEqProofs only [aF, hge, aA, seval, yY]
  simp -implicitDefEqProofs only [hbo, aA, seval, yY]
  have m7 : b2 ≠ c := dB hne
  have hS : (st.aC b2 (.cells [AV.int .i64 0, AV.int .i64 0, AV.str ⟨#[]⟩, AV.fslice []])) b2 ≠ none := by rw [aB.aO]; simp
  have h1 := gC hinv hS m7
  rw [aB.aO] at h1
  simp -implicitDefEqProofs only [h1, eU, aK, aA, seval]
  obtain ⟨h2, h3⟩ := j0 (o := .cells [AV.int .i64 k, AV.int .i64 n, AV.str s, a9 4 b ((ts.map fun y => y).map Tm.av)]) hinv hS m7
  refine ⟨b, _, _, h2, h3, hH _, ⟨4, dR _⟩, ?_, ?_⟩
  · simp only [fL, bA, aW, d9, iO, iG, List.map_id']
  · exact (((aL.refl _).aC hb2).aC hn2).aC hb2
termination_by t => SizeOf.sizeOf t
decreasing_by have := List.sizeOf_lt_of_mem hx; simp only [Tm.mk.sizeOf_spec]; omega
end Go.AW
namespace Go.AW
def Tm.k : Tm → Int | .mk k _ _ _ => k
def Tm.n : Tm → Int | .mk _ n _ _ => n
def Tm.s : Tm → ByteArray | .mk _ _ s _ => s
def Tm.ts : Tm → List Tm | .mk _ _ _ ts => ts
theorem Tm.eta (t : Tm) : t = .mk t.k t.n t.s t.ts := by cases t; rfl
def vr (n : Int) : Tm := .mk 1 n ⟨#[]⟩ []
mutual
def Tm.aJ (f : Int → Tm) : Tm → Tm
 | .mk k n s ts => if k = 1 then f n else .mk k n s (H6 f ts)
def H6 (f : Int → Tm) : List Tm → List Tm
 | [] => []
 | t :: ts => t.aJ f :: H6 f ts
end
theorem aJ8 (f : Int → Tm) : ∀ ts : List Tm, H6 f ts = ts.map (Tm.aJ f)
 | [] => rfl
 | t :: ts => by simp only [H6, bA, aJ8 f ts]
theorem Tm.mC (f : Int → Tm) {k n : Int} {s : ByteArray} {ts : List Tm} (h : k = 1) : (Tm.mk k n s ts).aJ f = f n := by simp only [Tm.aJ, h, fY]
theorem Tm.lA (f : Int → Tm) {k n : Int} {s : ByteArray} {ts : List Tm} (h : k ≠ 1) : (Tm.mk k n s ts).aJ f = .mk k n s (ts.map (Tm.aJ f)) := by simp only [Tm.aJ, h, dZ, aJ8]
theorem uB (f : Int → Tm) (n : Int) : (vr n).aJ f = f n := Tm.mC f rfl
mutual
def Tm.vl : Tm → List Int
 | .mk k n _ ts => if k = 1 then [n] else D5 ts
def D5 : List Tm → List Int
 | [] => []
 | t :: ts => t.vl ++ D5 ts
end
theorem aJO {v : Int} : ∀ {ts : List Tm}, v ∈ D5 ts ↔ ∃ t ∈ ts, v ∈ t.vl
 | [] => by simp [D5]
 | t :: ts => by simp [D5, aJO (ts := ts)]
theorem Tm.mH {k n : Int} {s : ByteArray} {ts : List Tm} (h : k = 1) : (Tm.mk k n s ts).vl = [n] := by simp only [Tm.vl, h, fY]
theorem Tm.kM {k n v : Int} {s : ByteArray} {ts : List Tm} (h : k ≠ 1) : v ∈ (Tm.mk k n s ts).vl ↔ ∃ t ∈ ts, v ∈ t.vl := by simp only [Tm.vl, h, dZ, aJO]
theorem wD (n : Int) : (vr n).vl = [n] := Tm.mH rfl
theorem Tm.ind {p : Tm → Prop} (h : ∀ k n s ts, (∀ t ∈ ts, p t) → p (.mk k n s ts)) : ∀ t, p t
 | .mk k n s ts => h k n s ts fun t ht => Tm.ind h t
termination_by t => SizeOf.sizeOf t
decreasing_by have := List.sizeOf_lt_of_mem ht; simp only [Tm.mk.sizeOf_spec]; omega
theorem oZ {f g : Int → Tm} : ∀ (t : Tm), (∀ v ∈ t.vl, f v = g v) → t.aJ f = t.aJ g := by
 intro t
 induction t using Tm.ind with
 | h k n s ts ih =>
  intro h
  by_cases hk : k = 1
  · rw [Tm.mC f hk, Tm.mC g hk]; exact h n (by rw [Tm.mH hk]; simp)
  · rw [Tm.lA f hk, Tm.lA g hk]
    congr 1
    exact qY fun x hx => ih x hx fun v hv => h v ((Tm.kM hk).2 ⟨x, hx, hv⟩)
theorem w8 (f g : Int → Tm) (t : Tm) : (t.aJ f).aJ g = t.aJ fun v => (f v).aJ g := by
 induction t using Tm.ind with
 | h k n s ts ih =>
  by_cases hk : k = 1
  · rw [Tm.mC f hk, Tm.mC _ hk]
  · rw [Tm.lA f hk, Tm.lA g hk, Tm.lA _ hk, xR]
    congr 1
    exact qY fun x hx => ih x hx
theorem w4 {f : Int → Tm} {w : Int} (t : Tm) : w ∈ (t.aJ f).vl ↔ ∃ v ∈ t.vl, w ∈ (f v).vl := by
 induction t using Tm.ind with
 | h k n s ts ih =>
  by_cases hk : k = 1
  · rw [Tm.mC f hk, Tm.mH hk]; simp
  · rw [Tm.lA f hk, Tm.kM hk]
    constructor
    · rintro ⟨x, hx, hw⟩
      obtain ⟨y, hy, rfl⟩ := cU.1 hx
      obtain ⟨v, hv, hvw⟩ := (ih y hy).1 hw
      exact ⟨v, (Tm.kM hk).2 ⟨y, hy, hv⟩, hvw⟩
    · rintro ⟨v, hv, hw⟩
      obtain ⟨y, hy, hvy⟩ := (Tm.kM hk).1 hv
      exact ⟨_, cU.2 ⟨y, hy, rfl⟩, (ih y hy).2 ⟨v, hvy, hw⟩⟩
theorem a0H {f : Int → Tm} {v : Int} : ∀ (t : Tm), v ∈ t.vl → (f v).nodes ≤ (t.aJ f).nodes ∧ (t.k ≠ 1 → (f v).nodes < (t.aJ f).nodes) := by
 intro t
 induction t using Tm.ind with
 | h k n s ts ih =>
  intro hv
  by_cases hk : k = 1
  · rw [Tm.mH hk] at hv
    simp only [cY, dP, d4] at hv
    subst hv
    rw [Tm.mC f hk]
    exact ⟨c7 _, fun h => absurd hk h⟩
  · obtain ⟨x, hx, hvx⟩ := (Tm.kM hk).1 hv
    have h1 := (ih x hx hvx).1
    have h2 := ER (f := Tm.nodes) (cU.2 ⟨x, hx, rfl⟩ : x.aJ f ∈ ts.map (Tm.aJ f))
    rw [Tm.lA f hk, Tm.gN]
    omega
abbrev Sub := Int → Option Tm
def Sub.set (σ : Sub) (n : Int) (t : Tm) : Sub := fun m => if m = n then some t else σ m
def Sub.none : Sub := fun _ => Option.none
structure Good (σ : Sub) (R : Int → Tm) (rk : Int → Nat) (B : Nat) : Prop where
 uH : ∀ n, R n = match σ n with | some u => u.aJ R | .none => vr n
 FM : ∀ n u, σ n = some u → ∀ w ∈ u.vl, rk w < rk n
 bd : ∀ n, rk n < B
def qB (θ : Int → Tm) (σ : Sub) : Prop := ∀ n u, σ n = some u → θ n = u.aJ θ
section
variable {σ : Sub} {R R' : Int → Tm} {rk rk' : Int → Nat} {B B' : Nat}
theorem Good.none : Good Sub.none vr (fun _ => 0) 1 := ⟨fun n => rfl, fun n u h => (by cases h), fun n => Nat.zero_lt_one⟩
theorem Good.free (G : Good σ R rk B) {n : Int} (h : σ n = .none) : R n = vr n := by rw [G.uH n, h]
theorem Good.bound (G : Good σ R rk B) {n : Int} {u : Tm} (h : σ n = some u) : R n = u.aJ R := by rw [G.uH n, h]
theorem Good.uW (G : Good σ R rk B) : qB R σ := fun n u h => G.bound h
theorem Good.ind (G : Good σ R rk B) {p : Int → Prop} (h0 : ∀ n, σ n = .none → p n) (h1 : ∀ n u, σ n = some u → (∀ w ∈ u.vl, p w) → p n) : ∀ n, p n := by
 intro n
 generalize hk : rk n = k
 induction k using Nat.strongRecOn generalizing n with
 | _ k ih =>
  cases h : σ n with
  | none => exact h0 n h
  | some u => exact h1 n u h fun w hw => ih (rk w) (hk ▸ G.FM n u h w hw) w rfl
theorem Good.uniq (G : Good σ R rk B) (G' : Good σ R' rk' B') : R = R' := by
 funext n
 refine G.ind (p := fun n => R n = R' n) (fun n h => ?_) (fun n u h ih => ?_) n
 · rw [G.free h, G'.free h]
 · rw [G.bound h, G'.bound h]; exact oZ u ih
theorem Good.aZJ (G : Good σ R rk B) {θ : Int → Tm} (S : qB θ σ) (n : Int) : (R n).aJ θ = θ n := by
 refine G.ind (p := fun n => (R n).aJ θ = θ n) (fun n h => ?_) (fun n u h ih => ?_) n
 · rw [G.free h, uB]
 · rw [G.bound h, w8, S n u h]; exact oZ u ih
theorem Good.MU (G : Good σ R rk B) {θ : Int → Tm} (S : qB θ σ) (t : Tm) : (t.aJ R).aJ θ = t.aJ θ := by
 rw [w8]; exact oZ t fun v _ => G.aZJ S v
theorem Good.canon (G : Good σ R rk B) (n : Int) : (R n).aJ vr = R n := by
 refine G.ind (p := fun n => (R n).aJ vr = R n) (fun n h => ?_) (fun n u h ih => ?_) n
 · rw [G.free h, uB]
 · rw [G.bound h, w8]; exact oZ u ih
theorem Good.aM9 (G : Good σ R rk B) (t : Tm) : (t.aJ R).aJ vr = t.aJ R := by
 rw [w8]; exact oZ t fun v _ => G.canon v
theorem Good.bind (G : Good σ R rk B) {n : Int} {t : Tm} (hn : σ n = .none) (ho : n ∉ (t.aJ R).vl) :
 ∃ rk' B', Good (σ.set n t) (fun m => (R m).aJ fun v => if v = n then t.aJ R else vr v) rk' B' := by
 have key : (t.aJ R).aJ (fun v => if v = n then t.aJ R else vr v) = t.aJ R := by
  rw [oZ (g := vr) (t.aJ R) (fun v hv => aE fun e => ho (by rw [← e]; exact hv)), G.aM9]
 refine ⟨fun v => if n ∈ (R v).vl then rk v + B else rk v, B + B, fun m => ?_, fun m u h w hw => ?_, fun m => ?_⟩
 · by_cases hm : m = n
   · subst hm
     simp only [Sub.set, fY]
     rw [G.free hn, uB, aG rfl]
     rw [← w8, key]
   · simp only [Sub.set, hm, dZ]
     cases h : σ m with
     | none => rw [G.free h, uB, aE hm]
     | some u => rw [G.bound h, w8]
 · by_cases hm : m = n
   · subst hm
     simp only [Sub.set, fY, Option.some.injEq] at h
     subst h
     have hw' : m ∉ (R w).vl := fun h => ho ((w4 t).2 ⟨w, hw, h⟩)
     have : m ∈ (R m).vl := by rw [G.free hn, wD]; simp
     have := G.bd w
     simp only [hw', dZ]
     rw [aG (by assumption)]
     omega
   · simp only [Sub.set, hm, dZ] at h
     have h1 := G.FM m u h w hw
     by_cases hw' : n ∈ (R w).vl
     · have : n ∈ (R m).vl := by rw [G.bound h]; exact (w4 u).2 ⟨w, hw, hw'⟩
       simp only [hw', this, fY]; omega
     · simp only [hw', dZ]; split <;> omega
 · have := G.bd m
   split <;> omega
end
open Classical in
noncomputable def rs (σ : Sub) : Int → Tm := if h : ∃ R rk B, Good σ R rk B then h.choose else vr
theorem Good.rs {σ : Sub} {R : Int → Tm} {rk : Int → Nat} {B : Nat} (G : Good σ R rk B) : rs σ = R := by
 unfold AW.rs
 have h : ∃ R rk B, Good σ R rk B := ⟨R, rk, B, G⟩
 rw [dif_pos h]
 obtain ⟨rk', B', G'⟩ := h.choose_spec
 exact G'.uniq G
inductive fP (σ : Sub) : Nat → Tm → Tm → Prop
 | stop {t : Tm} (h : t.k = 1 → σ t.n = none) : fP σ 0 t t
 | go {f : Nat} {t u v : Tm} (h1 : t.k = 1) (h2 : σ t.n = some u) (h3 : fP σ f u v) : fP σ (f + 1) t v
theorem fP.det {σ : Sub} {f g : Nat} {t u v : Tm} (h : fP σ f t u) : fP σ g t v → u = v := by
 induction h generalizing g v with
 | stop h =>
  intro h'
  cases h' with
  | stop => rfl
  | go h1 h2 h3 => rw [h h1] at h2; cases h2
 | go h1 h2 h3 ih =>
  intro h'
  cases h' with
  | stop h => rw [h h1] at h2; cases h2
  | go h1' h2' h3' => rw [h2] at h2'; cases h2'; exact ih h3'
theorem fP.total {σ : Sub} {R : Int → Tm} {rk : Int → Nat} {B : Nat} (G : Good σ R rk B) (t : Tm) : ∃ f u, fP σ f t u := by
 have key : ∀ n, ∀ t : Tm, t.k = 1 → t.n = n → ∃ f u, fP σ f t u := by
  intro n
  refine G.ind (p := fun n => ∀ t : Tm, t.k = 1 → t.n = n → ∃ f u, fP σ f t u) (fun n h t hk hn => ?_) (fun n u h ih t hk hn => ?_) n
  · exact ⟨0, t, .stop fun _ => by rw [hn, h]⟩
  · by_cases hu : u.k = 1
    · have : u.n ∈ u.vl := by rw [Tm.eta u, Tm.mH hu]; simp [Tm.n]
      obtain ⟨f, v, hv⟩ := ih u.n this u hu rfl
      exact ⟨f + 1, v, .go hk (by rw [hn, h]) hv⟩
    · exact ⟨1, u, .go hk (by rw [hn, h]) (.stop fun h => absurd h hu)⟩
 by_cases hk : t.k = 1
 · exact key t.n t hk rfl
 · exact ⟨0, t, .stop fun h => absurd h hk⟩
theorem Tm.AS {t : Tm} (h : t.k = 1) : t.vl = [t.n] := by cases t; exact Tm.mH h
theorem Tm.B6 {t : Tm} (f : Int → Tm) (h : t.k = 1) : t.aJ f = f t.n := by cases t; exact Tm.mC f h
theorem Tm.qK {t : Tm} (f : Int → Tm) (h : t.k ≠ 1) : t.aJ f = .mk t.k t.n t.s (t.ts.map (Tm.aJ f)) := by cases t; exact Tm.lA f h
theorem fP.end {σ : Sub} {f : Nat} {t u : Tm} (h : fP σ f t u) : u.k = 1 → σ u.n = none := by induction h with | stop h => exact h | go _ _ _ ih => exact ih
theorem fP.aJ {σ : Sub} {θ : Int → Tm} (S : qB θ σ) {f : Nat} {t u : Tm} (h : fP σ f t u) : u.aJ θ = t.aJ θ := by
 induction h with
 | stop => rfl
 | go h1 h2 _ ih => rw [ih, Tm.B6 θ h1, S _ _ h2]
theorem fP.FM {σ : Sub} {R : Int → Tm} {rk : Int → Nat} {B : Nat} (G : Good σ R rk B) {f : Nat} {t u : Tm} (h : fP σ f t u) : ∀ w ∈ u.vl, ∃ v ∈ t.vl, rk w ≤ rk v ∧ (f ≠ 0 → rk w < rk v) := by
 induction h with
 | stop h => exact fun w hw => ⟨w, hw, c7 _, fun h => absurd rfl h⟩
 | @go f t u v h1 h2 _ ih =>
  intro w hw
  obtain ⟨x, hx, hle, _⟩ := ih w hw
  have := G.FM _ _ h2 x hx
  exact ⟨t.n, by rw [Tm.AS h1]; simp, by omega, fun _ => by omega⟩
theorem fP.all {σ : Sub} {p : Tm → Prop} (hp : ∀ n u, σ n = some u → p u) {f : Nat} {t u : Tm} (h : fP σ f t u) (ht : p t) : p u := by
 induction h with
 | stop => exact ht
 | go _ h2 _ ih => exact ih (hp _ _ h2)
open Classical in
noncomputable def wk (σ : Sub) (t : Tm) : Tm := if h : ∃ u f, fP σ f t u then h.choose else t
theorem fP.wk {σ : Sub} {f : Nat} {t u : Tm} (h : fP σ f t u) : wk σ t = u := by
 unfold AW.wk
 have h' : ∃ u f, fP σ f t u := ⟨u, f, h⟩
 rw [dif_pos h']
 obtain ⟨g, hg⟩ := h'.choose_spec
 exact hg.det h
theorem Good.wk {σ : Sub} {R : Int → Tm} {rk : Int → Nat} {B : Nat} (G : Good σ R rk B) (t : Tm) : ∃ f, fP σ f t (wk σ t) := by
 obtain ⟨f, u, h⟩ := fP.total G t
 exact ⟨f, by rw [h.wk]; exact h⟩
open Classical in
noncomputable def jO (σ : Sub) (n : Int) (t : Tm) : Bool × Sub × List Int := if n ∈ (t.aJ (rs σ)).vl then (false, σ, []) else (true, σ.set n t, [n])
open Classical in
def sV (a b : Tm) : Bool := decide (a.k = b.k) && decide (a.n = b.n) && decide (a.s = b.s) && decide (a.ts.length = b.ts.length)
mutual
noncomputable def dD : Nat → Sub → Tm → Tm → Option (Bool × Sub × List Int)
 | 0, _, _, _ => none
 | g + 1, σ, a, b =>
  if (wk σ a).k = 1 ∧ (wk σ b).k = 1 ∧ (wk σ a).n = (wk σ b).n then some (true, σ, [])
  else if (wk σ a).k = 1 then some (jO σ (wk σ a).n (wk σ b))
  else if (wk σ b).k = 1 then some (jO σ (wk σ b).n (wk σ a))
  else if sV (wk σ a) (wk σ b) = true then dU g σ (wk σ a).ts (wk σ b).ts
  else some (false, σ, [])
termination_by g => (g, 0)
noncomputable def dU : Nat → Sub → List Tm → List Tm → Option (Bool × Sub × List Int)
 | g, σ, a :: xs, b :: ys => match dD g σ a b with
  | none => none
  | some (false, σ', tr) => some (false, σ', tr)
  | some (true, σ', tr) => match dU g σ' xs ys with
   | none => none
   | some (r, σ'', tr') => some (r, σ'', tr ++ tr')
 | _, σ, _, _ => some (true, σ, [])
termination_by g _ xs => (g, xs.length + 1)
end
theorem I6 {g : Nat} {σ σ' : Sub} {a b : Tm} {r : Bool} {add : List Int} (h : dD (g + 1) σ a b = some (r, σ', add)) :
 ((wk σ a).k = 1 ∧ (wk σ b).k = 1 ∧ (wk σ a).n = (wk σ b).n ∧ true = r ∧ σ = σ' ∧ [] = add) ∨
 ((wk σ a).k = 1 ∧ ¬((wk σ b).k = 1 ∧ (wk σ a).n = (wk σ b).n) ∧ jO σ (wk σ a).n (wk σ b) = (r, σ', add)) ∨
 ((wk σ a).k ≠ 1 ∧ (wk σ b).k = 1 ∧ jO σ (wk σ b).n (wk σ a) = (r, σ', add)) ∨
 ((wk σ a).k ≠ 1 ∧ (wk σ b).k ≠ 1 ∧ sV (wk σ a) (wk σ b) = true ∧ dU g σ (wk σ a).ts (wk σ b).ts = some (r, σ', add)) ∨
 ((wk σ a).k ≠ 1 ∧ (wk σ b).k ≠ 1 ∧ sV (wk σ a) (wk σ b) = false ∧ false = r ∧ σ = σ' ∧ [] = add) := by
 rw [dD] at h
 split at h
 · rename_i h1; exact .inl ⟨h1.1, h1.2.1, h1.2.2, by simpa using h⟩
 · rename_i h1
   split at h
   · rename_i h2; exact .inr (.inl ⟨h2, fun h3 => h1 ⟨h2, h3⟩, nD h⟩)
   · rename_i h2
     split at h
     · rename_i h3; exact .inr (.inr (.inl ⟨h2, h3, nD h⟩))
     · rename_i h3
       split at h
       · rename_i h4; exact .inr (.inr (.inr (.inl ⟨h2, h3, h4, h⟩)))
       · rename_i h4; exact .inr (.inr (.inr (.inr ⟨h2, h3, by simpa using h4, by simpa using h⟩)))
theorem Tm.soft (t : Tm) : t.av.soft = t.av := by cases t; simp [aV, AV.soft, gP]
theorem Tm.uK (t : Tm) (b : Nat) : t.av.fin b [] = t.av := Tm.soft t
abbrev Bd := Int × Tm
def UL : List Bd → Int → Option Tm
 | [], _ => none
 | (m, x) :: r, n => if m = n then some x else UL r n
def M5 (bs : List Bd) (n : Int) : Tm := (UL bs n).getD (vr n)
def Tm.zero : Tm := .mk 0 0 ⟨#[]⟩ []
mutual
def Tm.cv : Tm → Bool
 | .mk k _ s ts => (!decide (k = 1) || (decide (s = ⟨#[]⟩) && ts.isEmpty)) && II ts
def II : List Tm → Bool
 | [] => true
 | t :: ts => t.cv && II ts
end
theorem UV : ∀ (ts : List Tm), II ts = ts.all Tm.cv
 | [] => rfl
 | t :: ts => by simp only [II, kE, UV ts]
theorem Tm.nM {k n : Int} {s : ByteArray} {ts : List Tm} : (Tm.mk k n s ts).cv = true ↔ (k = 1 → s = ⟨#[]⟩ ∧ ts = []) ∧ ∀ x ∈ ts, x.cv = true := by
 simp only [Tm.cv, UV, cM, qZ, lX, dH, List.isEmpty_iff, eW, bJ]
 constructor
 · exact fun h => ⟨fun hk => h.1.resolve_left (fun hn => hn hk), h.2⟩
 · intro h
   refine ⟨?_, h.2⟩
   by_cases hk : k = 1
   · exact .inr (h.1 hk)
   · exact .inl hk
theorem Tm.sN : ∀ (t : Tm), t.cv = true → t.wf = true := by
 intro t
 induction t using Tm.ind with
 | h k n s ts ih =>
  intro h
  obtain ⟨h1, h2⟩ := Tm.nM.1 h
  simp only [Tm.wf, QF, cM, qZ, lX, dH, List.isEmpty_iff, eW]
  refine ⟨?_, fun x hx => ih x hx (h2 x hx)⟩
  by_cases hk : k = 1
  · exact .inr (h1 hk).2
  · exact .inl hk
theorem Tm.aR9 : ∀ (t : Tm) (d : Int), t.shape d = true → t.small = true := by
 intro t
 induction t using Tm.ind with
 | h k n s ts ih =>
  intro d h
  rw [Tm.BH] at h
  simp only [cM, eW] at h
  obtain ⟨⟨_, h1⟩, h2⟩ := h
  simp only [Tm.small, ES, cM, bJ, eW]
  refine ⟨?_, fun x hx => ih x hx _ (h2 x hx)⟩
  unfold eF at h1
  cases h3 : decide (k = 1) <;> rw [h3] at h1
  · cases h4 : decide (k = 2) <;> rw [h4] at h1
    · cases h5 : decide (k = 3) <;> rw [h5] at h1 <;> simp at h1; omega
    · simp at h1; rw [h1.2]; simp
  · simp at h1; rw [h1.2]; simp
theorem Tm.aPX {t : Tm} (h : t.valid = true) : t.small = true := by simp only [Tm.valid, cM] at h; exact Tm.aR9 t 30 h.1
def rU {α : Type} (p : α → Bool) : List α → Int → Int
 | [], _ => -1
 | x :: xs, i => if p x = true then i else rU p xs (i + 1)
theorem aE0 {α : Type} (p : α → Bool) : ∀ (l : List α) (i : Int), 0 ≤ i → (rU p l i = -1 ∧ l.any p = false) ∨ ∃ (j : Nat) (x : α), rU p l i = i + j ∧ l[j]? = some x ∧ p x = true ∧ l.any p = true ∧ ∀ (k : Nat) y, k < j → l[k]? = some y → p y = false
 | [], i, _ => .inl ⟨rfl, rfl⟩
 | x :: xs, i, h => by
  by_cases hp : p x = true
  · exact .inr ⟨0, x, by simp [rU, hp], rfl, hp, by simp [hp], fun k y hk => absurd hk (Nat.not_lt_zero k)⟩
  · rcases aE0 p xs (i + 1) (by omega) with ⟨h1, h2⟩ | ⟨j, y, h1, h2, h3, h4, h5⟩
    · exact .inl ⟨by simp [rU, hp, h1], by simp [hp, h2]⟩
    · refine .inr ⟨j + 1, y, by simp only [rU, hp, h1]; simp; omega, by simpa using h2, h3, by simp [h4], fun k z hk hz => ?_⟩
      cases k with
      | zero => simp at hz; subst hz; simpa using hp
      | succ k => exact h5 k z (by omega) (by simpa using hz)
theorem aWR {α : Type} (p : α → Bool) (l : List α) : decide (0 ≤ rU p l 0) = l.any p := by
 rcases aE0 p l 0 (Int.le_refl 0) with ⟨h1, h2⟩ | ⟨j, y, h1, _, _, h4, _⟩
 · rw [h1, h2]; try rfl
 · rw [h1, h4]; simp
end Go.AW
namespace Go.AW
open Go.Proofs.Tryz
abbrev aYY := zi tI_3 (zi zI_3 (zi aX (zi tI_4 (zi zI_4 (zi cF (zi tI_9 (zi zI_9 (zi cH (zi tI_31 (zi zI_31 (zi aN (zi bF (zi bE (zi b9 (zi tI_63 (zi zI_63 (zi bS (zi bR (zi bP (zi bQ bT))))))))))))))))))))
theorem aSQ (k n : Int) (s : ByteArray) (ts : List Tm) (st : aB) : aD prog 176 [(Tm.mk k n s ts).av] st (fun r st' => r = .bool (eF k n s ts.length) ∧ st' = st) := by
 refine wF [] 1 func176 ntmps176 rfl rfl ?_
 intro _
 simp only [aV]
 have hl : (ts.map Tm.av).length = ts.length := aF _
 repeat' (first
  | (simp -implicitDefEqProofs only [*, aA, seval, aYY])
  | (refine cS (fun h => ?_) (fun h => ?_))
  | (refine (aWY s st).to ?_)
  | (refine aQ (fun h => ?_) (fun h => ?_)))
 all_goals simp only [eF, *, cond_true, AA, oU, eT, gK, tV, DB]
abbrev KZ := zi tI_3 (zi zI_3 (zi aX (zi tI_4 (zi zI_4 (zi cF (zi tI_31 (zi zI_31 (zi aN (zi bF (zi bE (zi b9 (zi tI_63 (zi zI_63 (zi bS (zi bR (zi bP (zi bQ bT)))))))))))))))))
theorem aHD : ∀ (t : Tm) (d : Int) (st : aB), d ≤ 30 → -1 ≤ d → aD prog 135 [t.av, .int .i64 d] st (fun r st' => r = .bool (t.shape d) ∧ st' = st)
 | .mk k n s ts, d, st, hd, hd0 => by
  have hc := fun (x : Tm) (hx : x ∈ ts) d st h h0 => aHD x d st h h0
  have h1 := aSQ k n s ts st
  rw [aV] at h1
  refine wF [] 2 func135 ntmps135 rfl rfl ?_
  simp only [aV, eE, AV.fits, eM, aF, Tm.BH]
  intro ⟨_, _, _, hl, _⟩
  generalize eF k n s ts.length = z at *
  simp -implicitDefEqProofs only [aA, seval, KZ]
  refine cS (fun h => ?_) (fun h => ?_)
  case refine_2 =>
   simp -implicitDefEqProofs only [h, aA, seval]
   simp only [nY, bJ] at h
   simp; omega
  simp -implicitDefEqProofs only [h, aA, seval, KZ]
  refine h1.to ?_
  simp -implicitDefEqProofs only [aA, seval]
  refine ⟨fun h2 => ?_, fun h2 => ?_⟩
  · simp -implicitDefEqProofs only [aA, seval]
    simp only [lX] at h2
    simp [h2]
  simp only [tW, dH] at h2 h
  subst h2
  have hw := bK (n := d - 1)
  rw [show decide (1 ≤ d) = true by simp; omega]
  simp -implicitDefEqProofs only [aA, seval]
  refine uU (α := Nat) [] (fun i => i ≤ ts.length ∧ ∀ (j : Nat) x, j < i → ts[j]? = some x → x.shape (d - 1) = true)
   (fun i => [(1, .int .i64 d), (2, .pptr (.agg [.int .i64 k, .int .i64 n, .str s, .slice (ts.map Tm.av)])), (5, .int .i64 i)]) (fun _ => st) (fun i => ts.length - i) (by decide +kernel)
   ⟨0, ⟨by omega, by intro j x h; omega⟩, aP.mk (by simp -implicitDefEqProofs only [aA, ↓aU, seval])⟩ ?_
  intro i ⟨hi, dW⟩
  simp -implicitDefEqProofs only [aF, aA, seval, KZ]
  refine ⟨fun h5 => ?_, fun h5 => ?_⟩
  case refine_2 =>
   simp -implicitDefEqProofs only [aA, seval]
   simp only [dH, mQ] at h5
   rw [G4 fun j x hx => dW j x (by have := (gQ.1 hx).1; omega) hx]
  simp only [bJ, mQ] at h5
  obtain ⟨x, hx⟩ : ∃ x, ts[i]? = some x := ⟨_, fG h5⟩
  simp -implicitDefEqProofs only [bL (av := Tm.av) aN hx (aH x), aT, aH, hw, aA, seval, KZ]
  refine (hc x (cW hx) (d - 1) st (by omega) (by omega)).to ?_
  simp -implicitDefEqProofs only [aA, seval]
  refine ⟨fun h6 => ?_, fun h6 => ?_⟩
  · simp -implicitDefEqProofs only [aA, seval]
    simp only [lX] at h6
    rw [tX hx h6]
  simp only [tW] at h6
  simp -implicitDefEqProofs only [aA, seval]
  refine ⟨i + 1, by omega, ⟨by omega, fun j u hj hu => ?_⟩, aP.mk ?_⟩
  · rcases kQ j i with h8 | h8
    · exact dW j u h8 hu
    · obtain rfl : j = i := by omega
      rw [hx] at hu; cases hu; exact h6
  · have := bK (n := (i : Int) + 1)
    simp -implicitDefEqProofs only [this, aA, seval]
termination_by t => SizeOf.sizeOf t
decreasing_by have := List.sizeOf_lt_of_mem hx; simp only [Tm.mk.sizeOf_spec]; omega
abbrev LB := zi tI_3 (zi zI_3 (zi aX (zi tI_31 (zi zI_31 (zi aN (zi bF (zi bE (zi b9 (zi tI_63 (zi zI_63 (zi bS (zi bR (zi bP (zi bQ bT))))))))))))))
theorem WU : ∀ (t : Tm) (m : Int) (st : aB), 0 ≤ m → m ≤ 120 → aD prog 136 [t.av, .int .i64 m] st (fun r st' => r = .int .i64 (min (t.nodes : Int) (m + 1)) ∧ st' = st)
 | .mk k n s ts, m, st, hm0, hm => by
  have hc := fun (x : Tm) (hx : x ∈ ts) m st h h0 => WU x m st h h0
  refine wF [] 2 func136 ntmps136 rfl rfl ?_
  simp only [aV, eE, AV.fits, eM, aF, Tm.gN]
  intro ⟨_, _, _, hl, _⟩
  simp -implicitDefEqProofs only [aA, seval, LB]
  refine uU (α := Nat) [] (fun i => i ≤ ts.length)
   (fun i => [(1, .int .i64 m), (2, .pptr (.agg [.int .i64 k, .int .i64 n, .str s, .slice (ts.map Tm.av)])), (5, .int .i64 (min ((1 + bG Tm.nodes (ts.take i) : Nat) : Int) (m + 1))), (6, .int .i64 i)]) (fun _ => st) (fun i => ts.length - i) (by decide +kernel)
   ⟨0, by omega, aP.mk (by simp -implicitDefEqProofs only [kR, bG, show min ((0 : Int) + 1) (m + 1) = 1 by omega, u7, ↓K4, ↓reduceIte, reduceCtorEq, Nat.reduceEqDiff, Nat.reduceAdd])⟩ ?_
  intro i hi
  simp -implicitDefEqProofs only [aF, aA, seval, LB]
  have QU : ¬ i < ts.length → bG Tm.nodes (ts.take i) = bG Tm.nodes ts := fun h => by rw [mP (by omega)]
  refine cS (fun h5 => ?_) (fun h5 => ?_)
  case refine_2 =>
   simp -implicitDefEqProofs only [h5, aA, seval]
   simp only [oU, dH, mQ] at h5
   rw [QU h5]
  simp -implicitDefEqProofs only [h5, aA, seval]
  simp only [bJ, mQ] at h5
  obtain ⟨x, hx⟩ : ∃ x, ts[i]? = some x := ⟨_, fG h5⟩
  have hs := GG Tm.nodes hx
  refine ⟨fun h6 => ?_, fun h6 => ?_⟩
  case refine_2 =>
   simp -implicitDefEqProofs only [aA, seval]
   simp only [dH] at h6
   simp only [AV.int.injEq, sL]
   omega
  simp only [bJ] at h6
  have e6 : min (((1 + bG Tm.nodes (ts.take i) : Nat) : Int)) (m + 1) = ((1 + bG Tm.nodes (ts.take i) : Nat) : Int) := by omega
  rw [e6] at h6 ⊢
  have hw := bK (n := m - ((1 + bG Tm.nodes (ts.take i) : Nat) : Int))
  simp -implicitDefEqProofs only [bL (av := Tm.av) aN hx (aH x), aT, aH, hw, aA, seval, LB]
  refine (hc x (cW hx) _ st (by omega) (by omega)).to ?_
  have hw2 := bK (n := ((1 + bG Tm.nodes (ts.take i) : Nat) : Int) + min (x.nodes : Int) (m - ((1 + bG Tm.nodes (ts.take i) : Nat) : Int) + 1))
  simp -implicitDefEqProofs only [hw2, aA, seval]
  refine ⟨i + 1, by omega, by omega, aP.mk ?_⟩
  have := bK (n := (i : Int) + 1)
  simp -implicitDefEqProofs only [this, show ((1 + bG Tm.nodes (ts.take i) : Nat) : Int) + min (x.nodes : Int) (m - ((1 + bG Tm.nodes (ts.take i) : Nat) : Int) + 1) = min ((1 + bG Tm.nodes (ts.take (i + 1)) : Nat) : Int) (m + 1) by omega, aA, seval]
termination_by t => SizeOf.sizeOf t
decreasing_by have := List.sizeOf_lt_of_mem hx; simp only [Tm.mk.sizeOf_spec]; omega
abbrev aIZ := zi tI_3 (zi zI_3 (zi aX (zi tI_4 (zi zI_4 (zi cF (zi tI_63 (zi zI_63 (zi bS (zi bR (zi bP (zi bQ bT)))))))))))
theorem P4 (t : Tm) (st : aB) : aD prog 100 [t.av] st (fun r st' => r = .bool t.valid ∧ st' = st) := by
 refine wF [] 1 func100 ntmps100 rfl rfl ?_
 intro _
 simp -implicitDefEqProofs only [cG, aT, aH, aA, seval, aIZ]
 refine (aHD t 30 st (by omega) (by omega)).to ?_
 simp -implicitDefEqProofs only [aA, seval]
 refine cS (fun h => ?_) (fun h => ?_)
 · simp -implicitDefEqProofs only [h, aT, aH, aA, seval, aIZ]
   refine (WU t 120 st (by omega) (by omega)).to ?_
   simp -implicitDefEqProofs only [aA, seval]
   simp only [Tm.valid, h, eT, AV.bool.injEq, AB]
   omega
 · simp -implicitDefEqProofs only [h, aA, seval]
   simp at h
   simp [Tm.valid, h]
abbrev aO0 := zi tI_3 (zi zI_3 (zi aX (zi tI_4 (zi zI_4 (zi cF (zi tI_9 (zi zI_9 (zi cH (zi tI_31 (zi zI_31 (zi aN (zi bF (zi bE (zi b9 (zi tI_63 (zi zI_63 (zi bS (zi bR (zi bP (zi bQ bT))))))))))))))))))))
theorem XS (k n : Int) (s : ByteArray) (ts : List Tm) (st : aB) : aD prog 130 [(Tm.mk k n s ts).av] st (fun r st' => r = .bool (decide (k = 3) && decide (s = ⟨#[33]⟩) && decide ((ts.length : Int) = 0)) ∧ st' = st) := by
 refine wF [] 1 func130 ntmps130 rfl rfl ?_
 intro _
 simp only [aV]
 repeat' (first
  | (simp -implicitDefEqProofs only [*, aA, seval, aO0])
  | (refine cS (fun h => ?_) (fun h => ?_))
  | (refine aQ (fun h => ?_) (fun h => ?_)))
 all_goals simp only [*, aF, gK]
abbrev aJG := zi tI_4 (zi zI_4 (zi cF (zi tI_9 (zi zI_9 (zi cH (zi tI_63 (zi zI_63 (zi bS (zi bR (zi bP (zi bQ bT)))))))))))
theorem aFF (k n : Int) (s : ByteArray) (ts : List Tm) (st : aB) : aD prog 148 [(Tm.mk k n s ts).av] st (fun r st' => r = .bool (decide (k = 3) && decide ((ts.length : Int) = 0) && decide (s = ⟨#[33]⟩)) ∧ st' = st) := by
 have h1 := D6 k n s ts st
 rw [aV] at h1
 refine wF [] 1 func148 ntmps148 rfl rfl ?_
 intro _
 simp only [aV]
 simp -implicitDefEqProofs only [aA, seval, aJG]
 refine h1.to ?_
 clear h1
 repeat' (first
  | (simp -implicitDefEqProofs only [*, aA, seval, aJG])
  | (refine cS (fun h => ?_) (fun h => ?_))
  | (refine aQ (fun h => ?_) (fun h => ?_)))
 all_goals simp_all
abbrev SU := zi tI_3 (zi zI_3 (zi aX (zi tI_4 (zi zI_4 (zi cF (zi tI_9 (zi zI_9 (zi cH (zi tI_31 (zi zI_31 (zi aN (zi bF (zi bE (zi b9 (zi tI_63 (zi zI_63 (zi bS (zi bR (zi bP (zi bQ bT))))))))))))))))))))
theorem P7 (k n : Int) (s : ByteArray) (ts : List Tm) (st : aB) : aD prog 149 [(Tm.mk k n s ts).av] st (fun r st' => r = .bool (decide (k = 3) && isBuiltin s (ts.length : Int)) ∧ st' = st) := by
 have h1 := aYM s ts.length st
 refine wF [] 1 func149 ntmps149 rfl rfl ?_
 intro _
 simp only [aV]
 simp -implicitDefEqProofs only [aA, seval, SU]
 refine cS (fun h => ?_) (fun h => ?_)
 · simp -implicitDefEqProofs only [h, aF, aA, seval, SU]
   refine h1.to ?_
   clear h1
   simp -implicitDefEqProofs only [aA, seval]
 · simp -implicitDefEqProofs only [h, aA, seval]
   simp at h
   simp []
def pK (k : Int) (s : ByteArray) (len : Int) : Bool := decide (k = 3) && rY s && !isBuiltin s len && decide ((dK s : Int) = 0)
abbrev aOP := zi tI_3 (zi zI_3 (zi aX (zi tI_4 (zi zI_4 (zi cF (zi tI_9 (zi zI_9 (zi cH (zi tI_63 (zi zI_63 (zi bS (zi bR (zi bP (zi bQ bT))))))))))))))
theorem aC5 (k n : Int) (s : ByteArray) (ts : List Tm) (st : aB) : aD prog 161 [(Tm.mk k n s ts).av] st (fun r st' => r = .bool (pK k s (ts.length : Int)) ∧ st' = st) := by
 have h1 := P7 k n s ts st
 rw [aV] at h1
 have e : decide ((0 : Int) < (dK s : Int)) = !decide ((dK s : Int) = 0) := by
  by_cases h : dK s = 0
  · simp [h]
  · simp [h]; omega
 have e3 : ∀ b : Bool, k = 3 → (decide (k = 3) && b) = b := fun b h => by simp [h]
 refine wF [] 1 func161 ntmps161 rfl rfl ?_
 intro _
 simp only [aV]
 repeat' (first
  | (simp -implicitDefEqProofs only [*, aA, seval, aOP])
  | (refine cS (fun h => ?_) (fun h => ?_))
  | (refine (VM s st).to ?_) | (refine (aQW s st).to ?_) | (refine h1.to ?_)
  | (refine aQ (fun h => ?_) (fun h => ?_)))
 all_goals (clear h1; simp_all [pK])
abbrev aNZ := zi tI_3 (zi zI_3 (zi aX (zi tI_4 (zi zI_4 (zi cF (zi tI_9 (zi zI_9 (zi cH (zi tI_31 (zi zI_31 (zi aN (zi bF (zi bE (zi b9 (zi tI_63 (zi zI_63 (zi bS (zi bR (zi bP (zi bQ bT))))))))))))))))))))
theorem V8 (k n : Int) (s : ByteArray) (ts : List Tm) (st : aB) : aD prog 101 [(Tm.mk k n s ts).av] st (fun r st' => r = .bool (pK k s (ts.length : Int)) ∧ st' = st) := by
 refine wF [] 1 func101 ntmps101 rfl rfl ?_
 intro _
 simp only [aV]
 have hl : (ts.map Tm.av).length = ts.length := aF _
 repeat' (first
  | (simp -implicitDefEqProofs only [*, aA, seval, aNZ])
  | (refine cS (fun h => ?_) (fun h => ?_))
  | (refine (aK2 s st).to ?_) | (refine (MO s _ st).to ?_) | (refine (t8 s st).to ?_)
  | (refine aQ (fun h => ?_) (fun h => ?_)))
 all_goals simp_all [pK]
def wG (k : Int) (s : ByteArray) (len : Int) : Bool := (decide (k = 3) && decide (s = ⟨#[33]⟩) && decide (len = 0)) || pK k s len || (decide (k = 3) && isBuiltin s len)
abbrev aSH := zi tI_3 (zi zI_3 (zi aX (zi tI_4 (zi zI_4 (zi cF (zi tI_9 (zi zI_9 (zi cH (zi tI_31 (zi zI_31 (zi aN (zi bF (zi bE (zi b9 (zi tI_63 (zi zI_63 (zi bS (zi bR (zi bP (zi bQ bT))))))))))))))))))))
theorem aYO (k n : Int) (s : ByteArray) (ts : List Tm) (st : aB) : aD prog 102 [(Tm.mk k n s ts).av] st (fun r st' => r = .bool (wG k s (ts.length : Int)) ∧ st' = st) := by
 have h1 := XS k n s ts st
 have h2 := V8 k n s ts st
 rw [aV] at h1 h2
 refine wF [] 1 func102 ntmps102 rfl rfl ?_
 intro _
 simp only [aV]
 have hl : (ts.map Tm.av).length = ts.length := aF _
 unfold wG
 generalize (decide (k = 3) && decide (s = ⟨#[33]⟩) && decide ((ts.length : Int) = 0)) = z1 at *
 generalize pK k s (ts.length : Int) = z2 at *
 repeat' (first
  | (simp -implicitDefEqProofs only [*, aA, seval, aSH])
  | (refine cS (fun h => ?_) (fun h => ?_))
  | (refine h1.to ?_) | (refine h2.to ?_) | (refine (MO s _ st).to ?_)
  | (refine aQ (fun h => ?_) (fun h => ?_)))
 all_goals (clear h1 h2; simp_all)
theorem LM {st : aB} {b : Nat} {o : AO} (h : st b = some o) : st.aC b o = st := by
 funext x; simp only [aB.aC]; split
 · rename_i e; rw [e, h]
 · rfl
def FO (ok : Bool) (c n : Int) (b : Nat) (st : aB) (r : AV) (st' : aB) : Prop :=
 ∃ c', r = .bool (decide (c + n ≤ 120) && ok) ∧ st' = st.aC b (.cells [.int .i64 c']) ∧ ((decide (c + n ≤ 120) && ok) = true → c' = c + n)
abbrev aZ9 := zi tI_3 (zi zI_3 (zi aX (zi tI_4 (zi zI_4 (zi cF (zi tI_63 (zi zI_63 (zi bS (zi bR (zi bP (zi bQ (zi bT (zi tI_216 zI_216)))))))))))))
theorem aSB (x : Tm) (d c : Int) (b : Nat) (st : aB) (hd : -1000 ≤ d) (hd1 : d ≤ 1000)
 (h : aD prog 200 [x.av, .int .i64 (d + 1), .ptr b 0] st (FO (x.shape (30 - d)) c x.nodes b st)) :
 aD prog 218 [x.av, .pptr (.int .i64 d), .pptr (.ptr b 0)] st (fun r st' => ∃ c', r = .bool (!(decide (c + x.nodes ≤ 120) && x.shape (30 - d))) ∧ st' = st.aC b (.cells [.int .i64 c']) ∧ ((decide (c + (x.nodes : Int) ≤ 120) && x.shape (30 - d)) = true → c' = c + x.nodes)) := by
 have hw := bK (n := d + 1)
 refine wF [] 3 func218 ntmps218 rfl rfl ?_
 intro _
 simp -implicitDefEqProofs only [hw, cG, aT, aH, aA, seval, aZ9]
 refine h.mono ?_
 rintro _ _ ⟨c', rfl, rfl, hc⟩
 simp -implicitDefEqProofs only [aA, seval]
 refine ⟨c', ?_⟩
 first | exact hc | exact ⟨rfl, rfl, hc⟩ | exact ⟨rfl, hc⟩ | trace_state
abbrev aA8 := zi tI_3 (zi zI_3 (zi aX (zi tI_31 (zi zI_31 (zi aN (zi bF (zi bE (zi b9 (zi tI_63 (zi zI_63 (zi bS (zi bR (zi bP (zi bQ bT))))))))))))))
theorem aPP (l : List Tm) (d c : Int) (b : Nat) (st : aB) (hd : -1000 ≤ d) (hd1 : d ≤ 1000) (hb : st b = some (.cells [.int .i64 c])) (hc0 : 0 ≤ c) (hc1 : c ≤ 120)
 (h : ∀ x ∈ l, ∀ (c : Int) (st : aB), st b = some (.cells [.int .i64 c]) → 0 ≤ c → c ≤ 120 → aD prog 200 [x.av, .int .i64 (d + 1), .ptr b 0] st (FO (x.shape (30 - d)) c x.nodes b st)) :
 aD prog 203 [.slice (l.map Tm.av), .func 218 [.pptr (.int .i64 d), .pptr (.ptr b 0)]] st
  (fun r st' => ∃ j c', r = .int .i64 j ∧ decide (0 ≤ j) = (!(decide (c + (bG Tm.nodes l : Int) ≤ 120) && l.all fun t => t.shape (30 - d))) ∧ st' = st.aC b (.cells [.int .i64 c']) ∧ (decide (0 ≤ j) = false → c' = c + (bG Tm.nodes l : Int))) := by
 refine wF [] 2 func203 ntmps203 rfl rfl ?_
 simp only [eE, AV.fits, eM, aF]
 intro ⟨hl, _⟩
 simp -implicitDefEqProofs only [aF, aA, seval, aA8]
 refine uU (α := Nat) [] (fun i => i ≤ l.length ∧ c + (bG Tm.nodes (l.take i) : Int) ≤ 120 ∧ ∀ (j : Nat) x, j < i → l[j]? = some x → x.shape (30 - d) = true)
  (fun i => [(0, .slice (l.map Tm.av)), (1, .func 218 [.pptr (.int .i64 d), .pptr (.ptr b 0)]), (7, .int .i64 l.length), (8, .int .i64 i)]) (fun i => st.aC b (.cells [.int .i64 (c + (bG Tm.nodes (l.take i) : Int))])) (fun i => l.length - i) (by decide +kernel)
  ⟨0, ⟨by omega, by simp only [kR, bG]; omega, by intro j x h; omega⟩, by
   simp only [kR, bG]
   rw [show c + ((0 : Nat) : Int) = c by omega, LM hb]
   exact aP.mk (by simp -implicitDefEqProofs only [aA, ↓aU, seval])⟩ ?_
 intro i ⟨hi, wB, dW⟩
 simp -implicitDefEqProofs only [aA, seval]
 refine ⟨fun h5 => ?_, fun h5 => ?_⟩
 case refine_2 =>
  simp -implicitDefEqProofs only [aA, seval]
  simp only [dH, mQ] at h5
  rw [mP (by omega)] at wB ⊢
  have ha : (l.all fun t => t.shape (30 - d)) = true := G4 fun j x hx => dW j x (by have := (gQ.1 hx).1; omega) hx
  exact ⟨-1, _, rfl, by rw [ha]; simp <;> omega, rfl, fun _ => rfl⟩
 simp only [bJ, mQ] at h5
 obtain ⟨x, hx⟩ : ∃ x, l[i]? = some x := ⟨_, fG h5⟩
 have hs := GG Tm.nodes hx
 simp -implicitDefEqProofs only [bL (av := Tm.av) aN hx (aH x), aT, aH, aA, seval, aA8]
 refine (aSB x d (c + (bG Tm.nodes (l.take i) : Int)) b _ hd hd1 (h x (cW hx) _ _ (aB.aO _ _ _) (by omega) wB)).mono ?_
 rintro _ _ ⟨c', rfl, rfl, hc'⟩
 simp -implicitDefEqProofs only [dE, aA, seval]
 refine ⟨fun h6 => ?_, fun h6 => ?_⟩
 · simp -implicitDefEqProofs only [aA, seval]
   refine ⟨i, c', rfl, ?_, rfl, fun h7 => absurd h7 (by simp)⟩
   simp only [lX, Bool.and_eq_false_iff, dH] at h6
   rcases h6 with h6 | h6
   · rw [show decide (c + (bG Tm.nodes l : Int) ≤ 120) = false by simp; omega]
     simp
   · rw [tX hx h6]
     simp
 simp only [tW] at h6
 rw [hc' h6]
 simp only [cM, bJ] at h6
 simp -implicitDefEqProofs only [aA, seval]
 refine ⟨i + 1, by omega, ⟨by omega, by omega, fun j u hj hu => ?_⟩, ?_⟩
 · rcases kQ j i with h8 | h8
   · exact dW j u h8 hu
   · obtain rfl : j = i := by omega
     rw [hx] at hu; cases hu; exact h6.2
 · rw [show c + (bG Tm.nodes (l.take i) : Int) + (x.nodes : Int) = c + (bG Tm.nodes (l.take (i + 1)) : Int) by omega]
   have := bK (n := (i : Int) + 1)
   exact aP.mk (by simp -implicitDefEqProofs only [this, aA, seval])
theorem aS7 (l : List Tm) (d c : Int) (b : Nat) (st : aB) (hd : -1000 ≤ d) (hd1 : d ≤ 1000) (hb : st b = some (.cells [.int .i64 c])) (hc0 : 0 ≤ c) (hc1 : c ≤ 120)
 (h : ∀ x ∈ l, ∀ (c : Int) (st : aB), st b = some (.cells [.int .i64 c]) → 0 ≤ c → c ≤ 120 → aD prog 200 [x.av, .int .i64 (d + 1), .ptr b 0] st (FO (x.shape (30 - d)) c x.nodes b st)) :
 aD prog 162 [.slice (l.map Tm.av), .func 218 [.pptr (.int .i64 d), .pptr (.ptr b 0)]] st
  (fun r st' => ∃ c', r = .bool (!(decide (c + (bG Tm.nodes l : Int) ≤ 120) && l.all fun t => t.shape (30 - d))) ∧ st' = st.aC b (.cells [.int .i64 c']) ∧ ((decide (c + (bG Tm.nodes l : Int) ≤ 120) && l.all fun t => t.shape (30 - d)) = true → c' = c + (bG Tm.nodes l : Int))) := by
 have h1 := aPP l d c b st hd hd1 hb hc0 hc1 h
 refine wF [] 2 func162 ntmps162 rfl rfl ?_
 intro _
 simp -implicitDefEqProofs only [aA, seval]
 refine h1.mono ?_
 rintro _ _ ⟨j, c', rfl, hj, rfl, hc⟩
 simp -implicitDefEqProofs only [aA, seval]
 refine ⟨c', by rw [hj], rfl, fun h => hc (by rw [hj, h]; try rfl)⟩
abbrev xB := zi tI_3 (zi zI_3 (zi aX (zi tI_4 (zi zI_4 (zi cF (zi tI_9 (zi zI_9 (zi cH (zi tI_31 (zi zI_31 (zi aN (zi bF (zi bE (zi b9 (zi tI_63 (zi zI_63 (zi bS (zi bR (zi bP (zi bQ (zi bT (zi tI_216 zI_216))))))))))))))))))))))
theorem aGQ : ∀ (t : Tm) (d c : Int) (b : Nat) (st : aB), st b = some (.cells [.int .i64 c]) → 0 ≤ c → c ≤ 120 → 0 ≤ d → d ≤ 31 → aD prog 200 [t.av, .int .i64 d, .ptr b 0] st (FO (t.shape (31 - d)) c t.nodes b st)
 | .mk k n s ts, d, c, b, st, hb, hc0, hc1, hd0, hd1 => by
  have hk := fun (st : aB) (hb : st b = some (.cells [.int .i64 (c + 1)])) (h1 : c + 1 ≤ 120) (h2 : d ≤ 30) => aS7 ts d (c + 1) b st (by omega) (by omega) hb (by omega) h1 fun x hx c st hb hc0 hc1 => by
   have := aGQ x (d + 1) c b st hb hc0 hc1 (by omega) (by omega)
   rw [show (31 : Int) - (d + 1) = 30 - d by omega] at this
   exact this
  have hw := bK (n := c + 1)
  unfold FO
  rw [Tm.gN, Tm.BH]
  refine wF [] 3 func200 ntmps200 rfl rfl ?_
  simp only [aV, eE, AV.fits, eM, aF]
  intro ⟨_, _, _, hl, _⟩
  simp -implicitDefEqProofs only [hb, aK, hw, aA, seval, xB]
  have hL : (ts.map Tm.av).length = ts.length := aF _
  have gR : ∀ (v : Bool), v = (decide (c + ((1 + bG Tm.nodes ts : Nat) : Int) ≤ 120) && (decide (1 ≤ 31 - d) && eF k n s ts.length && ts.all fun t => t.shape (31 - d - 1))) → (v = true → ts = []) →
   ∃ c', AV.bool v = AV.bool (decide (c + ((1 + bG Tm.nodes ts : Nat) : Int) ≤ 120) && (decide (1 ≤ 31 - d) && eF k n s ts.length && ts.all fun t => t.shape (31 - d - 1))) ∧ st.aC b (.cells [.int .i64 (c + 1)]) = st.aC b (.cells [.int .i64 c']) ∧ ((decide (c + ((1 + bG Tm.nodes ts : Nat) : Int) ≤ 120) && (decide (1 ≤ 31 - d) && eF k n s ts.length && ts.all fun t => t.shape (31 - d - 1))) = true → c' = c + ((1 + bG Tm.nodes ts : Nat) : Int)) :=
   fun v h1 h2 => ⟨c + 1, by rw [h1], rfl, fun h3 => by rw [h2 (h1.trans h3)]; simp [bG]⟩
  refine cS (fun h1 => ?_) (fun h1 => ?_)
  case refine_2 =>
   simp -implicitDefEqProofs only [h1, aA, seval]
   simp only [nY, bJ] at h1
   refine gR false ?_ (by intro h; cases h)
   rw [show decide (c + ((1 + bG Tm.nodes ts : Nat) : Int) ≤ 120) = false by simp; omega]
   try rfl
  simp -implicitDefEqProofs only [h1, aA, seval, xB]
  refine ⟨fun h2 => ?_, fun h2 => ?_⟩
  · simp -implicitDefEqProofs only [aA, seval]
    simp only [bJ] at h2
    refine gR false ?_ (by intro h; cases h)
    rw [show decide (1 ≤ 31 - d) = false by simp; omega]
    simp
  simp only [dH] at h1 h2
  rw [show decide (1 ≤ 31 - d) = true by simp; omega] at gR ⊢
  simp only [eT] at gR ⊢
  rw [show 31 - d - 1 = 30 - d by omega] at gR ⊢
  -- no kids
  have aLK : ∀ q : Bool, (∀ h : ts = [], eF k n s ts.length = q) → (ts ≠ [] → eF k n s ts.length = false) → (q && decide ((ts.length : Int) = 0)) = (decide (c + ((1 + bG Tm.nodes ts : Nat) : Int) ≤ 120) && (eF k n s ts.length && ts.all fun t => t.shape (30 - d))) := by
   intro q hq1 hq2
   by_cases ht : ts = []
   · rw [hq1 ht]; subst ht
     have e : c + ((1 + bG Tm.nodes [] : Nat) : Int) ≤ 120 := by simp only [bG]; omega
     rw [gB e]
     simp
   · rw [hq2 ht]
     have : ¬ (ts.length : Int) = 0 := by intro h; exact ht (sI (by omega))
     rw [fH this]
     simp
  simp -implicitDefEqProofs only [aA, seval, xB]
  refine aQ (fun hk1 => ?_) (fun hk1 => ?_)
  · simp only [bJ] at hk1
    subst hk1
    simp -implicitDefEqProofs only [aA, seval, xB]
    refine (A7 _ _ _ _).to ?_
    repeat' (first
     | (simp -implicitDefEqProofs only [*, aA, seval, xB])
     | (refine cS (fun h => ?_) (fun h => ?_))
     | (refine aQ (fun h => ?_) (fun h => ?_)))
    all_goals first
     | (refine gR false ?_ (by intro h; cases h); rw [show eF 1 n s ts.length = false by first | (simp only [eF, *, oU, gK, tV]; done) | (simp_all [eF]; done) | (simp_all [eF]; intro a e; have := h a; omega)]; simp; done)
     | (refine gR _ ?_ (fun h => sI (by simpa using h)); rw [← aLK true (fun h => by simp_all [eF]) (fun h => by simp [eF, h])]; simp; done)
  simp only [dH] at hk1
  simp -implicitDefEqProofs only [aA, seval]
  refine aQ (fun hk2 => ?_) (fun hk2 => ?_)
  · simp only [bJ] at hk2
    subst hk2
    simp -implicitDefEqProofs only [aA, seval, xB]
    refine (A7 _ _ _ _).to ?_
    repeat' (first
     | (simp -implicitDefEqProofs only [*, aA, seval, xB])
     | (refine cS (fun h => ?_) (fun h => ?_))
     | (refine aQ (fun h => ?_) (fun h => ?_)))
    all_goals first
     | (refine gR false ?_ (by intro h; cases h); rw [show eF 2 n s ts.length = false by first | (simp only [eF, *, oU, gK, tV]; done) | (simp_all [eF]; done) | (simp_all [eF]; intro a e; have := h a; omega)]; simp; done)
     | (refine gR _ ?_ (fun h => sI (by simpa using h)); rw [← aLK true (fun h => by simp_all [eF]) (fun h => by simp [eF, h])]; simp; done)
  simp only [dH] at hk2
  simp -implicitDefEqProofs only [aA, seval]
  refine aQ (fun hk3 => ?_) (fun hk3 => ?_)
  case refine_2 =>
   simp only [dH] at hk3
   simp -implicitDefEqProofs only [aA, seval]
   refine gR false ?_ (by intro h; cases h)
   rw [show eF k n s ts.length = false by simp [eF, hk1, hk2, hk3]]
   simp
  simp only [bJ] at hk3
  subst hk3
  have hk' := fun st hb => hk st hb (by omega) (by omega)
  clear hk
  repeat' (first
   | (simp -implicitDefEqProofs only [*, aA, seval, xB])
   | (refine cS (fun h => ?_) (fun h => ?_))
   | (refine (aZZ s _).to ?_)
   | (refine aQ (fun h => ?_) (fun h => ?_)))
  all_goals first
   | (refine gR false ?_ (by intro h; cases h); rw [show eF 3 n s ts.length = false by (simp_all [eF]; done)]; simp; done)
   | skip
  refine (hk' _ (aB.aO _ _ _)).mono ?_
  rintro _ _ ⟨c', rfl, rfl, hc'⟩
  simp -implicitDefEqProofs only [dE, aA, seval]
  have ho : eF 3 n s ts.length = true := by simp_all [eF]
  rw [ho, show c + ((1 + bG Tm.nodes ts : Nat) : Int) = c + 1 + (bG Tm.nodes ts : Int) by omega]
  simp only [eT, Bool.not_not]
  first | exact ⟨c', trivial, rfl, hc'⟩ | exact ⟨c', rfl, rfl, hc'⟩
termination_by t => SizeOf.sizeOf t
decreasing_by have := List.sizeOf_lt_of_mem hx; simp only [Tm.mk.sizeOf_spec]; omega
abbrev aMV := zi tI_3 (zi zI_3 (zi aX (zi tI_4 (zi zI_4 (zi cF (zi tI_63 (zi zI_63 (zi bS (zi bR (zi bP (zi bQ (zi bT (zi tI_216 zI_216)))))))))))))
theorem aDM (t : Tm) (st : aB) : aD prog 160 [t.av] st (fun r st' => r = .bool t.valid ∧ st' = st) := by
 have hd : aD prog 160 [t.av] st (fun r st' => aL st' st ∧ r = .bool t.valid) := by
  refine wF [] 1 func160 ntmps160 rfl rfl ?_
  intro _
  simp -implicitDefEqProofs only [cG, aT, aH, aA, seval, aMV]
  intro b hb
  simp -implicitDefEqProofs only [aK, aA, seval]
  refine (aGQ t 1 0 b _ (aB.aO _ _ _) (by omega) (by omega) (by omega) (by omega)).mono ?_
  rintro _ _ ⟨c', rfl, rfl, _⟩
  simp -implicitDefEqProofs only [dE, u7, ↓reduceIte]
  refine ⟨(aL.refl st).aC hb, ?_⟩
  simp only [Tm.valid, AV.bool.injEq]
  rw [Bool.and_comm, show (31 : Int) - 1 = 30 from rfl]
  congr 1
  simp only [AB]
  omega
 exact hd.drop
def Tm.goal : Tm → Bool
 | .mk k n s ts => (Tm.mk k n s ts).valid && wG k s ts.length
abbrev aGI := zi tI_4 (zi zI_4 (zi cF (zi tI_63 (zi zI_63 (zi bS (zi bR (zi bP (zi bQ bT))))))))
theorem UM : ∀ (t : Tm) (st : aB), aD prog 68 [t.av] st (fun r st' => r = .bool t.goal ∧ st' = st)
 | .mk k n s ts, st => by
  have h1 := P4 (.mk k n s ts) st
  have h2 := aYO k n s ts st
  rw [show (Tm.mk k n s ts).goal = ((Tm.mk k n s ts).valid && wG k s ts.length) from rfl]
  generalize (Tm.mk k n s ts).valid = z at *
  rw [aV] at *
  refine wF [] 1 func68 ntmps68 rfl rfl ?_
  intro _
  simp -implicitDefEqProofs only [aA, seval, aGI]
  refine h1.to ?_
  simp -implicitDefEqProofs only [aA, seval]
  refine cS (fun h => ?_) (fun h => ?_)
  · simp -implicitDefEqProofs only [h, aA, seval, aGI]
    refine h2.to ?_
    simp -implicitDefEqProofs only [aA, seval]
  · simp -implicitDefEqProofs only [h, aA, seval]
    simp at h
    simp []
abbrev aTW := zi tI_4 (zi zI_4 (zi cF (zi tI_63 (zi zI_63 (zi bS (zi bR (zi bP (zi bQ bT))))))))
theorem aOD : ∀ (t : Tm) (st : aB), aD prog 164 [t.av] st (fun r st' => r = .bool t.goal ∧ st' = st)
 | .mk k n s ts, st => by
  have h1 := aDM (.mk k n s ts) st
  have h2 := aC5 k n s ts st
  have h3 := P7 k n s ts st
  have h4 := aFF k n s ts st
  rw [show (Tm.mk k n s ts).goal = ((Tm.mk k n s ts).valid && wG k s ts.length) from rfl]
  unfold wG
  generalize (Tm.mk k n s ts).valid = z at *
  generalize pK k s (ts.length : Int) = z2 at *
  generalize (decide (k = 3) && isBuiltin s (ts.length : Int)) = z3 at *
  rw [show (decide (k = 3) && decide (s = ⟨#[33]⟩) && decide ((ts.length : Int) = 0)) = (decide (k = 3) && decide ((ts.length : Int) = 0) && decide (s = ⟨#[33]⟩)) from by cases decide (k = 3) <;> cases decide (s = ⟨#[33]⟩) <;> cases decide ((ts.length : Int) = 0) <;> rfl]
  generalize (decide (k = 3) && decide ((ts.length : Int) = 0) && decide (s = ⟨#[33]⟩)) = z4 at *
  rw [aV] at *
  refine wF [] 1 func164 ntmps164 rfl rfl ?_
  intro _
  repeat' (first
   | (simp -implicitDefEqProofs only [*, aA, seval, aTW])
   | (refine cS (fun h => ?_) (fun h => ?_))
   | (refine h1.to ?_) | (refine h2.to ?_) | (refine h3.to ?_) | (refine h4.to ?_)
   | (refine aQ (fun h => ?_) (fun h => ?_)))
  all_goals (clear h1 h2 h3 h4; simp_all)
abbrev aAC := zi tI_3 (zi zI_3 (zi aX (zi tI_31 (zi zI_31 (zi aN (zi bF (zi bE (zi b9 (zi tI_63 (zi zI_63 (zi bS (zi bR (zi bP (zi bQ bT))))))))))))))
theorem aYV (l : List Tm) (g : FuncId) (dS : List AV) (p : Tm → Bool) (st : aB) (hc : ∀ x ∈ l, aD prog g ([Tm.av x] ++ dS) st (fun r st' => r = .bool (p x) ∧ st' = st)) :
 aD prog 203 [.slice (l.map Tm.av), .func g dS] st (fun r st' => ∃ j : Int, r = .int .i64 j ∧ decide (0 ≤ j) = l.any p ∧ st' = st) := by
 refine wF [] 2 func203 ntmps203 rfl rfl ?_
 simp only [eE, AV.fits, eM, aF]
 intro ⟨hl, _⟩
 simp -implicitDefEqProofs only [aF, aA, seval, aAC]
 refine eK (σ := Unit) [] [0, 1, 7] l (fun i _ => (l.drop i).any p = l.any p) (fun i _ => [(8, .int .i64 i)]) (fun _ _ => st) (by decide +kernel) ⟨(), rfl, aP.mk (by simp -implicitDefEqProofs only [aA, ↓aU, seval])⟩ (fun i x _ hx hlt bU hdr hinv => ?_) (fun _ hge hinv => ?_)
 case refine_2 =>
  simp -implicitDefEqProofs only [hge, aA, seval]
  rw [kF] at hinv
  exact ⟨-1, rfl, by rw [← hinv]; try rfl⟩
 rw [hdr, DC] at hinv
 have hw := bK (n := (i : Int) + 1)
 simp -implicitDefEqProofs only [bU, bL (av := Tm.av) aN hx (aH x), aT, aH, aA, seval, aAC]
 refine (hc x (cW hx)).to ?_
 simp -implicitDefEqProofs only [aA, seval]
 refine aQ (fun h => ?_) (fun h => ?_)
 · simp -implicitDefEqProofs only [aA, seval]
   exact ⟨i, rfl, by rw [← hinv, h]; simp⟩
 · rw [h, qV] at hinv
   simp -implicitDefEqProofs only [aA, seval]
   exact ⟨(), hinv, aP.mk (by simp -implicitDefEqProofs only [hw, aA, seval])⟩
theorem a0T (l : List Tm) (g : FuncId) (dS : List AV) (p : Tm → Bool) (st : aB) (hc : ∀ x ∈ l, aD prog g ([Tm.av x] ++ dS) st (fun r st' => r = .bool (p x) ∧ st' = st)) :
 aD prog 162 [.slice (l.map Tm.av), .func g dS] st (fun r st' => r = .bool (l.any p) ∧ st' = st) := by
 refine wF [] 2 func162 ntmps162 rfl rfl ?_
 intro _
 simp -implicitDefEqProofs only [aA, seval]
 refine (aYV l g dS p st hc).mono ?_
 rintro _ _ ⟨j, rfl, hj, rfl⟩
 simp -implicitDefEqProofs only [hj, aA, seval]
theorem M6 {α : Type} (p : α → Bool) : ∀ l : List α, (!(l.any fun x => !p x)) = l.all p
 | [] => rfl
 | x :: l => by rw [DC, kE, ← M6 p l]; cases p x <;> simp
abbrev aP5 := zi tI_4 (zi zI_4 (zi cF (zi tI_63 (zi zI_63 (zi bS (zi bR (zi bP (zi bQ bT))))))))
theorem aQQ (t : Tm) (st : aB) : aD prog 163 [t.av] st (fun r st' => r = .bool (!t.goal) ∧ st' = st) := by
 refine wF [] 1 func163 ntmps163 rfl rfl ?_
 intro _
 simp -implicitDefEqProofs only [cG, aT, aH, aA, seval, aP5]
 refine (aOD t st).to ?_
 simp -implicitDefEqProofs only [aA, seval]
def lV (l : List Tm) : Bool := decide (l.length ≤ 6) && l.all Tm.goal
abbrev aZ8 := zi tI_3 (zi zI_3 (zi aX (zi tI_4 (zi zI_4 (zi cF (zi tI_31 (zi zI_31 (zi aN (zi bF (zi bE b9))))))))))
theorem WX (l : List Tm) (st : aB) : aD prog 121 [.slice (l.map Tm.av)] st (fun r st' => r = .bool (lV l) ∧ st' = st) := by
 refine wF [] 1 func121 ntmps121 rfl rfl ?_
 simp only [eE, AV.fits, eM, aF]
 intro _
 unfold lV
 simp -implicitDefEqProofs only [aF, aA, seval, aZ8]
 refine cS (fun h => ?_) (fun h => ?_)
 · simp only [bJ] at h
   rw [show decide (l.length ≤ 6) = true by simp; omega]
   simp -implicitDefEqProofs only [h, aA, seval]
   refine (a0T l _ [] (fun t => !t.goal) st fun x _ => aQQ x st).to ?_
   simp -implicitDefEqProofs only [M6, aA, seval]
 · simp only [oU, dH] at h
   rw [show decide (l.length ≤ 6) = false by simp; omega]
   simp -implicitDefEqProofs only [h, aA, seval]
   rfl
theorem aWI (l : List Tm) (st : aB) : aD prog 83 [.slice (l.map Tm.av)] st (fun r st' => r = .bool (lV l) ∧ st' = st) := by
 refine wF [] 1 func83 ntmps83 rfl rfl ?_
 intro _
 simp -implicitDefEqProofs only [aA, seval]
 refine (WX l st).to ?_
 simp -implicitDefEqProofs only [aA, seval]
abbrev HF := zi tI_3 (zi zI_3 (zi aX (zi tI_4 (zi zI_4 (zi cF (zi tI_31 (zi zI_31 (zi aN (zi bF (zi bE (zi b9 (zi tI_63 (zi zI_63 (zi bS (zi bR (zi bP (zi bQ bT)))))))))))))))))
theorem aD4 (l : List Tm) (st : aB) : aD prog 42 [.slice (l.map Tm.av)] st (fun r st' => r = .bool (lV l) ∧ st' = st) := by
 refine wF [] 1 func42 ntmps42 rfl rfl ?_
 simp only [eE, AV.fits, eM, aF]
 intro ⟨hl, _⟩
 simp -implicitDefEqProofs only [aA, seval]
 refine eK (σ := Unit) [] [0] l (fun i _ => i ≤ 7 ∧ (l.take i).all Tm.goal = true) (fun i _ => [(3, .int .i64 i)]) (fun _ _ => st) (by decide +kernel) ⟨(), ⟨by omega, by simp⟩, aP.mk (by simp -implicitDefEqProofs only [aA, ↓aU, seval])⟩ (fun i x _ hx hlt bU hdr hinv => ?_) (fun _ hge hinv => ?_)
 case refine_2 =>
  obtain ⟨i1, i2⟩ := hinv
  rw [eS] at i2
  simp -implicitDefEqProofs only [aF, hge, aA, seval, HF]
  simp only [lV, i2, DB, AV.bool.injEq, AB]
  omega
 obtain ⟨i1, i2⟩ := hinv
 have hw := bK (n := (i : Int) + 1)
 simp -implicitDefEqProofs only [aF, bU, aA, seval, HF]
 refine aQ (fun h => ?_) (fun h => ?_)
 case refine_2 =>
  simp only [dH] at h
  simp -implicitDefEqProofs only [aF, aA, seval, HF]
  simp only [lV, AV.bool.injEq]
  rw [show decide (l.length ≤ 6) = false by simp; omega, show decide ((l.length : Int) ≤ 6) = false by simp; omega]
  try rfl
 simp only [bJ] at h
 simp -implicitDefEqProofs only [bL (av := Tm.av) aN hx (aH x), aT, aH, aA, seval, HF]
 refine (UM x st).to ?_
 simp -implicitDefEqProofs only [aA, seval]
 refine aQ (fun h2 => ?_) (fun h2 => ?_)
 · simp only [lX] at h2
   simp -implicitDefEqProofs only [aA, seval]
   have : l.all Tm.goal = false := tX hx h2
   simp only [lV, this, tV]
 · simp only [tW] at h2
   simp -implicitDefEqProofs only [aA, seval]
   refine ⟨(), ⟨by omega, ?_⟩, aP.mk (by simp -implicitDefEqProofs only [hw, aA, seval])⟩
   rw [fM, hx, DD, i2]
   simp [h2]
abbrev aZF := zi tI_3 (zi zI_3 (zi aX (zi tI_63 (zi zI_63 (zi bS (zi bR (zi bP (zi bQ bT))))))))
theorem ND (n : Int) (st : aB) : aD prog 156 [.int .i64 n] st (fun r st' => r = (vr n).av ∧ st' = st) := by
 refine aD.done ?_
 refine wF [1000000] 1 func156 ntmps156 rfl rfl ?_
 intro _
 simp -implicitDefEqProofs only [aA, seval, aZF]
 intro b hb
 simp -implicitDefEqProofs only [aK, aA, seval]
 exact ⟨by simp only [vr, aV, j5, jV, lB, l9, bA, aW, aW], (aL.refl _).aC hb⟩
abbrev s9 := zi tI_3 (zi zI_3 (zi aX (zi tI_31 (zi zI_31 (zi aN (zi bF (zi bE (zi b9 (zi tI_63 (zi zI_63 (zi bS (zi bR (zi bP (zi bQ bT))))))))))))))
theorem MQ (f : Int → Tm) (g : FuncId) (dS : List AV) (CD : kB dS = true) : ∀ (t : Tm) (st : aB), t.small = true → (∀ n ∈ t.vl, ∀ s, aD prog g (.int .i64 n :: dS) s (fun r s' => r = (f n).av ∧ s' = s)) →
 aD prog 197 [t.av, .func g dS] st (fun r st' => r = (t.aJ f).av ∧ st' = st)
 | .mk k n s ts, st, hsm, hg => by
  obtain ⟨hlen, oJ⟩ := Tm.oD hsm
  have IH := fun (x : Tm) (hx : x ∈ ts) st h => MQ f g dS CD x st (oJ x hx) h
  refine aD.pR (aD.fin ?_)
  simp only [aV]
  refine wF [1000000, 2] 2 func197 ntmps197 rfl rfl ?_
  simp only [eE, AV.fits, eM, aF]
  intro ⟨_, _, _, hl, _⟩
  simp -implicitDefEqProofs only [aA, seval, s9]
  intro c hc b2 hb2
  have hne : b2 ≠ c := by rintro rfl; rw [aB.aO] at hb2; cases hb2
  have hn2 : st b2 = none := by rw [aB.aM st _ hne] at hb2; exact hb2
  simp -implicitDefEqProofs only [hne.symm, aA, seval]
  refine aQ (fun h => ?_) (fun h => ?_)
  · simp only [bJ] at h
    subst h
    simp -implicitDefEqProofs only [hne.symm, aA, seval, s9]
    refine (hg n (by rw [Tm.mH rfl]; simp) _).to ?_
    simp -implicitDefEqProofs only [aA, seval, s9]
    refine ⟨0, [], _, rfl, by simp, by simp, ⟨4, by simp⟩, by rw [Tm.uK, Tm.mC f rfl], ?_⟩
    exact ((aL.refl _).aC hc).aC hn2
  simp only [dH] at h
  have hg' : ∀ x ∈ ts, ∀ v ∈ x.vl, ∀ s, aD prog g (.int .i64 v :: dS) s (fun r s' => r = (f v).av ∧ s' = s) := fun x hx v hv => hg v ((Tm.kM h).2 ⟨x, hx, hv⟩)
  simp -implicitDefEqProofs only [hne.symm, aK, aF, aA, seval, s9]
  rw [aB.t6 hne]
  refine eK (σ := Nat) [1000000] [1, 2, 4, 18, 19] ts (fun i b => (((ts.take i).map (Tm.aJ f)).map Tm.av ≠ [] → (aB.aC (st.aC b2 (.cells [AV.int .i64 0, AV.int .i64 0, AV.str ⟨#[]⟩, AV.fslice []])) c (.cells ([AV.int .i64 k, AV.int .i64 n, AV.str s] ++ [a9 4 b (((ts.take i).map (Tm.aJ f)).map Tm.av)]))) b = none)) (fun i b => [(20, .int .i64 i)]) (fun i b => eV (st.aC b2 (.cells [AV.int .i64 0, AV.int .i64 0, AV.str ⟨#[]⟩, AV.fslice []])) c b [AV.int .i64 k, AV.int .i64 n, AV.str s] (((ts.take i).map (Tm.aJ f)).map Tm.av)) (by decide +kernel)
   ⟨0, fun h => absurd rfl h, aP.mk (by simp -implicitDefEqProofs only [aA, ↓aU, seval])⟩ (fun i x b hx hlt bU hdr hinv => ?_) (fun b hge hinv => ?_)
  case refine_1 =>
   have hw := bK (n := (i : Int) + 1)
   have cV : (((ts.take i).map (Tm.aJ f)).map Tm.av).length = i := by simp only [aF, d7]; omega
   have htk : (ts.take (i + 1)).map (Tm.aJ f) = (ts.take i).map (Tm.aJ f) ++ [(Tm.aJ f) x] := by rw [fM, hx]; simp
   have hbo := eC hinv
   simp -implicitDefEqProofs only [bU, bL (av := Tm.av) aN hx (aH x), aA, ↓aU, seval, s9]
   refine wP [(0, 1), (3, 1), (1, 2), (2, 2), (4, 2), (5, 1), (6, 0), (7, 1), (8, 0)] [0, 3, 1, 2, 4, 5, 7] mixed ?_
   simp -implicitDefEqProofs only [aT, aH, hbo, mD, aA, seval, s9]
   refine i8 (IH x (cW hx) _ (hg' x (cW hx))) ?_
   simp -implicitDefEqProofs only [aT, aH, cG, aA, seval, s9]
   refine eN aN bF bE rfl rfl (fC (aH _) (bZ _)) (dR _) hinv (by simp only [cV, aS, a7]; omega) (by simp only [cV, aS, a7]; omega) (fun b' hb' => ?_)
   rw [show (((ts.take i).map (Tm.aJ f)).map Tm.av) ++ [((Tm.aJ f) x).av] = ((ts.take (i + 1)).map (Tm.aJ f)).map Tm.av by rw [htk]; simp] at hb' ⊢
   obtain ⟨g1, g2, g3⟩ := nG hb'
   simp only [fF, eR] at g1 g3
   simp -implicitDefEqProofs only [g3, mB, eU, aK, g1, hw, aA, seval, s9]
   exact ⟨b', g2, aP.mk (by simp -implicitDefEqProofs only [aA, seval])⟩
  have hbo := eC hinv
  rw [eS] at hinv hbo ⊢
  simp -implicitDefEqProofs only [hge, aA, seval, s9]
  simp -implicitDefEqProofs only [hbo, aA, seval, s9]
  have hS : (st.aC b2 (.cells [AV.int .i64 0, AV.int .i64 0, AV.str ⟨#[]⟩, AV.fslice []])) b2 ≠ none := by rw [aB.aO]; simp
  have h1 := gC hinv hS hne
  rw [aB.aO] at h1
  simp -implicitDefEqProofs only [h1, eU, aK, aA, seval]
  obtain ⟨h2, h3⟩ := j0 (o := .cells [AV.int .i64 k, AV.int .i64 n, AV.str s, a9 4 b ((ts.map (Tm.aJ f)).map Tm.av)]) hinv hS hne
  refine ⟨b, _, _, h2, h3, hH _, ⟨4, dR _⟩, ?_, ?_⟩
  · rw [Tm.lA f h]
    simp only [fL, bA, aW, d9, iO, iG, aV]
  · exact (((aL.refl _).aC hn2).aC hc).aC hn2
termination_by t => SizeOf.sizeOf t
decreasing_by have := List.sizeOf_lt_of_mem hx; simp only [Tm.mk.sizeOf_spec]; omega


end Go.AW
namespace Go.AW
abbrev cK (σ : Sub) : Prop := ∃ R rk B, Good σ R rk B
theorem cK.rs {σ : Sub} (h : cK σ) : ∃ rk B, Good σ (rs σ) rk B := by
 obtain ⟨R, rk, B, G⟩ := h
 exact ⟨rk, B, by rw [G.rs]; exact G⟩
theorem cK.none : cK Sub.none := ⟨_, _, _, Good.none⟩
structure nT (σ : Sub) (a b : List Tm) (r : Bool) (σ' : Sub) (tr : List Int) : Prop where
 gI : cK σ'
 a8 : ∀ m, m ∉ tr → σ' m = σ m
 new : ∀ m ∈ tr, σ m = none ∧ σ' m ≠ none
 nodup : tr.Nodup
 eq : r = true → a.map (Tm.aJ (rs σ')) = b.map (Tm.aJ (rs σ'))
 gen : ∀ θ, qB θ σ → a.map (Tm.aJ θ) = b.map (Tm.aJ θ) → r = true ∧ qB θ σ'
 same : tr = [] → σ' = σ
theorem qB.sub {σ σ' : Sub} {θ : Int → Tm} {tr : List Int} (S : qB θ σ') (a8 : ∀ m, m ∉ tr → σ' m = σ m) (new : ∀ m ∈ tr, σ m = none ∧ σ' m ≠ none) : qB θ σ := fun n u h => by
 by_cases hn : n ∈ tr
 · rw [(new n hn).1] at h; cases h
 · exact S n u (by rw [a8 n hn]; exact h)
theorem nT.uW {σ σ' : Sub} {a b : List Tm} {r : Bool} {tr : List Int} (h : nT σ a b r σ' tr) : qB (rs σ') σ := by
 obtain ⟨rk, B, G⟩ := h.gI.rs
 exact G.uW.sub h.a8 h.new
theorem nT.stays {σ σ' : Sub} {a b : List Tm} {r : Bool} {tr : List Int} (h : nT σ a b r σ' tr) (hg : cK σ) {x y : Tm} (e : x.aJ (rs σ) = y.aJ (rs σ)) : x.aJ (rs σ') = y.aJ (rs σ') := by
 obtain ⟨rk, B, G⟩ := hg.rs
 rw [← G.MU h.uW x, ← G.MU h.uW y, e]
theorem aAO {σ : Sub} (hg : cK σ) {a b : Tm} {n : Int} (ha : a.k = 1) (han : a.n = n) (hn : σ n = none) (hb : b.k = 1 → σ b.n = none ∧ b.n ≠ n) {r : Bool} {σ' : Sub} {tr : List Int} (h : jO σ n b = (r, σ', tr)) : nT σ [a] [b] r σ' tr := by
 obtain ⟨rk, B, G⟩ := hg.rs
 have hav : ∀ θ, a.aJ θ = θ n := fun θ => by rw [Tm.B6 θ ha, han]
 unfold jO at h
 split at h
 · rename_i gJ
   cases h
   refine ⟨hg, fun _ _ => rfl, fun _ h => absurd h (dP), pW, fun h => (by cases h), fun θ S e => ?_, fun _ => rfl⟩
   exfalso
   simp only [bA, aW, List.cons.injEq, eM] at e
   rw [hav] at e
   by_cases hbk : b.k = 1
   · rw [Tm.B6 _ hbk, G.free (hb hbk).1, wD] at gJ
     simp only [cY, dP, d4] at gJ
     exact (hb hbk).2 gJ.symm
   · rw [← G.MU S b] at e
     have h1 : ((b.aJ (rs σ)).aJ θ) = (b.aJ (rs σ)).aJ θ := rfl
     have hk : (b.aJ (rs σ)).k ≠ 1 := by rw [Tm.qK _ hbk]; exact hbk
     have := (a0H (f := θ) (b.aJ (rs σ)) gJ).2 hk
     rw [e] at this
     exact absurd this (Nat.lt_irrefl _)
 · rename_i gJ
   cases h
   obtain ⟨rk', B', G'⟩ := G.bind hn gJ
   have hR := G'.rs
   refine ⟨⟨_, _, _, G'⟩, fun m hm => ?_, fun m hm => ?_, by simp, fun _ => ?_, fun θ S e => ⟨rfl, fun m u hu => ?_⟩, fun h => (by cases h)⟩
   · simp only [cY, dP, d4] at hm
     simp only [Sub.set, hm, dZ]
   · simp only [cY, dP, d4] at hm
     subst hm
     exact ⟨hn, by simp [Sub.set]⟩
   · simp only [bA, aW, List.cons.injEq, eM]
     rw [hav, hR]
     exact G'.bound (by simp [Sub.set])
   · simp only [bA, aW, List.cons.injEq, eM] at e
     rw [hav] at e
     simp only [Sub.set] at hu
     split at hu
     · rename_i hmn
       cases hu
       rw [hmn, e]
     · exact S m u hu
theorem rZ {a b : Tm} : sV a b = true ↔ a.k = b.k ∧ a.n = b.n ∧ a.s = b.s ∧ a.ts.length = b.ts.length := by
 simp only [sV, cM, bJ, and_assoc]
theorem aEN (g : Nat) (aZG : ∀ σ a b r σ' tr, cK σ → dD g σ a b = some (r, σ', tr) → nT σ [a] [b] r σ' tr) : ∀ xs ys σ r σ' tr, cK σ → xs.length = ys.length → dU g σ xs ys = some (r, σ', tr) → nT σ xs ys r σ' tr := by
 intro xs
 have ihU := aZG
 induction xs with
 | nil =>
  intro ys σ r σ' tr hg hl h
  cases ys with
  | cons _ _ => simp at hl
  | nil =>
   simp only [dU, Option.some.injEq, Prod.mk.injEq] at h
   obtain ⟨rfl, rfl, rfl⟩ := h
   exact ⟨hg, fun _ _ => rfl, fun _ h => absurd h (dP), pW, fun _ => rfl, fun θ S _ => ⟨rfl, S⟩, fun _ => rfl⟩
 | cons a xs ih =>
  intro ys σ r σ' tr hg hl h
  cases ys with
  | nil => simp at hl
  | cons b ys =>
   rw [dU] at h
   cases h1 : dD g σ a b with
   | none => rw [h1] at h; cases h
   | some p =>
    obtain ⟨r1, σ1, tr1⟩ := p
    have U1 := ihU σ a b r1 σ1 tr1 hg h1
    rw [h1] at h
    cases r1 with
    | false =>
     simp only [Option.some.injEq, Prod.mk.injEq] at h
     obtain ⟨rfl, rfl, rfl⟩ := h
     refine ⟨U1.gI, U1.a8, U1.new, U1.nodup, fun h => (by cases h), fun θ S e => ?_, U1.same⟩
     simp only [bA, List.cons.injEq] at e
     exact U1.gen θ S (by simp [e.1])
    | true =>
     simp only at h
     cases h2 : dU g σ1 xs ys with
     | none => rw [h2] at h; cases h
     | some p2 =>
      obtain ⟨r2, σ2, tr2⟩ := p2
      rw [h2] at h
      simp only [Option.some.injEq, Prod.mk.injEq] at h
      obtain ⟨rfl, rfl, rfl⟩ := h
      have U2 := ih ys σ1 r2 σ2 tr2 U1.gI (by simpa using hl) h2
      refine ⟨U2.gI, fun m hm => ?_, fun m hm => ?_, ?_, fun hr => ?_, fun θ S e => ?_, fun h => ?_⟩
      · simp only [fR, not_or] at hm
        rw [U2.a8 m hm.2, U1.a8 m hm.1]
      · rcases fR.1 hm with hm | hm
        · refine ⟨(U1.new m hm).1, fun h => (U1.new m hm).2 ?_⟩
          by_cases h3 : m ∈ tr2
          · exact (U2.new m h3).1
          · rw [← U2.a8 m h3]; exact h
        · refine ⟨?_, (U2.new m hm).2⟩
          by_cases h3 : m ∈ tr1
          · exact (U1.new m h3).1
          · rw [← U1.a8 m h3]; exact (U2.new m hm).1
      · rw [tU]
        refine ⟨U1.nodup, U2.nodup, fun x hx y hy e => ?_⟩
        subst e
        exact (U1.new x hx).2 (U2.new x hy).1
      · have e1 := U1.eq rfl
        simp only [bA, aW, List.cons.injEq, eM] at e1
        simp only [bA]
        rw [U2.stays U1.gI e1, U2.eq hr]
      · simp only [bA, List.cons.injEq] at e
        obtain ⟨_, S1⟩ := U1.gen θ S (by simp [e.1])
        exact U2.gen θ S1 e.2
      · simp only [List.append_eq_nil_iff] at h
        rw [U2.same h.2, U1.same h.1]
theorem aMD : ∀ (g : Nat), (∀ σ a b r σ' tr, cK σ → dD g σ a b = some (r, σ', tr) → nT σ [a] [b] r σ' tr) ∧
 ∀ xs ys σ r σ' tr, cK σ → xs.length = ys.length → dU g σ xs ys = some (r, σ', tr) → nT σ xs ys r σ' tr := by
 intro g
 induction g with
 | zero =>
  have h0 : ∀ σ a b r σ' tr, cK σ → dD 0 σ a b = some (r, σ', tr) → nT σ [a] [b] r σ' tr := fun σ a b r σ' tr hg h => by simp only [dD] at h; cases h
  exact ⟨h0, aEN _ h0⟩
 | succ g ih =>
  suffices hU : ∀ σ a b r σ' tr, cK σ → dD (g + 1) σ a b = some (r, σ', tr) → nT σ [a] [b] r σ' tr from ⟨hU, aEN _ hU⟩
  intro σ a b r σ' tr hg h
  obtain ⟨ihU, ihL⟩ := ih
  have aRS := fun xs ys σ r σ' tr hg hl h => ihL xs ys σ r σ' tr hg hl h
  obtain ⟨rk, B, G⟩ := hg.rs
  obtain ⟨fa, wa⟩ := G.wk a
  obtain ⟨fb, wb⟩ := G.wk b
  have hma : ∀ θ, qB θ σ → (wk σ a).aJ θ = a.aJ θ := fun θ S => wa.aJ S
  have hmb : ∀ θ, qB θ σ → (wk σ b).aJ θ = b.aJ θ := fun θ S => wb.aJ S
  -- it suffices to speak of the walked terms
  suffices hw : nT σ [wk σ a] [wk σ b] r σ' tr by
   refine ⟨hw.gI, hw.a8, hw.new, hw.nodup, fun hr => ?_, fun θ S e => ?_, hw.same⟩
   · have := hw.eq hr
     simp only [bA, aW, List.cons.injEq, eM] at this ⊢
     rw [← hma _ hw.uW, ← hmb _ hw.uW]; exact this
   · refine hw.gen θ S ?_
     simp only [bA, aW, List.cons.injEq, eM] at e ⊢
     rw [hma θ S, hmb θ S]; exact e
  have ea := wa.end
  have eb := wb.end
  rw [dD] at h
  generalize wk σ a = a at *
  generalize wk σ b = b at *
  split at h
  · rename_i hc
    simp only [Option.some.injEq, Prod.mk.injEq] at h
    obtain ⟨rfl, rfl, rfl⟩ := h
    have he : ∀ θ, a.aJ θ = b.aJ θ := fun θ => by rw [Tm.B6 θ hc.1, Tm.B6 θ hc.2.1, hc.2.2]
    exact ⟨hg, fun _ _ => rfl, fun _ h => absurd h (dP), pW, fun _ => by simp [he], fun θ S _ => ⟨rfl, S⟩, fun _ => rfl⟩
  · rename_i hc
    split at h
    · rename_i ha
      exact aAO hg ha rfl (ea ha) (fun hb => ⟨eb hb, fun e => hc ⟨ha, hb, e.symm⟩⟩) (nD h)
    · rename_i ha
      split at h
      · rename_i hb
        have U := aAO hg hb rfl (eb hb) (fun ha' => absurd ha' ha) (nD h)
        exact ⟨U.gI, U.a8, U.new, U.nodup, fun hr => (U.eq hr).symm, fun θ S e => U.gen θ S e.symm, U.same⟩
      · rename_i hb
        split at h
        · rename_i hh
          rw [rZ] at hh
          have U := aRS a.ts b.ts σ r σ' tr hg hh.2.2.2 h
          refine ⟨U.gI, U.a8, U.new, U.nodup, fun hr => ?_, fun θ S e => ?_, U.same⟩
          · simp only [bA, aW, List.cons.injEq, eM]
            rw [Tm.qK _ ha, Tm.qK _ hb, hh.1, hh.2.1, hh.2.2.1, U.eq hr]
          · simp only [bA, aW, List.cons.injEq, eM] at e
            rw [Tm.qK _ ha, Tm.qK _ hb] at e
            exact U.gen θ S (by injection e)
        · rename_i hh
          simp only [Option.some.injEq, Prod.mk.injEq] at h
          obtain ⟨rfl, rfl, rfl⟩ := h
          refine ⟨hg, fun _ _ => rfl, fun _ h => absurd h (dP), pW, fun h => (by cases h), fun θ S e => ?_, fun _ => rfl⟩
          exfalso
          simp only [bA, aW, List.cons.injEq, eM] at e
          rw [Tm.qK _ ha, Tm.qK _ hb] at e
          injection e with e1 e2 e3 e4
          exact hh (rZ.2 ⟨e1, e2, e3, by simpa using nZ List.length e4⟩)
theorem uR {g : Nat} {σ : Sub} {a b : Tm} {r : Bool} {σ' : Sub} {tr : List Int} (hg : cK σ) (h : dD g σ a b = some (r, σ', tr)) : nT σ [a] [b] r σ' tr := (aMD g).1 σ a b r σ' tr hg h
end Go.AW
