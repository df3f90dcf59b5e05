/- The reference's writer as data. -/
import Derived.Test.YtpficjlageaebaaGreatDoorSfup
import Derived.Test.YtpficjlageaebaaGreatDoorSfui
import Derived.Test.YtpficjlageaebaaGreatDoorSful
import Derived.Test.YtpficjlageaebaaGreatDoorSfun
import Derived.Test.YtpficjlageaebaaGreatDoorSfum
set_option linter.unusedSimpArgs false
set_option linter.unusedVariables false
set_option maxRecDepth 100000
namespace Go.AW
def mQ : Nat → Nat → ByteArray → ByteArray
 | 0, _, acc => acc
 | f + 1, n, acc => if 9 < n then mQ f (n / 10) (⟨#[UInt8.ofNat (48 + n % 10)]⟩ ++ acc) else ⟨#[UInt8.ofNat (48 + n)]⟩ ++ acc
def yX (n : Int) : ByteArray := if n < 0 then ⟨#[45]⟩ ++ mQ 20 (-n).toNat ⟨#[]⟩ else mQ 20 n.toNat ⟨#[]⟩
def KI (n : Int) : ByteArray := ⟨#[UInt8.ofNat (65 + n.toNat)]⟩
def pX (t : Tm) : Bool := decide (t.k = 3) && (decide (t.s = ⟨#[46]⟩) && decide (t.ts.length = 2))
def IU (t : Tm) : Bool := decide (t.k = 3) && (decide (t.s = ⟨#[91, 93]⟩) && decide (t.ts.length = 0))
def uO (t : Tm) : Bool := decide (t.k = 3) && (decide (t.ts.length = 2) && decide (0 < dL t.s))
def A0 (t : Tm) : Bool := decide (t.k = 3) && (decide (t.ts.length = 0) && decide (0 < dL t.s))
def MQ (t : Tm) : Bool := decide (t.k = 3) && decide (0 < t.ts.length)
def nT (t : Tm) (i : Nat) : Tm := t.ts.getD i aZ3
 where aZ3 : Tm := .mk 0 0 ⟨#[]⟩ []
def kK (T : Tm → ByteArray) : List Tm → ByteArray
 | [] => ⟨#[]⟩
 | x :: xs => xs.foldl (fun o y => (o ++ ⟨#[44]⟩) ++ T y) (⟨#[]⟩ ++ T x)
def spine : Nat → Tm → List Tm × Tm
 | 0, t => ([], t)
 | n + 1, t => if pX t then (nT t 0 :: (spine n (nT t 1)).1, (spine n (nT t 1)).2) else ([], t)
def qE (nm : ByteArray) : ByteArray := if iL nm then (⟨#[32]⟩ ++ nm) ++ ⟨#[32]⟩ else nm
def J1 (l : List UInt8) : Bool := fR l 0 letter || (fR l 0 dN || (fR l 0 r8 || (cO l 0 91 || cO l 0 40)))
def s8 (T : Tm → ByteArray) (t : Tm) (lv : Nat) : ByteArray := if uO t && decide (lv < dL t.s) then (⟨#[40]⟩ ++ T t) ++ ⟨#[41]⟩ else T t
def zN (T : Tm → ByteArray) (t : Tm) (lv : Nat) : ByteArray := if A0 t then (⟨#[40]⟩ ++ T t) ++ ⟨#[41]⟩ else s8 T t lv
def yJ (T : Tm → ByteArray) (t : Tm) (lv : Nat) : ByteArray := if A0 t || !J1 (sb (s8 T t lv)) then (⟨#[40]⟩ ++ s8 T t lv) ++ ⟨#[41]⟩ else s8 T t lv
def F6 (T : Tm → ByteArray) (p : List Tm × Tm) : ByteArray := if IU p.2 then (⟨#[91]⟩ ++ kK T p.1) ++ ⟨#[93]⟩ else (((⟨#[91]⟩ ++ kK T p.1) ++ ⟨#[124]⟩) ++ T p.2) ++ ⟨#[93]⟩
def AH (t : Tm) : ByteArray := if t.k = 1 then KI t.n else if t.k = 2 then yX t.n else t.s
def lvl (n : Nat) : Nat := if n = 3 then 2 else n
def tx : Nat → Tm → ByteArray
 | 0, _ => ⟨#[]⟩
 | n + 1, t => if pX t then F6 (tx n) (spine n t) else if uO t then (zN (tx n) (nT t 0) (lvl (dL t.s)) ++ qE t.s) ++ yJ (tx n) (nT t 1) (dL t.s - 1)
  else if MQ t then ((t.s ++ ⟨#[40]⟩) ++ kK (tx n) t.ts) ++ ⟨#[41]⟩ else AH t
theorem aZF {T : Tm → ByteArray} {l : List Tm} {i : Nat} {x : Tm} (hx : l[i]? = some x) : kK T (l.take (i + 1)) = (if 0 < i then kK T (l.take i) ++ ⟨#[44]⟩ else kK T (l.take i)) ++ T x := by
 rw [fM, hx]
 cases l with
 | nil => simp at hx
 | cons y l =>
  cases i with
  | zero => simp at hx; subst hx; rfl
  | succ i =>
   rw [aG (by omega), vI]
   simp only [kK, GV, fF, List.foldl_append, zX, List.foldl_nil]
theorem dF (a b : ByteArray) : (a ++ b).size = a.size + b.size := ByteArray.size_append
theorem HJ : ∀ (f n : Nat) (acc : ByteArray), (mQ f n acc).size ≤ f + acc.size
 | 0, n, acc => by simp [mQ]
 | f + 1, n, acc => by
  unfold mQ
  split
  · refine nB (HJ f _ _) ?_
    rw [dF]
    show f + (1 + acc.size) ≤ _
    omega
  · rw [dF]
    show 1 + acc.size ≤ _
    omega
abbrev Ws (t : Tm) : Prop := ∃ d, t.shape d = true
theorem Ws.own {k n : Int} {s : ByteArray} {ts : List Tm} (h : Ws (.mk k n s ts)) : eE k n s ts.length = true ∧ ∀ x ∈ ts, Ws x := by
 obtain ⟨d, h⟩ := h
 rw [Tm.CT, cM, cM, eW] at h
 exact ⟨h.1.2, fun x hx => ⟨_, h.2 x hx⟩⟩
theorem FF {k n : Int} {s : ByteArray} {len : Int} (h : eE k n s len = true) : (k = 1 ∧ 0 ≤ n ∧ n ≤ 25 ∧ s = ⟨#[]⟩ ∧ len = 0) ∨ (k = 2 ∧ -999 ≤ n ∧ n ≤ 999 ∧ s = ⟨#[]⟩ ∧ len = 0) ∨ (k = 3 ∧ n = 0 ∧ wT s = true ∧ len ≤ 4) := by
 unfold eE at h
 by_cases h1 : k = 1
 · rw [gA h1] at h
   simp only [cond_true, cM, bJ] at h
   exact Or.inl ⟨h1, h.1.1.1, h.1.1.2, h.1.2, h.2⟩
 rw [fH h1] at h
 by_cases h2 : k = 2
 · rw [gA h2] at h
   simp only [cond_true, z5, cM, bJ] at h
   exact Or.inr (Or.inl ⟨h2, h.1.1.1, h.1.1.2, h.1.2, h.2⟩)
 rw [fH h2] at h
 by_cases h3 : k = 3
 · rw [gA h3] at h
   simp only [cond_true, z5, cM, bJ] at h
   exact Or.inr (Or.inr ⟨h3, h.1.1, h.1.2, h.2⟩)
 · rw [fH h3] at h
   cases h
theorem aJ3 {s : ByteArray} (h : wT s = true) : 1 ≤ s.size ∧ s.size ≤ 6 := by
 unfold wT at h
 rw [qY] at h
 rcases h with h | h
 · simp only [rJ, cM, bJ] at h
   omega
 · rw [List.any_eq_true] at h
   obtain ⟨x, hx, h⟩ := h
   rw [bJ] at h
   subst h
   revert hx
   revert s
   decide
theorem Ws.size {t : Tm} (h : Ws t) : t.s.size ≤ 6 ∧ (t.k = 3 → 1 ≤ t.s.size) := by
 obtain ⟨k, n, s, ts⟩ := t
 rcases FF h.own.1 with h | h | h
 · rw [show (Tm.mk k n s ts).s = s from rfl, h.2.2.2.1]; exact ⟨by decide, fun h3 => by have : k = 3 := h3; omega⟩
 · rw [show (Tm.mk k n s ts).s = s from rfl, h.2.2.2.1]; exact ⟨by decide, fun h3 => by have : k = 3 := h3; omega⟩
 · have := aJ3 h.2.2.1; exact ⟨this.2, fun _ => this.1⟩
theorem qQ (t : Tm) : 1 ≤ t.nodes := by obtain ⟨k, n, s, ts⟩ := t; rw [Tm.gO]; omega
theorem aFB {x : Tm} {l : List Tm} (h : x ∈ l) : x.nodes ≤ bG Tm.nodes l := by
 induction l with
 | nil => cases h
 | cons y l ih =>
  simp only [bG]
  rcases cZ.1 h with rfl | h
  · omega
  · have := ih h; omega
theorem aLZ : ∀ (l : List Tm) (i : Nat), bG Tm.nodes (l.take i) ≤ bG Tm.nodes l
 | [], i => by simp
 | x :: l, 0 => by simp [bG]
 | x :: l, i + 1 => by simp only [vI, bG]; have := aLZ l i; omega
theorem H6 {T : Tm → ByteArray} {l : List Tm} (h : ∀ x ∈ l, (T x).size ≤ 32 * x.nodes) : (kK T l).size ≤ 32 * bG Tm.nodes l + l.length := by
 have hg : ∀ (xs : List Tm) (o : ByteArray), (∀ x ∈ xs, (T x).size ≤ 32 * x.nodes) → (xs.foldl (fun o y => (o ++ ⟨#[44]⟩) ++ T y) o).size ≤ o.size + 32 * bG Tm.nodes xs + xs.length := by
  intro xs
  induction xs with
  | nil => intro o _; simp [bG]
  | cons x xs ih =>
   intro o hx
   refine nB (ih _ fun y hy => hx y (by simp [hy])) ?_
   rw [dF, dF]
   have := hx x (by simp)
   simp only [bG, aS]
   show o.size + 1 + _ + _ + _ ≤ _
   omega
 cases l with
 | nil => exact jC _
 | cons x l =>
  refine nB (hg l _ fun y hy => h y (by simp [hy])) ?_
  rw [dF]
  have := h x (by simp)
  simp only [bG, aS]
  show 0 + _ + _ + _ ≤ _
  omega
theorem AD {t : Tm} (h : pX t = true) : ∃ n x y, t = .mk 3 n ⟨#[46]⟩ [x, y] := by
 obtain ⟨k, n, s, ts⟩ := t
 simp only [pX, cM, bJ] at h
 simp only [Tm.k, Tm.s, Tm.ts] at h
 obtain ⟨rfl, rfl, h3⟩ := h
 match ts, h3 with
 | [x, y], _ => exact ⟨n, x, y, rfl⟩
theorem A7 {k n : Int} {s : ByteArray} {x y : Tm} : nT (.mk k n s [x, y]) 0 = x ∧ nT (.mk k n s [x, y]) 1 = y := ⟨rfl, rfl⟩
theorem NK : ∀ (n : Nat) (t : Tm), Ws t → (∀ x ∈ (spine n t).1, Ws x) ∧ Ws (spine n t).2 ∧ bG Tm.nodes (spine n t).1 + (spine n t).1.length + (spine n t).2.nodes = t.nodes
 | 0, t, h => ⟨by simp [spine], h, by simp [spine, bG]⟩
 | n + 1, t, h => by
  unfold spine
  split
  · rename_i hp
    obtain ⟨m, x, y, rfl⟩ := AD hp
    have hk := h.own.2
    obtain ⟨h1, h2, h3⟩ := NK n y (hk y (by simp))
    simp only [A7]
    refine ⟨fun z hz => ?_, h2, ?_⟩
    · rcases cZ.1 hz with rfl | hz
      · exact hk z (by simp)
      · exact h1 z hz
    · simp only [bG, aS, Tm.gO]
      omega
  · exact ⟨by simp, h, by simp [bG]⟩
theorem NU {t : Tm} (h : uO t = true) : ∃ n s x y, t = .mk 3 n s [x, y] ∧ 0 < dL s := by
 obtain ⟨k, n, s, ts⟩ := t
 simp only [uO, cM, bJ] at h
 simp only [Tm.k, Tm.s, Tm.ts] at h
 obtain ⟨rfl, h2, h3⟩ := h
 match ts, h2 with
 | [x, y], _ => exact ⟨n, s, x, y, rfl, h3⟩
theorem N2 {T : Tm → ByteArray} {t : Tm} (lv : Nat) : (T t).size ≤ (s8 T t lv).size ∧ (s8 T t lv).size ≤ (T t).size + 2 := by
 unfold s8
 split
 · rw [dF, dF]; show _ ≤ 1 + _ + 1 ∧ 1 + _ + 1 ≤ _; omega
 · omega
theorem aU6 {T : Tm → ByteArray} {t : Tm} (lv : Nat) : (T t).size ≤ (zN T t lv).size ∧ (zN T t lv).size ≤ (T t).size + 2 := by
 unfold zN
 split
 · rw [dF, dF]; show _ ≤ 1 + _ + 1 ∧ 1 + _ + 1 ≤ _; omega
 · exact N2 lv
theorem aZ4 {T : Tm → ByteArray} {t : Tm} (lv : Nat) : (T t).size ≤ (yJ T t lv).size ∧ (yJ T t lv).size ≤ (T t).size + 4 := by
 have := N2 (T := T) (t := t) lv
 unfold yJ
 split
 · rw [dF, dF]; show _ ≤ 1 + _ + 1 ∧ 1 + _ + 1 ≤ _; omega
 · omega
theorem HB : ∀ (n : Nat) (t : Tm), Ws t → (tx n t).size ≤ 32 * t.nodes
 | 0, t, _ => jC _
 | n + 1, t, h => by
  have hT := HB n
  unfold tx
  split
  · rename_i hp
    obtain ⟨h1, h2, h3⟩ := NK n t h
    have ha := H6 (T := tx n) (l := (spine n t).1) fun x hx => hT x (h1 x hx)
    have hb := hT _ h2
    have hq := qQ (spine n t).2
    have hl : 1 ≤ (spine n t).1.length ∨ n = 0 := by
     cases n with
     | zero => exact Or.inr rfl
     | succ m => left; unfold spine; rw [aG hp]; simp
    have h4 : 3 ≤ t.nodes := by obtain ⟨m, x, y, rfl⟩ := AD hp; simp only [Tm.gO, bG]; have := qQ x; have := qQ y; omega
    have hb2 : 1 ≤ (spine n t).1.length ∨ ((tx n (spine n t).2).size = 0 ∧ (kK (tx n) (spine n t).1).size = 0) := by
     rcases hl with hl | rfl
     · left; omega
     · right; exact ⟨rfl, rfl⟩
    unfold F6
    split
    · rw [dF, dF]; show 1 + _ + 1 ≤ _; omega
    · rw [dF, dF, dF, dF]; show 1 + _ + 1 + _ + 1 ≤ _; omega
  split
  · rename_i hp
    obtain ⟨m, s, x, y, rfl, hs⟩ := NU hp
    have hk := h.own.2
    have h6 := h.size.1
    simp only [A7, Tm.gO, bG, Tm.s]
    have hx := hT x (hk x (by simp))
    have hy := hT y (hk y (by simp))
    have hl := (aU6 (T := tx n) (t := x) (lvl (dL s))).2
    have hr := (aZ4 (T := tx n) (t := y) (dL s - 1)).2
    rw [dF, dF]
    have hsp : (qE s).size ≤ 8 := by
     have h6 : s.size ≤ 6 := h6
     unfold qE
     split
     · rw [dF, dF]; show 1 + _ + 1 ≤ _; omega
     · omega
    show _ + (qE s).size + _ ≤ _
    omega
  split
  · obtain ⟨k, m, s, ts⟩ := t
    have ha := H6 (T := tx n) (l := ts) fun x hx => hT x (h.own.2 x hx)
    have h6 : s.size ≤ 6 := h.size.1
    have h4 : ts.length ≤ 4 := by rcases FF h.own.1 with h | h | h <;> omega
    rw [dF, dF, dF, Tm.gO]
    simp only [Tm.s, Tm.ts]
    show s.size + 1 + _ + 1 ≤ _
    omega
  · have h6 := h.size.1
    have hp := qQ t
    unfold AH
    split
    · show 1 ≤ _; omega
    · split
      · unfold yX
        split
        · rw [dF]; have := HJ 20 (-t.n).toNat ⟨#[]⟩; have h0 : (⟨#[]⟩ : ByteArray).size = 0 := rfl; show 1 + _ ≤ _; omega
        · have := HJ 20 t.n.toNat ⟨#[]⟩; have h0 : (⟨#[]⟩ : ByteArray).size = 0 := rfl; omega
      · omega
def uG : Nat → Tm → Tm
 | 0, t => t
 | i + 1, t => uG i (nT t 1)
theorem TN : ∀ (i : Nat) (t : Tm), uG (i + 1) t = nT (uG i t) 1
 | 0, t => rfl
 | i + 1, t => by rw [uG, TN i]; try rfl
theorem aHH : ∀ (n : Nat) (t : Tm) (i : Nat) (x : Tm), (spine n t).1[i]? = some x → pX (uG i t) = true ∧ nT (uG i t) 0 = x
 | 0, t, i, x, h => by simp [spine] at h
 | n + 1, t, i, x, h => by
  unfold spine at h
  split at h
  · rename_i hp
    cases i with
    | zero => simp at h; exact ⟨hp, h⟩
    | succ i => exact aHH n _ i x (by simpa using h)
  · simp at h
theorem aH4 : ∀ (n : Nat) (t : Tm), t.nodes ≤ n + 1 → (spine n t).2 = uG (spine n t).1.length t ∧ pX (spine n t).2 = false
 | 0, t, h => by
  refine ⟨rfl, ?_⟩
  cases hp : pX t with
  | false => exact hp
  | true => obtain ⟨m, x, y, rfl⟩ := AD hp; simp only [Tm.gO, bG] at h; have := qQ x; omega
 | n + 1, t, h => by
  unfold spine
  split
  · rename_i hp
    obtain ⟨m, x, y, rfl⟩ := AD hp
    simp only [Tm.gO, bG] at h
    have := qQ x
    have := aH4 n y (by omega)
    exact ⟨this.1, this.2⟩
  · rename_i hp
    exact ⟨rfl, by simpa using hp⟩
theorem aMK {n : Nat} {t : Tm} (h : Ws t) (hn : 1 ≤ n) : 1 ≤ (tx n t).size := by
 obtain ⟨n, rfl⟩ : ∃ m, n = m + 1 := ⟨n - 1, by omega⟩
 unfold tx
 split
 · unfold F6
   split
   · rw [dF, dF]; show 1 ≤ 1 + _ + 1; omega
   · rw [dF]; show 1 ≤ _ + 1; omega
 split
 · rename_i hp
   obtain ⟨m, s, x, y, rfl, hs⟩ := NU hp
   have h6 : 1 ≤ s.size := h.size.2 rfl
   rw [dF, dF]
   have : 1 ≤ (qE s).size := by
    unfold qE
    split
    · rw [dF, dF]; omega
    · exact h6
   show 1 ≤ _ + (qE s).size + _
   omega
 split
 · rw [dF]; show 1 ≤ _ + 1; omega
 · obtain ⟨k, m, s, ts⟩ := t
   rw [show AH (.mk k m s ts) = if k = 1 then KI m else if k = 2 then yX m else s from rfl]
   rcases FF h.own.1 with h1 | h1 | h1
   · rw [aG h1.1]; exact cY _
   · rw [aE (by omega), aG h1.1]
     unfold yX
     split
     · rw [dF]; show 1 ≤ 1 + _; omega
     · have hf : ∀ f n acc, 1 ≤ (mQ (f + 1) n acc).size := by
        intro f
        induction f with
        | zero =>
         intro n acc; unfold mQ; split
         · simp only [mQ]; rw [dF]; show 1 ≤ 1 + _; omega
         · rw [dF]; show 1 ≤ 1 + _; omega
        | succ f ih =>
         intro n acc; unfold mQ; split
         · exact ih _ _
         · rw [dF]; show 1 ≤ 1 + _; omega
       exact hf 19 _ _
   · rw [aE (by omega), aE (by omega)]; exact (aJ3 h1.2.2.1).1
end Go.AW
namespace Go.AW
open Go.Proofs.Tryz
theorem W2 {k n : Int} {s : ByteArray} {ts : List Tm} : pX (.mk k n s ts) = (decide (k = 3) && (decide (s = ⟨#[46]⟩) && decide (ts.length = 2))) := rfl
theorem aPM {k n : Int} {s : ByteArray} {ts : List Tm} : IU (.mk k n s ts) = (decide (k = 3) && (decide (s = ⟨#[91, 93]⟩) && decide (ts.length = 0))) := rfl
theorem aXE {k n : Int} {s : ByteArray} {ts : List Tm} : uO (.mk k n s ts) = (decide (k = 3) && (decide (ts.length = 2) && decide (0 < dL s))) := rfl
theorem Q1 {k n : Int} {s : ByteArray} {ts : List Tm} : MQ (.mk k n s ts) = (decide (k = 3) && decide (0 < ts.length)) := rfl
theorem aMH {k n : Int} {s : ByteArray} {ts : List Tm} : A0 (.mk k n s ts) = (decide (k = 3) && (decide (ts.length = 0) && decide (0 < dL s))) := rfl
abbrev K6 := zi tI_3 (zi zI_3 (zi aX (zi tI_4 (zi zI_4 (zi cE (zi tI_9 (zi zI_9 (zi cG (zi tI_31 (zi zI_31 (zi aN (zi bE (zi bF (zi cA (zi tI_63 (zi zI_63 (zi bR (zi bQ (zi bP (zi bT bU))))))))))))))))))))
theorem HF (t : Tm) (st : aB) : aD prog 239 [t.av] st (fun r st' => r = .bool (pX t) ∧ st' = st) := by
 obtain ⟨k, n, s, ts⟩ := t
 rw [W2]
 refine wF [1000000] 1 func239 ntmps239 rfl rfl ?_
 intro _
 simp only [aV]
 by_cases h1 : k = 3
 case neg =>
  rw [fH h1, gK]
  simp -implicitDefEqProofs only [h1, bX, aA, seval, K6]
 rw [gA h1, eT]
 by_cases h2 : s = ⟨#[46]⟩
 case neg =>
  rw [fH h2, gK]
  simp -implicitDefEqProofs only [h1, h2, bM, bX, aA, seval, K6]
 rw [gA h2, eT]
 have h3 : decide (((ts.length : Nat) : Int) = 2) = decide (ts.length = 2) := by rw [z6]; omega
 simp -implicitDefEqProofs only [h1, h2, h3, bM, aF, aA, seval, K6]
abbrev K8 := zi tI_3 (zi zI_3 (zi aX (zi tI_4 (zi zI_4 (zi cE (zi tI_9 (zi zI_9 (zi cG (zi tI_31 (zi zI_31 (zi aN (zi bE (zi bF (zi cA (zi tI_63 (zi zI_63 (zi bR (zi bQ (zi bP (zi bT bU))))))))))))))))))))
theorem aT2 (t : Tm) (st : aB) : aD prog 249 [t.av] st (fun r st' => r = .bool (IU t) ∧ st' = st) := by
 obtain ⟨k, n, s, ts⟩ := t
 rw [aPM]
 refine wF [1000000] 1 func249 ntmps249 rfl rfl ?_
 intro _
 simp only [aV]
 by_cases h1 : k = 3
 case neg =>
  rw [fH h1, gK]
  simp -implicitDefEqProofs only [h1, bX, aA, seval, K8]
 rw [gA h1, eT]
 by_cases h2 : s = ⟨#[91, 93]⟩
 case neg =>
  rw [fH h2, gK]
  simp -implicitDefEqProofs only [h1, h2, bM, bX, aA, seval, K8]
 rw [gA h2, eT]
 have h3 : decide (((ts.length : Nat) : Int) = 0) = decide (ts.length = 0) := by rw [z6]; omega
 simp -implicitDefEqProofs only [h1, h2, h3, bM, aF, aA, seval, K8]
abbrev LR := zi tI_3 (zi zI_3 (zi aX (zi tI_4 (zi zI_4 (zi cE (zi tI_9 (zi zI_9 (zi cG (zi tI_31 (zi zI_31 (zi aN (zi bE (zi bF (zi cA (zi tI_63 (zi zI_63 (zi bR (zi bQ (zi bP (zi bT bU))))))))))))))))))))
theorem aBL (t : Tm) (st : aB) : aD prog 241 [t.av] st (fun r st' => r = .bool (uO t) ∧ st' = st) := by
 obtain ⟨k, n, s, ts⟩ := t
 rw [aXE]
 refine wF [1000000] 1 func241 ntmps241 rfl rfl ?_
 intro _
 simp only [aV]
 by_cases h1 : k = 3
 case neg =>
  rw [fH h1, gK]
  simp -implicitDefEqProofs only [h1, bX, aA, seval, LR]
 rw [gA h1, eT]
 by_cases h2 : ts.length = 2
 case neg =>
  rw [fH h2, gK]
  have h2' : (((ts.length : Nat) : Int) = 2) = False := cH (by omega)
  simp -implicitDefEqProofs only [h1, h2', bM, bX, aF, aA, seval, LR]
 rw [gA h2, eT]
 have h2' : (((ts.length : Nat) : Int) = 2) = True := c7 (by omega)
 simp -implicitDefEqProofs only [h1, h2', bM, aF, aA, seval, LR]
 refine (vB s _).to ?_
 have h3 : decide ((0 : Int) < (dL s : Int)) = decide (0 < dL s) := by rw [z6]; omega
 simp -implicitDefEqProofs only [h3, aA, seval]
abbrev LW := zi tI_3 (zi zI_3 (zi aX (zi tI_4 (zi zI_4 (zi cE (zi tI_9 (zi zI_9 (zi cG (zi tI_31 (zi zI_31 (zi aN (zi bE (zi bF (zi cA (zi tI_63 (zi zI_63 (zi bR (zi bQ (zi bP (zi bT bU))))))))))))))))))))
theorem Z5 (t : Tm) (st : aB) : aD prog 250 [t.av] st (fun r st' => r = .bool (A0 t) ∧ st' = st) := by
 obtain ⟨k, n, s, ts⟩ := t
 rw [aMH]
 refine wF [1000000] 1 func250 ntmps250 rfl rfl ?_
 intro _
 simp only [aV]
 by_cases h1 : k = 3
 case neg =>
  rw [fH h1, gK]
  simp -implicitDefEqProofs only [h1, bX, aA, seval, LW]
 rw [gA h1, eT]
 by_cases h2 : ts.length = 0
 case neg =>
  rw [fH h2, gK]
  have h2' : (((ts.length : Nat) : Int) = 0) = False := cH (by omega)
  simp -implicitDefEqProofs only [h1, h2', bM, bX, aF, aA, seval, LW]
 rw [gA h2, eT]
 have h2' : (((ts.length : Nat) : Int) = 0) = True := c7 (by omega)
 simp -implicitDefEqProofs only [h1, h2', bM, aF, aA, seval, LW]
 refine (vB s _).to ?_
 have h3 : decide ((0 : Int) < (dL s : Int)) = decide (0 < dL s) := by rw [z6]; omega
 simp -implicitDefEqProofs only [h3, aA, seval]
theorem aM5 (s : ByteArray) (hs : s.size ≤ 1000) (st : aB) : aD prog 243 [.str s] st (fun r st' => r = .str (qE s) ∧ st' = st) := by
 refine wF [1000000] 1 func243 ntmps243 rfl rfl ?_
 intro _
 have hm : maxLen = 9223372036854775807 := by rfl
 have g1 : (⟨#[32]⟩ : ByteArray).size + s.size ≤ maxLen := by show 1 + s.size ≤ _; omega
 have g2 : ((⟨#[32]⟩ : ByteArray) ++ s).size + (⟨#[32]⟩ : ByteArray).size ≤ maxLen := by rw [dF]; show 1 + s.size + 1 ≤ _; omega
 by_cases h1 : s = ⟨#[105, 115]⟩
 · have hW : iL s = true := by unfold iL; rw [gA h1]; try rfl
   unfold qE
   rw [aG hW]
   have h1' := c7 h1
   simp -implicitDefEqProofs only [h1', g1, g2, ↓reduceIte, bM, aA, seval]
 · have h1' := cH h1
   by_cases h2 : s = ⟨#[109, 111, 100]⟩
   · have hW : iL s = true := by unfold iL; rw [gA h2]; exact z0 _
     unfold qE
     rw [aG hW]
     have h2' := c7 h2
     simp -implicitDefEqProofs only [h1', h2', g1, g2, ↓reduceIte, bM, bX, aA, seval]
   · have hW : iL s = false := by unfold iL; rw [fH h1, fH h2]; try rfl
     unfold qE
     rw [aE (by rw [hW]; decide)]
     have h2' := cH h2
     simp -implicitDefEqProofs only [h1', h2', bX, aA, seval]
theorem aUA (s : ByteArray) (hs : 1 ≤ s.size) (st : aB) : aD prog 252 [.str s] st (fun r st' => r = .bool (J1 (sb s)) ∧ st' = st) := by
 refine wF [1000000] 1 func252 ntmps252 rfl rfl ?_
 intro _
 obtain ⟨x, hx⟩ := uM (s := s) (n := 0) (by omega)
 have hix := rW (P := prog) (t := 9) cG hx
 rw [show ((0 : Nat) : Int) = 0 from rfl] at hix
 unfold J1
 simp only [uJ hx, rV hx]
 simp -implicitDefEqProofs only [aA, seval]
 refine (aFP s 0 _).to ?_
 rw [uJ hx]
 cases h1 : letter x with
 | true =>
  simp -implicitDefEqProofs only [aA, seval]
  simp
 | false =>
  simp -implicitDefEqProofs only [aA, seval]
  refine (xU s 0 _).to ?_
  rw [uJ hx]
  cases h2 : dN x with
  | true =>
   simp -implicitDefEqProofs only [aA, seval]
   simp
  | false =>
   by_cases h3 : 65 ≤ x.toNat
   case' pos => have h3' : ((65 : Int) ≤ (x.toNat : Int)) = True := c7 (by omega)
   case' neg => have h3' : ((65 : Int) ≤ (x.toNat : Int)) = False := cH (by omega)
   all_goals
    by_cases h4 : x.toNat ≤ 90
    case' pos => have h4' : ((x.toNat : Int) ≤ 90) = True := c7 (by omega)
    case' neg => have h4' : ((x.toNat : Int) ≤ 90) = False := cH (by omega)
   all_goals
    by_cases h5 : x.toNat = 91
    case' pos => have h5' : ((x.toNat : Int) = 91) = True := c7 (by omega)
    case' neg => have h5' : ((x.toNat : Int) = 91) = False := cH (by omega)
   all_goals
    by_cases h6 : x.toNat = 40
    case' pos => have h6' : ((x.toNat : Int) = 40) = True := c7 (by omega)
    case' neg => have h6' : ((x.toNat : Int) = 40) = False := cH (by omega)
   all_goals try (exfalso; omega)
   all_goals
    simp -implicitDefEqProofs only [hix, h3', h4', h5', h6', bM, bX, aA, seval]
    simp [r8, h3, h4, h5, h6]
theorem PX (n : Nat) : bytesOf [AV.int .u8 ((n : Nat) : Int)] = some [UInt8.ofNat n] := by simp only [bytesOf, lC, qW]
theorem HZ {x : Int} {m : Nat} (h : x = (m : Int)) (hm : m ≤ 255) : IntKind.wrap .u8 x = (m : Int) := by rw [IntKind.wrap_u8]; omega
abbrev aNP := zi tI_3 (zi zI_3 (zi aX (zi tI_5 (zi zI_5 (zi kF (zi tI_9 (zi zI_9 (zi cG (zi tI_57 (zi zI_57 (zi sL (zi z7 (zi BT xO)))))))))))))
theorem aXF (m : Nat) (hm : m ≤ 25) (st : aB) : aD prog 253 [.int .i64 (m : Int)] st (fun r st' => r = .str (KI m) ∧ st' = st) := by
 refine wF [1000000] 1 func253 ntmps253 rfl rfl ?_
 intro _
 have hw := HZ (x := (m : Int)) rfl (by omega)
 obtain ⟨y, hy⟩ : ∃ y, y = 65 + m := ⟨_, rfl⟩
 have hw2 := HZ (x := 65 + (m : Int)) (m := y) (by omega) (by omega)
 simp -implicitDefEqProofs only [sT, hw, hw2, PX, aA, seval, aNP]
 subst hy
 rfl
abbrev VG := zi tI_3 (zi zI_3 (zi aX (zi tI_5 (zi zI_5 (zi kF (zi tI_9 (zi zI_9 (zi cG (zi tI_57 (zi zI_57 (zi sL (zi z7 (zi BT xO)))))))))))))
theorem U4 (n : Nat) (hn : n ≤ 1000000) (st : aB) : aD prog 211 [.int .i64 (n : Int)] st (fun r st' => r = .str (mQ 20 n ⟨#[]⟩) ∧ st' = st) := by
 refine wF [1000000] 1 func211 ntmps211 rfl rfl ?_
 intro _
 have h1 : ((n : Int) < -9223372036854775807) = False := cH (by omega)
 have h2 : ((n : Int) < 0) = False := cH (by omega)
 simp -implicitDefEqProofs only [h1, h2, bX, aA, seval]
 generalize hT : mQ 20 n ⟨#[]⟩ = T
 refine gX (σ := Nat × ByteArray × Nat) [1000000] [2] (fun x => mQ x.2.2 x.1 x.2.1 = T ∧ x.1 < 10 ^ x.2.2 ∧ x.1 ≤ 1000000 ∧ 1 ≤ x.2.2 ∧ x.2.1.size + x.2.2 ≤ 20) (fun x => [(0, .int .i64 (x.1 : Int)), (3, .str x.2.1)]) (fun _ => st) (fun x => x.2.2) (by decide +kernel) ⟨(n, ⟨#[]⟩, 20), ⟨hT, by simp only; omega, hn, by simp only; omega, by show 0 + 20 ≤ 20; omega⟩, aO.mk (by simp -implicitDefEqProofs only [aA, seval])⟩ ?_
 rintro ⟨k, acc, f⟩ ⟨hd, hk, hk6, hf, hb⟩
 simp only at hd hk hk6 hf hb ⊢
 obtain ⟨f, rfl⟩ : ∃ f', f = f' + 1 := ⟨f - 1, by omega⟩
 have hm : maxLen = 9223372036854775807 := by rfl
 have hsz : ∀ u : UInt8, (⟨#[u]⟩ : ByteArray).size + acc.size ≤ maxLen := fun u => by show 1 + acc.size ≤ _; omega
 have hr : ((k : Int)).tmod 10 = ((k % 10 : Nat) : Int) := by rw [Int.tmod_eq_emod_of_nonneg (by omega)]; omega
 have hq : ((k : Int)).tdiv 10 = ((k / 10 : Nat) : Int) := by rw [Int.tdiv_eq_ediv_of_nonneg (by omega)]; omega
 simp -implicitDefEqProofs only [aA, seval]
 refine aP (fun h3 => ?_) (fun h3 => ?_)
 · simp only [bJ] at h3
   unfold mQ at hd
   rw [aG (by omega)] at hd
   rw [Nat.pow_succ] at hk
   obtain ⟨y, hy⟩ : ∃ y, y = 48 + k % 10 := ⟨_, rfl⟩
   obtain ⟨q, hq'⟩ : ∃ q, q = k / 10 := ⟨_, rfl⟩
   obtain ⟨r, hr'⟩ : ∃ r, r = k % 10 := ⟨_, rfl⟩
   rw [← hr'] at hr
   rw [← hq'] at hq
   have hwr := bK (n := (r : Int))
   have hw := nA (x := 48 + (r : Int)) (m := y) (by omega) (by omega)
   have hw8 := HZ (x := (y : Int)) (m := y) rfl (by omega)
   have hw2 := bK (n := (q : Int))
   simp -implicitDefEqProofs only [sT, hr, hq, hw, hw8, hw2, PX, hsz, aA, seval, VG]
   refine ⟨(q, ⟨#[UInt8.ofNat y]⟩ ++ acc, f), by simp only; omega, ⟨by rw [hq', hy]; exact hd, by simp only; omega, by simp only; omega, ?_, ?_⟩, aO.mk (by simp -implicitDefEqProofs only [aA, seval] <;> rfl)⟩
   · show 1 ≤ f
     rcases Nat.eq_zero_or_pos f with rfl | h
     · simp only [Nat.pow_zero] at hk; omega
     · exact h
   · show (⟨#[UInt8.ofNat y]⟩ ++ acc : ByteArray).size + f ≤ 20
     rw [dF]
     show 1 + acc.size + f ≤ 20
     omega
 · simp only [dG] at h3
   unfold mQ at hd
   rw [aE (by omega)] at hd
   obtain ⟨y, hy⟩ : ∃ y, y = 48 + k := ⟨_, rfl⟩
   have hw := nA (x := 48 + (k : Int)) (m := y) (by omega) (by omega)
   have hw8 := HZ (x := (y : Int)) (m := y) rfl (by omega)
   simp -implicitDefEqProofs only [sT, hw, hw8, PX, hsz, aA, seval, VG]
   rw [← hd, hy]
theorem aQH (n : Int) (h1 : -999 ≤ n) (h2 : n ≤ 999) (st : aB) : aD prog 210 [.int .i64 n] st (fun r st' => r = .str (yX n) ∧ st' = st) := by
 refine wF [1000000] 1 func210 ntmps210 rfl rfl ?_
 intro _
 unfold yX
 have hm : maxLen = 9223372036854775807 := by rfl
 by_cases h : n < 0
 · rw [aG h]
   obtain ⟨m, hm'⟩ : ∃ m : Nat, m = (-n).toNat := ⟨_, rfl⟩
   rw [← hm']
   have h' := c7 h
   have hw := nA (x := 0 - n) (m := m) (by omega) (by omega)
   have hw' := nA (x := -n) (m := m) (by omega) (by omega)
   have hs : (⟨#[45]⟩ : ByteArray).size + (mQ 20 m ⟨#[]⟩).size ≤ maxLen := by have := HJ 20 m ⟨#[]⟩; have h0 : (⟨#[]⟩ : ByteArray).size = 0 := rfl; show 1 + _ ≤ _; omega
   simp -implicitDefEqProofs only [h', hw, ↓reduceIte, bM, aA, seval]
   refine (U4 m (by omega) _).to ?_
   simp -implicitDefEqProofs only [hs, ↓reduceIte, aA, seval]
 · rw [aE h]
   obtain ⟨m, rfl⟩ := tO (show 0 ≤ n by omega)
   have h' := cH h
   rw [lC]
   simp -implicitDefEqProofs only [h', bX, aA, seval]
   refine (U4 m (by omega) _).to ?_
   simp -implicitDefEqProofs only [aA, seval]
abbrev E3 := zi tI_3 (zi zI_3 (zi aX (zi tI_9 (zi zI_9 (zi cG (zi tI_31 (zi zI_31 (zi aN (zi bE (zi bF (zi cA (zi tI_63 (zi zI_63 (zi bR (zi bQ (zi bP (zi bT bU)))))))))))))))))
theorem aTS (t : Tm) (ht : Ws t) (h0 : t.k = 3 → t.ts = []) (st : aB) : aD prog 246 [t.av] st (fun r st' => r = .str (AH t) ∧ st' = st) := by
 obtain ⟨k, n, s, ts⟩ := t
 have hp := HF (.mk k n s ts)
 simp only [aV] at hp ⊢
 rw [show AH (.mk k n s ts) = if k = 1 then KI n else if k = 2 then yX n else s from rfl]
 have h0 : k = 3 → ts = [] := h0
 refine wF [1000000] 1 func246 ntmps246 rfl rfl ?_
 intro _
 rcases FF ht.own.1 with ⟨rfl, h1, h2, rfl, h4⟩ | ⟨rfl, h1, h2, rfl, h4⟩ | ⟨rfl, rfl, h2, h4⟩
 · obtain ⟨m, rfl⟩ := tO h1
   simp -implicitDefEqProofs only [aA, seval, E3]
   refine (aXF m (by omega) _).to ?_
   simp -implicitDefEqProofs only [aA, seval]
 · skip
   simp -implicitDefEqProofs only [aA, seval, E3]
   refine (aQH n h1 h2 _).to ?_
   simp -implicitDefEqProofs only [aA, seval]
 · obtain rfl := h0 rfl
   simp -implicitDefEqProofs only [aW, aA, seval, E3]
   refine (hp _).to ?_
   rw [show pX (.mk 3 0 s []) = false by rw [W2]; simp]
   simp -implicitDefEqProofs only [aA, seval, E3]
   refine gX (σ := Unit) [1000000] [1, 2] (fun _ => True) (fun _ => [(3, .str s), (4, .int .i64 0)]) (fun _ => st) (fun _ => 0) (by decide +kernel) ⟨(), trivial, aO.mk (by simp -implicitDefEqProofs only [aA, seval])⟩ ?_
   rintro _ _
   simp -implicitDefEqProofs only [aZ, aA, seval, E3]
def v9 (T : Tm → ByteArray) (t : Tm) : Prop := (∀ st : aB, aD prog 226 [t.av] st (fun r st' => r = .str (T t) ∧ st' = st)) ∧ (T t).size ≤ 32 * t.nodes ∧ 1 ≤ (T t).size ∧ t.nodes ≤ 1000
abbrev NE := zi tI_3 (zi zI_3 (zi aX (zi tI_9 (zi zI_9 (zi cG (zi tI_31 (zi zI_31 (zi aN (zi bE (zi bF (zi cA (zi tI_63 (zi zI_63 (zi bR (zi bQ (zi bP (zi bT bU)))))))))))))))))
theorem TF {T : Tm → ByteArray} (l : List Tm) (hT : ∀ t ∈ l, v9 T t) (hn : bG Tm.nodes l ≤ 10000) (hl : l.length ≤ 10000) (st : aB) : aD prog 245 [.slice (l.map Tm.av)] st (fun r st' => r = .str (kK T l) ∧ st' = st) := by
 refine wF [1000000] 1 func245 ntmps245 rfl rfl ?_
 intro _
 simp -implicitDefEqProofs only [aA, seval]
 refine eH (σ := Unit) [1000000] [0, 2] l (fun i _ => True) (fun i _ => [(3, .str (kK T (l.take i))), (4, .int .i64 i)]) (fun _ _ => st) (by decide +kernel) ⟨(), trivial, aO.mk (by simp -implicitDefEqProofs only [kQ, aA, ↓aU, seval] <;> rfl)⟩ (fun i x _ hx hlt bS hdr hinv => ?_) (fun _ hge hinv => ?_)
 case refine_2 =>
  rw [eS]
  simp -implicitDefEqProofs only [hge, aF, aA, seval, NE]
 have hxm := cU hx
 obtain ⟨c1, c2, c3, c4⟩ := hT x hxm
 have hw := bK (n := (i : Int) + 1)
 have hat := bL (av := Tm.av) aN hx (aH x)
 have iK := aZF (T := T) hx
 have hsz := H6 (T := T) (l := l.take i) fun y hy => (hT y (lW hy)).2.1
 have hsl : bG Tm.nodes (l.take i) ≤ bG Tm.nodes l := aLZ l i
 have hln : (l.take i).length ≤ 10000 := by rw [d5]; omega
 have hm : maxLen = 9223372036854775807 := by rfl
 have hs1 : (kK T (l.take i)).size + (⟨#[44]⟩ : ByteArray).size ≤ maxLen := by show _ + 1 ≤ _; omega
 have hs2 : (kK T (l.take i) ++ (⟨#[44]⟩ : ByteArray)).size + (T x).size ≤ maxLen := by rw [dF]; show _ + 1 + _ ≤ _; omega
 have hs3 : (kK T (l.take i)).size + (T x).size ≤ maxLen := by omega
 by_cases h0 : 0 < i
 · rw [aG h0] at iK
   have h0' : ((0 : Int) < (i : Int)) = True := c7 (by omega)
   simp -implicitDefEqProofs only [aF, hat, aT, aH, bS, h0', hs1, ↓reduceIte, bM, aA, seval, NE]
   refine (c1 _).to ?_
   simp -implicitDefEqProofs only [hs2, ↓reduceIte, aA, seval]
   exact ⟨(), aO.mk (by simp -implicitDefEqProofs only [hw, iK, ↓reduceIte, aA, seval])⟩
 · rw [aE h0] at iK
   have h0' : ((0 : Int) < (i : Int)) = False := cH (by omega)
   simp -implicitDefEqProofs only [aF, hat, aT, aH, bS, h0', ↓reduceIte, bM, bX, aA, seval, NE]
   refine (c1 _).to ?_
   simp -implicitDefEqProofs only [hs3, ↓reduceIte, aA, seval]
   exact ⟨(), aO.mk (by simp -implicitDefEqProofs only [hw, iK, ↓reduceIte, aA, seval])⟩
abbrev GG := zi tI_3 (zi zI_3 (zi aX (zi tI_9 (zi zI_9 (zi cG (zi tI_63 (zi zI_63 (zi bR (zi bQ (zi bP (zi bT bU)))))))))))
theorem aFK {T : Tm → ByteArray} (t : Tm) (hT : v9 T t) (lv : Nat) (hlv : lv ≤ 10) (st : aB) : aD prog 251 [t.av, .int .i64 (lv : Int)] st (fun r st' => r = .str (s8 T t lv) ∧ st' = st) := by
 obtain ⟨c1, c2, c3, c4⟩ := hT
 have hm : maxLen = 9223372036854775807 := by rfl
 have hs1 : (⟨#[40]⟩ : ByteArray).size + (T t).size ≤ maxLen := by show 1 + _ ≤ _; omega
 have hs2 : ((⟨#[40]⟩ : ByteArray) ++ T t).size + (⟨#[41]⟩ : ByteArray).size ≤ maxLen := by rw [dF]; show 1 + _ + 1 ≤ _; omega
 have hi := aBL t
 obtain ⟨k, n, s, ts⟩ := t
 rw [show s8 T (.mk k n s ts) lv = if (uO (.mk k n s ts) && decide (lv < dL s)) = true then (⟨#[40]⟩ ++ T (.mk k n s ts)) ++ ⟨#[41]⟩ else T (.mk k n s ts) from rfl]
 generalize hTT : T (.mk k n s ts) = u at *
 simp only [aV] at hi c1 ⊢
 refine wF [1000000] 2 func251 ntmps251 rfl rfl ?_
 intro _
 simp -implicitDefEqProofs only [aA, seval, GG]
 refine (hi _).to ?_
 cases hk : uO (.mk k n s ts) with
 | false =>
  rw [gK, aE (by decide)]
  simp -implicitDefEqProofs only [aA, seval, GG]
  refine (c1 _).to ?_
  simp -implicitDefEqProofs only [aA, seval]
 | true =>
  rw [eT]
  simp -implicitDefEqProofs only [aA, seval, GG]
  refine (vB s _).to ?_
  by_cases h : lv < dL s
  · rw [gA h, aG rfl]
    have h' : ((lv : Int) < (dL s : Int)) = True := c7 (by omega)
    simp -implicitDefEqProofs only [h', ↓reduceIte, bM, aA, seval, GG]
    refine (c1 _).to ?_
    simp -implicitDefEqProofs only [hs1, hs2, ↓reduceIte, aA, seval]
  · rw [fH h, aE (by decide)]
    have h' : ((lv : Int) < (dL s : Int)) = False := cH (by omega)
    simp -implicitDefEqProofs only [h', ↓reduceIte, bX, aA, seval, GG]
    refine (c1 _).to ?_
    simp -implicitDefEqProofs only [↓reduceIte, aA, seval]
abbrev P0 := zi tI_3 (zi zI_3 (zi aX (zi tI_9 (zi zI_9 (zi cG (zi tI_63 (zi zI_63 (zi bR (zi bQ (zi bP (zi bT bU)))))))))))
theorem aZR {T : Tm → ByteArray} (t : Tm) (hT : v9 T t) (lv : Nat) (hlv : lv ≤ 10) (st : aB) : aD prog 242 [t.av, .int .i64 (lv : Int)] st (fun r st' => r = .str (zN T t lv) ∧ st' = st) := by
 have hb := aFK t hT lv hlv
 obtain ⟨c1, c2, c3, c4⟩ := hT
 have hm : maxLen = 9223372036854775807 := by rfl
 have hs1 : (⟨#[40]⟩ : ByteArray).size + (T t).size ≤ maxLen := by show 1 + _ ≤ _; omega
 have hs2 : ((⟨#[40]⟩ : ByteArray) ++ T t).size + (⟨#[41]⟩ : ByteArray).size ≤ maxLen := by rw [dF]; show 1 + _ + 1 ≤ _; omega
 have hi := Z5 t
 unfold zN
 refine wF [1000000] 2 func242 ntmps242 rfl rfl ?_
 intro _
 simp -implicitDefEqProofs only [aT, aH, cF, ↓reduceIte, aA, seval, P0]
 refine (hi _).to ?_
 cases hk : A0 t with
 | false =>
  rw [aE (by decide)]
  simp -implicitDefEqProofs only [aT, aH, ↓reduceIte, aA, seval, P0]
  refine (hb _).to ?_
  simp -implicitDefEqProofs only [↓reduceIte, aA, seval]
 | true =>
  rw [aG rfl]
  simp -implicitDefEqProofs only [aT, aH, ↓reduceIte, aA, seval, P0]
  refine (c1 _).to ?_
  simp -implicitDefEqProofs only [↓reduceIte, hs1, hs2, aA, seval]
abbrev UM := zi tI_3 (zi zI_3 (zi aX (zi tI_4 (zi zI_4 (zi cE (zi tI_9 (zi zI_9 (zi cG (zi tI_63 (zi zI_63 (zi bR (zi bQ (zi bP (zi bT bU))))))))))))))
theorem aO1 {T : Tm → ByteArray} (t : Tm) (hT : v9 T t) (lv : Nat) (hlv : lv ≤ 10) (st : aB) : aD prog 244 [t.av, .int .i64 (lv : Int)] st (fun r st' => r = .str (yJ T t lv) ∧ st' = st) := by
 have hb := aFK t hT lv hlv
 have hbs := N2 (T := T) (t := t) lv
 obtain ⟨c1, c2, c3, c4⟩ := hT
 have hm : maxLen = 9223372036854775807 := by rfl
 unfold yJ
 generalize s8 T t lv = u at *
 have hs1 : (⟨#[40]⟩ : ByteArray).size + u.size ≤ maxLen := by show 1 + _ ≤ _; omega
 have hs2 : ((⟨#[40]⟩ : ByteArray) ++ u).size + (⟨#[41]⟩ : ByteArray).size ≤ maxLen := by rw [dF]; show 1 + _ + 1 ≤ _; omega
 have hi := Z5 t
 have hpl := aUA u (by omega)
 refine wF [1000000] 2 func244 ntmps244 rfl rfl ?_
 intro _
 simp -implicitDefEqProofs only [aT, aH, cF, ↓reduceIte, aA, seval, UM]
 refine (hb _).to ?_
 simp -implicitDefEqProofs only [aT, aH, ↓reduceIte, aA, seval, UM]
 refine (hi _).to ?_
 cases hk : A0 t with
 | true =>
  rw [xL, aG rfl]
  simp -implicitDefEqProofs only [↓reduceIte, hs1, hs2, aA, seval]
 | false =>
  rw [qU]
  simp -implicitDefEqProofs only [↓reduceIte, aA, seval]
  refine (hpl _).to ?_
  cases hq : J1 (sb u) with
  | true =>
   rw [aE (by decide)]
   simp -implicitDefEqProofs only [↓reduceIte, aA, seval]
  | false =>
   rw [aG (by decide)]
   simp -implicitDefEqProofs only [↓reduceIte, hs1, hs2, aA, seval]
theorem aCO {st : aB} {b q : Nat} {l : List AV} {o : AO} (hb : l ≠ [] → st b = none) (h : st q = some o) : aY st b l q = some o := by
 cases l with
 | nil => exact h
 | cons x l => exact (aB.aL _ _ (by rintro rfl; have := hb (by simp); rw [h] at this; cases this)).trans h
abbrev x7 := zi tI_9 (zi zI_9 (zi cG (zi tI_31 (zi zI_31 (zi aN (zi bE (zi bF (zi cA (zi tI_63 (zi zI_63 (zi bR (zi bQ (zi bP (zi bT bU))))))))))))))
set_option maxHeartbeats 1000000 in
theorem aT9 {T : Tm → ByteArray} (n : Nat) (t : Tm) (hn : t.nodes ≤ n + 1) (hws : Ws t) (QD : t.nodes ≤ 1000) (hT : ∀ x, Ws x → x.nodes < t.nodes → v9 T x) (hp : pX t = true) (st : aB) : aD prog 240 [t.av] st (fun r st' => r = .str (F6 T (spine n t)) ∧ st' = st) := by
 obtain ⟨q1, q2, q3⟩ := NK n t hws
 obtain ⟨e1, e2⟩ := aH4 n t hn
 have dS := aHH n t
 have hnp := qQ (spine n t).2
 have hne : 1 ≤ (spine n t).1.length := by
  cases n with
  | zero => obtain ⟨m, x, y, rfl⟩ := AD hp; simp only [Tm.gO, bG] at hn; have := qQ x; omega
  | succ m => unfold spine; rw [aG hp]; simp
 generalize spine n t = p at *
 obtain ⟨its, tl⟩ := p
 simp only at q1 q2 q3 e1 e2 dS hnp hne
 have hTi : ∀ x ∈ its, v9 T x := fun x hx => hT x (q1 x hx) (by have := aFB hx; omega)
 have hTt : v9 T tl := hT tl q2 (by omega)
 have qB := TF its hTi (by omega) (by omega)
 have a02 := H6 (T := T) (l := its) fun x hx => (hTi x hx).2.1
 obtain ⟨c1, c2, c3, c4⟩ := hTt
 have hm : maxLen = 9223372036854775807 := by rfl
 have hs1 : (⟨#[91]⟩ : ByteArray).size + (kK T its).size ≤ maxLen := by show 1 + _ ≤ _; omega
 have hs2 : ((⟨#[91]⟩ : ByteArray) ++ kK T its).size + (⟨#[93]⟩ : ByteArray).size ≤ maxLen := by rw [dF]; show 1 + _ + 1 ≤ _; omega
 have hs3 : ((⟨#[91]⟩ : ByteArray) ++ kK T its).size + (⟨#[124]⟩ : ByteArray).size ≤ maxLen := by rw [dF]; show 1 + _ + 1 ≤ _; omega
 have hs4 : (((⟨#[91]⟩ : ByteArray) ++ kK T its) ++ (⟨#[124]⟩ : ByteArray)).size + (T tl).size ≤ maxLen := by rw [dF, dF]; show 1 + _ + 1 + _ ≤ _; omega
 have hs5 : ((((⟨#[91]⟩ : ByteArray) ++ kK T its) ++ (⟨#[124]⟩ : ByteArray)) ++ T tl).size + (⟨#[93]⟩ : ByteArray).size ≤ maxLen := by rw [dF, dF, dF]; show 1 + _ + 1 + _ + 1 ≤ _; omega
 refine aD.pC ?_
 refine wF [1000000, 1] 1 func240 ntmps240 rfl rfl ?_
 intro _
 simp -implicitDefEqProofs only [cF, ↓reduceIte, aA, seval, x7]
 intro b1 hb1
 have hD := fun (o : AO) => (aM.refl st).aC (o := o) hb1
 refine rH (σ := Unit) [1000000, 1] [1, 2] its 4 3 (fun i _ => (its.take i).map Tm.av) (fun _ _ => True) (fun i _ => []) (fun i _ => st.aC b1 (.cells (uG i t).av.cells)) (fun i _ _ e he => by simp only [cV] at he; obtain ⟨x, _, rfl⟩ := he; exact ⟨cF _, aH _⟩) (by decide +kernel) ⟨(), 0, trivial, fun h => absurd rfl h, aO.mk (by simp -implicitDefEqProofs only [jF, kQ, aW, ↓reduceIte, aA, seval])⟩ (fun i x s b hx hlt bS hdr hinv hb => ?_) (fun s b hge hinv => ?_)
 case refine_1 =>
  obtain ⟨g1, g2⟩ := dS i x hx
  have hst := TN i t
  generalize uG i t = u at *
  have hpu := HF u
  rw [g1] at hpu
  obtain ⟨m, y, z, rfl⟩ := AD g1
  rw [A7.1] at g2
  rw [A7.2] at hst
  subst g2
  have hcs : (Tm.mk 3 m ⟨#[46]⟩ [y, z]).av.cells = [.int .i64 3, .int .i64 m, .str ⟨#[46]⟩, .slice [y.av, z.av]] := by rw [aV]; try rfl
  rw [hcs] at hb ⊢
  have hlk : aY (st.aC b1 (.cells [.int .i64 3, .int .i64 m, .str ⟨#[46]⟩, .slice [y.av, z.av]])) b ((its.take i).map Tm.av) b1 = some (.cells [.int .i64 3, .int .i64 m, .str ⟨#[46]⟩, .slice [y.av, z.av]]) := aCO hb (aB.aQ _ _ _)
  have hi0 := bL (av := Tm.av) (l := [y, z]) (i := 0) aN rfl (aH y)
  have hi1 := bL (av := Tm.av) (l := [y, z]) (i := 1) aN rfl (aH z)
  rw [show ((0 : Nat) : Int) = 0 from rfl] at hi0
  rw [show ((1 : Nat) : Int) = 1 from rfl] at hi1
  have cT : ((its.take i).map Tm.av).length = i := by simp only [aF, d5]; omega
  have htk : (its.take i).map Tm.av ++ [y.av] = (its.take (i + 1)).map Tm.av := by rw [fM, hx]; simp
  rw [hst]
  simp only [aV, bA, aW] at hlk hpu hi0 hi1 hb ⊢
  have hLw : ∀ e ∈ (its.take i).map Tm.av, e.width = 4 := dT _
  generalize (its.take i).map Tm.av = L at *
  simp -implicitDefEqProofs only [↓reduceIte, hlk, aA, seval, x7]
  refine (hpu _).to ?_
  simp -implicitDefEqProofs only [aT, aH, cF, ↓reduceIte, hlk, hi0, aA, seval, x7]
  refine eN aN bE bF rfl rfl (eY (aH _) (b7 _)) (fun e he => hLw e he) hb (by simp only [cT, aS, aZ]; omega) (by simp only [cT, aS, aZ]; omega) (fun b' hb' => ?_)
  rw [htk] at hb' ⊢
  have aNN := aCO (l := (its.take (i + 1)).map Tm.av) hb' (aB.aQ st b1 (.cells [.int .i64 3, .int .i64 m, .str ⟨#[46]⟩, .slice [y.av, z.av]]))
  have hnb : (its.take (i + 1)).map Tm.av ≠ [] → b1 ≠ b' := fun h => by rintro rfl; have := hb' h; rw [aB.aQ] at this; cases this
  have hup := fun o => n7 (st := st.aC b1 (.cells [.int .i64 3, .int .i64 m, .str ⟨#[46]⟩, .slice [y.av, z.av]])) (o := o) hnb
  simp -implicitDefEqProofs only [aK, aT, aH, b7, bO, ↓reduceIte, aNN, hi1, hup, dD, aA, seval, x7]
  exact ⟨(), b', fun h => by have := hb' h; rw [aB.aL _ _ (dA (hnb h))] at this ⊢; exact this, aO.mk (by simp -implicitDefEqProofs only [↓reduceIte, aA, seval])⟩
 rw [eS, ← e1]
 have hpt := HF tl
 rw [e2] at hpt
 have hnt := aT2 tl
 simp -implicitDefEqProofs only [iS, GI, lT, aW, bO, d9 (bO _), d7 (aT _), ↓reduceIte, aA, seval, x7]
 refine (hpt _).to ?_
 simp -implicitDefEqProofs only [bO, d9 (bO _), d7 (aT _), ↓reduceIte, aA, seval, x7]
 refine (hnt _).to ?_
 unfold F6
 cases hnk : IU tl with
 | true =>
  rw [aG rfl]
  simp -implicitDefEqProofs only [↓reduceIte, aA, seval]
  refine (qB _).to ?_
  simp -implicitDefEqProofs only [↓reduceIte, hs1, hs2, aA, seval]
  exact hD _
 | false =>
  rw [aE (by decide)]
  simp -implicitDefEqProofs only [↓reduceIte, aA, seval]
  refine wP [(0, 1), (1, 2), (2, 1), (3, 1), (4, 2), (5, 2), (6, 1), (7, 1), (8, 1)] [0, 1, 2, 3, 4, 5, 6, 7, 8] mixed ?_
  simp -implicitDefEqProofs only [↓reduceIte, aA, seval]
  refine i8 (qB _) ?_
  simp -implicitDefEqProofs only [bO, d9 (bO _), d7 (aT _), ↓reduceIte, hs1, hs3, aA, seval, x7]
  refine i8 (c1 _) ?_
  simp -implicitDefEqProofs only [↓reduceIte, hs4, hs5, aA, seval]
  exact hD _
abbrev rX := zi tI_3 (zi zI_3 (zi aX (zi tI_9 (zi zI_9 (zi cG (zi tI_31 (zi zI_31 (zi aN (zi bE (zi bF (zi cA (zi tI_63 (zi zI_63 (zi bR (zi bQ (zi bP (zi bT bU)))))))))))))))))
set_option maxHeartbeats 1000000 in
theorem aU2 : ∀ (n : Nat) (t : Tm) (st : aB), Ws t → t.nodes ≤ n → t.nodes ≤ 1000 → aD prog 226 [t.av] st (fun r st' => r = .str (tx n t) ∧ st' = st) := by
 intro n
 induction n with
 | zero => intro t st _ h; have := qQ t; omega
 | succ n IH =>
 intro t st hws hn QD
 have hsz := HB (n + 1) t hws
 have hT : ∀ x, Ws x → x.nodes < t.nodes → v9 (tx n) x := fun x hx hlt => ⟨fun st => IH x st hx (by omega) (by omega), HB n x hx, aMK hx (by have := qQ x; omega), by omega⟩
 have hpt := HF t
 have hit := aBL t
 have aTM := aT9 (T := tx n) n t hn hws QD hT
 have hm : maxLen = 9223372036854775807 := by rfl
 unfold tx at hsz ⊢
 refine wF [1000000] 1 func226 ntmps226 rfl rfl ?_
 intro _
 simp -implicitDefEqProofs only [aT, aH, cF, ↓reduceIte, aA, seval, rX]
 refine (hpt _).to ?_
 cases hp : pX t with
 | true =>
  rw [aG rfl]
  simp -implicitDefEqProofs only [aT, aH, ↓reduceIte, aA, seval, rX]
  refine (aTM hp _).to ?_
  simp -implicitDefEqProofs only [↓reduceIte, aA, seval]
 | false =>
  rw [hp] at hsz
  rw [aE (by decide)] at hsz ⊢
  simp -implicitDefEqProofs only [aT, aH, ↓reduceIte, aA, seval, rX]
  refine (hit _).to ?_
  cases hi : uO t with
  | true =>
   rw [hi] at hsz
   rw [aG rfl] at hsz ⊢
   obtain ⟨m, s, x, y, rfl, hs⟩ := NU hi
   have hk := hws.own.2
   have hxl : x.nodes < (Tm.mk 3 m s [x, y]).nodes := by simp only [Tm.gO, bG]; have := qQ y; omega
   have hyl : y.nodes < (Tm.mk 3 m s [x, y]).nodes := by simp only [Tm.gO, bG]; have := qQ x; omega
   have hx := hT x (hk x (by simp)) hxl
   have hy := hT y (hk y (by simp)) hyl
   rw [A7.1, A7.2, show (Tm.mk 3 m s [x, y]).s = s from rfl] at hsz ⊢
   have h6 : s.size ≤ 6 := hws.size.1
   have hl3 : dL s ≤ 3 := by unfold dL; cases (decide (s = ⟨#[61]⟩) || decide (s = ⟨#[92, 61]⟩) || decide (s = ⟨#[61, 61]⟩) || decide (s = ⟨#[60]⟩) || decide (s = ⟨#[62]⟩) || decide (s = ⟨#[61, 60]⟩) || decide (s = ⟨#[62, 61]⟩) || decide (s = ⟨#[61, 58, 61]⟩) || decide (s = ⟨#[105, 115]⟩)) <;> cases (decide (s = ⟨#[43]⟩) || decide (s = ⟨#[45]⟩)) <;> cases (decide (s = ⟨#[42]⟩) || decide (s = ⟨#[47, 47]⟩) || decide (s = ⟨#[109, 111, 100]⟩)) <;> decide
   have hll : lvl (dL s) ≤ 10 := by unfold lvl; split <;> omega
   have cl := aZR x hx (lvl (dL s)) hll
   have cr := aO1 y hy (dL s - 1) (by omega)
   have csp := aM5 s (by omega)
   have clv := vB s
   rw [dF, dF] at hsz
   generalize hA : zN (tx n) x (lvl (dL s)) = A at *
   generalize hB : yJ (tx n) y (dL s - 1) = B at *
   generalize qE s = C at *
   have hs1 : A.size + C.size ≤ maxLen := by omega
   have hs2 : (A ++ C).size + B.size ≤ maxLen := by rw [dF]; omega
   have hi0 := bL (av := Tm.av) (l := [x, y]) (i := 0) aN rfl (aH x)
   have hi1 := bL (av := Tm.av) (l := [x, y]) (i := 1) aN rfl (aH y)
   rw [show ((0 : Nat) : Int) = 0 from rfl] at hi0
   rw [show ((1 : Nat) : Int) = 1 from rfl] at hi1
   simp only [aV, bA, aW] at hi0 hi1 ⊢
   generalize hL : dL s = L at *
   obtain ⟨L1, hL1⟩ : ∃ L1, L1 = L - 1 := ⟨_, rfl⟩
   have hw := nA (x := (L : Int) - 1) (m := L1) (by omega) (by omega)
   rw [← hL1] at cr
   by_cases h3 : L = 3
   case' pos =>
    have h3' : ((L : Int) = 3) = True := c7 (by omega)
    have hlv : lvl L = 2 := by unfold lvl; rw [aG h3]
   case' neg =>
    have h3' : ((L : Int) = 3) = False := cH (by omega)
    have hlv : lvl L = L := by unfold lvl; rw [aE h3]
   all_goals
    rw [hlv] at cl
    simp -implicitDefEqProofs only [↓reduceIte, aA, seval, rX]
    refine (clv _).to ?_
    simp -implicitDefEqProofs only [↓reduceIte, h3', bM, bX, aA, seval]
    refine wP [(0, 1), (4, 1), (6, 1), (10, 1), (14, 1), (15, 1), (1, 2), (2, 1), (3, 2), (5, 2), (7, 2), (8, 2), (9, 1), (11, 2), (12, 1), (13, 2), (16, 2), (17, 1), (18, 1)] [0, 4, 6, 10, 14, 15, 1, 2, 3, 5, 7, 8, 9, 11, 12, 13, 16, 17, 18] mixed ?_
    simp -implicitDefEqProofs only [aT, aH, ↓reduceIte, hi0, hw, aA, seval, rX]
    refine i8 (cl _) ?_
    simp -implicitDefEqProofs only [↓reduceIte, aA, seval, rX]
    refine i8 (csp _) ?_
    simp -implicitDefEqProofs only [aT, aH, ↓reduceIte, hi1, hs1, aA, seval, rX]
    refine i8 (cr _) ?_
    simp -implicitDefEqProofs only [↓reduceIte, hs2, aA, seval]
  | false =>
   rw [hi] at hsz
   rw [aE (by decide)] at hsz ⊢
   cases ha : MQ t with
   | true =>
    rw [ha] at hsz
    rw [aG rfl] at hsz ⊢
    obtain ⟨k, m, s, ts⟩ := t
    rw [Q1, cM, bJ, bJ] at ha
    obtain ⟨rfl, h0⟩ := ha
    have h0' : ((0 : Int) < (ts.length : Int)) = True := c7 (by omega)
    simp only [Tm.s, Tm.ts] at hsz ⊢
    simp only [Tm.gO] at hn QD hT hsz
    have hk := hws.own.2
    have h4 : ts.length ≤ 4 := by rcases FF hws.own.1 with h | h | h <;> omega
    have qB := TF (T := tx n) ts (fun x hx => hT x (hk x hx) (by have := aFB hx; omega)) (by omega) (by omega)
    rw [dF, dF, dF] at hsz
    generalize kK (tx n) ts = A at *
    have a0O : s.size + A.size ≤ 100000 := by omega
    have hs1 : s.size + (⟨#[40]⟩ : ByteArray).size ≤ maxLen := by show _ + 1 ≤ _; omega
    have hs2 : (s ++ (⟨#[40]⟩ : ByteArray)).size + A.size ≤ maxLen := by rw [dF]; show _ + 1 + _ ≤ _; omega
    have hs3 : ((s ++ (⟨#[40]⟩ : ByteArray)) ++ A).size + (⟨#[41]⟩ : ByteArray).size ≤ maxLen := by rw [dF, dF]; show _ + 1 + _ + 1 ≤ _; omega
    simp only [aV]
    simp -implicitDefEqProofs only [↓reduceIte, h0', aF, bM, aA, seval, rX]
    refine wP [(0, 1), (3, 1), (1, 2), (2, 1), (4, 2), (5, 2), (6, 1), (7, 1), (8, 1)] [0, 3, 1, 2, 4, 5, 6, 7, 8] mixed ?_
    simp -implicitDefEqProofs only [↓reduceIte, hs1, aA, seval, rX]
    refine i8 (qB _) ?_
    simp -implicitDefEqProofs only [↓reduceIte, hs2, hs3, aA, seval]
   | false =>
    rw [aE (by decide)]
    have hl := aTS t hws (fun h => by
     obtain ⟨k, m, s, ts⟩ := t
     rw [Q1, show k = 3 from h] at ha
     simp only [bM, eT, dG] at ha
     exact List.length_eq_zero_iff.1 (by show ts.length = 0; omega))
    generalize AH t = A at *
    obtain ⟨k, m, s, ts⟩ := t
    rw [Q1] at ha
    simp only [aV] at hl ⊢
    by_cases hk : k = 3
    case pos =>
     rw [hk] at ha hl ⊢
     simp only [bM, eT, dG] at ha
     have h0' : ((0 : Int) < (ts.length : Int)) = False := cH (by omega)
     simp -implicitDefEqProofs only [↓reduceIte, h0', aF, bM, bX, aA, seval, rX]
     refine (hl _).to ?_
     simp -implicitDefEqProofs only [↓reduceIte, aA, seval]
    case neg =>
     have hk' := cH hk
     simp -implicitDefEqProofs only [↓reduceIte, hk', bX, aA, seval, rX]
     refine (hl _).to ?_
     simp -implicitDefEqProofs only [↓reduceIte, aA, seval]
end Go.AW
namespace Go.AW
def pQ (t : Tm) : ByteArray := tx 130 t
def tG (T : Tm → ByteArray) (h : ByteArray) : List Tm → ByteArray
 | [] => h
 | x :: xs => xs.foldl (fun o y => (o ++ ⟨#[44]⟩) ++ T y) ((h ++ ⟨#[58, 45]⟩) ++ T x)
def QO (c : Cl) : ByteArray := tG pQ (pQ c.1) c.2 ++ ⟨#[46]⟩
def fmtC (c : Cl) : ByteArray := if k8 c then QO c else ⟨#[]⟩
def FN (l : List UInt8) : kJ := fun a => rd l (4 * l.length + 4) 30 a 3
def rK (l : List UInt8) : Nat → Nat → List Tm → Option (List Tm × Nat)
 | 0, _, _ => none
 | m + 1, a, acc => match FN l a with
  | none => none
  | some (t, e) => if cO l e 44 then rK l m (e + 1) (acc ++ [t]) else some (acc ++ [t], e)
def rT (l : List UInt8) : Option (Cl × Nat) :=
 match FN l 0 with
 | none => none
 | some (h, e) => if (cO l e 58 && cO l (e + 1) 45) = true then match rK l 7 (e + 2) [] with
  | none => none
  | some (b, e2) => some ((h, b), e2)
  else some ((h, []), e)
def nS (l : List UInt8) : Option Cl := match rT l with
 | none => none
 | some (c, e) => if l.length ≤ 1000 ∧ e + 1 = l.length ∧ cO l e 46 = true ∧ sb (fmtC c) = l then some c else none
def mY (c : Nat) : List UInt8 → List UInt8 → List (List UInt8)
 | [], acc => [acc]
 | x :: l, acc => if x.toNat = c then acc :: mY c l [] else mY c l (acc ++ [x])
def yI : List (List UInt8) → List Cl → Option (List Cl)
 | [], acc => some acc
 | l :: ls, acc => match nS l with
  | none => none
  | some c => yI ls (acc ++ [c])
def zP (l : List UInt8) : Option (List Cl) :=
 let ls := mY 10 l []
 if 21 < ls.length ∨ ls.getLast? ≠ some [] then none else yI ls.dropLast []
def lZ (l : List UInt8) : Option (List Tm) := match rK l 7 0 [] with
 | none => none
 | some (g, e) => if l.length ≤ 1000 ∧ e = l.length ∧ lG g = true then some g else none
theorem aN2 {T : Tm → ByteArray} {h : ByteArray} {l : List Tm} {i : Nat} {x : Tm} (hx : l[i]? = some x) : tG T h (l.take (i + 1)) = (if i = 0 then tG T h (l.take i) ++ ⟨#[58, 45]⟩ else tG T h (l.take i) ++ ⟨#[44]⟩) ++ T x := by
 rw [fM, hx]
 cases l with
 | nil => simp at hx
 | cons y l =>
  cases i with
  | zero => simp at hx; subst hx; rfl
  | succ i =>
   rw [aE (by omega), vI]
   simp only [tG, GV, fF, List.foldl_append, zX, List.foldl_nil]
theorem aKR {T : Tm → ByteArray} {h : ByteArray} {l : List Tm} {m : Nat} (hT : ∀ x ∈ l, (T x).size ≤ m) : (tG T h l).size ≤ h.size + l.length * (m + 2) := by
 have hg : ∀ (xs : List Tm) (o : ByteArray), (∀ x ∈ xs, (T x).size ≤ m) → (xs.foldl (fun o y => (o ++ ⟨#[44]⟩) ++ T y) o).size ≤ o.size + xs.length * (m + 2) := by
  intro xs
  induction xs with
  | nil => intro o _; simp
  | cons x xs ih =>
   intro o hx
   refine nB (ih _ fun y hy => hx y (by simp [hy])) ?_
   rw [dF, dF]
   have := hx x (by simp)
   simp only [aS, qT]
   show o.size + 1 + _ + _ ≤ _
   omega
 cases l with
 | nil => simp [tG]
 | cons x l =>
  refine nB (hg l _ fun y hy => hT y (by simp [hy])) ?_
  rw [dF, dF]
  have := hT x (by simp)
  simp only [aS, qT]
  show h.size + 2 + _ + _ ≤ _
  omega
theorem aHN {t : Tm} (h : t.valid = true) : Ws t ∧ t.nodes ≤ 120 := by
 simp only [Tm.valid, cM, bJ] at h
 exact ⟨⟨_, h.1⟩, h.2⟩
theorem aVI {t : Tm} (h : t.goal = true) : t.valid = true := by
 obtain ⟨k, n, s, ts⟩ := t
 simp only [Tm.goal, cM] at h
 exact h.1
theorem aSQ {c : Cl} (h : k8 c = true) : (Ws c.1 ∧ c.1.nodes ≤ 120) ∧ c.2.length ≤ 6 ∧ ∀ x ∈ c.2, Ws x ∧ x.nodes ≤ 120 := by
 simp only [k8, cM, bJ, eW] at h
 exact ⟨aHN h.1.1, h.2.1, fun x hx => aHN (aVI (h.2.2 x hx))⟩
theorem HS {l : List UInt8} (hl : l.length ≤ 1000) : ∀ (m a : Nat) (acc ts : List Tm) (e : Nat), a ≤ l.length → (∀ x ∈ acc, Dn x) → rK l m a acc = some (ts, e) → a < e ∧ e ≤ l.length ∧ (∀ x ∈ ts, Dn x) ∧ ts.length ≤ acc.length + m := by
 intro m
 induction m with
 | zero => intro a acc ts e _ _ h; cases h
 | succ m ih =>
  intro a acc ts e ha nK h
  unfold rK at h
  split at h
  · cases h
  rename_i t e1 h1
  obtain ⟨h2, h3, h4⟩ := zW hl _ _ _ a t e1 ha h1
  have ED : ∀ x ∈ acc ++ [t], Dn x := by intro x hx; rw [fS] at hx; rcases hx with hx | hx; exact nK x hx; rw [K1] at hx; subst hx; exact h4
  split at h
  · rename_i h5
    have h6 := nE h5
    obtain ⟨g1, g2, g3, g4⟩ := ih (e1 + 1) _ ts e (by omega) ED h
    rw [dP, RF] at g4
    exact ⟨by omega, g2, g3, by omega⟩
  · cases h
    exact ⟨h2, h3, ED, by rw [dP, RF]; omega⟩
abbrev tV (c : Cl) : Prop := Dn c.1 ∧ c.2.length ≤ 7 ∧ ∀ x ∈ c.2, Dn x
theorem HE {l : List UInt8} (hl : l.length ≤ 1000) {c : Cl} {e : Nat} (h : rT l = some (c, e)) : 0 < e ∧ e ≤ l.length ∧ tV c := by
 unfold rT at h
 split at h
 · cases h
 rename_i t e1 h1
 obtain ⟨h2, h3, h4⟩ := zW hl _ _ _ 0 t e1 (jC _) h1
 split at h
 · rename_i h5
   rw [cM] at h5
   have h6 := nE h5.2
   split at h
   · cases h
   rename_i b e2 h7
   obtain ⟨g1, g2, g3, g4⟩ := HS hl _ _ _ _ _ (by omega) (by simp) h7
   cases h
   exact ⟨by omega, g2, h4, by rw [aZ] at g4; show b.length ≤ 7; omega, g3⟩
 · cases h
   exact ⟨h2, h3, h4, by show 0 ≤ 7; omega, by intro x hx; cases hx⟩
theorem UL {l : List UInt8} {c : Cl} (h : nS l = some c) : tV c ∧ k8 c = true := by
 unfold nS at h
 split at h
 · cases h
 rename_i c' e h1
 split at h
 · rename_i h2
   cases h
   refine ⟨(HE h2.1 h1).2.2, ?_⟩
   have h3 := h2.2.2.2
   unfold fmtC at h3
   split at h3
   · assumption
   · have := nX List.length h3
     simp at this
     omega
 · cases h
theorem VL (c : Nat) : ∀ (l acc : List UInt8), mY c l acc ≠ []
 | [], acc => by simp [mY]
 | x :: l, acc => by unfold mY; split <;> simp [VL c l]
theorem MN (c : Nat) : ∀ (l acc : List UInt8), (mY c l acc).length ≤ l.length + 1
 | [], acc => by simp [mY]
 | x :: l, acc => by unfold mY; split; have := MN c l []; simp only [aS]; omega; have := MN c l (acc ++ [x]); simp only [aS]; omega
end Go.AW
namespace Go.AW
open Go.Proofs.Tryz
theorem aHA {t : Tm} (h : Ws t ∧ t.nodes ≤ 120) (st : aB) : aD prog 226 [t.av] st (fun r st' => r = .str (pQ t) ∧ st' = st) := aU2 130 t st h.1 (by omega) (by omega)
theorem KC {t : Tm} (h : Ws t ∧ t.nodes ≤ 120) : (pQ t).size ≤ 3840 := by have := HB 130 t h.1; unfold pQ; omega
abbrev IN := zi tI_3 (zi zI_3 (zi aX (zi tI_9 (zi zI_9 (zi cG (zi tI_31 (zi zI_31 (zi aN (zi bE (zi bF (zi cA (zi tI_63 (zi zI_63 (zi bR (zi bQ (zi bP (zi bT (zi bU (zi tI_76 (zi zI_76 (zi lN (zi lR lP))))))))))))))))))))))
set_option maxHeartbeats 1000000 in
theorem aVX (c : Cl) (hc : (Ws c.1 ∧ c.1.nodes ≤ 120) ∧ c.2.length ≤ 6 ∧ ∀ x ∈ c.2, Ws x ∧ x.nodes ≤ 120) (st : aB) : aD prog 206 [bY c] st (fun r st' => r = .str (QO c) ∧ st' = st) := by
 obtain ⟨⟨k, n, s, ks⟩, ts⟩ := c
 obtain ⟨hh, hl, hb⟩ := hc
 simp only at hh hl hb
 have hhd := fun st => aHA hh st
 have hhs := KC hh
 unfold QO
 simp only
 generalize pQ (.mk k n s ks) = H at *
 simp only [aV] at hhd
 simp only [gG]
 have hm : maxLen = 9223372036854775807 := by rfl
 refine wF [1000000] 1 func206 ntmps206 rfl rfl ?_
 intro _
 simp -implicitDefEqProofs only [aA, seval, IN]
 refine (hhd _).to ?_
 simp -implicitDefEqProofs only [aA, seval]
 refine eH (σ := Unit) [1000000] [1, 2] ts (fun i _ => True) (fun i _ => [(3, .str (tG pQ H (ts.take i))), (4, .int .i64 i)]) (fun _ _ => st) (by decide +kernel) ⟨(), trivial, aO.mk (by simp -implicitDefEqProofs only [kQ, aA, ↓aU, seval] <;> rfl)⟩ (fun i x _ hx hlt bS hdr hinv => ?_) (fun _ hge hinv => ?_)
 case refine_2 =>
  rw [eS]
  have hsz := aKR (T := pQ) (h := H) (l := ts) (m := 3840) fun x hx => KC (hb x hx)
  have hs : (tG pQ H ts).size + (⟨#[46]⟩ : ByteArray).size ≤ maxLen := by
   have : ts.length * (3840 + 2) ≤ 6 * 3842 := sF _ hl
   show _ + 1 ≤ _; omega
  simp -implicitDefEqProofs only [aF, hge, hs, ↓reduceIte, aA, seval, IN]
 have hxm := cU hx
 have c1 := fun st => aHA (hb x hxm) st
 have c2 := KC (hb x hxm)
 have hw := bK (n := (i : Int) + 1)
 have hat := bL (av := Tm.av) aN hx (aH x)
 have iK := aN2 (T := pQ) (h := H) hx
 have hsz := aKR (T := pQ) (h := H) (l := ts.take i) (m := 3840) fun y hy => KC (hb y (lW hy))
 have hln : (ts.take i).length * (3840 + 2) ≤ 6 * 3842 := sF _ (by rw [d5]; omega)
 generalize tG pQ H (ts.take i) = B at *
 generalize pQ x = X at *
 have hs1 : B.size + (⟨#[44]⟩ : ByteArray).size ≤ maxLen := by show _ + 1 ≤ _; omega
 have hs2 : (B ++ (⟨#[44]⟩ : ByteArray)).size + X.size ≤ maxLen := by rw [dF]; show _ + 1 + _ ≤ _; omega
 have hs3 : B.size + (⟨#[58, 45]⟩ : ByteArray).size ≤ maxLen := by show _ + 2 ≤ _; omega
 have hs4 : (B ++ (⟨#[58, 45]⟩ : ByteArray)).size + X.size ≤ maxLen := by rw [dF]; show _ + 2 + _ ≤ _; omega
 by_cases h0 : i = 0
 · rw [aG h0] at iK
   have h0' : ((i : Int) = 0) = True := c7 (by omega)
   simp -implicitDefEqProofs only [aF, hat, aT, aH, bS, h0', hs3, ↓reduceIte, bM, aA, seval, IN]
   refine (c1 _).to ?_
   simp -implicitDefEqProofs only [hs4, ↓reduceIte, aA, seval]
   exact ⟨(), aO.mk (by simp -implicitDefEqProofs only [hw, iK, ↓reduceIte, aA, seval])⟩
 · rw [aE h0] at iK
   have h0' : ((i : Int) = 0) = False := cH (by omega)
   simp -implicitDefEqProofs only [aF, hat, aT, aH, bS, h0', hs1, ↓reduceIte, bM, bX, aA, seval, IN]
   refine (c1 _).to ?_
   simp -implicitDefEqProofs only [hs2, ↓reduceIte, aA, seval]
   exact ⟨(), aO.mk (by simp -implicitDefEqProofs only [hw, iK, ↓reduceIte, aA, seval])⟩
abbrev PS := zi tI_4 (zi zI_4 (zi cE (zi tI_9 (zi zI_9 (zi cG (zi tI_76 (zi zI_76 (zi lN (zi lR lP)))))))))
theorem PF (c : Cl) (st : aB) : aD prog 167 [bY c] st (fun r st' => r = .str (fmtC c) ∧ st' = st) := by
 have hv := aE5 c
 unfold fmtC
 cases h : k8 c with
 | true =>
  rw [h] at hv
  have ht := aVX c (aSQ h)
  rw [aG rfl]
  obtain ⟨⟨k, n, s, ks⟩, ts⟩ := c
  simp only [gG] at hv ht ⊢
  refine wF [1000000] 1 func167 ntmps167 rfl rfl ?_
  intro _
  simp -implicitDefEqProofs only [aA, seval, PS]
  refine (hv _).to ?_
  simp -implicitDefEqProofs only [aA, seval, PS]
  refine (ht _).to ?_
  simp -implicitDefEqProofs only [aA, seval]
 | false =>
  rw [h] at hv
  rw [aE (by decide)]
  obtain ⟨⟨k, n, s, ks⟩, ts⟩ := c
  simp only [gG] at hv ⊢
  refine wF [1000000] 1 func167 ntmps167 rfl rfl ?_
  intro _
  simp -implicitDefEqProofs only [aA, seval, PS]
  refine (hv _).to ?_
  simp -implicitDefEqProofs only [aA, seval]
theorem aDM {s : ByteArray} (hs : s.size ≤ 1000) (a : Nat) (ha : a ≤ s.size) (st : aB) : aD prog 165 [.str s, .int .i64 (a : Int), .int .i64 30, .int .i64 3] st (fun r st' => lF (FN (sb s) a) r ∧ st' = st) :=
 aS2 hs (4 * (sb s).length + 4) 30 a 3 st ha (by omega) (by omega) (by rw [cJ]; omega)
def rN (o : Option (List Tm × Nat)) (r : AV) : Prop := match o with | some (ts, e) => r = .tup [.slice (ts.map Tm.av), .int .i64 (e : Int)] | none => r = .tup [.slice [], .int .i64 (-1)]
abbrev MY := zi tI_3 (zi zI_3 (zi aX (zi tI_4 (zi zI_4 (zi cE (zi tI_5 (zi zI_5 (zi kF (zi tI_8 (zi zI_8 (zi vR (zi vQ (zi vU (zi vL (zi wC (zi tI_9 (zi zI_9 (zi cG (zi tI_31 (zi zI_31 (zi aN (zi bE (zi bF (zi cA (zi tI_44 (zi zI_44 (zi YP (zi aC3 (zi UI (zi aCX (zi TX (zi aCY (zi S4 (zi tI_63 (zi zI_63 (zi bR (zi bQ (zi bP (zi bT bU)))))))))))))))))))))))))))))))))))))))
set_option maxHeartbeats 1000000 in
theorem aCB {s : ByteArray} (hs : s.size ≤ 1000) (a : Nat) (ha : a ≤ s.size) (st : aB) : aD prog 126 [.str s, .int .i64 (a : Int)] st (fun r st' => rN (rK (sb s) 7 a []) r ∧ st' = st) := by
 generalize hT : rK (sb s) 7 a [] = T
 refine aD.drop (Q := rN T) (aD.fin ?_)
 refine wF [1000000] 2 func126 ntmps126 rfl rfl ?_
 intro _
 simp -implicitDefEqProofs only [aA, seval, MY]
 refine gX (σ := Nat × List Tm × Nat × Nat) [1000000] [0] (fun x => rK (sb s) x.2.2.1 x.1 x.2.1 = T ∧ x.1 ≤ s.size ∧ x.2.1.length + x.2.2.1 = 7 ∧ (x.2.1.map Tm.av ≠ [] → st x.2.2.2 = none)) (fun x => [(1, .int .i64 (x.1 : Int)), (4, .fslice []), (5, .int .i64 0), (6, a9 4 x.2.2.2 (x.2.1.map Tm.av))]) (fun x => aY st x.2.2.2 (x.2.1.map Tm.av)) (fun x => x.2.2.1) (by decide +kernel) ⟨(a, [], 7, 0), ⟨hT, ha, rfl, by simp⟩, aO.mk (by simp -implicitDefEqProofs only [aW, jF, aA, seval])⟩ ?_
 rintro ⟨i, acc, m, b⟩ ⟨ht, hi, hlen, hb⟩
 simp only at ht hi hlen hb ⊢
 have fin : ∀ (l : List Tm) (b' : Nat) (r' : AV), (l.map Tm.av ≠ [] → st b' = none) → rN T (r'.fin b' (l.map Tm.av)) → ∃ b2 l2 s0, aY st b' (l.map Tm.av) = aY s0 b2 l2 ∧ (l2 ≠ [] → s0 b2 = none) ∧ (∀ e ∈ l2, e.cC = false) ∧ g9 l2 ∧ aM s0 st ∧ rN T (r'.fin b2 l2) := fun l b' r' h1 h2 => ⟨b', _, st, rfl, h1, iF _, ⟨4, dT _⟩, aM.refl _, h2⟩
 have hTn : T = none → ∀ (b' : Nat) (l : List AV), rN T ((AV.tup [.fslice [], .int .i64 (-1)]).fin b' l) := by
  rintro rfl b' l
  simp only [rN, jG, eC, oK, bA, aW]
 have hln : (acc.map Tm.av).length = acc.length := aF _
 have hal := sU (P := prog) (b := b) (w := 4) (l := acc.map Tm.av) cA
 rw [hln] at hal
 by_cases h6 : acc.length ≤ 6
 case neg =>
  have h6' : ((acc.length : Int) ≤ 6) = False := cH (by omega)
  obtain rfl : m = 0 := by omega
  simp -implicitDefEqProofs only [hal, h6', bX, aA, seval]
  exact fin _ _ _ hb (hTn ht.symm _ _)
 have h6' : ((acc.length : Int) ≤ 6) = True := c7 (by omega)
 obtain ⟨m, rfl⟩ : ∃ m', m = m' + 1 := ⟨m - 1, by omega⟩
 simp only [rK] at ht
 simp -implicitDefEqProofs only [hal, h6', bM, aA, seval]
 refine (aDM hs i hi _).mono ?_
 rintro r _ ⟨hr, rfl⟩
 cases hRi : FN (sb s) i with
 | none =>
  rw [hRi] at ht hr
  obtain ⟨k, hk, rfl⟩ := hr
  have hk0 : ((-1 - (k : Int)) < 0) = True := c7 (by omega)
  simp -implicitDefEqProofs only [aH, b7, cF, hk0, kN, bM, aA, ↓aU, seval, MY]
  exact fin _ _ _ hb (hTn ht.symm _ _)
 | some p =>
  obtain ⟨t, e⟩ := p
  rw [hRi] at ht hr
  simp only at ht
  obtain ⟨g1, g2, g3⟩ := zW (by rw [cJ]; exact hs) _ _ _ i t e (by rw [cJ]; exact hi) hRi
  rw [cJ] at g2
  simp only [lF] at hr
  subst hr
  have he0 : ((e : Int) < 0) = False := cH (by omega)
  simp -implicitDefEqProofs only [aT, aH, b7, cF, he0, nW, sH, bX, aA, ↓aU, seval, MY]
  refine eN aN bE bF rfl rfl (eY (aH _) (b7 _)) (dT _) hb (by simp only [aF, aS, aZ]; omega) (by simp only [aF, aS, aZ]; omega) (fun b' hb' => ?_)
  rw [show acc.map Tm.av ++ [t.av] = (acc ++ [t]).map Tm.av by simp] at hb' ⊢
  have hw1 := bK (n := (e : Int) + 1)
  simp -implicitDefEqProofs only [aA, seval]
  refine (kB s e 44 _).to ?_
  cases h3 : cO (sb s) e 44 with
  | true =>
   have h4 := nE h3
   rw [cJ] at h4
   rw [h3, aG rfl] at ht
   simp -implicitDefEqProofs only [hw1, aA, seval]
   refine ⟨(e + 1, acc ++ [t], m, b'), by simp only; omega, ⟨ht, by simp only; omega, by simp only [dP, aS, aZ]; omega, hb'⟩, aO.mk (by simp -implicitDefEqProofs only [aA, seval] <;> rfl)⟩
  | false =>
   rw [h3, aE (by decide)] at ht
   simp -implicitDefEqProofs only [mR, nW, sH, aA, seval]
   refine fin _ _ _ hb' ?_
   subst ht
   simp only [rN, jG, eC, lT, bA, aW]
abbrev cl0 : Cl := (FD, [])
def xX (o : Option Cl) : AV := match o with | some c => .tup [bY c, .bool true] | none => .tup [bY cl0, .bool false]
theorem qJ : (AV.tup [.agg [.int .i64 0, .int .i64 0, .str ⟨#[]⟩, .fslice [], .fslice []], .bool false]).soft = xX none := by simp only [xX, gG, j9, kC, jV, rY, kY, lY, bA, aW]
theorem PH (c : Cl) : (AV.tup [bY c, .bool true]).soft = xX (some c) := by
 obtain ⟨⟨k, n, s, ks⟩, ts⟩ := c
 simp only [xX, gG, j9, kC, jV, rY, kY, qA, bA, aW]
theorem uS {l : List UInt8} {c : Cl} {e : Nat} (h : rT l = some (c, e)) (h1 : ¬(l.length ≤ 1000 ∧ e + 1 = l.length ∧ cO l e 46 = true ∧ sb (fmtC c) = l)) : nS l = none := by
 unfold nS
 rw [h]
 simp only
 rw [aE h1]
theorem K7 {l : List UInt8} {c : Cl} {e : Nat} (h : rT l = some (c, e)) (h1 : l.length ≤ 1000 ∧ e + 1 = l.length ∧ cO l e 46 = true ∧ sb (fmtC c) = l) : nS l = some c := by
 unfold nS
 rw [h]
 simp only
 rw [aG h1]
theorem MO {a b : ByteArray} (h : sb a = sb b) : a = b := by rw [← WT a, ← WT b, h]
abbrev jB := zi tI_3 (zi zI_3 (zi aX (zi tI_4 (zi zI_4 (zi cE (zi tI_5 (zi zI_5 (zi kF (zi tI_8 (zi zI_8 (zi vR (zi vQ (zi vU (zi vL (zi wC (zi tI_9 (zi zI_9 (zi cG (zi tI_31 (zi zI_31 (zi aN (zi bE (zi bF (zi cA (zi tI_63 (zi zI_63 (zi bR (zi bQ (zi bP (zi bT (zi bU (zi tI_76 (zi zI_76 (zi lN (zi lR lP)))))))))))))))))))))))))))))))))))
set_option maxHeartbeats 2000000 in
theorem aRE (s : ByteArray) (st : aB) : aD prog 124 [.str s] st (fun r st' => r = xX (nS (sb s)) ∧ st' = st) := by
 refine aD.done ?_
 refine wF [1000000, 6] 1 func124 ntmps124 rfl rfl ?_
 intro _
 simp -implicitDefEqProofs only [aA, seval, jB]
 intro b2 hb2
 have hD := fun (o : AO) => (aM.refl st).aC (o := o) hb2
 by_cases hs : s.size ≤ 1000
 case neg =>
  have hs' : ((1000 : Int) < (s.size : Int)) = True := c7 (by omega)
  have hP : nS (sb s) = none := by
   unfold nS
   split
   · rfl
   · rw [aE fun h => hs (by rw [← cJ]; exact h.1)]
  rw [hP]
  simp -implicitDefEqProofs only [aK, hs', bM, aA, seval, jB]
  exact ⟨qJ, hD _⟩
 have hs' : ((1000 : Int) < (s.size : Int)) = False := cH (by omega)
 have h0 := fun st => aDM hs 0 (jC _) st
 rw [show ((0 : Nat) : Int) = 0 from rfl] at h0
 simp -implicitDefEqProofs only [hs', bX, aA, seval]
 refine (h0 _).mono ?_
 rintro r _ ⟨hr, rfl⟩
 cases hRi : FN (sb s) 0 with
 | none =>
  have hP : nS (sb s) = none := by unfold nS rT; rw [hRi]
  rw [hP]
  rw [hRi] at hr
  obtain ⟨k, hk, rfl⟩ := hr
  have hk0 : ((-1 - (k : Int)) < 0) = True := c7 (by omega)
  simp -implicitDefEqProofs only [aK, aH, b7, cF, hk0, kN, bM, aA, ↓aU, seval, jB]
  exact ⟨qJ, hD _⟩
 | some p =>
  obtain ⟨⟨hk, hn, hsn, hts⟩, e⟩ := p
  rw [hRi] at hr
  simp only [lF, aV] at hr
  subst hr
  obtain ⟨g1, g2, g3⟩ := zW (by rw [cJ]; exact hs) _ _ _ 0 _ e (jC _) hRi
  rw [cJ] at g2
  have he0 : ((e : Int) < 0) = False := cH (by omega)
  obtain ⟨f1, hf1⟩ : ∃ f1, f1 = e + 1 := ⟨_, rfl⟩
  obtain ⟨f2, hf2⟩ : ∃ f2, f2 = e + 2 := ⟨_, rfl⟩
  have hw1 := nA (x := (e : Int) + 1) (m := f1) (by omega) (by omega)
  have hw2 := nA (x := (e : Int) + 2) (m := f2) (by omega) (by omega)
  simp -implicitDefEqProofs only [aK, he0, bX, aA, ↓aU, seval, jB]
  intro b6 h6
  have hbb : b6 ≠ b2 := fun h => by rw [h, aB.aQ] at h6; cases h6
  have h6' : st b6 = none := by rwa [aB.aL _ _ hbb] at h6
  have hE : ∀ o1 o2 o3, aM (((st.aC b2 o1).aC b6 o2).aC b2 o3) st := fun o1 o2 o3 => ((hD _).aC h6').aC hb2
  refine (kB s e 58 _).to ?_
  by_cases hbd : (cO (sb s) e 58 && cO (sb s) (e + 1) 45) = true
  case neg =>
   obtain ⟨b, hb⟩ : ∃ b : List Tm, b = [] := ⟨_, rfl⟩
   have hcl : rT (sb s) = some ((.mk hk hn hsn hts, b), e) := by
    unfold rT
    rw [hRi, hb]
    simp only
    rw [aE hbd]
   obtain ⟨e2, he2⟩ : ∃ e2, e2 = e := ⟨_, rfl⟩
   rw [← he2] at hcl
   cases h58 : cO (sb s) e 58 with
   | false =>
    simp -implicitDefEqProofs only [aA, seval, jB]
    rw [← he2]
    have hdn := (HE (by rw [cJ]; exact hs) hcl).2.2
    have hwl := bK (n := (s.size : Int) - 1)
    by_cases he : e2 + 1 = s.size
    case neg =>
     rw [uS hcl (fun h => he (by rw [cJ] at h; exact h.2.1))]
     have he' : ((e2 : Int) = (s.size : Int) - 1) = False := cH (by omega)
     simp -implicitDefEqProofs only [aK, hwl, he', hbb.symm, bX, aA, seval, jB]
     exact ⟨qJ, hE _ _ _⟩
    have he' : ((e2 : Int) = (s.size : Int) - 1) = True := c7 (by omega)
    simp -implicitDefEqProofs only [hwl, he', bM, aA, seval]
    refine (kB s e2 46 _).to ?_
    cases hd : cO (sb s) e2 46 with
    | false =>
     rw [uS hcl (fun h => by rw [hd] at h; exact absurd h.2.2.1 (by decide))]
     simp -implicitDefEqProofs only [aK, hbb.symm, aA, seval, jB]
     exact ⟨qJ, hE _ _ _⟩
    | true =>
     simp -implicitDefEqProofs only [aA, seval, jB]
     refine (aD.n8 (by rw [show gN [AV.agg [.int .i64 hk, .int .i64 hn, .str hsn, .slice (hts.map Tm.av), .fslice []]] = [bY (.mk hk hn hsn hts, b)] by simp only [gN, gG, hb, j9, jV, kY, qA, lY, bA, aW]]; exact PF (.mk hk hn hsn hts, b) _) : aD prog 167 _ _ _).to ?_
     by_cases hf : fmtC (.mk hk hn hsn hts, b) = s
     case neg =>
      rw [uS hcl (fun h => hf (MO h.2.2.2))]
      have hf' := cH hf
      simp -implicitDefEqProofs only [aK, hf', hbb.symm, bX, aA, seval, jB]
      exact ⟨qJ, hE _ _ _⟩
     rw [K7 hcl ⟨by rw [cJ]; exact hs, by rw [cJ]; exact he, hd, by rw [hf]⟩]
     have hf' := c7 hf
     simp -implicitDefEqProofs only [hf', bM, aA, seval, jB]
     refine (aD.n8 (by rw [show gN [AV.agg [.int .i64 hk, .int .i64 hn, .str hsn, .slice (hts.map Tm.av), .fslice []]] = [bY (.mk hk hn hsn hts, b)] by simp only [gN, gG, hb, j9, jV, kY, qA, lY, bA, aW]]; exact QY (.mk hk hn hsn hts, b) hdn.1.2 (by have := hdn.2.1; omega) (fun x hx => (hdn.2.2 x hx).2) _) : aD prog 80 _ _ _).to ?_
     rw [gG]
     simp -implicitDefEqProofs only [aK, hbb.symm, aA, seval, jB]
     rw [← gG]
     exact ⟨PH _, hE _ _ _⟩
   | true =>
    simp -implicitDefEqProofs only [hw1, aA, seval]
    refine (kB s f1 45 _).to ?_
    rw [h58, eT, ← hf1] at hbd
    rw [show cO (sb s) f1 45 = false by simpa using hbd]
    simp -implicitDefEqProofs only [aA, seval, jB]
    rw [← he2]
    have hdn := (HE (by rw [cJ]; exact hs) hcl).2.2
    have hwl := bK (n := (s.size : Int) - 1)
    by_cases he : e2 + 1 = s.size
    case neg =>
     rw [uS hcl (fun h => he (by rw [cJ] at h; exact h.2.1))]
     have he' : ((e2 : Int) = (s.size : Int) - 1) = False := cH (by omega)
     simp -implicitDefEqProofs only [aK, hwl, he', hbb.symm, bX, aA, seval, jB]
     exact ⟨qJ, hE _ _ _⟩
    have he' : ((e2 : Int) = (s.size : Int) - 1) = True := c7 (by omega)
    simp -implicitDefEqProofs only [hwl, he', bM, aA, seval]
    refine (kB s e2 46 _).to ?_
    cases hd : cO (sb s) e2 46 with
    | false =>
     rw [uS hcl (fun h => by rw [hd] at h; exact absurd h.2.2.1 (by decide))]
     simp -implicitDefEqProofs only [aK, hbb.symm, aA, seval, jB]
     exact ⟨qJ, hE _ _ _⟩
    | true =>
     simp -implicitDefEqProofs only [aA, seval, jB]
     refine (aD.n8 (by rw [show gN [AV.agg [.int .i64 hk, .int .i64 hn, .str hsn, .slice (hts.map Tm.av), .fslice []]] = [bY (.mk hk hn hsn hts, b)] by simp only [gN, gG, hb, j9, jV, kY, qA, lY, bA, aW]]; exact PF (.mk hk hn hsn hts, b) _) : aD prog 167 _ _ _).to ?_
     by_cases hf : fmtC (.mk hk hn hsn hts, b) = s
     case neg =>
      rw [uS hcl (fun h => hf (MO h.2.2.2))]
      have hf' := cH hf
      simp -implicitDefEqProofs only [aK, hf', hbb.symm, bX, aA, seval, jB]
      exact ⟨qJ, hE _ _ _⟩
     rw [K7 hcl ⟨by rw [cJ]; exact hs, by rw [cJ]; exact he, hd, by rw [hf]⟩]
     have hf' := c7 hf
     simp -implicitDefEqProofs only [hf', bM, aA, seval, jB]
     refine (aD.n8 (by rw [show gN [AV.agg [.int .i64 hk, .int .i64 hn, .str hsn, .slice (hts.map Tm.av), .fslice []]] = [bY (.mk hk hn hsn hts, b)] by simp only [gN, gG, hb, j9, jV, kY, qA, lY, bA, aW]]; exact QY (.mk hk hn hsn hts, b) hdn.1.2 (by have := hdn.2.1; omega) (fun x hx => (hdn.2.2 x hx).2) _) : aD prog 80 _ _ _).to ?_
     rw [gG]
     simp -implicitDefEqProofs only [aK, hbb.symm, aA, seval, jB]
     rw [← gG]
     exact ⟨PH _, hE _ _ _⟩
  rw [cM, ← hf1] at hbd
  have aZT := nE hbd.2
  rw [cJ] at aZT
  rw [hbd.1]
  simp -implicitDefEqProofs only [hw1, aA, seval]
  refine (kB s f1 45 _).to ?_
  rw [hbd.2]
  simp -implicitDefEqProofs only [hw2, aA, seval]
  refine (aCB hs f2 (by omega) _).mono ?_
  rintro r _ ⟨hr, rfl⟩
  cases hG : rK (sb s) 7 f2 [] with
  | none =>
   have hP : nS (sb s) = none := by
    unfold nS rT
    rw [hRi]
    simp only
    rw [aG (by rw [← hf1, hbd.1, hbd.2]; try rfl), ← hf2, hG]
   rw [hP]
   rw [hG] at hr
   simp only [rN] at hr
   subst hr
   have hwl := bK (n := (s.size : Int) - 1)
   have he' : ((-1 : Int) = (s.size : Int) - 1) = False := cH (by omega)
   simp -implicitDefEqProofs only [aK, hwl, he', hbb.symm, bX, aA, seval, jB]
   exact ⟨qJ, hE _ _ _⟩
  | some p =>
   obtain ⟨b, e2⟩ := p
   rw [hG] at hr
   simp only [rN] at hr
   subst hr
   have hcl : rT (sb s) = some ((.mk hk hn hsn hts, b), e2) := by
    unfold rT
    rw [hRi]
    simp only
    rw [aG (by rw [← hf1, hbd.1, hbd.2]; try rfl), ← hf2, hG]
   have hg2 := HS (by rw [cJ]; exact hs) _ _ _ _ _ (by rw [cJ]; omega) (by simp) hG
   rw [cJ] at hg2
   simp -implicitDefEqProofs only [aK, aA, seval, jB]
   have hdn := (HE (by rw [cJ]; exact hs) hcl).2.2
   have hwl := bK (n := (s.size : Int) - 1)
   by_cases he : e2 + 1 = s.size
   case neg =>
    rw [uS hcl (fun h => he (by rw [cJ] at h; exact h.2.1))]
    have he' : ((e2 : Int) = (s.size : Int) - 1) = False := cH (by omega)
    simp -implicitDefEqProofs only [aK, hwl, he', hbb.symm, bX, aA, seval, jB]
    exact ⟨qJ, hE _ _ _⟩
   have he' : ((e2 : Int) = (s.size : Int) - 1) = True := c7 (by omega)
   simp -implicitDefEqProofs only [hwl, he', bM, aA, seval]
   refine (kB s e2 46 _).to ?_
   cases hd : cO (sb s) e2 46 with
   | false =>
    rw [uS hcl (fun h => by rw [hd] at h; exact absurd h.2.2.1 (by decide))]
    simp -implicitDefEqProofs only [aK, hbb.symm, aA, seval, jB]
    exact ⟨qJ, hE _ _ _⟩
   | true =>
    simp -implicitDefEqProofs only [aA, seval, jB]
    refine (aD.n8 (by rw [show gN [AV.agg [.int .i64 hk, .int .i64 hn, .str hsn, .slice (hts.map Tm.av), .slice (b.map Tm.av)]] = [bY (.mk hk hn hsn hts, b)] by simp only [gN, gG, AV.soft]]; exact PF (.mk hk hn hsn hts, b) _) : aD prog 167 _ _ _).to ?_
    by_cases hf : fmtC (.mk hk hn hsn hts, b) = s
    case neg =>
     rw [uS hcl (fun h => hf (MO h.2.2.2))]
     have hf' := cH hf
     simp -implicitDefEqProofs only [aK, hf', hbb.symm, bX, aA, seval, jB]
     exact ⟨qJ, hE _ _ _⟩
    rw [K7 hcl ⟨by rw [cJ]; exact hs, by rw [cJ]; exact he, hd, by rw [hf]⟩]
    have hf' := c7 hf
    simp -implicitDefEqProofs only [hf', bM, aA, seval, jB]
    refine (aD.n8 (by rw [show gN [AV.agg [.int .i64 hk, .int .i64 hn, .str hsn, .slice (hts.map Tm.av), .slice (b.map Tm.av)]] = [bY (.mk hk hn hsn hts, b)] by simp only [gN, gG, AV.soft]]; exact QY (.mk hk hn hsn hts, b) hdn.1.2 (by have := hdn.2.1; omega) (fun x hx => (hdn.2.2 x hx).2) _) : aD prog 80 _ _ _).to ?_
    rw [gG]
    simp -implicitDefEqProofs only [aK, hbb.symm, aA, seval, jB]
    rw [← gG]
    exact ⟨PH _, hE _ _ _⟩
abbrev vZ := zi tI_3 (zi zI_3 (zi aX (zi tI_31 (zi zI_31 (zi aN (zi bE (zi bF (zi cA (zi tI_63 (zi zI_63 (zi bR (zi bQ (zi bP (zi bT (zi bU (zi tI_76 (zi zI_76 (zi lN (zi lR lP)))))))))))))))))))
theorem aTK (k n : Int) (s : ByteArray) (ks ts : List Tm) (h1 : (Tm.mk k n s ks).small = true) (h2 : ts.length ≤ 1048576) (h3 : ∀ x ∈ ts, x.small = true) (st : aB) : aD prog 80 [bY (.mk k n s ks, ts)] st (fun r st' => ∃ b, r = .agg [.int .i64 k, .int .i64 n, .str s, .slice (ks.map Tm.av), a9 4 b (ts.map Tm.av)] ∧ st' = aY st b (ts.map Tm.av) ∧ (ts.map Tm.av ≠ [] → st b = none)) := by
 have hhd := fun st => yA (.mk k n s ks) st h1
 simp only [aV] at hhd
 have IH := fun (x : Tm) (hx : x ∈ ts) st => yA x st (h3 x hx)
 have hlen : ts.length ≤ 1048576 := h2
 refine aD.lU ?_
 simp only [gG]
 refine wF [] 1 func80 ntmps80 rfl rfl ?_
 simp only [eD, AV.fits, eM, aF]
 intro ⟨_, _, _, _, hl, _⟩
 simp -implicitDefEqProofs only [aA, seval, vZ]
 intro b2 hb2
 refine (hhd _).to ?_
 simp -implicitDefEqProofs only [aK, aA, seval, vZ]
 intro c hc
 have hne : c ≠ b2 := by rintro rfl; rw [aB.aQ] at hc; cases hc
 have hn2 : st c = none := by rw [aB.aL st _ hne] at hc; exact hc
 have mU : b2 ≠ c := dA hne
 refine eH (σ := Nat) [] [1, 2, 3] ts (fun i b => (((ts.take i).map (fun y => y)).map Tm.av ≠ [] → (aB.aC (st.aC b2 (.cells [AV.int .i64 0, AV.int .i64 0, AV.str ⟨#[]⟩, AV.fslice [], AV.fslice []])) c (.cells ([AV.int .i64 k, AV.int .i64 n, AV.str s, AV.slice (ks.map Tm.av)] ++ [a9 4 b (((ts.take i).map (fun y => y)).map Tm.av)]))) b = none)) (fun i b => [(4, .int .i64 i)]) (fun i b => eU (st.aC b2 (.cells [AV.int .i64 0, AV.int .i64 0, AV.str ⟨#[]⟩, AV.fslice [], AV.fslice []])) c b [AV.int .i64 k, AV.int .i64 n, AV.str s, AV.slice (ks.map Tm.av)] (((ts.take i).map (fun y => y)).map Tm.av)) (by decide +kernel)
  ⟨0, fun h => absurd rfl h, aO.mk (by simp -implicitDefEqProofs only [aA, ↓aU, seval])⟩ (fun i x b hx hlt bS hdr hinv => ?_) (fun b hge hinv => ?_)
 case refine_1 =>
  have hw := bK (n := (i : Int) + 1)
  have cT : (((ts.take i).map (fun y => y)).map Tm.av).length = i := by simp only [aF, d5]; omega
  have htk : (ts.take (i + 1)).map (fun y => y) = (ts.take i).map (fun y => y) ++ [(fun y => y) x] := by rw [fM, hx]; simp
  have hbo := d8 hinv
  simp -implicitDefEqProofs only [aF, bS, aA, seval, vZ]
  refine wP [(0, 1), (2, 1), (4, 1), (1, 2), (3, 2), (5, 1), (6, 2), (7, 2), (8, 1), (9, 0), (10, 1), (11, 0)] [0, 2, 4, 1, 3, 5, 6, 7, 8, 10] mixed ?_
  simp -implicitDefEqProofs only [bL (av := Tm.av) aN hx (aH x), aT, aH, hbo, mI, gV, aA, seval, vZ]
  refine i8 (IH x (cU hx) _) ?_
  simp -implicitDefEqProofs only [aT, aH, cF, gV, aA, seval, vZ]
  refine eN aN bE bF rfl rfl (eY (aH _) (b7 _)) (dT _) hinv (by simp only [cT, aS, aZ]; omega) (by simp only [cT, aS, aZ]; omega) (fun b' hb' => ?_)
  rw [show (((ts.take i).map (fun y => y)).map Tm.av) ++ [((fun y => y) x).av] = ((ts.take (i + 1)).map (fun y => y)).map Tm.av by rw [htk]; simp] at hb' ⊢
  obtain ⟨g1, g2, g3⟩ := nM hb'
  simp only [fF, eR] at g1 g3
  simp -implicitDefEqProofs only [g3, mA, eV, aK, g1, hw, aK, aA, seval, vZ]
  exact ⟨b', g2, aO.mk (by simp -implicitDefEqProofs only [aA, seval])⟩
 have hbo := d8 hinv
 rw [eS] at hinv hbo ⊢
 simp -implicitDefEqProofs only [aF, hge, aA, seval, vZ]
 simp -implicitDefEqProofs only [hbo, aK, aA, seval, vZ]
 have hS : (st.aC b2 (.cells [AV.int .i64 0, AV.int .i64 0, AV.str ⟨#[]⟩, AV.fslice [], AV.fslice []])) b2 ≠ none := by rw [aB.aQ]; simp
 have h1 := gD hinv hS mU
 rw [aB.aQ] at h1
 simp -implicitDefEqProofs only [h1, eV, aA, seval]
 obtain ⟨h2, h3⟩ := jX (o := .cells [AV.int .i64 k, AV.int .i64 n, AV.str s, AV.slice (ks.map Tm.av), a9 4 b ((ts.map fun y => y).map Tm.av)]) hinv hS mU
 simp only [fF, eR] at h2 h3
 rw [h2]
 have D : ∀ o o' o'', aM (((st.aC b2 o).aC c o').aC b2 o'') st := fun o o' o'' => (((aM.refl _).aC hb2).aC hn2).aC hb2
 simp only [List.map_id'] at h3 ⊢
 exact ⟨_, O5 (D _ _ _), b, rfl, rfl, fun h => (D _ _ _ b).1 (h3 h)⟩
abbrev m9 := zi tI_3 (zi zI_3 (zi aX (zi tI_9 (zi zI_9 (zi cG (zi tI_31 (zi zI_31 (zi aN (zi bE (zi bF (zi cA (zi tI_40 (zi zI_40 (zi aB4 (zi aHM (zi aI0 (zi TZ (zi aGW (zi XG (zi aCL (zi tI_63 (zi zI_63 (zi bR (zi bQ (zi bP (zi bT (zi bU (zi tI_76 (zi zI_76 (zi lN (zi lR (zi lP (zi tI_90 (zi zI_90 (zi tI_101 (zi zI_101 (zi tB (zi xS (zi zQ (zi DV (zi tI_125 (zi zI_125 (zi iP (zi lL (zi lK mC)))))))))))))))))))))))))))))))))))))))))))))
set_option maxHeartbeats 2000000 in
theorem aUW (bs : List Bt) (c p : Nat) (cl : Cl) (hcl : tV cl) (st : aB) (hp : p + 6000 ≤ 1099511627776) (hR : dK st c bs p) :
 aD prog 94 [.ptr c 0, bY cl] st (Dr bs c p 6000 st (fun r => ∃ cl' : Cl, r = bY cl')) := by
 obtain ⟨⟨k, n, s, ks⟩, ts⟩ := cl
 obtain ⟨d1, d2, d3⟩ := hcl
 simp only at d1 d2 d3
 have hcp := fun st => aTK k n s ks ts d1.2 (by omega) (fun x hx => (d3 x hx).2) st
 simp only [gG] at hcp ⊢
 refine aD.lU (aD.fin ?_)
 refine wF [1000000, 5] 2 func94 ntmps94 rfl rfl ?_
 intro _
 simp -implicitDefEqProofs only [aA, seval, m9]
 intro b4 h4
 have h4c := hR.ne h4
 have hR' := fun o => hR.aC (o := o) h4c
 refine (hcp _).mono ?_
 rintro _ _ ⟨b, rfl, rfl, hb⟩
 simp -implicitDefEqProofs only [eV, aK, aA, ↓aU, seval, m9]
 intro b5 h5
 obtain ⟨hn5, hb5⟩ := AT h5
 have h54 : b5 ≠ b4 := by rintro rfl; rw [aB.aQ] at hn5; cases hn5
 have QF : st b5 = none := by rw [aB.aL _ _ h54] at hn5; exact hn5
 have h5c : b5 ≠ c := hR.ne QF
 have hW4 : ∀ q, ((st.aC b4 (.cells [.int .i64 0, .int .i64 0, .str ⟨#[]⟩, .fslice [], .fslice []])).aC c (b9 bs q)) b4 = some (.cells [.int .i64 0, .int .i64 0, .str ⟨#[]⟩, .fslice [], .fslice []]) := fun q => by rw [aB.aL _ _ h4c, aB.aQ]
 have hdr : ∀ q Z Y, aM ((((st.aC b4 (.cells [.int .i64 0, .int .i64 0, .str ⟨#[]⟩, .fslice [], .fslice []])).aC c (b9 bs q)).aC b5 Z).aC b4 Y) (st.aC c (b9 bs q)) := fun q Z Y x => by
  by_cases e4 : x = b4 <;> by_cases ec : x = c <;> by_cases e5 : x = b5 <;> simp_all [aB.aC]
 have e0 : (aY (st.aC b4 (.cells [.int .i64 0, .int .i64 0, .str ⟨#[]⟩, .fslice [], .fslice []])) b (ts.map Tm.av)).aC b5 (.cells [.int .i64 k, .int .i64 n, .str s, .slice (ks.map Tm.av), a9 4 b (ts.map Tm.av)]) = eU (st.aC b4 (.cells [.int .i64 0, .int .i64 0, .str ⟨#[]⟩, .fslice [], .fslice []])) b5 b [.int .i64 k, .int .i64 n, .str s, .slice (ks.map Tm.av)] (ts.map Tm.av) := by
  rw [n7 hb5]; try rfl
 have i0 : ts.map Tm.av ≠ [] → ((st.aC b4 (.cells [.int .i64 0, .int .i64 0, .str ⟨#[]⟩, .fslice [], .fslice []])).aC b5 (.cells ([.int .i64 k, .int .i64 n, .str s, .slice (ks.map Tm.av)] ++ [a9 4 b (ts.map Tm.av)]))) b = none := fun h => by
  rw [aB.aL _ _ (dA (hb5 h))]; exact hb h
 have hUc : (st.aC b4 (.cells [.int .i64 0, .int .i64 0, .str ⟨#[]⟩, .fslice [], .fslice []])) c ≠ none := by rw [hR' _]; simp
 rw [e0]
 have hRk : dK (eU (st.aC b4 (.cells [.int .i64 0, .int .i64 0, .str ⟨#[]⟩, .fslice [], .fslice []])) b5 b [.int .i64 k, .int .i64 n, .str s, .slice (ks.map Tm.av)] (ts.map Tm.av)) c bs p := by
  unfold dK
  rw [gD i0 hUc h5c.symm]
  exact hR' _
 refine (mT bs c p (by omega) 40 (by omega) (by omega) _ hRk).mono ?_
 rintro _ _ ⟨j, hj, rfl, rfl⟩
 obtain ⟨e1, i1⟩ := oT (o := b9 bs (p + 1)) i0 hUc h5c.symm
 rw [e1]
 have hWc : ∀ q, ((st.aC b4 (.cells [.int .i64 0, .int .i64 0, .str ⟨#[]⟩, .fslice [], .fslice []])).aC c (b9 bs q)) c ≠ none := fun q => by rw [aB.aQ]; simp
 have hRq : ∀ q (hd l : List AV), (l ≠ [] → (((st.aC b4 (.cells [.int .i64 0, .int .i64 0, .str ⟨#[]⟩, .fslice [], .fslice []])).aC c (b9 bs q)).aC b5 (.cells (hd ++ [a9 4 b l]))) b = none) → dK (eU ((st.aC b4 (.cells [.int .i64 0, .int .i64 0, .str ⟨#[]⟩, .fslice [], .fslice []])).aC c (b9 bs q)) b5 b hd l) c bs q := fun q hd l hi => by
  unfold dK
  rw [gD hi (hWc q) h5c.symm, aB.aQ]
  try rfl
 clear e0 i0 hRk e1
 simp -implicitDefEqProofs only [aA, seval]
 refine aP (fun h0 => ?_) (fun h0 => ?_)
 · simp -implicitDefEqProofs only [aA, seval]
   refine (UF bs c (p + 1) _ (by omega) (hRq _ _ _ i1)).mono ?_
   rintro _ _ ⟨p1, q1, q2, rfl, t1, ht1, rfl⟩
   obtain ⟨e1, i1⟩ := oT (o := b9 bs p1) i1 (hWc _) h5c.symm
   rw [dD] at e1 i1
   rw [e1]
   simp -implicitDefEqProofs only [aA, seval]
   refine (QI bs c p1 t1 ht1.2 _ (by omega) (hRq _ _ _ i1)).mono ?_
   rintro _ _ ⟨p2, r1, r2, rfl, ⟨k', n', s', ks'⟩, rfl⟩
   obtain ⟨e1, i1⟩ := oT (o := b9 bs p2) i1 (hWc _) h5c.symm
   rw [dD] at e1 i1
   rw [e1]
   have hbo := d8 i1
   obtain ⟨e2, i1⟩ := FR (hd' := [.int .i64 k', .int .i64 n', .str s', .slice (ks'.map Tm.av)]) i1
   simp only [fF, eR] at e2
   rw [aV]
   simp -implicitDefEqProofs only [aK, hbo, aA, seval, m9]
   rw [e2]
   have hbo := d8 i1
   have h4o := gD i1 (x := b4) (by rw [hW4]; simp) h54.symm
   rw [hW4] at h4o
   simp -implicitDefEqProofs only [h4o, eV, aA, seval]
   obtain ⟨g5, g6⟩ := jX (o := .cells [.int .i64 (k'), .int .i64 (n'), .str (s'), .slice ((ks').map Tm.av), a9 4 b ((ts).map Tm.av)]) i1 (show ((st.aC b4 (.cells [.int .i64 0, .int .i64 0, .str ⟨#[]⟩, .fslice [], .fslice []])).aC c (b9 bs (p2))) b4 ≠ none by rw [hW4]; simp) h54.symm
   refine ⟨b, _, _, g5, g6, iF _, ⟨4, dT _⟩, st.aC c (b9 bs (p2)), hdr _ _ _, p2, by omega, by omega, rfl, (.mk (k') (n') (s') (ks'), ts), ?_⟩
   simp only [fL, bA, aW, eC, iS, iI, iD, gG]
 simp -implicitDefEqProofs only [aA, seval]
 refine aP (fun h0 => ?_) (fun h0 => ?_)
 · have hbo := d8 i1
   simp -implicitDefEqProofs only [aA, seval]
   refine CP [(0, 1), (1, 1), (2, 1), (3, 1), (4, 0), (5, 0), (6, 1), (7, 0), (8, 1), (9, 2)] [0, 1, 2, 3, 6, 8] (eJ.aC b5 (.cells [.int .i64 k, .int .i64 n, .str s, .slice (ks.map Tm.av), a9 4 b (ts.map Tm.av)])) mixed (by decide +kernel) (by decide +kernel) (by decide +kernel) rfl (gZ hbo) ?_
   simp -implicitDefEqProofs only [mI, aA, seval, m9]
   refine (UF bs c (p + 1) _ (by omega) (hRq _ _ _ i1)).mono ?_
   rintro _ _ ⟨p1, q1, q2, rfl, t1, ht1, rfl⟩
   obtain ⟨e1, i1⟩ := oT (o := b9 bs p1) i1 (hWc _) h5c.symm
   rw [dD] at e1 i1
   rw [e1]
   have hbo := d8 i1
   simp -implicitDefEqProofs only [aA, seval]
   refine ⟨gZ hbo, ?_⟩
   refine (QI bs c p1 t1 ht1.2 _ (by omega) (hRq _ _ _ i1)).mono ?_
   rintro _ _ ⟨p2, r1, r2, rfl, t2, rfl⟩
   obtain ⟨e1, i1⟩ := oT (o := b9 bs p2) i1 (hWc _) h5c.symm
   rw [dD] at e1 i1
   rw [e1]
   have hbo := d8 i1
   simp -implicitDefEqProofs only [aT, aH, cF, aA, seval, m9]
   refine ⟨gZ hbo, ?_⟩
   refine eN aN bE bF rfl rfl (eY (aH _) (b7 _)) (dT _) i1 (by simp only [aF, aS, aZ]; omega) (by simp only [aF, aS, aZ]; omega) (fun b' hb' => ?_)
   rw [show ts.map Tm.av ++ [t2.av] = (ts ++ [t2]).map Tm.av by simp] at hb' ⊢
   obtain ⟨g1, g2, g3⟩ := nM hb'
   simp only [fF, eR] at g1 g3
   simp -implicitDefEqProofs only [aK, eV, mA, aA, seval, m9]
   refine ⟨gZ g3, ?_⟩
   simp -implicitDefEqProofs only [g3, g1, aK, eV, aA, seval, m9]
   have hbo := d8 g2
   have h4o := gD g2 (x := b4) (by rw [hW4]; simp) h54.symm
   rw [hW4] at h4o
   simp -implicitDefEqProofs only [h4o, aA, seval]
   obtain ⟨g5, g6⟩ := jX (o := .cells [.int .i64 (k), .int .i64 (n), .str (s), .slice ((ks).map Tm.av), a9 4 b' ((ts ++ [t2]).map Tm.av)]) g2 (show ((st.aC b4 (.cells [.int .i64 0, .int .i64 0, .str ⟨#[]⟩, .fslice [], .fslice []])).aC c (b9 bs (p2))) b4 ≠ none by rw [hW4]; simp) h54.symm
   refine ⟨b', _, _, g5, g6, iF _, ⟨4, dT _⟩, st.aC c (b9 bs (p2)), hdr _ _ _, p2, by omega, by omega, rfl, (.mk (k) (n) (s) (ks), ts ++ [t2]), ?_⟩
   simp only [fL, bA, aW, eC, iS, iI, iD, gG]
 simp -implicitDefEqProofs only [aA, seval]
 refine aP (fun h0 => ?_) (fun h0 => ?_)
 · simp -implicitDefEqProofs only [aA, seval]
   refine gX (σ := Nat × List Tm) [1000000, 5] [0, 4, 5, 9] (fun x => (x.2.map Tm.av ≠ [] → (aB.aC ((st.aC b4 (.cells [.int .i64 0, .int .i64 0, .str ⟨#[]⟩, .fslice [], .fslice []])).aC c (b9 bs (p + 1))) b5 (.cells ([.int .i64 k, .int .i64 n, .str s, .slice (ks.map Tm.av)] ++ [a9 4 x.1 (x.2.map Tm.av)]))) x.1 = none)) (fun _ => []) (fun x => eU ((st.aC b4 (.cells [.int .i64 0, .int .i64 0, .str ⟨#[]⟩, .fslice [], .fslice []])).aC c (b9 bs (p + 1))) b5 x.1 [.int .i64 k, .int .i64 n, .str s, .slice (ks.map Tm.av)] (x.2.map Tm.av)) (fun x => 7 - x.2.length) (by decide +kernel) ⟨(b, ts), i1, aO.mk (by simp -implicitDefEqProofs only [aA, seval])⟩ ?_
   rintro ⟨b, acc⟩ i1
   simp only at i1
   have hbo := d8 i1
   have haL := sU (w := 4) (b := b) (l := acc.map Tm.av) cA
   simp -implicitDefEqProofs only [hbo, mI, haL, aF, aA, seval, m9]
   refine aP (fun h1 => ?_) (fun h1 => ?_)
   · simp only [bJ] at h1
     have cT : (acc.map Tm.av).length ≤ 6 := by rw [aF]; omega
     simp -implicitDefEqProofs only [aA, seval]
     refine CP [(0, 1), (1, 1), (2, 0), (3, 1), (4, 0), (5, 1), (6, 2)] [0, 1, 3, 5] (eJ.aC b5 (.cells [.int .i64 k, .int .i64 n, .str s, .slice (ks.map Tm.av), a9 4 b (acc.map Tm.av)])) mixed (by decide +kernel) (by decide +kernel) (by decide +kernel) rfl (gZ hbo) ?_
     simp -implicitDefEqProofs only [mI, aA, seval, m9]
     refine (rE ⟨#[116, 114, 117, 101]⟩ [] (by simp) _).to ?_
     simp -implicitDefEqProofs only [aT, aH, cF, aA, seval, m9]
     refine ⟨gZ hbo, ?_⟩
     refine eN aN bE bF rfl rfl (eY (aH _) (b7 _)) (dT _) i1 (by simp only [aS, aZ]; omega) (by simp only [aS, aZ]; omega) (fun b' hb' => ?_)
     rw [show acc.map Tm.av ++ [(Tm.mk 3 0 ⟨#[116, 114, 117, 101]⟩ []).av] = (acc ++ [Tm.mk 3 0 ⟨#[116, 114, 117, 101]⟩ []]).map Tm.av by simp] at hb' ⊢
     obtain ⟨g1, g2, g3⟩ := nM hb'
     simp only [fF, eR] at g1 g3
     simp -implicitDefEqProofs only [aK, eV, mA, aA, seval, m9]
     refine ⟨gZ g3, ?_⟩
     simp -implicitDefEqProofs only [g3, g1, aA, seval]
     refine ⟨(b', acc ++ [Tm.mk 3 0 ⟨#[116, 114, 117, 101]⟩ []]), by simp only [dP, aS, aZ]; omega, g2, aO.mk (by simp -implicitDefEqProofs only [aA, seval])⟩
   · simp -implicitDefEqProofs only [aK, hbo, eV, aA, seval, m9]
     have hbo := d8 i1
     have h4o := gD i1 (x := b4) (by rw [hW4]; simp) h54.symm
     rw [hW4] at h4o
     simp -implicitDefEqProofs only [h4o, aA, seval]
     obtain ⟨g5, g6⟩ := jX (o := .cells [.int .i64 (k), .int .i64 (n), .str (s), .slice ((ks).map Tm.av), a9 4 b ((acc).map Tm.av)]) i1 (show ((st.aC b4 (.cells [.int .i64 0, .int .i64 0, .str ⟨#[]⟩, .fslice [], .fslice []])).aC c (b9 bs (p + 1))) b4 ≠ none by rw [hW4]; simp) h54.symm
     refine ⟨b, _, _, g5, g6, iF _, ⟨4, dT _⟩, st.aC c (b9 bs (p + 1)), hdr _ _ _, p + 1, by omega, by omega, rfl, (.mk (k) (n) (s) (ks), acc), ?_⟩
     simp only [fL, bA, aW, eC, iS, iI, iD, gG]
 simp -implicitDefEqProofs only [aA, seval]
 refine aP (fun h0 => ?_) (fun h0 => ?_)
 · simp -implicitDefEqProofs only [aA, seval, m9]
   refine (F4 [⟨#[116, 114, 117, 101]⟩, ⟨#[105, 115]⟩, ⟨#[61]⟩, ⟨#[109, 111, 100]⟩, ⟨#[113]⟩] (by simp) (by simp) bs c (p + 1) (by omega) _ (hRq _ _ _ i1)).mono ?_
   rintro _ _ ⟨y, _, rfl, rfl⟩
   obtain ⟨e1, i1⟩ := oT (o := b9 bs (p + 1 + 1)) i1 (hWc _) h5c.symm
   rw [dD] at e1 i1
   rw [e1]
   have hbo := d8 i1
   obtain ⟨e2, i1⟩ := FR (hd' := [.int .i64 k, .int .i64 n, .str y, .slice (ks.map Tm.av)]) i1
   simp only [fF, eR] at e2
   simp -implicitDefEqProofs only [aK, hbo, aA, seval, m9]
   rw [e2]
   have hbo := d8 i1
   have h4o := gD i1 (x := b4) (by rw [hW4]; simp) h54.symm
   rw [hW4] at h4o
   simp -implicitDefEqProofs only [h4o, eV, aA, seval]
   obtain ⟨g5, g6⟩ := jX (o := .cells [.int .i64 (k), .int .i64 (n), .str (y), .slice ((ks).map Tm.av), a9 4 b ((ts).map Tm.av)]) i1 (show ((st.aC b4 (.cells [.int .i64 0, .int .i64 0, .str ⟨#[]⟩, .fslice [], .fslice []])).aC c (b9 bs (p + 1 + 1))) b4 ≠ none by rw [hW4]; simp) h54.symm
   refine ⟨b, _, _, g5, g6, iF _, ⟨4, dT _⟩, st.aC c (b9 bs (p + 1 + 1)), hdr _ _ _, p + 1 + 1, by omega, by omega, rfl, (.mk (k) (n) (y) (ks), ts), ?_⟩
   simp only [fL, bA, aW, eC, iS, iI, iD, gG]
 · simp -implicitDefEqProofs only [aA, seval, m9]
   have hbo := d8 i1
   have h4o := gD i1 (x := b4) (by rw [hW4]; simp) h54.symm
   rw [hW4] at h4o
   simp -implicitDefEqProofs only [aK, hbo, h4o, eV, aA, seval, m9]
   obtain ⟨g5, g6⟩ := jX (o := .cells [.int .i64 (k), .int .i64 (n), .str (s), .slice ((ks).map Tm.av), a9 4 b ((ts).map Tm.av)]) i1 (show ((st.aC b4 (.cells [.int .i64 0, .int .i64 0, .str ⟨#[]⟩, .fslice [], .fslice []])).aC c (b9 bs (p + 1))) b4 ≠ none by rw [hW4]; simp) h54.symm
   refine ⟨b, _, _, g5, g6, iF _, ⟨4, dT _⟩, st.aC c (b9 bs (p + 1)), hdr _ _ _, p + 1, by omega, by omega, rfl, (.mk (k) (n) (s) (ks), ts), ?_⟩
   simp only [fL, bA, aW, eC, iS, iI, iD, gG]
end Go.AW
namespace Go.AW
def JT : List ByteArray := [⟨#[97, 112, 112, 40, 91, 93, 44, 65, 44, 65, 41, 46, 10, 97, 112, 112, 40, 91, 65, 124, 66, 93, 44, 67, 44, 91, 65, 124, 68, 93, 41, 58, 45, 97, 112, 112, 40, 66, 44, 67, 44, 68, 41, 46, 10]⟩,
 ⟨#[109, 101, 109, 40, 65, 44, 91, 65, 124, 66, 93, 41, 46, 10, 109, 101, 109, 40, 65, 44, 91, 66, 124, 67, 93, 41, 58, 45, 109, 101, 109, 40, 65, 44, 67, 41, 46, 10]⟩,
 ⟨#[112, 40, 49, 41, 46, 10, 112, 40, 50, 41, 46, 10, 112, 40, 51, 41, 46, 10, 113, 40, 65, 41, 58, 45, 112, 40, 65, 41, 44, 65, 62, 49, 44, 33, 46, 10, 114, 40, 65, 44, 66, 41, 58, 45, 112, 40, 65, 41, 44, 112, 40, 66, 41, 46, 10]⟩,
 ⟨#[108, 101, 110, 40, 91, 93, 44, 48, 41, 46, 10, 108, 101, 110, 40, 91, 65, 124, 66, 93, 44, 67, 41, 58, 45, 108, 101, 110, 40, 66, 44, 68, 41, 44, 67, 32, 105, 115, 32, 68, 43, 49, 46, 10]⟩,
 ⟨#[109, 97, 120, 40, 65, 44, 66, 44, 65, 41, 58, 45, 65, 62, 61, 66, 44, 33, 46, 10, 109, 97, 120, 40, 65, 44, 66, 44, 66, 41, 46, 10]⟩,
 ⟨#[101, 40, 97, 44, 98, 41, 46, 10, 101, 40, 98, 44, 99, 41, 46, 10, 101, 40, 99, 44, 100, 41, 46, 10, 116, 40, 65, 44, 66, 41, 58, 45, 101, 40, 65, 44, 66, 41, 46, 10, 116, 40, 65, 44, 66, 41, 58, 45, 101, 40, 65, 44, 67, 41, 44, 116, 40, 67, 44, 66, 41, 46, 10]⟩,
 ⟨#[108, 111, 111, 112, 58, 45, 108, 111, 111, 112, 46, 10, 111, 107, 46, 10]⟩,
 ⟨#[102, 97, 99, 40, 48, 44, 49, 41, 58, 45, 33, 46, 10, 102, 97, 99, 40, 65, 44, 66, 41, 58, 45, 65, 62, 48, 44, 67, 32, 105, 115, 32, 65, 45, 49, 44, 102, 97, 99, 40, 67, 44, 68, 41, 44, 66, 32, 105, 115, 32, 65, 42, 68, 46, 10]⟩,
 ⟨#[115, 40, 65, 41, 58, 45, 65, 61, 102, 40, 66, 41, 44, 97, 114, 103, 40, 49, 44, 65, 44, 66, 41, 44, 66, 61, 49, 46, 10, 115, 40, 65, 41, 58, 45, 118, 97, 114, 40, 65, 41, 44, 65, 61, 110, 111, 110, 101, 46, 10]⟩,
 ⟨#[114, 101, 118, 40, 91, 93, 44, 65, 44, 65, 41, 46, 10, 114, 101, 118, 40, 91, 65, 124, 66, 93, 44, 67, 44, 68, 41, 58, 45, 114, 101, 118, 40, 66, 44, 91, 65, 124, 67, 93, 44, 68, 41, 46, 10]⟩,
 ⟨#[98, 97, 100, 40, 65, 41, 58, 45, 66, 32, 105, 115, 32, 65, 43, 102, 111, 111, 44, 67, 61, 66, 46, 10, 98, 105, 103, 40, 65, 41, 58, 45, 65, 32, 105, 115, 32, 57, 57, 57, 43, 49, 46, 10, 117, 110, 40, 65, 41, 58, 45, 110, 111, 115, 117, 99, 104, 40, 65, 41, 46, 10]⟩]
def QL : List ByteArray := [⟨#[97, 112, 112, 40, 65, 44, 66, 44, 91, 49, 44, 50, 93, 41]⟩,
 ⟨#[97, 112, 112, 40, 91, 49, 93, 44, 91, 50, 93, 44, 65, 41]⟩,
 ⟨#[109, 101, 109, 40, 65, 44, 91, 97, 44, 98, 44, 99, 93, 41]⟩,
 ⟨#[113, 40, 65, 41]⟩,
 ⟨#[114, 40, 65, 44, 66, 41, 44, 65, 62, 66]⟩,
 ⟨#[108, 101, 110, 40, 91, 97, 44, 98, 44, 99, 93, 44, 65, 41]⟩,
 ⟨#[109, 97, 120, 40, 51, 44, 50, 44, 65, 41]⟩,
 ⟨#[109, 97, 120, 40, 65, 44, 50, 44, 51, 41]⟩,
 ⟨#[116, 40, 97, 44, 65, 41]⟩,
 ⟨#[108, 111, 111, 112]⟩,
 ⟨#[111, 107, 44, 33]⟩,
 ⟨#[102, 97, 99, 40, 52, 44, 65, 41]⟩,
 ⟨#[115, 40, 65, 41]⟩,
 ⟨#[114, 101, 118, 40, 91, 49, 44, 50, 44, 51, 93, 44, 91, 93, 44, 65, 41]⟩,
 ⟨#[98, 97, 100, 40, 65, 41]⟩,
 ⟨#[98, 105, 103, 40, 65, 41]⟩,
 ⟨#[117, 110, 40, 65, 41]⟩,
 ⟨#[112, 40, 65, 41, 44, 33, 44, 112, 40, 66, 41]⟩,
 ⟨#[65, 61, 102, 40, 66, 44, 67, 41, 44, 97, 114, 103, 40, 49, 44, 65, 44, 68, 41]⟩,
 ⟨#[109, 101, 109, 40, 65, 44, 91, 49, 44, 50, 93, 41, 44, 109, 101, 109, 40, 66, 44, 91, 65, 44, 51, 93, 41]⟩,
 ⟨#[65, 32, 105, 115, 32, 51, 47, 47, 48]⟩,
 ⟨#[116, 114, 117, 101]⟩,
 ⟨#[109, 101, 109, 40, 65, 44, 66, 41]⟩,
 ⟨#[112, 40, 65, 41, 44, 65, 92, 61, 50]⟩]
def CU : List (List ByteArray) := [[⟨#[97, 112, 112, 40, 65, 44, 66, 44, 91, 49, 44, 50, 93, 41]⟩, ⟨#[97, 112, 112, 40, 91, 49, 93, 44, 91, 50, 124, 65, 93, 44, 66, 41]⟩, ⟨#[97, 112, 112, 40, 65, 44, 91, 49, 93, 44, 65, 41]⟩],
 [⟨#[109, 101, 109, 40, 65, 44, 91, 97, 44, 98, 44, 99, 93, 41]⟩, ⟨#[109, 101, 109, 40, 65, 44, 91, 49, 44, 50, 93, 41, 44, 109, 101, 109, 40, 66, 44, 91, 65, 44, 51, 93, 41]⟩, ⟨#[109, 101, 109, 40, 65, 44, 66, 41]⟩],
 [⟨#[113, 40, 65, 41]⟩, ⟨#[114, 40, 65, 44, 66, 41, 44, 65, 62, 66]⟩, ⟨#[112, 40, 65, 41, 44, 33, 44, 112, 40, 66, 41]⟩, ⟨#[114, 40, 65, 44, 65, 41]⟩],
 [⟨#[108, 101, 110, 40, 91, 97, 44, 98, 44, 99, 93, 44, 65, 41]⟩, ⟨#[108, 101, 110, 40, 65, 44, 50, 41]⟩],
 [⟨#[109, 97, 120, 40, 51, 44, 50, 44, 65, 41]⟩, ⟨#[109, 97, 120, 40, 65, 44, 50, 44, 51, 41]⟩, ⟨#[109, 97, 120, 40, 49, 44, 50, 44, 65, 41]⟩],
 [⟨#[116, 40, 97, 44, 65, 41]⟩, ⟨#[116, 40, 65, 44, 100, 41]⟩, ⟨#[101, 40, 65, 44, 66, 41]⟩],
 [⟨#[108, 111, 111, 112]⟩, ⟨#[111, 107, 44, 33]⟩, ⟨#[111, 107, 44, 108, 111, 111, 112]⟩],
 [⟨#[102, 97, 99, 40, 52, 44, 65, 41]⟩, ⟨#[102, 97, 99, 40, 48, 44, 65, 41]⟩, ⟨#[102, 97, 99, 40, 55, 44, 65, 41]⟩],
 [⟨#[115, 40, 65, 41]⟩, ⟨#[115, 40, 66, 41, 44, 66, 61, 102, 40, 49, 41]⟩],
 [⟨#[114, 101, 118, 40, 91, 49, 44, 50, 44, 51, 93, 44, 91, 93, 44, 65, 41]⟩, ⟨#[114, 101, 118, 40, 65, 44, 91, 93, 44, 91, 49, 93, 41]⟩],
 [⟨#[98, 97, 100, 40, 65, 41]⟩, ⟨#[98, 105, 103, 40, 65, 41]⟩, ⟨#[117, 110, 40, 65, 41]⟩]]
def NT (s : ByteArray) : Bool := decide (s.size ≤ 200) && match zP (sb s) with | some l => decide (2 ≤ l.length) && decide (l.length ≤ 20) | none => false
theorem aN8 : JT.all NT = true := by decide +kernel
theorem aUE : CU.all (fun l => decide (1 ≤ l.length) && l.all (fun s => decide (s.size ≤ 1000))) = true := by decide +kernel
theorem aZ2 (y : List ByteArray) (h : y ∈ CU) : y.length ≤ 4 := by
 have h2 : (CU.all fun l => decide (l.length ≤ 4)) = true := by decide +kernel
 simpa using eW.1 h2 y h
end Go.AW
