import Derived.Test.YtpficjlageaebaaGreatDoorStrp
import Derived.Test.YtpficjlageaebaaGreatDoorStri
import Derived.Test.YtpficjlageaebaaGreatDoorStrl
import Derived.Test.YtpficjlageaebaaGreatDoorStrn
import Derived.Test.YtpficjlageaebaaGreatDoorStrm
set_option linter.unusedSimpArgs false
set_option linter.unusedVariables false
set_option maxRecDepth 100000
namespace Go.AW
open Go.Proofs.Tryz
theorem aVX {nm : ByteArray} (h : dK nm ≠ 0) : nm ≠ ⟨#[]⟩ := by rintro rfl; exact h (by decide)
abbrev p6 := zi tI_3 (zi zI_3 (zi aX (zi tI_9 (zi zI_9 (zi cH (zi tI_31 (zi zI_31 (zi aN (zi bF (zi bE (zi b9 (zi tI_63 (zi zI_63 (zi bS (zi bR (zi bP (zi bQ bT)))))))))))))))))
set_option maxHeartbeats 2000000 in
theorem aRB {s : ByteArray} (hs : s.size ≤ 1000) : ∀ (n d a lv : Nat) (st : aB), a ≤ s.size → lv ≤ 3 → d ≤ 1048576 → (s.size - a) * 4 + lv < n →
 aD prog 165 [.str s, .int .i64 (a : Int), .int .i64 (d : Int), .int .i64 (lv : Int)] st (fun r st' => lL (rd (sb s) n d a lv) r ∧ st' = st) := by
 intro n
 induction n with
 | zero => intro d a lv st _ _ _ h; omega
 | succ n IH =>
 intro d a lv st ha hlv hd hn
 have hl1 : (sb s).length ≤ 1000 := by rw [cJ]; exact hs
 refine aD.PI ?_
 refine wF [1000000, 10] 4 func165 ntmps165 rfl rfl ?_
 intro _
 generalize hP : rd (sb s) (n + 1) d a lv = o
 simp -implicitDefEqProofs only [aA, seval, p6]
 intro b hb
 have hD := fun (o : AO) => (aL.refl st).aC (o := o) hb
 cases lv with
 | zero =>
  simp only [rd] at hP
  have h0 : (((0 : Nat) : Int) = 0) = True := dA rfl
  simp -implicitDefEqProofs only [bM, aA, ↓aU, seval]
  refine (aYS (R := fun d a => rd (sb s) n d a 3) (a := a) (fun d hd a' st' h1 h2 => IH d a' 3 st' h2 (by omega) hd (by omega)) (fun d => zO hl1 n d 3) hs ha d hd _).mono ?_
  rintro r _ ⟨hr, rfl⟩
  rw [hP] at hr
  cases o with
  | none =>
   obtain ⟨k, hk, rfl⟩ := hr
   simp -implicitDefEqProofs only [aK, bZ, cG, bO, d8 (bO _), eD (aT _), kG, aA, seval, p6]
   exact ⟨wC hk, hD _⟩
  | some p =>
   obtain ⟨t, e⟩ := p
   simp only [lL] at hr
   subst hr
   simp -implicitDefEqProofs only [aK, bZ, cG, bO, d8 (bO _), eD (aT _), aA, seval, p6]
   exact ⟨qE rfl, hD _⟩
 | succ lv =>
  simp only [rd] at hP
  have h0 : (((lv + 1 : Nat) : Int) = 0) = False := cI (by omega)
  obtain ⟨lw, hlw⟩ : ∃ lw, lw = lv + 1 := ⟨_, rfl⟩
  rw [← hlw] at hP h0 ⊢
  have hwl := mW (x := (lw : Int) - 1) (m := lv) (by omega) (by omega)
  simp -implicitDefEqProofs only [h0, hwl, bX, aA, seval]
  refine (IH d a lv _ ha (by omega) hd (by omega)).mono ?_
  rintro r _ ⟨hr, rfl⟩
  cases hRi : rd (sb s) n d a lv with
  | none =>
   rw [hRi] at hr hP
   simp only at hP
   subst hP
   obtain ⟨k, hk, rfl⟩ := hr
   have hk0 : ((0 : Int) ≤ (-1 - (k : Int))) = False := cI (by omega)
   simp -implicitDefEqProofs only [aK, bZ, bO, kG, aA, ↓aU, seval, p6]
   intro b10 h10
   have hbb : b10 ≠ b := fun h => by rw [h, aB.aO] at h10; cases h10
   have LA : st b10 = none := by rwa [aB.aM _ _ hbb] at h10
   refine g9 (σ := Unit) [1000000, 10] [0, 2, 3, 8, 10] (fun _ => True) (fun _ => [(9, .int .i64 0), (11, .int .i64 (-1 - (k : Int)))]) (fun _ => (st.aC b (.cells [.int .i64 0, .int .i64 0, .str ⟨#[]⟩, .fslice []])).aC b10 (.cells GR.av.cells)) (fun _ => 0) (by decide +kernel) ⟨(), trivial, aP.mk (by simp -implicitDefEqProofs only [aA, seval])⟩ ?_
   rintro _ _
   simp -implicitDefEqProofs only [aK, hk0, hbb.symm, bX, aA, seval, p6]
   exact ⟨CQ hk, ((hD _).aC LA).aC hb⟩
  | some p =>
   obtain ⟨t, e⟩ := p
   rw [hRi] at hr hP
   simp only [lL] at hr hP
   subst hr
   obtain ⟨g1, g2, g3⟩ := zO hl1 n d lv a t e (by rw [cJ]; exact ha) hRi
   rw [cJ] at g2 hP
   simp -implicitDefEqProofs only [aK, bZ, bO, aA, ↓aU, seval, p6]
   intro b10 h10
   have hbb : b10 ≠ b := fun h => by rw [h, aB.aO] at h10; cases h10
   have LA : st b10 = none := by rwa [aB.aM _ _ hbb] at h10
   have hE : ∀ o1 o2 o3, aL (((st.aC b o1).aC b10 o2).aC b o3) st := fun o1 o2 o3 => ((hD _).aC LA).aC hb
   refine g9 (σ := Tm × Nat × Nat) [1000000, 10] [0, 2, 3, 8, 10] (fun x => BR (fun a => rd (sb s) n d a lv) (sb s) lw x.2.2 x.1 x.2.1 = o ∧ a < x.2.1 ∧ x.2.1 ≤ s.size ∧ s.size < x.2.2 + x.2.1) (fun x => [(9, .int .i64 0), (11, .int .i64 (x.2.1 : Int))]) (fun x => (st.aC b (.cells [.int .i64 0, .int .i64 0, .str ⟨#[]⟩, .fslice []])).aC b10 (.cells x.1.av.cells)) (fun x => x.2.2) (by decide +kernel) ⟨(t, e, s.size + 1), ⟨hP, g1, g2, by simp only; omega⟩, aP.mk (by simp -implicitDefEqProofs only [aA, seval])⟩ ?_
   rintro ⟨t, e, m⟩ ⟨ht, hae, hes, hm⟩
   simp only at ht hae hes hm ⊢
   obtain ⟨m, rfl⟩ : ∃ m', m = m' + 1 := ⟨m - 1, by omega⟩
   simp only [BR] at ht
   have he0 : ((0 : Int) ≤ (e : Int)) = True := dA (by omega)
   simp -implicitDefEqProofs only [he0, bM, aA, seval]
   refine (aXJ s hs e hes _).to ?_
   cases hop : pA (sb s) e with
   | none =>
    rw [hop] at ht
    simp only at ht
    subst ht
    simp -implicitDefEqProofs only [aK, bZ, cG, bO, d8 (bO _), eD (aT _), PM, hbb.symm, bM, aA, seval, p6]
    exact ⟨qE rfl, hE _ _ _⟩
   | some p =>
    obtain ⟨nm, e1⟩ := p
    rw [hop] at ht
    simp only at ht
    obtain ⟨k1, k2, k3⟩ := aF7 hop
    rw [cJ] at k2
    have hnm := cI (aVX k3)
    simp -implicitDefEqProofs only [PM, hnm, bX, aA, seval]
    refine (t8 nm _).to ?_
    by_cases aA7 : dK nm = lw
    case neg =>
     rw [aG aA7] at ht
     subst ht
     have hne : ((dK nm : Int) = (lw : Int)) = False := cI (by omega)
     simp -implicitDefEqProofs only [aK, bZ, cG, bO, d8 (bO _), eD (aT _), hne, hbb.symm, bX, aA, seval, p6]
     exact ⟨qE rfl, hE _ _ _⟩
    rw [aE (by simpa using aA7)] at ht
    have hne : ((dK nm : Int) = (lw : Int)) = True := dA (by omega)
    simp -implicitDefEqProofs only [hne, hwl, bM, aA, seval]
    refine (IH d e1 lv _ k2 (by omega) hd (by omega)).mono ?_
    rintro r _ ⟨hr, rfl⟩
    cases hRj : rd (sb s) n d e1 lv with
    | none =>
     rw [hRj] at hr ht
     simp only at ht
     subst ht
     obtain ⟨k, hk, rfl⟩ := hr
     have hk0 : ((-1 - (k : Int)) < 0) = True := dA (by omega)
     simp -implicitDefEqProofs only [aK, aH, bZ, cG, hk0, kG, hbb.symm, bM, aA, ↓aU, seval, p6]
     exact ⟨CQ hk, hE _ _ _⟩
    | some p =>
     obtain ⟨t2, e2⟩ := p
     rw [hRj] at hr ht
     simp only [lL] at hr ht
     subst hr
     obtain ⟨q1, q2, q3⟩ := zO hl1 n d lv e1 t2 e2 (by rw [cJ]; exact k2) hRj
     rw [cJ] at q2
     have he2 : ((e2 : Int) < 0) = False := cI (by omega)
     simp -implicitDefEqProofs only [aT, aH, bZ, cG, bO, d8 (bO _), eD (aT _), he2, bX, aA, ↓aU, seval, p6]
     refine (rJ nm [t, t2] (by simp) _).to ?_
     by_cases h3 : lw = 3
     · rw [aG h3] at ht
       subst ht
       have h3' : ((lw : Int) = 3) = True := dA (by omega)
       simp -implicitDefEqProofs only [aK, bZ, cG, bO, d8 (bO _), eD (aT _), h3', hbb.symm, bM, aA, seval, p6]
       exact ⟨qE rfl, hE _ _ _⟩
     · rw [aE h3] at ht
       have h3' : ((lw : Int) = 3) = False := cI (by omega)
       simp -implicitDefEqProofs only [aK, bZ, bO, h3', bX, aA, seval, p6]
       exact ⟨(nH nm [t, t2], e2, m), by simp only; omega, ⟨ht, by simp only; omega, q2, by simp only; omega⟩, aP.mk (by simp -implicitDefEqProofs only [aA, seval])⟩
end Go.AW
namespace Go.AW
def mY : Nat → Nat → ByteArray → ByteArray
 | 0, _, acc => acc
 | f + 1, n, acc => if 9 < n then mY f (n / 10) (⟨#[UInt8.ofNat (48 + n % 10)]⟩ ++ acc) else ⟨#[UInt8.ofNat (48 + n)]⟩ ++ acc
def yI (n : Int) : ByteArray := if n < 0 then ⟨#[45]⟩ ++ mY 20 (-n).toNat ⟨#[]⟩ else mY 20 n.toNat ⟨#[]⟩
def HR (n : Int) : ByteArray := ⟨#[UInt8.ofNat (65 + n.toNat)]⟩
def qA (t : Tm) : Bool := decide (t.k = 3) && (decide (t.s = ⟨#[46]⟩) && decide (t.ts.length = 2))
def HQ (t : Tm) : Bool := decide (t.k = 3) && (decide (t.s = ⟨#[91, 93]⟩) && decide (t.ts.length = 0))
def t9 (t : Tm) : Bool := decide (t.k = 3) && (decide (t.ts.length = 2) && decide (0 < dK t.s))
def CL (t : Tm) : Bool := decide (t.k = 3) && (decide (t.ts.length = 0) && decide (0 < dK t.s))
def NZ (t : Tm) : Bool := decide (t.k = 3) && decide (0 < t.ts.length)
def nL (t : Tm) (i : Nat) : Tm := t.ts.getD i aUX
 where aUX : Tm := .mk 0 0 ⟨#[]⟩ []
def kH (T : Tm → ByteArray) : List Tm → ByteArray
 | [] => ⟨#[]⟩
 | x :: xs => xs.foldl (fun o y => (o ++ ⟨#[44]⟩) ++ T y) (⟨#[]⟩ ++ T x)
def spine : Nat → Tm → List Tm × Tm
 | 0, t => ([], t)
 | n + 1, t => if qA t then (nL t 0 :: (spine n (nL t 1)).1, (spine n (nL t 1)).2) else ([], t)
def pZ (nm : ByteArray) : ByteArray := if iD nm then (⟨#[32]⟩ ++ nm) ++ ⟨#[32]⟩ else nm
def IF (l : List UInt8) : Bool := fN l 0 letter || (fN l 0 dN || (fN l 0 rW || (cO l 0 91 || cO l 0 40)))
def tJ (T : Tm → ByteArray) (t : Tm) (lv : Nat) : ByteArray := if t9 t && decide (lv < dK t.s) then (⟨#[40]⟩ ++ T t) ++ ⟨#[41]⟩ else T t
def zW (T : Tm → ByteArray) (t : Tm) (lv : Nat) : ByteArray := if CL t then (⟨#[40]⟩ ++ T t) ++ ⟨#[41]⟩ else tJ T t lv
def zT (T : Tm → ByteArray) (t : Tm) (lv : Nat) : ByteArray := if CL t || !IF (sb (tJ T t lv)) then (⟨#[40]⟩ ++ tJ T t lv) ++ ⟨#[41]⟩ else tJ T t lv
def FC (T : Tm → ByteArray) (p : List Tm × Tm) : ByteArray := if HQ p.2 then (⟨#[91]⟩ ++ kH T p.1) ++ ⟨#[93]⟩ else (((⟨#[91]⟩ ++ kH T p.1) ++ ⟨#[124]⟩) ++ T p.2) ++ ⟨#[93]⟩
def CR (t : Tm) : ByteArray := if t.k = 1 then HR t.n else if t.k = 2 then yI t.n else t.s
def lvl (n : Nat) : Nat := if n = 3 then 2 else n
def tx : Nat → Tm → ByteArray
 | 0, _ => ⟨#[]⟩
 | n + 1, t => if qA t then FC (tx n) (spine n t) else if t9 t then (zW (tx n) (nL t 0) (lvl (dK t.s)) ++ pZ t.s) ++ zT (tx n) (nL t 1) (dK t.s - 1)
  else if NZ t then ((t.s ++ ⟨#[40]⟩) ++ kH (tx n) t.ts) ++ ⟨#[41]⟩ else CR t
theorem aN5 {T : Tm → ByteArray} {l : List Tm} {i : Nat} {x : Tm} (hx : l[i]? = some x) : kH T (l.take (i + 1)) = (if 0 < i then kH T (l.take i) ++ ⟨#[44]⟩ else kH T (l.take i)) ++ T x := by
 rw [fM, hx]
 cases l with
 | nil => simp at hx
 | cons y l =>
  cases i with
  | zero => simp at hx; subst hx; rfl
  | succ i =>
   rw [aG (by omega), vL]
   simp only [kH, G0, fF, List.foldl_append, z6, List.foldl_nil]
theorem dG (a b : ByteArray) : (a ++ b).size = a.size + b.size := ByteArray.size_append
theorem IE : ∀ (f n : Nat) (acc : ByteArray), (mY f n acc).size ≤ f + acc.size
 | 0, n, acc => by simp [mY]
 | f + 1, n, acc => by
  unfold mY
  split
  · refine nC (IE f _ _) ?_
    rw [dG]
    show f + (1 + acc.size) ≤ _
    omega
  · rw [dG]
    show 1 + acc.size ≤ _
    omega
abbrev Ws (t : Tm) : Prop := ∃ d, t.shape d = true
theorem Ws.own {k n : Int} {s : ByteArray} {ts : List Tm} (h : Ws (.mk k n s ts)) : eF k n s ts.length = true ∧ ∀ x ∈ ts, Ws x := by
 obtain ⟨d, h⟩ := h
 rw [Tm.BH, cM, cM, eW] at h
 exact ⟨h.1.2, fun x hx => ⟨_, h.2 x hx⟩⟩
theorem DG {k n : Int} {s : ByteArray} {len : Int} (h : eF k n s len = true) : (k = 1 ∧ 0 ≤ n ∧ n ≤ 25 ∧ s = ⟨#[]⟩ ∧ len = 0) ∨ (k = 2 ∧ -999 ≤ n ∧ n ≤ 999 ∧ s = ⟨#[]⟩ ∧ len = 0) ∨ (k = 3 ∧ n = 0 ∧ xD s = true ∧ len ≤ 4) := by
 unfold eF at h
 by_cases h1 : k = 1
 · rw [gB h1] at h
   simp only [cond_true, cM, bJ] at h
   exact Or.inl ⟨h1, h.1.1.1, h.1.1.2, h.1.2, h.2⟩
 rw [fH h1] at h
 by_cases h2 : k = 2
 · rw [gB h2] at h
   simp only [cond_true, AA, cM, bJ] at h
   exact Or.inr (Or.inl ⟨h2, h.1.1.1, h.1.1.2, h.1.2, h.2⟩)
 rw [fH h2] at h
 by_cases h3 : k = 3
 · rw [gB h3] at h
   simp only [cond_true, AA, cM, bJ] at h
   exact Or.inr (Or.inr ⟨h3, h.1.1, h.1.2, h.2⟩)
 · rw [fH h3] at h
   cases h
theorem aIY {s : ByteArray} (h : xD s = true) : 1 ≤ s.size ∧ s.size ≤ 6 := by
 unfold xD at h
 rw [qZ] at h
 rcases h with h | h
 · simp only [rY, cM, bJ] at h
   omega
 · rw [List.any_eq_true] at h
   obtain ⟨x, hx, h⟩ := h
   rw [bJ] at h
   subst h
   revert hx
   revert s
   decide
theorem Ws.size {t : Tm} (h : Ws t) : t.s.size ≤ 6 ∧ (t.k = 3 → 1 ≤ t.s.size) := by
 obtain ⟨k, n, s, ts⟩ := t
 rcases DG h.own.1 with h | h | h
 · rw [show (Tm.mk k n s ts).s = s from rfl, h.2.2.2.1]; exact ⟨by decide, fun h3 => by have : k = 3 := h3; omega⟩
 · rw [show (Tm.mk k n s ts).s = s from rfl, h.2.2.2.1]; exact ⟨by decide, fun h3 => by have : k = 3 := h3; omega⟩
 · have := aIY h.2.2.1; exact ⟨this.2, fun _ => this.1⟩
theorem qQ (t : Tm) : 1 ≤ t.nodes := by obtain ⟨k, n, s, ts⟩ := t; rw [Tm.gN]; omega
theorem aBU {x : Tm} {l : List Tm} (h : x ∈ l) : x.nodes ≤ bG Tm.nodes l := by
 induction l with
 | nil => cases h
 | cons y l ih =>
  simp only [bG]
  rcases cY.1 h with rfl | h
  · omega
  · have := ih h; omega
theorem aL3 : ∀ (l : List Tm) (i : Nat), bG Tm.nodes (l.take i) ≤ bG Tm.nodes l
 | [], i => by simp
 | x :: l, 0 => by simp [bG]
 | x :: l, i + 1 => by simp only [vL, bG]; have := aL3 l i; omega
theorem KF {T : Tm → ByteArray} {l : List Tm} (h : ∀ x ∈ l, (T x).size ≤ 32 * x.nodes) : (kH T l).size ≤ 32 * bG Tm.nodes l + l.length := by
 have hg : ∀ (xs : List Tm) (o : ByteArray), (∀ x ∈ xs, (T x).size ≤ 32 * x.nodes) → (xs.foldl (fun o y => (o ++ ⟨#[44]⟩) ++ T y) o).size ≤ o.size + 32 * bG Tm.nodes xs + xs.length := by
  intro xs
  induction xs with
  | nil => intro o _; simp [bG]
  | cons x xs ih =>
   intro o hx
   refine nC (ih _ fun y hy => hx y (by simp [hy])) ?_
   rw [dG, dG]
   have := hx x (by simp)
   simp only [bG, aS]
   show o.size + 1 + _ + _ + _ ≤ _
   omega
 cases l with
 | nil => exact jD _
 | cons x l =>
  refine nC (hg l _ fun y hy => h y (by simp [hy])) ?_
  rw [dG]
  have := h x (by simp)
  simp only [bG, aS]
  show 0 + _ + _ + _ ≤ _
  omega
theorem BA {t : Tm} (h : qA t = true) : ∃ n x y, t = .mk 3 n ⟨#[46]⟩ [x, y] := by
 obtain ⟨k, n, s, ts⟩ := t
 simp only [qA, cM, bJ] at h
 simp only [Tm.k, Tm.s, Tm.ts] at h
 obtain ⟨rfl, rfl, h3⟩ := h
 match ts, h3 with
 | [x, y], _ => exact ⟨n, x, y, rfl⟩
theorem A6 {k n : Int} {s : ByteArray} {x y : Tm} : nL (.mk k n s [x, y]) 0 = x ∧ nL (.mk k n s [x, y]) 1 = y := ⟨rfl, rfl⟩
theorem N5 : ∀ (n : Nat) (t : Tm), Ws t → (∀ x ∈ (spine n t).1, Ws x) ∧ Ws (spine n t).2 ∧ bG Tm.nodes (spine n t).1 + (spine n t).1.length + (spine n t).2.nodes = t.nodes
 | 0, t, h => ⟨by simp [spine], h, by simp [spine, bG]⟩
 | n + 1, t, h => by
  unfold spine
  split
  · rename_i hp
    obtain ⟨m, x, y, rfl⟩ := BA hp
    have hk := h.own.2
    obtain ⟨h1, h2, h3⟩ := N5 n y (hk y (by simp))
    simp only [A6]
    refine ⟨fun z hz => ?_, h2, ?_⟩
    · rcases cY.1 hz with rfl | hz
      · exact hk z (by simp)
      · exact h1 z hz
    · simp only [bG, aS, Tm.gN]
      omega
  · exact ⟨by simp, h, by simp [bG]⟩
theorem OL {t : Tm} (h : t9 t = true) : ∃ n s x y, t = .mk 3 n s [x, y] ∧ 0 < dK s := by
 obtain ⟨k, n, s, ts⟩ := t
 simp only [t9, cM, bJ] at h
 simp only [Tm.k, Tm.s, Tm.ts] at h
 obtain ⟨rfl, h2, h3⟩ := h
 match ts, h2 with
 | [x, y], _ => exact ⟨n, s, x, y, rfl, h3⟩
theorem QE {T : Tm → ByteArray} {t : Tm} (lv : Nat) : (T t).size ≤ (tJ T t lv).size ∧ (tJ T t lv).size ≤ (T t).size + 2 := by
 unfold tJ
 split
 · rw [dG, dG]; show _ ≤ 1 + _ + 1 ∧ 1 + _ + 1 ≤ _; omega
 · omega
theorem aUE {T : Tm → ByteArray} {t : Tm} (lv : Nat) : (T t).size ≤ (zW T t lv).size ∧ (zW T t lv).size ≤ (T t).size + 2 := by
 unfold zW
 split
 · rw [dG, dG]; show _ ≤ 1 + _ + 1 ∧ 1 + _ + 1 ≤ _; omega
 · exact QE lv
theorem aQL {T : Tm → ByteArray} {t : Tm} (lv : Nat) : (T t).size ≤ (zT T t lv).size ∧ (zT T t lv).size ≤ (T t).size + 4 := by
 have := QE (T := T) (t := t) lv
 unfold zT
 split
 · rw [dG, dG]; show _ ≤ 1 + _ + 1 ∧ 1 + _ + 1 ≤ _; omega
 · omega
theorem HP : ∀ (n : Nat) (t : Tm), Ws t → (tx n t).size ≤ 32 * t.nodes
 | 0, t, _ => jD _
 | n + 1, t, h => by
  have hT := HP n
  unfold tx
  split
  · rename_i hp
    obtain ⟨h1, h2, h3⟩ := N5 n t h
    have ha := KF (T := tx n) (l := (spine n t).1) fun x hx => hT x (h1 x hx)
    have hb := hT _ h2
    have hq := qQ (spine n t).2
    have hl : 1 ≤ (spine n t).1.length ∨ n = 0 := by
     cases n with
     | zero => exact Or.inr rfl
     | succ m => left; unfold spine; rw [aG hp]; simp
    have h4 : 3 ≤ t.nodes := by obtain ⟨m, x, y, rfl⟩ := BA hp; simp only [Tm.gN, bG]; have := qQ x; have := qQ y; omega
    have hb2 : 1 ≤ (spine n t).1.length ∨ ((tx n (spine n t).2).size = 0 ∧ (kH (tx n) (spine n t).1).size = 0) := by
     rcases hl with hl | rfl
     · left; omega
     · right; exact ⟨rfl, rfl⟩
    unfold FC
    split
    · rw [dG, dG]; show 1 + _ + 1 ≤ _; omega
    · rw [dG, dG, dG, dG]; show 1 + _ + 1 + _ + 1 ≤ _; omega
  split
  · rename_i hp
    obtain ⟨m, s, x, y, rfl, hs⟩ := OL hp
    have hk := h.own.2
    have h6 := h.size.1
    simp only [A6, Tm.gN, bG, Tm.s]
    have hx := hT x (hk x (by simp))
    have hy := hT y (hk y (by simp))
    have hl := (aUE (T := tx n) (t := x) (lvl (dK s))).2
    have hr := (aQL (T := tx n) (t := y) (dK s - 1)).2
    rw [dG, dG]
    have hsp : (pZ s).size ≤ 8 := by
     have h6 : s.size ≤ 6 := h6
     unfold pZ
     split
     · rw [dG, dG]; show 1 + _ + 1 ≤ _; omega
     · omega
    show _ + (pZ s).size + _ ≤ _
    omega
  split
  · obtain ⟨k, m, s, ts⟩ := t
    have ha := KF (T := tx n) (l := ts) fun x hx => hT x (h.own.2 x hx)
    have h6 : s.size ≤ 6 := h.size.1
    have h4 : ts.length ≤ 4 := by rcases DG h.own.1 with h | h | h <;> omega
    rw [dG, dG, dG, Tm.gN]
    simp only [Tm.s, Tm.ts]
    show s.size + 1 + _ + 1 ≤ _
    omega
  · have h6 := h.size.1
    have hp := qQ t
    unfold CR
    split
    · show 1 ≤ _; omega
    · split
      · unfold yI
        split
        · rw [dG]; have := IE 20 (-t.n).toNat ⟨#[]⟩; have h0 : (⟨#[]⟩ : ByteArray).size = 0 := rfl; show 1 + _ ≤ _; omega
        · have := IE 20 t.n.toNat ⟨#[]⟩; have h0 : (⟨#[]⟩ : ByteArray).size = 0 := rfl; omega
      · omega
def u9 : Nat → Tm → Tm
 | 0, t => t
 | i + 1, t => u9 i (nL t 1)
theorem aFC : ∀ (i : Nat) (t : Tm), u9 (i + 1) t = nL (u9 i t) 1
 | 0, t => rfl
 | i + 1, t => by rw [u9, aFC i]; try rfl
theorem aH4 : ∀ (n : Nat) (t : Tm) (i : Nat) (x : Tm), (spine n t).1[i]? = some x → qA (u9 i t) = true ∧ nL (u9 i t) 0 = x
 | 0, t, i, x, h => by simp [spine] at h
 | n + 1, t, i, x, h => by
  unfold spine at h
  split at h
  · rename_i hp
    cases i with
    | zero => simp at h; exact ⟨hp, h⟩
    | succ i => exact aH4 n _ i x (by simpa using h)
  · simp at h
theorem WS : ∀ (n : Nat) (t : Tm), t.nodes ≤ n + 1 → (spine n t).2 = u9 (spine n t).1.length t ∧ qA (spine n t).2 = false
 | 0, t, h => by
  refine ⟨rfl, ?_⟩
  cases hp : qA t with
  | false => exact hp
  | true => obtain ⟨m, x, y, rfl⟩ := BA hp; simp only [Tm.gN, bG] at h; have := qQ x; omega
 | n + 1, t, h => by
  unfold spine
  split
  · rename_i hp
    obtain ⟨m, x, y, rfl⟩ := BA hp
    simp only [Tm.gN, bG] at h
    have := qQ x
    have := WS n y (by omega)
    exact ⟨this.1, this.2⟩
  · rename_i hp
    exact ⟨rfl, by simpa using hp⟩
theorem aOR {n : Nat} {t : Tm} (h : Ws t) (hn : 1 ≤ n) : 1 ≤ (tx n t).size := by
 obtain ⟨n, rfl⟩ : ∃ m, n = m + 1 := ⟨n - 1, by omega⟩
 unfold tx
 split
 · unfold FC
   split
   · rw [dG, dG]; show 1 ≤ 1 + _ + 1; omega
   · rw [dG]; show 1 ≤ _ + 1; omega
 split
 · rename_i hp
   obtain ⟨m, s, x, y, rfl, hs⟩ := OL hp
   have h6 : 1 ≤ s.size := h.size.2 rfl
   rw [dG, dG]
   have : 1 ≤ (pZ s).size := by
    unfold pZ
    split
    · rw [dG, dG]; omega
    · exact h6
   show 1 ≤ _ + (pZ s).size + _
   omega
 split
 · rw [dG]; show 1 ≤ _ + 1; omega
 · obtain ⟨k, m, s, ts⟩ := t
   rw [show CR (.mk k m s ts) = if k = 1 then HR m else if k = 2 then yI m else s from rfl]
   rcases DG h.own.1 with h1 | h1 | h1
   · rw [aG h1.1]; exact c7 _
   · rw [aE (by omega), aG h1.1]
     unfold yI
     split
     · rw [dG]; show 1 ≤ 1 + _; omega
     · have hf : ∀ f n acc, 1 ≤ (mY (f + 1) n acc).size := by
        intro f
        induction f with
        | zero =>
         intro n acc; unfold mY; split
         · simp only [mY]; rw [dG]; show 1 ≤ 1 + _; omega
         · rw [dG]; show 1 ≤ 1 + _; omega
        | succ f ih =>
         intro n acc; unfold mY; split
         · exact ih _ _
         · rw [dG]; show 1 ≤ 1 + _; omega
       exact hf 19 _ _
   · rw [aE (by omega), aE (by omega)]; exact (aIY h1.2.2.1).1
end Go.AW
namespace Go.AW
open Go.Proofs.Tryz
theorem aG5 {k n : Int} {s : ByteArray} {ts : List Tm} : qA (.mk k n s ts) = (decide (k = 3) && (decide (s = ⟨#[46]⟩) && decide (ts.length = 2))) := rfl
theorem aMW {k n : Int} {s : ByteArray} {ts : List Tm} : HQ (.mk k n s ts) = (decide (k = 3) && (decide (s = ⟨#[91, 93]⟩) && decide (ts.length = 0))) := rfl
theorem aUC {k n : Int} {s : ByteArray} {ts : List Tm} : t9 (.mk k n s ts) = (decide (k = 3) && (decide (ts.length = 2) && decide (0 < dK s))) := rfl
theorem OM {k n : Int} {s : ByteArray} {ts : List Tm} : NZ (.mk k n s ts) = (decide (k = 3) && decide (0 < ts.length)) := rfl
theorem aX1 {k n : Int} {s : ByteArray} {ts : List Tm} : CL (.mk k n s ts) = (decide (k = 3) && (decide (ts.length = 0) && decide (0 < dK s))) := rfl
abbrev PD := zi tI_3 (zi zI_3 (zi aX (zi tI_4 (zi zI_4 (zi cF (zi tI_9 (zi zI_9 (zi cH (zi tI_31 (zi zI_31 (zi aN (zi bF (zi bE (zi b9 (zi tI_63 (zi zI_63 (zi bS (zi bR (zi bP (zi bQ bT))))))))))))))))))))
theorem H0 (t : Tm) (st : aB) : aD prog 239 [t.av] st (fun r st' => r = .bool (qA t) ∧ st' = st) := by
 obtain ⟨k, n, s, ts⟩ := t
 rw [aG5]
 refine wF [1000000] 1 func239 ntmps239 rfl rfl ?_
 intro _
 simp only [aV]
 by_cases h1 : k = 3
 case neg =>
  rw [fH h1, gK]
  simp -implicitDefEqProofs only [h1, bX, aA, seval, PD]
 rw [gB h1, eT]
 by_cases h2 : s = ⟨#[46]⟩
 case neg =>
  rw [fH h2, gK]
  simp -implicitDefEqProofs only [h1, h2, bM, bX, aA, seval, PD]
 rw [gB h2, eT]
 have h3 : decide (((ts.length : Nat) : Int) = 2) = decide (ts.length = 2) := by rw [AB]; omega
 simp -implicitDefEqProofs only [h1, h2, h3, bM, aF, aA, seval, PD]
abbrev LZ := zi tI_3 (zi zI_3 (zi aX (zi tI_4 (zi zI_4 (zi cF (zi tI_9 (zi zI_9 (zi cH (zi tI_31 (zi zI_31 (zi aN (zi bF (zi bE (zi b9 (zi tI_63 (zi zI_63 (zi bS (zi bR (zi bP (zi bQ bT))))))))))))))))))))
theorem aXC (t : Tm) (st : aB) : aD prog 249 [t.av] st (fun r st' => r = .bool (HQ t) ∧ st' = st) := by
 obtain ⟨k, n, s, ts⟩ := t
 rw [aMW]
 refine wF [1000000] 1 func249 ntmps249 rfl rfl ?_
 intro _
 simp only [aV]
 by_cases h1 : k = 3
 case neg =>
  rw [fH h1, gK]
  simp -implicitDefEqProofs only [h1, bX, aA, seval, LZ]
 rw [gB h1, eT]
 by_cases h2 : s = ⟨#[91, 93]⟩
 case neg =>
  rw [fH h2, gK]
  simp -implicitDefEqProofs only [h1, h2, bM, bX, aA, seval, LZ]
 rw [gB h2, eT]
 have h3 : decide (((ts.length : Nat) : Int) = 0) = decide (ts.length = 0) := by rw [AB]; omega
 simp -implicitDefEqProofs only [h1, h2, h3, bM, aF, aA, seval, LZ]
abbrev M7 := zi tI_3 (zi zI_3 (zi aX (zi tI_4 (zi zI_4 (zi cF (zi tI_9 (zi zI_9 (zi cH (zi tI_31 (zi zI_31 (zi aN (zi bF (zi bE (zi b9 (zi tI_63 (zi zI_63 (zi bS (zi bR (zi bP (zi bQ bT))))))))))))))))))))
theorem SY (t : Tm) (st : aB) : aD prog 241 [t.av] st (fun r st' => r = .bool (t9 t) ∧ st' = st) := by
 obtain ⟨k, n, s, ts⟩ := t
 rw [aUC]
 refine wF [1000000] 1 func241 ntmps241 rfl rfl ?_
 intro _
 simp only [aV]
 by_cases h1 : k = 3
 case neg =>
  rw [fH h1, gK]
  simp -implicitDefEqProofs only [h1, bX, aA, seval, M7]
 rw [gB h1, eT]
 by_cases h2 : ts.length = 2
 case neg =>
  rw [fH h2, gK]
  have h2' : (((ts.length : Nat) : Int) = 2) = False := cI (by omega)
  simp -implicitDefEqProofs only [h1, h2', bM, bX, aF, aA, seval, M7]
 rw [gB h2, eT]
 have h2' : (((ts.length : Nat) : Int) = 2) = True := dA (by omega)
 simp -implicitDefEqProofs only [h1, h2', bM, aF, aA, seval, M7]
 refine (t8 s _).to ?_
 have h3 : decide ((0 : Int) < (dK s : Int)) = decide (0 < dK s) := by rw [AB]; omega
 simp -implicitDefEqProofs only [h3, aA, seval]
abbrev LS := zi tI_3 (zi zI_3 (zi aX (zi tI_4 (zi zI_4 (zi cF (zi tI_9 (zi zI_9 (zi cH (zi tI_31 (zi zI_31 (zi aN (zi bF (zi bE (zi b9 (zi tI_63 (zi zI_63 (zi bS (zi bR (zi bP (zi bQ bT))))))))))))))))))))
theorem WW (t : Tm) (st : aB) : aD prog 250 [t.av] st (fun r st' => r = .bool (CL t) ∧ st' = st) := by
 obtain ⟨k, n, s, ts⟩ := t
 rw [aX1]
 refine wF [1000000] 1 func250 ntmps250 rfl rfl ?_
 intro _
 simp only [aV]
 by_cases h1 : k = 3
 case neg =>
  rw [fH h1, gK]
  simp -implicitDefEqProofs only [h1, bX, aA, seval, LS]
 rw [gB h1, eT]
 by_cases h2 : ts.length = 0
 case neg =>
  rw [fH h2, gK]
  have h2' : (((ts.length : Nat) : Int) = 0) = False := cI (by omega)
  simp -implicitDefEqProofs only [h1, h2', bM, bX, aF, aA, seval, LS]
 rw [gB h2, eT]
 have h2' : (((ts.length : Nat) : Int) = 0) = True := dA (by omega)
 simp -implicitDefEqProofs only [h1, h2', bM, aF, aA, seval, LS]
 refine (t8 s _).to ?_
 have h3 : decide ((0 : Int) < (dK s : Int)) = decide (0 < dK s) := by rw [AB]; omega
 simp -implicitDefEqProofs only [h3, aA, seval]
theorem aVZ (s : ByteArray) (hs : s.size ≤ 1000) (st : aB) : aD prog 243 [.str s] st (fun r st' => r = .str (pZ s) ∧ st' = st) := by
 refine wF [1000000] 1 func243 ntmps243 rfl rfl ?_
 intro _
 have hm : maxLen = 9223372036854775807 := by rfl
 have g1 : (⟨#[32]⟩ : ByteArray).size + s.size ≤ maxLen := by show 1 + s.size ≤ _; omega
 have g2 : ((⟨#[32]⟩ : ByteArray) ++ s).size + (⟨#[32]⟩ : ByteArray).size ≤ maxLen := by rw [dG]; show 1 + s.size + 1 ≤ _; omega
 by_cases h1 : s = ⟨#[105, 115]⟩
 · have hW : iD s = true := by unfold iD; rw [gB h1]; try rfl
   unfold pZ
   rw [aG hW]
   have h1' := dA h1
   simp -implicitDefEqProofs only [h1', g1, g2, ↓reduceIte, bM, aA, seval]
 · have h1' := cI h1
   by_cases h2 : s = ⟨#[109, 111, 100]⟩
   · have hW : iD s = true := by unfold iD; rw [gB h2]; exact z9 _
     unfold pZ
     rw [aG hW]
     have h2' := dA h2
     simp -implicitDefEqProofs only [h1', h2', g1, g2, ↓reduceIte, bM, bX, aA, seval]
   · have hW : iD s = false := by unfold iD; rw [fH h1, fH h2]; try rfl
     unfold pZ
     rw [aE (by rw [hW]; decide)]
     have h2' := cI h2
     simp -implicitDefEqProofs only [h1', h2', bX, aA, seval]
theorem aPO (s : ByteArray) (hs : 1 ≤ s.size) (st : aB) : aD prog 252 [.str s] st (fun r st' => r = .bool (IF (sb s)) ∧ st' = st) := by
 refine wF [1000000] 1 func252 ntmps252 rfl rfl ?_
 intro _
 obtain ⟨x, hx⟩ := uA (s := s) (n := 0) (by omega)
 have hix := rA (P := prog) (t := 9) cH hx
 rw [show ((0 : Nat) : Int) = 0 from rfl] at hix
 unfold IF
 simp only [uG hx, q9 hx]
 simp -implicitDefEqProofs only [aA, seval]
 refine (aLH s 0 _).to ?_
 rw [uG hx]
 cases h1 : letter x with
 | true =>
  simp -implicitDefEqProofs only [aA, seval]
  simp
 | false =>
  simp -implicitDefEqProofs only [aA, seval]
  refine (yB s 0 _).to ?_
  rw [uG hx]
  cases h2 : dN x with
  | true =>
   simp -implicitDefEqProofs only [aA, seval]
   simp
  | false =>
   by_cases h3 : 65 ≤ x.toNat
   case' pos => have h3' : ((65 : Int) ≤ (x.toNat : Int)) = True := dA (by omega)
   case' neg => have h3' : ((65 : Int) ≤ (x.toNat : Int)) = False := cI (by omega)
   all_goals
    by_cases h4 : x.toNat ≤ 90
    case' pos => have h4' : ((x.toNat : Int) ≤ 90) = True := dA (by omega)
    case' neg => have h4' : ((x.toNat : Int) ≤ 90) = False := cI (by omega)
   all_goals
    by_cases h5 : x.toNat = 91
    case' pos => have h5' : ((x.toNat : Int) = 91) = True := dA (by omega)
    case' neg => have h5' : ((x.toNat : Int) = 91) = False := cI (by omega)
   all_goals
    by_cases h6 : x.toNat = 40
    case' pos => have h6' : ((x.toNat : Int) = 40) = True := dA (by omega)
    case' neg => have h6' : ((x.toNat : Int) = 40) = False := cI (by omega)
   all_goals try (exfalso; omega)
   all_goals
    simp -implicitDefEqProofs only [hix, h3', h4', h5', h6', bM, bX, aA, seval]
    simp [rW, h3, h4, h5, h6]
theorem NN (n : Nat) : bytesOf [AV.int .u8 ((n : Nat) : Int)] = some [UInt8.ofNat n] := by simp only [bytesOf, lY, qX]
theorem KJ {x : Int} {m : Nat} (h : x = (m : Int)) (hm : m ≤ 255) : IntKind.wrap .u8 x = (m : Int) := by rw [IntKind.wrap_u8]; omega
abbrev aQB := zi tI_3 (zi zI_3 (zi aX (zi tI_5 (zi zI_5 (zi kN (zi tI_9 (zi zI_9 (zi cH (zi tI_57 (zi zI_57 (zi tL (zi B1 (zi AP yX)))))))))))))
theorem aV5 (m : Nat) (hm : m ≤ 25) (st : aB) : aD prog 253 [.int .i64 (m : Int)] st (fun r st' => r = .str (HR m) ∧ st' = st) := by
 refine wF [1000000] 1 func253 ntmps253 rfl rfl ?_
 intro _
 have hw := KJ (x := (m : Int)) rfl (by omega)
 obtain ⟨y, hy⟩ : ∃ y, y = 65 + m := ⟨_, rfl⟩
 have hw2 := KJ (x := 65 + (m : Int)) (m := y) (by omega) (by omega)
 simp -implicitDefEqProofs only [sP, hw, hw2, NN, aA, seval, aQB]
 subst hy
 rfl
abbrev VI := zi tI_3 (zi zI_3 (zi aX (zi tI_5 (zi zI_5 (zi kN (zi tI_9 (zi zI_9 (zi cH (zi tI_57 (zi zI_57 (zi tL (zi B1 (zi AP yX)))))))))))))
theorem aHU (n : Nat) (hn : n ≤ 1000000) (st : aB) : aD prog 211 [.int .i64 (n : Int)] st (fun r st' => r = .str (mY 20 n ⟨#[]⟩) ∧ st' = st) := by
 refine wF [1000000] 1 func211 ntmps211 rfl rfl ?_
 intro _
 have h1 : ((n : Int) < -9223372036854775807) = False := cI (by omega)
 have h2 : ((n : Int) < 0) = False := cI (by omega)
 simp -implicitDefEqProofs only [h1, h2, bX, aA, seval]
 generalize hT : mY 20 n ⟨#[]⟩ = T
 refine g9 (σ := Nat × ByteArray × Nat) [1000000] [2] (fun x => mY x.2.2 x.1 x.2.1 = T ∧ x.1 < 10 ^ x.2.2 ∧ x.1 ≤ 1000000 ∧ 1 ≤ x.2.2 ∧ x.2.1.size + x.2.2 ≤ 20) (fun x => [(0, .int .i64 (x.1 : Int)), (3, .str x.2.1)]) (fun _ => st) (fun x => x.2.2) (by decide +kernel) ⟨(n, ⟨#[]⟩, 20), ⟨hT, by simp only; omega, hn, by simp only; omega, by show 0 + 20 ≤ 20; omega⟩, aP.mk (by simp -implicitDefEqProofs only [aA, seval])⟩ ?_
 rintro ⟨k, acc, f⟩ ⟨hd, hk, hk6, hf, hb⟩
 simp only at hd hk hk6 hf hb ⊢
 obtain ⟨f, rfl⟩ : ∃ f', f = f' + 1 := ⟨f - 1, by omega⟩
 have hm : maxLen = 9223372036854775807 := by rfl
 have hsz : ∀ u : UInt8, (⟨#[u]⟩ : ByteArray).size + acc.size ≤ maxLen := fun u => by show 1 + acc.size ≤ _; omega
 have hr : ((k : Int)).tmod 10 = ((k % 10 : Nat) : Int) := by rw [Int.tmod_eq_emod_of_nonneg (by omega)]; omega
 have hq : ((k : Int)).tdiv 10 = ((k / 10 : Nat) : Int) := by rw [Int.tdiv_eq_ediv_of_nonneg (by omega)]; omega
 simp -implicitDefEqProofs only [aA, seval]
 refine aQ (fun h3 => ?_) (fun h3 => ?_)
 · simp only [bJ] at h3
   unfold mY at hd
   rw [aG (by omega)] at hd
   rw [Nat.pow_succ] at hk
   obtain ⟨y, hy⟩ : ∃ y, y = 48 + k % 10 := ⟨_, rfl⟩
   obtain ⟨q, hq'⟩ : ∃ q, q = k / 10 := ⟨_, rfl⟩
   obtain ⟨r, hr'⟩ : ∃ r, r = k % 10 := ⟨_, rfl⟩
   rw [← hr'] at hr
   rw [← hq'] at hq
   have hwr := bK (n := (r : Int))
   have hw := mW (x := 48 + (r : Int)) (m := y) (by omega) (by omega)
   have hw8 := KJ (x := (y : Int)) (m := y) rfl (by omega)
   have hw2 := bK (n := (q : Int))
   simp -implicitDefEqProofs only [sP, hr, hq, hw, hw8, hw2, NN, hsz, aA, seval, VI]
   refine ⟨(q, ⟨#[UInt8.ofNat y]⟩ ++ acc, f), by simp only; omega, ⟨by rw [hq', hy]; exact hd, by simp only; omega, by simp only; omega, ?_, ?_⟩, aP.mk (by simp -implicitDefEqProofs only [aA, seval] <;> rfl)⟩
   · show 1 ≤ f
     rcases Nat.eq_zero_or_pos f with rfl | h
     · simp only [Nat.pow_zero] at hk; omega
     · exact h
   · show (⟨#[UInt8.ofNat y]⟩ ++ acc : ByteArray).size + f ≤ 20
     rw [dG]
     show 1 + acc.size + f ≤ 20
     omega
 · simp only [dH] at h3
   unfold mY at hd
   rw [aE (by omega)] at hd
   obtain ⟨y, hy⟩ : ∃ y, y = 48 + k := ⟨_, rfl⟩
   have hw := mW (x := 48 + (k : Int)) (m := y) (by omega) (by omega)
   have hw8 := KJ (x := (y : Int)) (m := y) rfl (by omega)
   simp -implicitDefEqProofs only [sP, hw, hw8, NN, hsz, aA, seval, VI]
   rw [← hd, hy]
theorem aRW (n : Int) (h1 : -999 ≤ n) (h2 : n ≤ 999) (st : aB) : aD prog 210 [.int .i64 n] st (fun r st' => r = .str (yI n) ∧ st' = st) := by
 refine wF [1000000] 1 func210 ntmps210 rfl rfl ?_
 intro _
 unfold yI
 have hm : maxLen = 9223372036854775807 := by rfl
 by_cases h : n < 0
 · rw [aG h]
   obtain ⟨m, hm'⟩ : ∃ m : Nat, m = (-n).toNat := ⟨_, rfl⟩
   rw [← hm']
   have h' := dA h
   have hw := mW (x := 0 - n) (m := m) (by omega) (by omega)
   have hw' := mW (x := -n) (m := m) (by omega) (by omega)
   have hs : (⟨#[45]⟩ : ByteArray).size + (mY 20 m ⟨#[]⟩).size ≤ maxLen := by have := IE 20 m ⟨#[]⟩; have h0 : (⟨#[]⟩ : ByteArray).size = 0 := rfl; show 1 + _ ≤ _; omega
   simp -implicitDefEqProofs only [h', hw, ↓reduceIte, bM, aA, seval]
   refine (aHU m (by omega) _).to ?_
   simp -implicitDefEqProofs only [hs, ↓reduceIte, aA, seval]
 · rw [aE h]
   obtain ⟨m, rfl⟩ := tT (show 0 ≤ n by omega)
   have h' := cI h
   rw [lY]
   simp -implicitDefEqProofs only [h', bX, aA, seval]
   refine (aHU m (by omega) _).to ?_
   simp -implicitDefEqProofs only [aA, seval]
abbrev FK := zi tI_3 (zi zI_3 (zi aX (zi tI_9 (zi zI_9 (zi cH (zi tI_31 (zi zI_31 (zi aN (zi bF (zi bE (zi b9 (zi tI_63 (zi zI_63 (zi bS (zi bR (zi bP (zi bQ bT)))))))))))))))))
theorem aS4 (t : Tm) (ht : Ws t) (h0 : t.k = 3 → t.ts = []) (st : aB) : aD prog 246 [t.av] st (fun r st' => r = .str (CR t) ∧ st' = st) := by
 obtain ⟨k, n, s, ts⟩ := t
 have hp := H0 (.mk k n s ts)
 simp only [aV] at hp ⊢
 rw [show CR (.mk k n s ts) = if k = 1 then HR n else if k = 2 then yI n else s from rfl]
 have h0 : k = 3 → ts = [] := h0
 refine wF [1000000] 1 func246 ntmps246 rfl rfl ?_
 intro _
 rcases DG ht.own.1 with ⟨rfl, h1, h2, rfl, h4⟩ | ⟨rfl, h1, h2, rfl, h4⟩ | ⟨rfl, rfl, h2, h4⟩
 · obtain ⟨m, rfl⟩ := tT h1
   simp -implicitDefEqProofs only [aA, seval, FK]
   refine (aV5 m (by omega) _).to ?_
   simp -implicitDefEqProofs only [aA, seval]
 · skip
   simp -implicitDefEqProofs only [aA, seval, FK]
   refine (aRW n h1 h2 _).to ?_
   simp -implicitDefEqProofs only [aA, seval]
 · obtain rfl := h0 rfl
   simp -implicitDefEqProofs only [aW, aA, seval, FK]
   refine (hp _).to ?_
   rw [show qA (.mk 3 0 s []) = false by rw [aG5]; simp]
   simp -implicitDefEqProofs only [aA, seval, FK]
   refine g9 (σ := Unit) [1000000] [1, 2] (fun _ => True) (fun _ => [(3, .str s), (4, .int .i64 0)]) (fun _ => st) (fun _ => 0) (by decide +kernel) ⟨(), trivial, aP.mk (by simp -implicitDefEqProofs only [aA, seval])⟩ ?_
   rintro _ _
   simp -implicitDefEqProofs only [a7, aA, seval, FK]
def xC (T : Tm → ByteArray) (t : Tm) : Prop := (∀ st : aB, aD prog 226 [t.av] st (fun r st' => r = .str (T t) ∧ st' = st)) ∧ (T t).size ≤ 32 * t.nodes ∧ 1 ≤ (T t).size ∧ t.nodes ≤ 1000
abbrev MH := zi tI_3 (zi zI_3 (zi aX (zi tI_9 (zi zI_9 (zi cH (zi tI_31 (zi zI_31 (zi aN (zi bF (zi bE (zi b9 (zi tI_63 (zi zI_63 (zi bS (zi bR (zi bP (zi bQ bT)))))))))))))))))
theorem aIU {T : Tm → ByteArray} (l : List Tm) (hT : ∀ t ∈ l, xC T t) (hn : bG Tm.nodes l ≤ 10000) (hl : l.length ≤ 10000) (st : aB) : aD prog 245 [.slice (l.map Tm.av)] st (fun r st' => r = .str (kH T l) ∧ st' = st) := by
 refine wF [1000000] 1 func245 ntmps245 rfl rfl ?_
 intro _
 simp -implicitDefEqProofs only [aA, seval]
 refine eK (σ := Unit) [1000000] [0, 2] l (fun i _ => True) (fun i _ => [(3, .str (kH T (l.take i))), (4, .int .i64 i)]) (fun _ _ => st) (by decide +kernel) ⟨(), trivial, aP.mk (by simp -implicitDefEqProofs only [kR, aA, ↓aU, seval] <;> rfl)⟩ (fun i x _ hx hlt bU hdr hinv => ?_) (fun _ hge hinv => ?_)
 case refine_2 =>
  rw [eS]
  simp -implicitDefEqProofs only [hge, aF, aA, seval, MH]
 have hxm := cW hx
 obtain ⟨c1, c2, c3, c4⟩ := hT x hxm
 have hw := bK (n := (i : Int) + 1)
 have hat := bL (av := Tm.av) aN hx (aH x)
 have iK := aN5 (T := T) hx
 have hsz := KF (T := T) (l := l.take i) fun y hy => (hT y (lW hy)).2.1
 have hsl : bG Tm.nodes (l.take i) ≤ bG Tm.nodes l := aL3 l i
 have hln : (l.take i).length ≤ 10000 := by rw [d7]; omega
 have hm : maxLen = 9223372036854775807 := by rfl
 have hs1 : (kH T (l.take i)).size + (⟨#[44]⟩ : ByteArray).size ≤ maxLen := by show _ + 1 ≤ _; omega
 have hs2 : (kH T (l.take i) ++ (⟨#[44]⟩ : ByteArray)).size + (T x).size ≤ maxLen := by rw [dG]; show _ + 1 + _ ≤ _; omega
 have hs3 : (kH T (l.take i)).size + (T x).size ≤ maxLen := by omega
 by_cases h0 : 0 < i
 · rw [aG h0] at iK
   have h0' : ((0 : Int) < (i : Int)) = True := dA (by omega)
   simp -implicitDefEqProofs only [aF, hat, aT, aH, bU, h0', hs1, ↓reduceIte, bM, aA, seval, MH]
   refine (c1 _).to ?_
   simp -implicitDefEqProofs only [hs2, ↓reduceIte, aA, seval]
   exact ⟨(), aP.mk (by simp -implicitDefEqProofs only [hw, iK, ↓reduceIte, aA, seval])⟩
 · rw [aE h0] at iK
   have h0' : ((0 : Int) < (i : Int)) = False := cI (by omega)
   simp -implicitDefEqProofs only [aF, hat, aT, aH, bU, h0', ↓reduceIte, bM, bX, aA, seval, MH]
   refine (c1 _).to ?_
   simp -implicitDefEqProofs only [hs3, ↓reduceIte, aA, seval]
   exact ⟨(), aP.mk (by simp -implicitDefEqProofs only [hw, iK, ↓reduceIte, aA, seval])⟩
abbrev DZ := zi tI_3 (zi zI_3 (zi aX (zi tI_9 (zi zI_9 (zi cH (zi tI_63 (zi zI_63 (zi bS (zi bR (zi bP (zi bQ bT)))))))))))
theorem aGO {T : Tm → ByteArray} (t : Tm) (hT : xC T t) (lv : Nat) (hlv : lv ≤ 10) (st : aB) : aD prog 251 [t.av, .int .i64 (lv : Int)] st (fun r st' => r = .str (tJ T t lv) ∧ st' = st) := by
 obtain ⟨c1, c2, c3, c4⟩ := hT
 have hm : maxLen = 9223372036854775807 := by rfl
 have hs1 : (⟨#[40]⟩ : ByteArray).size + (T t).size ≤ maxLen := by show 1 + _ ≤ _; omega
 have hs2 : ((⟨#[40]⟩ : ByteArray) ++ T t).size + (⟨#[41]⟩ : ByteArray).size ≤ maxLen := by rw [dG]; show 1 + _ + 1 ≤ _; omega
 have hi := SY t
 obtain ⟨k, n, s, ts⟩ := t
 rw [show tJ T (.mk k n s ts) lv = if (t9 (.mk k n s ts) && decide (lv < dK s)) = true then (⟨#[40]⟩ ++ T (.mk k n s ts)) ++ ⟨#[41]⟩ else T (.mk k n s ts) from rfl]
 generalize hTT : T (.mk k n s ts) = u at *
 simp only [aV] at hi c1 ⊢
 refine wF [1000000] 2 func251 ntmps251 rfl rfl ?_
 intro _
 simp -implicitDefEqProofs only [aA, seval, DZ]
 refine (hi _).to ?_
 cases hk : t9 (.mk k n s ts) with
 | false =>
  rw [gK, aE (by decide)]
  simp -implicitDefEqProofs only [aA, seval, DZ]
  refine (c1 _).to ?_
  simp -implicitDefEqProofs only [aA, seval]
 | true =>
  rw [eT]
  simp -implicitDefEqProofs only [aA, seval, DZ]
  refine (t8 s _).to ?_
  by_cases h : lv < dK s
  · rw [gB h, aG rfl]
    have h' : ((lv : Int) < (dK s : Int)) = True := dA (by omega)
    simp -implicitDefEqProofs only [h', ↓reduceIte, bM, aA, seval, DZ]
    refine (c1 _).to ?_
    simp -implicitDefEqProofs only [hs1, hs2, ↓reduceIte, aA, seval]
  · rw [fH h, aE (by decide)]
    have h' : ((lv : Int) < (dK s : Int)) = False := cI (by omega)
    simp -implicitDefEqProofs only [h', ↓reduceIte, bX, aA, seval, DZ]
    refine (c1 _).to ?_
    simp -implicitDefEqProofs only [↓reduceIte, aA, seval]
abbrev M0 := zi tI_3 (zi zI_3 (zi aX (zi tI_9 (zi zI_9 (zi cH (zi tI_63 (zi zI_63 (zi bS (zi bR (zi bP (zi bQ bT)))))))))))
theorem aQ4 {T : Tm → ByteArray} (t : Tm) (hT : xC T t) (lv : Nat) (hlv : lv ≤ 10) (st : aB) : aD prog 242 [t.av, .int .i64 (lv : Int)] st (fun r st' => r = .str (zW T t lv) ∧ st' = st) := by
 have hb := aGO t hT lv hlv
 obtain ⟨c1, c2, c3, c4⟩ := hT
 have hm : maxLen = 9223372036854775807 := by rfl
 have hs1 : (⟨#[40]⟩ : ByteArray).size + (T t).size ≤ maxLen := by show 1 + _ ≤ _; omega
 have hs2 : ((⟨#[40]⟩ : ByteArray) ++ T t).size + (⟨#[41]⟩ : ByteArray).size ≤ maxLen := by rw [dG]; show 1 + _ + 1 ≤ _; omega
 have hi := WW t
 unfold zW
 refine wF [1000000] 2 func242 ntmps242 rfl rfl ?_
 intro _
 simp -implicitDefEqProofs only [aT, aH, cG, ↓reduceIte, aA, seval, M0]
 refine (hi _).to ?_
 cases hk : CL t with
 | false =>
  rw [aE (by decide)]
  simp -implicitDefEqProofs only [aT, aH, ↓reduceIte, aA, seval, M0]
  refine (hb _).to ?_
  simp -implicitDefEqProofs only [↓reduceIte, aA, seval]
 | true =>
  rw [aG rfl]
  simp -implicitDefEqProofs only [aT, aH, ↓reduceIte, aA, seval, M0]
  refine (c1 _).to ?_
  simp -implicitDefEqProofs only [↓reduceIte, hs1, hs2, aA, seval]
abbrev aL5 := zi tI_3 (zi zI_3 (zi aX (zi tI_4 (zi zI_4 (zi cF (zi tI_9 (zi zI_9 (zi cH (zi tI_63 (zi zI_63 (zi bS (zi bR (zi bP (zi bQ bT))))))))))))))
theorem aYB {T : Tm → ByteArray} (t : Tm) (hT : xC T t) (lv : Nat) (hlv : lv ≤ 10) (st : aB) : aD prog 244 [t.av, .int .i64 (lv : Int)] st (fun r st' => r = .str (zT T t lv) ∧ st' = st) := by
 have hb := aGO t hT lv hlv
 have hbs := QE (T := T) (t := t) lv
 obtain ⟨c1, c2, c3, c4⟩ := hT
 have hm : maxLen = 9223372036854775807 := by rfl
 unfold zT
 generalize tJ T t lv = u at *
 have hs1 : (⟨#[40]⟩ : ByteArray).size + u.size ≤ maxLen := by show 1 + _ ≤ _; omega
 have hs2 : ((⟨#[40]⟩ : ByteArray) ++ u).size + (⟨#[41]⟩ : ByteArray).size ≤ maxLen := by rw [dG]; show 1 + _ + 1 ≤ _; omega
 have hi := WW t
 have hpl := aPO u (by omega)
 refine wF [1000000] 2 func244 ntmps244 rfl rfl ?_
 intro _
 simp -implicitDefEqProofs only [aT, aH, cG, ↓reduceIte, aA, seval, aL5]
 refine (hb _).to ?_
 simp -implicitDefEqProofs only [aT, aH, ↓reduceIte, aA, seval, aL5]
 refine (hi _).to ?_
 cases hk : CL t with
 | true =>
  rw [xQ, aG rfl]
  simp -implicitDefEqProofs only [↓reduceIte, hs1, hs2, aA, seval]
 | false =>
  rw [qV]
  simp -implicitDefEqProofs only [↓reduceIte, aA, seval]
  refine (hpl _).to ?_
  cases hq : IF (sb u) with
  | true =>
   rw [aE (by decide)]
   simp -implicitDefEqProofs only [↓reduceIte, aA, seval]
  | false =>
   rw [aG (by decide)]
   simp -implicitDefEqProofs only [↓reduceIte, hs1, hs2, aA, seval]
theorem aKA {st : aB} {b q : Nat} {l : List AV} {o : AO} (hb : l ≠ [] → st b = none) (h : st q = some o) : aZ st b l q = some o := by
 cases l with
 | nil => exact h
 | cons x l => exact (aB.aM _ _ (by rintro rfl; have := hb (by simp); rw [h] at this; cases this)).trans h
abbrev yZ := zi tI_9 (zi zI_9 (zi cH (zi tI_31 (zi zI_31 (zi aN (zi bF (zi bE (zi b9 (zi tI_63 (zi zI_63 (zi bS (zi bR (zi bP (zi bQ bT))))))))))))))
set_option maxHeartbeats 1000000 in
theorem aZT {T : Tm → ByteArray} (n : Nat) (t : Tm) (hn : t.nodes ≤ n + 1) (hws : Ws t) (N6 : t.nodes ≤ 1000) (hT : ∀ x, Ws x → x.nodes < t.nodes → xC T x) (hp : qA t = true) (st : aB) : aD prog 240 [t.av] st (fun r st' => r = .str (FC T (spine n t)) ∧ st' = st) := by
 obtain ⟨q1, q2, q3⟩ := N5 n t hws
 obtain ⟨e1, e2⟩ := WS n t hn
 have dT := aH4 n t
 have hnp := qQ (spine n t).2
 have hne : 1 ≤ (spine n t).1.length := by
  cases n with
  | zero => obtain ⟨m, x, y, rfl⟩ := BA hp; simp only [Tm.gN, bG] at hn; have := qQ x; omega
  | succ m => unfold spine; rw [aG hp]; simp
 generalize spine n t = p at *
 obtain ⟨its, tl⟩ := p
 simp only at q1 q2 q3 e1 e2 dT hnp hne
 have hTi : ∀ x ∈ its, xC T x := fun x hx => hT x (q1 x hx) (by have := aBU hx; omega)
 have hTt : xC T tl := hT tl q2 (by omega)
 have qF := aIU its hTi (by omega) (by omega)
 have a13 := KF (T := T) (l := its) fun x hx => (hTi x hx).2.1
 obtain ⟨c1, c2, c3, c4⟩ := hTt
 have hm : maxLen = 9223372036854775807 := by rfl
 have hs1 : (⟨#[91]⟩ : ByteArray).size + (kH T its).size ≤ maxLen := by show 1 + _ ≤ _; omega
 have hs2 : ((⟨#[91]⟩ : ByteArray) ++ kH T its).size + (⟨#[93]⟩ : ByteArray).size ≤ maxLen := by rw [dG]; show 1 + _ + 1 ≤ _; omega
 have hs3 : ((⟨#[91]⟩ : ByteArray) ++ kH T its).size + (⟨#[124]⟩ : ByteArray).size ≤ maxLen := by rw [dG]; show 1 + _ + 1 ≤ _; omega
 have hs4 : (((⟨#[91]⟩ : ByteArray) ++ kH T its) ++ (⟨#[124]⟩ : ByteArray)).size + (T tl).size ≤ maxLen := by rw [dG, dG]; show 1 + _ + 1 + _ ≤ _; omega
 have hs5 : ((((⟨#[91]⟩ : ByteArray) ++ kH T its) ++ (⟨#[124]⟩ : ByteArray)) ++ T tl).size + (⟨#[93]⟩ : ByteArray).size ≤ maxLen := by rw [dG, dG, dG]; show 1 + _ + 1 + _ + 1 ≤ _; omega
 refine aD.pR ?_
 refine wF [1000000, 1] 1 func240 ntmps240 rfl rfl ?_
 intro _
 simp -implicitDefEqProofs only [cG, ↓reduceIte, aA, seval, yZ]
 intro b1 hb1
 have hD := fun (o : AO) => (aL.refl st).aC (o := o) hb1
 refine rD (σ := Unit) [1000000, 1] [1, 2] its 4 3 (fun i _ => (its.take i).map Tm.av) (fun _ _ => True) (fun i _ => []) (fun i _ => st.aC b1 (.cells (u9 i t).av.cells)) (fun i _ _ e he => by simp only [cU] at he; obtain ⟨x, _, rfl⟩ := he; exact ⟨cG _, aH _⟩) (by decide +kernel) ⟨(), 0, trivial, fun h => absurd rfl h, aP.mk (by simp -implicitDefEqProofs only [jH, kR, aW, ↓reduceIte, aA, seval])⟩ (fun i x s b hx hlt bU hdr hinv hb => ?_) (fun s b hge hinv => ?_)
 case refine_1 =>
  obtain ⟨g1, g2⟩ := dT i x hx
  have hst := aFC i t
  generalize u9 i t = u at *
  have hpu := H0 u
  rw [g1] at hpu
  obtain ⟨m, y, z, rfl⟩ := BA g1
  rw [A6.1] at g2
  rw [A6.2] at hst
  subst g2
  have hcs : (Tm.mk 3 m ⟨#[46]⟩ [y, z]).av.cells = [.int .i64 3, .int .i64 m, .str ⟨#[46]⟩, .slice [y.av, z.av]] := by rw [aV]; try rfl
  rw [hcs] at hb ⊢
  have hlk : aZ (st.aC b1 (.cells [.int .i64 3, .int .i64 m, .str ⟨#[46]⟩, .slice [y.av, z.av]])) b ((its.take i).map Tm.av) b1 = some (.cells [.int .i64 3, .int .i64 m, .str ⟨#[46]⟩, .slice [y.av, z.av]]) := aKA hb (aB.aO _ _ _)
  have hi0 := bL (av := Tm.av) (l := [y, z]) (i := 0) aN rfl (aH y)
  have hi1 := bL (av := Tm.av) (l := [y, z]) (i := 1) aN rfl (aH z)
  rw [show ((0 : Nat) : Int) = 0 from rfl] at hi0
  rw [show ((1 : Nat) : Int) = 1 from rfl] at hi1
  have cV : ((its.take i).map Tm.av).length = i := by simp only [aF, d7]; omega
  have htk : (its.take i).map Tm.av ++ [y.av] = (its.take (i + 1)).map Tm.av := by rw [fM, hx]; simp
  rw [hst]
  simp only [aV, bA, aW] at hlk hpu hi0 hi1 hb ⊢
  have hLw : ∀ e ∈ (its.take i).map Tm.av, e.width = 4 := dR _
  generalize (its.take i).map Tm.av = L at *
  simp -implicitDefEqProofs only [↓reduceIte, hlk, aA, seval, yZ]
  refine (hpu _).to ?_
  simp -implicitDefEqProofs only [aT, aH, cG, ↓reduceIte, hlk, hi0, aA, seval, yZ]
  refine eN aN bF bE rfl rfl (fC (aH _) (bZ _)) (fun e he => hLw e he) hb (by simp only [cV, aS, a7]; omega) (by simp only [cV, aS, a7]; omega) (fun b' hb' => ?_)
  rw [htk] at hb' ⊢
  have aXD := aKA (l := (its.take (i + 1)).map Tm.av) hb' (aB.aO st b1 (.cells [.int .i64 3, .int .i64 m, .str ⟨#[46]⟩, .slice [y.av, z.av]]))
  have hnb : (its.take (i + 1)).map Tm.av ≠ [] → b1 ≠ b' := fun h => by rintro rfl; have := hb' h; rw [aB.aO] at this; cases this
  have hup := fun o => oM (st := st.aC b1 (.cells [.int .i64 3, .int .i64 m, .str ⟨#[46]⟩, .slice [y.av, z.av]])) (o := o) hnb
  simp -implicitDefEqProofs only [aK, aT, aH, bZ, bO, ↓reduceIte, aXD, hi1, hup, dE, aA, seval, yZ]
  exact ⟨(), b', fun h => by have := hb' h; rw [aB.aM _ _ (dB (hnb h))] at this ⊢; exact this, aP.mk (by simp -implicitDefEqProofs only [↓reduceIte, aA, seval])⟩
 rw [eS, ← e1]
 have hpt := H0 tl
 rw [e2] at hpt
 have hnt := aXC tl
 simp -implicitDefEqProofs only [iO, FV, lP, aW, bO, d8 (bO _), eD (aT _), ↓reduceIte, aA, seval, yZ]
 refine (hpt _).to ?_
 simp -implicitDefEqProofs only [bO, d8 (bO _), eD (aT _), ↓reduceIte, aA, seval, yZ]
 refine (hnt _).to ?_
 unfold FC
 cases hnk : HQ tl with
 | true =>
  rw [aG rfl]
  simp -implicitDefEqProofs only [↓reduceIte, aA, seval]
  refine (qF _).to ?_
  simp -implicitDefEqProofs only [↓reduceIte, hs1, hs2, aA, seval]
  exact hD _
 | false =>
  rw [aE (by decide)]
  simp -implicitDefEqProofs only [↓reduceIte, aA, seval]
  refine wP [(0, 1), (1, 2), (2, 1), (3, 1), (4, 2), (5, 2), (6, 1), (7, 1), (8, 1)] [0, 1, 2, 3, 4, 5, 6, 7, 8] mixed ?_
  simp -implicitDefEqProofs only [↓reduceIte, aA, seval]
  refine i8 (qF _) ?_
  simp -implicitDefEqProofs only [bO, d8 (bO _), eD (aT _), ↓reduceIte, hs1, hs3, aA, seval, yZ]
  refine i8 (c1 _) ?_
  simp -implicitDefEqProofs only [↓reduceIte, hs4, hs5, aA, seval]
  exact hD _
abbrev rX := zi tI_3 (zi zI_3 (zi aX (zi tI_9 (zi zI_9 (zi cH (zi tI_31 (zi zI_31 (zi aN (zi bF (zi bE (zi b9 (zi tI_63 (zi zI_63 (zi bS (zi bR (zi bP (zi bQ bT)))))))))))))))))
set_option maxHeartbeats 1000000 in
theorem aS9 : ∀ (n : Nat) (t : Tm) (st : aB), Ws t → t.nodes ≤ n → t.nodes ≤ 1000 → aD prog 226 [t.av] st (fun r st' => r = .str (tx n t) ∧ st' = st) := by
 intro n
 induction n with
 | zero => intro t st _ h; have := qQ t; omega
 | succ n IH =>
 intro t st hws hn N6
 have hsz := HP (n + 1) t hws
 have hT : ∀ x, Ws x → x.nodes < t.nodes → xC (tx n) x := fun x hx hlt => ⟨fun st => IH x st hx (by omega) (by omega), HP n x hx, aOR hx (by have := qQ x; omega), by omega⟩
 have hpt := H0 t
 have hit := SY t
 have aT7 := aZT (T := tx n) n t hn hws N6 hT
 have hm : maxLen = 9223372036854775807 := by rfl
 unfold tx at hsz ⊢
 refine wF [1000000] 1 func226 ntmps226 rfl rfl ?_
 intro _
 simp -implicitDefEqProofs only [aT, aH, cG, ↓reduceIte, aA, seval, rX]
 refine (hpt _).to ?_
 cases hp : qA t with
 | true =>
  rw [aG rfl]
  simp -implicitDefEqProofs only [aT, aH, ↓reduceIte, aA, seval, rX]
  refine (aT7 hp _).to ?_
  simp -implicitDefEqProofs only [↓reduceIte, aA, seval]
 | false =>
  rw [hp] at hsz
  rw [aE (by decide)] at hsz ⊢
  simp -implicitDefEqProofs only [aT, aH, ↓reduceIte, aA, seval, rX]
  refine (hit _).to ?_
  cases hi : t9 t with
  | true =>
   rw [hi] at hsz
   rw [aG rfl] at hsz ⊢
   obtain ⟨m, s, x, y, rfl, hs⟩ := OL hi
   have hk := hws.own.2
   have hxl : x.nodes < (Tm.mk 3 m s [x, y]).nodes := by simp only [Tm.gN, bG]; have := qQ y; omega
   have hyl : y.nodes < (Tm.mk 3 m s [x, y]).nodes := by simp only [Tm.gN, bG]; have := qQ x; omega
   have hx := hT x (hk x (by simp)) hxl
   have hy := hT y (hk y (by simp)) hyl
   rw [A6.1, A6.2, show (Tm.mk 3 m s [x, y]).s = s from rfl] at hsz ⊢
   have h6 : s.size ≤ 6 := hws.size.1
   have hl3 : dK s ≤ 3 := by unfold dK; cases (decide (s = ⟨#[61]⟩) || decide (s = ⟨#[92, 61]⟩) || decide (s = ⟨#[61, 61]⟩) || decide (s = ⟨#[60]⟩) || decide (s = ⟨#[62]⟩) || decide (s = ⟨#[61, 60]⟩) || decide (s = ⟨#[62, 61]⟩) || decide (s = ⟨#[61, 58, 61]⟩) || decide (s = ⟨#[105, 115]⟩)) <;> cases (decide (s = ⟨#[43]⟩) || decide (s = ⟨#[45]⟩)) <;> cases (decide (s = ⟨#[42]⟩) || decide (s = ⟨#[47, 47]⟩) || decide (s = ⟨#[109, 111, 100]⟩)) <;> decide
   have hll : lvl (dK s) ≤ 10 := by unfold lvl; split <;> omega
   have cl := aQ4 x hx (lvl (dK s)) hll
   have cr := aYB y hy (dK s - 1) (by omega)
   have csp := aVZ s (by omega)
   have clv := t8 s
   rw [dG, dG] at hsz
   generalize hA : zW (tx n) x (lvl (dK s)) = A at *
   generalize hB : zT (tx n) y (dK s - 1) = B at *
   generalize pZ s = C at *
   have hs1 : A.size + C.size ≤ maxLen := by omega
   have hs2 : (A ++ C).size + B.size ≤ maxLen := by rw [dG]; omega
   have hi0 := bL (av := Tm.av) (l := [x, y]) (i := 0) aN rfl (aH x)
   have hi1 := bL (av := Tm.av) (l := [x, y]) (i := 1) aN rfl (aH y)
   rw [show ((0 : Nat) : Int) = 0 from rfl] at hi0
   rw [show ((1 : Nat) : Int) = 1 from rfl] at hi1
   simp only [aV, bA, aW] at hi0 hi1 ⊢
   generalize hL : dK s = L at *
   obtain ⟨L1, hL1⟩ : ∃ L1, L1 = L - 1 := ⟨_, rfl⟩
   have hw := mW (x := (L : Int) - 1) (m := L1) (by omega) (by omega)
   rw [← hL1] at cr
   by_cases h3 : L = 3
   case' pos =>
    have h3' : ((L : Int) = 3) = True := dA (by omega)
    have hlv : lvl L = 2 := by unfold lvl; rw [aG h3]
   case' neg =>
    have h3' : ((L : Int) = 3) = False := cI (by omega)
    have hlv : lvl L = L := by unfold lvl; rw [aE h3]
   all_goals
    rw [hlv] at cl
    simp -implicitDefEqProofs only [↓reduceIte, aA, seval, rX]
    refine (clv _).to ?_
    simp -implicitDefEqProofs only [↓reduceIte, h3', bM, bX, aA, seval]
    refine wP [(0, 1), (4, 1), (6, 1), (10, 1), (14, 1), (15, 1), (1, 2), (2, 1), (3, 2), (5, 2), (7, 2), (8, 2), (9, 1), (11, 2), (12, 1), (13, 2), (16, 2), (17, 1), (18, 1)] [0, 4, 6, 10, 14, 15, 1, 2, 3, 5, 7, 8, 9, 11, 12, 13, 16, 17, 18] mixed ?_
    simp -implicitDefEqProofs only [aT, aH, ↓reduceIte, hi0, hw, aA, seval, rX]
    refine i8 (cl _) ?_
    simp -implicitDefEqProofs only [↓reduceIte, aA, seval, rX]
    refine i8 (csp _) ?_
    simp -implicitDefEqProofs only [aT, aH, ↓reduceIte, hi1, hs1, aA, seval, rX]
    refine i8 (cr _) ?_
    simp -implicitDefEqProofs only [↓reduceIte, hs2, aA, seval]
  | false =>
   rw [hi] at hsz
   rw [aE (by decide)] at hsz ⊢
   cases ha : NZ t with
   | true =>
    rw [ha] at hsz
    rw [aG rfl] at hsz ⊢
    obtain ⟨k, m, s, ts⟩ := t
    rw [OM, cM, bJ, bJ] at ha
    obtain ⟨rfl, h0⟩ := ha
    have h0' : ((0 : Int) < (ts.length : Int)) = True := dA (by omega)
    simp only [Tm.s, Tm.ts] at hsz ⊢
    simp only [Tm.gN] at hn N6 hT hsz
    have hk := hws.own.2
    have h4 : ts.length ≤ 4 := by rcases DG hws.own.1 with h | h | h <;> omega
    have qF := aIU (T := tx n) ts (fun x hx => hT x (hk x hx) (by have := aBU hx; omega)) (by omega) (by omega)
    rw [dG, dG, dG] at hsz
    generalize kH (tx n) ts = A at *
    have a1C : s.size + A.size ≤ 100000 := by omega
    have hs1 : s.size + (⟨#[40]⟩ : ByteArray).size ≤ maxLen := by show _ + 1 ≤ _; omega
    have hs2 : (s ++ (⟨#[40]⟩ : ByteArray)).size + A.size ≤ maxLen := by rw [dG]; show _ + 1 + _ ≤ _; omega
    have hs3 : ((s ++ (⟨#[40]⟩ : ByteArray)) ++ A).size + (⟨#[41]⟩ : ByteArray).size ≤ maxLen := by rw [dG, dG]; show _ + 1 + _ + 1 ≤ _; omega
    simp only [aV]
    simp -implicitDefEqProofs only [↓reduceIte, h0', aF, bM, aA, seval, rX]
    refine wP [(0, 1), (3, 1), (1, 2), (2, 1), (4, 2), (5, 2), (6, 1), (7, 1), (8, 1)] [0, 3, 1, 2, 4, 5, 6, 7, 8] mixed ?_
    simp -implicitDefEqProofs only [↓reduceIte, hs1, aA, seval, rX]
    refine i8 (qF _) ?_
    simp -implicitDefEqProofs only [↓reduceIte, hs2, hs3, aA, seval]
   | false =>
    rw [aE (by decide)]
    have hl := aS4 t hws (fun h => by
     obtain ⟨k, m, s, ts⟩ := t
     rw [OM, show k = 3 from h] at ha
     simp only [bM, eT, dH] at ha
     exact List.length_eq_zero_iff.1 (by show ts.length = 0; omega))
    generalize CR t = A at *
    obtain ⟨k, m, s, ts⟩ := t
    rw [OM] at ha
    simp only [aV] at hl ⊢
    by_cases hk : k = 3
    case pos =>
     rw [hk] at ha hl ⊢
     simp only [bM, eT, dH] at ha
     have h0' : ((0 : Int) < (ts.length : Int)) = False := cI (by omega)
     simp -implicitDefEqProofs only [↓reduceIte, h0', aF, bM, bX, aA, seval, rX]
     refine (hl _).to ?_
     simp -implicitDefEqProofs only [↓reduceIte, aA, seval]
    case neg =>
     have hk' := cI hk
     simp -implicitDefEqProofs only [↓reduceIte, hk', bX, aA, seval, rX]
     refine (hl _).to ?_
     simp -implicitDefEqProofs only [↓reduceIte, aA, seval]
end Go.AW
namespace Go.AW
def pO (t : Tm) : ByteArray := tx 130 t
def sS (T : Tm → ByteArray) (h : ByteArray) : List Tm → ByteArray
 | [] => h
 | x :: xs => xs.foldl (fun o y => (o ++ ⟨#[44]⟩) ++ T y) ((h ++ ⟨#[58, 45]⟩) ++ T x)
def NI (c : Cl) : ByteArray := sS pO (pO c.1) c.2 ++ ⟨#[46]⟩
def fmtC (c : Cl) : ByteArray := if k7 c then NI c else ⟨#[]⟩
def DV (l : List UInt8) : kO := fun a => rd l (4 * l.length + 4) 30 a 3
def rO (l : List UInt8) : Nat → Nat → List Tm → Option (List Tm × Nat)
 | 0, _, _ => none
 | m + 1, a, acc => match DV l a with
  | none => none
  | some (t, e) => if cO l e 44 then rO l m (e + 1) (acc ++ [t]) else some (acc ++ [t], e)
def r9 (l : List UInt8) : Option (Cl × Nat) :=
 match DV l 0 with
 | none => none
 | some (h, e) => if (cO l e 58 && cO l (e + 1) 45) = true then match rO l 7 (e + 2) [] with
  | none => none
  | some (b, e2) => some ((h, b), e2)
  else some ((h, []), e)
def nN (l : List UInt8) : Option Cl := match r9 l with
 | none => none
 | some (c, e) => if l.length ≤ 1000 ∧ e + 1 = l.length ∧ cO l e 46 = true ∧ sb (fmtC c) = l then some c else none
def mU (c : Nat) : List UInt8 → List UInt8 → List (List UInt8)
 | [], acc => [acc]
 | x :: l, acc => if x.toNat = c then acc :: mU c l [] else mU c l (acc ++ [x])
def yU : List (List UInt8) → List Cl → Option (List Cl)
 | [], acc => some acc
 | l :: ls, acc => match nN l with
  | none => none
  | some c => yU ls (acc ++ [c])
def z0 (l : List UInt8) : Option (List Cl) :=
 let ls := mU 10 l []
 if 21 < ls.length ∨ ls.getLast? ≠ some [] then none else yU ls.dropLast []
def mF (l : List UInt8) : Option (List Tm) := match rO l 7 0 [] with
 | none => none
 | some (g, e) => if l.length ≤ 1000 ∧ e = l.length ∧ lV g = true then some g else none
theorem aPH {T : Tm → ByteArray} {h : ByteArray} {l : List Tm} {i : Nat} {x : Tm} (hx : l[i]? = some x) : sS T h (l.take (i + 1)) = (if i = 0 then sS T h (l.take i) ++ ⟨#[58, 45]⟩ else sS T h (l.take i) ++ ⟨#[44]⟩) ++ T x := by
 rw [fM, hx]
 cases l with
 | nil => simp at hx
 | cons y l =>
  cases i with
  | zero => simp at hx; subst hx; rfl
  | succ i =>
   rw [aE (by omega), vL]
   simp only [sS, G0, fF, List.foldl_append, z6, List.foldl_nil]
theorem aJL {T : Tm → ByteArray} {h : ByteArray} {l : List Tm} {m : Nat} (hT : ∀ x ∈ l, (T x).size ≤ m) : (sS T h l).size ≤ h.size + l.length * (m + 2) := by
 have hg : ∀ (xs : List Tm) (o : ByteArray), (∀ x ∈ xs, (T x).size ≤ m) → (xs.foldl (fun o y => (o ++ ⟨#[44]⟩) ++ T y) o).size ≤ o.size + xs.length * (m + 2) := by
  intro xs
  induction xs with
  | nil => intro o _; simp
  | cons x xs ih =>
   intro o hx
   refine nC (ih _ fun y hy => hx y (by simp [hy])) ?_
   rw [dG, dG]
   have := hx x (by simp)
   simp only [aS, qU]
   show o.size + 1 + _ + _ ≤ _
   omega
 cases l with
 | nil => simp [sS]
 | cons x l =>
  refine nC (hg l _ fun y hy => hT y (by simp [hy])) ?_
  rw [dG, dG]
  have := hT x (by simp)
  simp only [aS, qU]
  show h.size + 2 + _ + _ ≤ _
  omega
theorem U4 {t : Tm} (h : t.valid = true) : Ws t ∧ t.nodes ≤ 120 := by
 simp only [Tm.valid, cM, bJ] at h
 exact ⟨⟨_, h.1⟩, h.2⟩
theorem aSD {t : Tm} (h : t.goal = true) : t.valid = true := by
 obtain ⟨k, n, s, ts⟩ := t
 simp only [Tm.goal, cM] at h
 exact h.1
theorem aO8 {c : Cl} (h : k7 c = true) : (Ws c.1 ∧ c.1.nodes ≤ 120) ∧ c.2.length ≤ 6 ∧ ∀ x ∈ c.2, Ws x ∧ x.nodes ≤ 120 := by
 simp only [k7, cM, bJ, eW] at h
 exact ⟨U4 h.1.1, h.2.1, fun x hx => U4 (aSD (h.2.2 x hx))⟩
theorem J6 {l : List UInt8} (hl : l.length ≤ 1000) : ∀ (m a : Nat) (acc ts : List Tm) (e : Nat), a ≤ l.length → (∀ x ∈ acc, Dn x) → rO l m a acc = some (ts, e) → a < e ∧ e ≤ l.length ∧ (∀ x ∈ ts, Dn x) ∧ ts.length ≤ acc.length + m := by
 intro m
 induction m with
 | zero => intro a acc ts e _ _ h; cases h
 | succ m ih =>
  intro a acc ts e ha nI h
  unfold rO at h
  split at h
  · cases h
  rename_i t e1 h1
  obtain ⟨h2, h3, h4⟩ := zO hl _ _ _ a t e1 ha h1
  have GJ : ∀ x ∈ acc ++ [t], Dn x := by intro x hx; rw [fR] at hx; rcases hx with hx | hx; exact nI x hx; rw [K6] at hx; subst hx; exact h4
  split at h
  · rename_i h5
    have h6 := nS h5
    obtain ⟨g1, g2, g3, g4⟩ := ih (e1 + 1) _ ts e (by omega) GJ h
    rw [dQ, RN] at g4
    exact ⟨by omega, g2, g3, by omega⟩
  · cases h
    exact ⟨h2, h3, GJ, by rw [dQ, RN]; omega⟩
abbrev uJ (c : Cl) : Prop := Dn c.1 ∧ c.2.length ≤ 7 ∧ ∀ x ∈ c.2, Dn x
theorem HN {l : List UInt8} (hl : l.length ≤ 1000) {c : Cl} {e : Nat} (h : r9 l = some (c, e)) : 0 < e ∧ e ≤ l.length ∧ uJ c := by
 unfold r9 at h
 split at h
 · cases h
 rename_i t e1 h1
 obtain ⟨h2, h3, h4⟩ := zO hl _ _ _ 0 t e1 (jD _) h1
 split at h
 · rename_i h5
   rw [cM] at h5
   have h6 := nS h5.2
   split at h
   · cases h
   rename_i b e2 h7
   obtain ⟨g1, g2, g3, g4⟩ := J6 hl _ _ _ _ _ (by omega) (by simp) h7
   cases h
   exact ⟨by omega, g2, h4, by rw [a7] at g4; show b.length ≤ 7; omega, g3⟩
 · cases h
   exact ⟨h2, h3, h4, by show 0 ≤ 7; omega, by intro x hx; cases hx⟩
theorem X1 {l : List UInt8} {c : Cl} (h : nN l = some c) : uJ c ∧ k7 c = true := by
 unfold nN at h
 split at h
 · cases h
 rename_i c' e h1
 split at h
 · rename_i h2
   cases h
   refine ⟨(HN h2.1 h1).2.2, ?_⟩
   have h3 := h2.2.2.2
   unfold fmtC at h3
   split at h3
   · assumption
   · have := nZ List.length h3
     simp at this
     omega
 · cases h
theorem aI7 (c : Nat) : ∀ (l acc : List UInt8), mU c l acc ≠ []
 | [], acc => by simp [mU]
 | x :: l, acc => by unfold mU; split <;> simp [aI7 c l]
theorem O4 (c : Nat) : ∀ (l acc : List UInt8), (mU c l acc).length ≤ l.length + 1
 | [], acc => by simp [mU]
 | x :: l, acc => by unfold mU; split; have := O4 c l []; simp only [aS]; omega; have := O4 c l (acc ++ [x]); simp only [aS]; omega
end Go.AW
namespace Go.AW
open Go.Proofs.Tryz
theorem aH2 {t : Tm} (h : Ws t ∧ t.nodes ≤ 120) (st : aB) : aD prog 226 [t.av] st (fun r st' => r = .str (pO t) ∧ st' = st) := aS9 130 t st h.1 (by omega) (by omega)
theorem KL {t : Tm} (h : Ws t ∧ t.nodes ≤ 120) : (pO t).size ≤ 3840 := by have := HP 130 t h.1; unfold pO; omega
abbrev IA := zi tI_3 (zi zI_3 (zi aX (zi tI_9 (zi zI_9 (zi cH (zi tI_31 (zi zI_31 (zi aN (zi bF (zi bE (zi b9 (zi tI_63 (zi zI_63 (zi bS (zi bR (zi bP (zi bQ (zi bT (zi tI_76 (zi zI_76 (zi lF (zi lI lS))))))))))))))))))))))
set_option maxHeartbeats 1000000 in
theorem aX6 (c : Cl) (hc : (Ws c.1 ∧ c.1.nodes ≤ 120) ∧ c.2.length ≤ 6 ∧ ∀ x ∈ c.2, Ws x ∧ x.nodes ≤ 120) (st : aB) : aD prog 206 [b7 c] st (fun r st' => r = .str (NI c) ∧ st' = st) := by
 obtain ⟨⟨k, n, s, ks⟩, ts⟩ := c
 obtain ⟨hh, hl, hb⟩ := hc
 simp only at hh hl hb
 have hhd := fun st => aH2 hh st
 have hhs := KL hh
 unfold NI
 simp only
 generalize pO (.mk k n s ks) = H at *
 simp only [aV] at hhd
 simp only [gH]
 have hm : maxLen = 9223372036854775807 := by rfl
 refine wF [1000000] 1 func206 ntmps206 rfl rfl ?_
 intro _
 simp -implicitDefEqProofs only [aA, seval, IA]
 refine (hhd _).to ?_
 simp -implicitDefEqProofs only [aA, seval]
 refine eK (σ := Unit) [1000000] [1, 2] ts (fun i _ => True) (fun i _ => [(3, .str (sS pO H (ts.take i))), (4, .int .i64 i)]) (fun _ _ => st) (by decide +kernel) ⟨(), trivial, aP.mk (by simp -implicitDefEqProofs only [kR, aA, ↓aU, seval] <;> rfl)⟩ (fun i x _ hx hlt bU hdr hinv => ?_) (fun _ hge hinv => ?_)
 case refine_2 =>
  rw [eS]
  have hsz := aJL (T := pO) (h := H) (l := ts) (m := 3840) fun x hx => KL (hb x hx)
  have hs : (sS pO H ts).size + (⟨#[46]⟩ : ByteArray).size ≤ maxLen := by
   have : ts.length * (3840 + 2) ≤ 6 * 3842 := sJ _ hl
   show _ + 1 ≤ _; omega
  simp -implicitDefEqProofs only [aF, hge, hs, ↓reduceIte, aA, seval, IA]
 have hxm := cW hx
 have c1 := fun st => aH2 (hb x hxm) st
 have c2 := KL (hb x hxm)
 have hw := bK (n := (i : Int) + 1)
 have hat := bL (av := Tm.av) aN hx (aH x)
 have iK := aPH (T := pO) (h := H) hx
 have hsz := aJL (T := pO) (h := H) (l := ts.take i) (m := 3840) fun y hy => KL (hb y (lW hy))
 have hln : (ts.take i).length * (3840 + 2) ≤ 6 * 3842 := sJ _ (by rw [d7]; omega)
 generalize sS pO H (ts.take i) = B at *
 generalize pO x = X at *
 have hs1 : B.size + (⟨#[44]⟩ : ByteArray).size ≤ maxLen := by show _ + 1 ≤ _; omega
 have hs2 : (B ++ (⟨#[44]⟩ : ByteArray)).size + X.size ≤ maxLen := by rw [dG]; show _ + 1 + _ ≤ _; omega
 have hs3 : B.size + (⟨#[58, 45]⟩ : ByteArray).size ≤ maxLen := by show _ + 2 ≤ _; omega
 have hs4 : (B ++ (⟨#[58, 45]⟩ : ByteArray)).size + X.size ≤ maxLen := by rw [dG]; show _ + 2 + _ ≤ _; omega
 by_cases h0 : i = 0
 · rw [aG h0] at iK
   have h0' : ((i : Int) = 0) = True := dA (by omega)
   simp -implicitDefEqProofs only [aF, hat, aT, aH, bU, h0', hs3, ↓reduceIte, bM, aA, seval, IA]
   refine (c1 _).to ?_
   simp -implicitDefEqProofs only [hs4, ↓reduceIte, aA, seval]
   exact ⟨(), aP.mk (by simp -implicitDefEqProofs only [hw, iK, ↓reduceIte, aA, seval])⟩
 · rw [aE h0] at iK
   have h0' : ((i : Int) = 0) = False := cI (by omega)
   simp -implicitDefEqProofs only [aF, hat, aT, aH, bU, h0', hs1, ↓reduceIte, bM, bX, aA, seval, IA]
   refine (c1 _).to ?_
   simp -implicitDefEqProofs only [hs2, ↓reduceIte, aA, seval]
   exact ⟨(), aP.mk (by simp -implicitDefEqProofs only [hw, iK, ↓reduceIte, aA, seval])⟩
abbrev NX := zi tI_4 (zi zI_4 (zi cF (zi tI_9 (zi zI_9 (zi cH (zi tI_76 (zi zI_76 (zi lF (zi lI lS)))))))))
theorem NJ (c : Cl) (st : aB) : aD prog 167 [b7 c] st (fun r st' => r = .str (fmtC c) ∧ st' = st) := by
 have hv := TZ c
 unfold fmtC
 cases h : k7 c with
 | true =>
  rw [h] at hv
  have ht := aX6 c (aO8 h)
  rw [aG rfl]
  obtain ⟨⟨k, n, s, ks⟩, ts⟩ := c
  simp only [gH] at hv ht ⊢
  refine wF [1000000] 1 func167 ntmps167 rfl rfl ?_
  intro _
  simp -implicitDefEqProofs only [aA, seval, NX]
  refine (hv _).to ?_
  simp -implicitDefEqProofs only [aA, seval, NX]
  refine (ht _).to ?_
  simp -implicitDefEqProofs only [aA, seval]
 | false =>
  rw [h] at hv
  rw [aE (by decide)]
  obtain ⟨⟨k, n, s, ks⟩, ts⟩ := c
  simp only [gH] at hv ⊢
  refine wF [1000000] 1 func167 ntmps167 rfl rfl ?_
  intro _
  simp -implicitDefEqProofs only [aA, seval, NX]
  refine (hv _).to ?_
  simp -implicitDefEqProofs only [aA, seval]
theorem aBX {s : ByteArray} (hs : s.size ≤ 1000) (a : Nat) (ha : a ≤ s.size) (st : aB) : aD prog 165 [.str s, .int .i64 (a : Int), .int .i64 30, .int .i64 3] st (fun r st' => lL (DV (sb s) a) r ∧ st' = st) :=
 aRB hs (4 * (sb s).length + 4) 30 a 3 st ha (by omega) (by omega) (by rw [cJ]; omega)
def rN (o : Option (List Tm × Nat)) (r : AV) : Prop := match o with | some (ts, e) => r = .tup [.slice (ts.map Tm.av), .int .i64 (e : Int)] | none => r = .tup [.slice [], .int .i64 (-1)]
abbrev OB := zi tI_3 (zi zI_3 (zi aX (zi tI_4 (zi zI_4 (zi cF (zi tI_5 (zi zI_5 (zi kN (zi tI_8 (zi zI_8 (zi vT (zi vX (zi wN (zi wO (zi wL (zi tI_9 (zi zI_9 (zi cH (zi tI_31 (zi zI_31 (zi aN (zi bF (zi bE (zi b9 (zi tI_44 (zi zI_44 (zi aAS (zi aLN (zi Z9 (zi aE8 (zi YC (zi aJ0 (zi UF (zi tI_63 (zi zI_63 (zi bS (zi bR (zi bP (zi bQ bT)))))))))))))))))))))))))))))))))))))))
set_option maxHeartbeats 1000000 in
theorem UG {s : ByteArray} (hs : s.size ≤ 1000) (a : Nat) (ha : a ≤ s.size) (st : aB) : aD prog 126 [.str s, .int .i64 (a : Int)] st (fun r st' => rN (rO (sb s) 7 a []) r ∧ st' = st) := by
 generalize hT : rO (sb s) 7 a [] = T
 refine aD.drop (Q := rN T) (aD.fin ?_)
 refine wF [1000000] 2 func126 ntmps126 rfl rfl ?_
 intro _
 simp -implicitDefEqProofs only [aA, seval, OB]
 refine g9 (σ := Nat × List Tm × Nat × Nat) [1000000] [0] (fun x => rO (sb s) x.2.2.1 x.1 x.2.1 = T ∧ x.1 ≤ s.size ∧ x.2.1.length + x.2.2.1 = 7 ∧ (x.2.1.map Tm.av ≠ [] → st x.2.2.2 = none)) (fun x => [(1, .int .i64 (x.1 : Int)), (4, .fslice []), (5, .int .i64 0), (6, a9 4 x.2.2.2 (x.2.1.map Tm.av))]) (fun x => aZ st x.2.2.2 (x.2.1.map Tm.av)) (fun x => x.2.2.1) (by decide +kernel) ⟨(a, [], 7, 0), ⟨hT, ha, rfl, by simp⟩, aP.mk (by simp -implicitDefEqProofs only [aW, jH, aA, seval])⟩ ?_
 rintro ⟨i, acc, m, b⟩ ⟨ht, hi, hlen, hb⟩
 simp only at ht hi hlen hb ⊢
 have fin : ∀ (l : List Tm) (b' : Nat) (r' : AV), (l.map Tm.av ≠ [] → st b' = none) → rN T (r'.fin b' (l.map Tm.av)) → ∃ b2 l2 s0, aZ st b' (l.map Tm.av) = aZ s0 b2 l2 ∧ (l2 ≠ [] → s0 b2 = none) ∧ (∀ e ∈ l2, e.cB = false) ∧ gT l2 ∧ aL s0 st ∧ rN T (r'.fin b2 l2) := fun l b' r' h1 h2 => ⟨b', _, st, rfl, h1, hH _, ⟨4, dR _⟩, aL.refl _, h2⟩
 have hTn : T = none → ∀ (b' : Nat) (l : List AV), rN T ((AV.tup [.fslice [], .int .i64 (-1)]).fin b' l) := by
  rintro rfl b' l
  simp only [rN, jK, d9, oP, bA, aW]
 have hln : (acc.map Tm.av).length = acc.length := aF _
 have hal := sU (P := prog) (b := b) (w := 4) (l := acc.map Tm.av) b9
 rw [hln] at hal
 by_cases h6 : acc.length ≤ 6
 case neg =>
  have h6' : ((acc.length : Int) ≤ 6) = False := cI (by omega)
  obtain rfl : m = 0 := by omega
  simp -implicitDefEqProofs only [hal, h6', bX, aA, seval]
  exact fin _ _ _ hb (hTn ht.symm _ _)
 have h6' : ((acc.length : Int) ≤ 6) = True := dA (by omega)
 obtain ⟨m, rfl⟩ : ∃ m', m = m' + 1 := ⟨m - 1, by omega⟩
 simp only [rO] at ht
 simp -implicitDefEqProofs only [hal, h6', bM, aA, seval]
 refine (aBX hs i hi _).mono ?_
 rintro r _ ⟨hr, rfl⟩
 cases hRi : DV (sb s) i with
 | none =>
  rw [hRi] at ht hr
  obtain ⟨k, hk, rfl⟩ := hr
  have hk0 : ((-1 - (k : Int)) < 0) = True := dA (by omega)
  simp -implicitDefEqProofs only [aH, bZ, cG, hk0, kG, bM, aA, ↓aU, seval, OB]
  exact fin _ _ _ hb (hTn ht.symm _ _)
 | some p =>
  obtain ⟨t, e⟩ := p
  rw [hRi] at ht hr
  simp only at ht
  obtain ⟨g1, g2, g3⟩ := zO (by rw [cJ]; exact hs) _ _ _ i t e (by rw [cJ]; exact hi) hRi
  rw [cJ] at g2
  simp only [lL] at hr
  subst hr
  have he0 : ((e : Int) < 0) = False := cI (by omega)
  simp -implicitDefEqProofs only [aT, aH, bZ, cG, he0, nY, sL, bX, aA, ↓aU, seval, OB]
  refine eN aN bF bE rfl rfl (fC (aH _) (bZ _)) (dR _) hb (by simp only [aF, aS, a7]; omega) (by simp only [aF, aS, a7]; omega) (fun b' hb' => ?_)
  rw [show acc.map Tm.av ++ [t.av] = (acc ++ [t]).map Tm.av by simp] at hb' ⊢
  have hw1 := bK (n := (e : Int) + 1)
  simp -implicitDefEqProofs only [aA, seval]
  refine (kD s e 44 _).to ?_
  cases h3 : cO (sb s) e 44 with
  | true =>
   have h4 := nS h3
   rw [cJ] at h4
   rw [h3, aG rfl] at ht
   simp -implicitDefEqProofs only [hw1, aA, seval]
   refine ⟨(e + 1, acc ++ [t], m, b'), by simp only; omega, ⟨ht, by simp only; omega, by simp only [dQ, aS, a7]; omega, hb'⟩, aP.mk (by simp -implicitDefEqProofs only [aA, seval] <;> rfl)⟩
  | false =>
   rw [h3, aE (by decide)] at ht
   simp -implicitDefEqProofs only [m6, nY, sL, aA, seval]
   refine fin _ _ _ hb' ?_
   subst ht
   simp only [rN, jK, d9, lP, bA, aW]
abbrev cl0 : Cl := (GR, [])
def yG (o : Option Cl) : AV := match o with | some c => .tup [b7 c, .bool true] | none => .tup [b7 cl0, .bool false]
theorem p9 : (AV.tup [.agg [.int .i64 0, .int .i64 0, .str ⟨#[]⟩, .fslice [], .fslice []], .bool false]).soft = yG none := by simp only [yG, gH, j5, kC, jV, rP, lB, l9, bA, aW]
theorem MN (c : Cl) : (AV.tup [b7 c, .bool true]).soft = yG (some c) := by
 obtain ⟨⟨k, n, s, ks⟩, ts⟩ := c
 simp only [yG, gH, j5, kC, jV, rP, lB, qC, bA, aW]
theorem uD {l : List UInt8} {c : Cl} {e : Nat} (h : r9 l = some (c, e)) (h1 : ¬(l.length ≤ 1000 ∧ e + 1 = l.length ∧ cO l e 46 = true ∧ sb (fmtC c) = l)) : nN l = none := by
 unfold nN
 rw [h]
 simp only
 rw [aE h1]
theorem QV {l : List UInt8} {c : Cl} {e : Nat} (h : r9 l = some (c, e)) (h1 : l.length ≤ 1000 ∧ e + 1 = l.length ∧ cO l e 46 = true ∧ sb (fmtC c) = l) : nN l = some c := by
 unfold nN
 rw [h]
 simp only
 rw [aG h1]
theorem O2 {a b : ByteArray} (h : sb a = sb b) : a = b := by rw [← aEC a, ← aEC b, h]
abbrev jB := zi tI_3 (zi zI_3 (zi aX (zi tI_4 (zi zI_4 (zi cF (zi tI_5 (zi zI_5 (zi kN (zi tI_8 (zi zI_8 (zi vT (zi vX (zi wN (zi wO (zi wL (zi tI_9 (zi zI_9 (zi cH (zi tI_31 (zi zI_31 (zi aN (zi bF (zi bE (zi b9 (zi tI_63 (zi zI_63 (zi bS (zi bR (zi bP (zi bQ (zi bT (zi tI_76 (zi zI_76 (zi lF (zi lI lS)))))))))))))))))))))))))))))))))))
set_option maxHeartbeats 2000000 in
theorem aM0 (s : ByteArray) (st : aB) : aD prog 124 [.str s] st (fun r st' => r = yG (nN (sb s)) ∧ st' = st) := by
 refine aD.done ?_
 refine wF [1000000, 6] 1 func124 ntmps124 rfl rfl ?_
 intro _
 simp -implicitDefEqProofs only [aA, seval, jB]
 intro b2 hb2
 have hD := fun (o : AO) => (aL.refl st).aC (o := o) hb2
 by_cases hs : s.size ≤ 1000
 case neg =>
  have hs' : ((1000 : Int) < (s.size : Int)) = True := dA (by omega)
  have hP : nN (sb s) = none := by
   unfold nN
   split
   · rfl
   · rw [aE fun h => hs (by rw [← cJ]; exact h.1)]
  rw [hP]
  simp -implicitDefEqProofs only [aK, hs', bM, aA, seval, jB]
  exact ⟨p9, hD _⟩
 have hs' : ((1000 : Int) < (s.size : Int)) = False := cI (by omega)
 have h0 := fun st => aBX hs 0 (jD _) st
 rw [show ((0 : Nat) : Int) = 0 from rfl] at h0
 simp -implicitDefEqProofs only [hs', bX, aA, seval]
 refine (h0 _).mono ?_
 rintro r _ ⟨hr, rfl⟩
 cases hRi : DV (sb s) 0 with
 | none =>
  have hP : nN (sb s) = none := by unfold nN r9; rw [hRi]
  rw [hP]
  rw [hRi] at hr
  obtain ⟨k, hk, rfl⟩ := hr
  have hk0 : ((-1 - (k : Int)) < 0) = True := dA (by omega)
  simp -implicitDefEqProofs only [aK, aH, bZ, cG, hk0, kG, bM, aA, ↓aU, seval, jB]
  exact ⟨p9, hD _⟩
 | some p =>
  obtain ⟨⟨hk, hn, hsn, hts⟩, e⟩ := p
  rw [hRi] at hr
  simp only [lL, aV] at hr
  subst hr
  obtain ⟨g1, g2, g3⟩ := zO (by rw [cJ]; exact hs) _ _ _ 0 _ e (jD _) hRi
  rw [cJ] at g2
  have he0 : ((e : Int) < 0) = False := cI (by omega)
  obtain ⟨f1, hf1⟩ : ∃ f1, f1 = e + 1 := ⟨_, rfl⟩
  obtain ⟨f2, hf2⟩ : ∃ f2, f2 = e + 2 := ⟨_, rfl⟩
  have hw1 := mW (x := (e : Int) + 1) (m := f1) (by omega) (by omega)
  have hw2 := mW (x := (e : Int) + 2) (m := f2) (by omega) (by omega)
  simp -implicitDefEqProofs only [aK, he0, bX, aA, ↓aU, seval, jB]
  intro b6 h6
  have hbb : b6 ≠ b2 := fun h => by rw [h, aB.aO] at h6; cases h6
  have h6' : st b6 = none := by rwa [aB.aM _ _ hbb] at h6
  have hE : ∀ o1 o2 o3, aL (((st.aC b2 o1).aC b6 o2).aC b2 o3) st := fun o1 o2 o3 => ((hD _).aC h6').aC hb2
  refine (kD s e 58 _).to ?_
  by_cases hbd : (cO (sb s) e 58 && cO (sb s) (e + 1) 45) = true
  case neg =>
   obtain ⟨b, hb⟩ : ∃ b : List Tm, b = [] := ⟨_, rfl⟩
   have hcl : r9 (sb s) = some ((.mk hk hn hsn hts, b), e) := by
    unfold r9
    rw [hRi, hb]
    simp only
    rw [aE hbd]
   obtain ⟨e2, he2⟩ : ∃ e2, e2 = e := ⟨_, rfl⟩
   rw [← he2] at hcl
   cases h58 : cO (sb s) e 58 with
   | false =>
    simp -implicitDefEqProofs only [aA, seval, jB]
    rw [← he2]
    have hdn := (HN (by rw [cJ]; exact hs) hcl).2.2
    have hwl := bK (n := (s.size : Int) - 1)
    by_cases he : e2 + 1 = s.size
    case neg =>
     rw [uD hcl (fun h => he (by rw [cJ] at h; exact h.2.1))]
     have he' : ((e2 : Int) = (s.size : Int) - 1) = False := cI (by omega)
     simp -implicitDefEqProofs only [aK, hwl, he', hbb.symm, bX, aA, seval, jB]
     exact ⟨p9, hE _ _ _⟩
    have he' : ((e2 : Int) = (s.size : Int) - 1) = True := dA (by omega)
    simp -implicitDefEqProofs only [hwl, he', bM, aA, seval]
    refine (kD s e2 46 _).to ?_
    cases hd : cO (sb s) e2 46 with
    | false =>
     rw [uD hcl (fun h => by rw [hd] at h; exact absurd h.2.2.1 (by decide))]
     simp -implicitDefEqProofs only [aK, hbb.symm, aA, seval, jB]
     exact ⟨p9, hE _ _ _⟩
    | true =>
     simp -implicitDefEqProofs only [aA, seval, jB]
     refine (aD.oA (by rw [show gP [AV.agg [.int .i64 hk, .int .i64 hn, .str hsn, .slice (hts.map Tm.av), .fslice []]] = [b7 (.mk hk hn hsn hts, b)] by simp only [gP, gH, hb, j5, jV, lB, qC, l9, bA, aW]]; exact NJ (.mk hk hn hsn hts, b) _) : aD prog 167 _ _ _).to ?_
     by_cases hf : fmtC (.mk hk hn hsn hts, b) = s
     case neg =>
      rw [uD hcl (fun h => hf (O2 h.2.2.2))]
      have hf' := cI hf
      simp -implicitDefEqProofs only [aK, hf', hbb.symm, bX, aA, seval, jB]
      exact ⟨p9, hE _ _ _⟩
     rw [QV hcl ⟨by rw [cJ]; exact hs, by rw [cJ]; exact he, hd, by rw [hf]⟩]
     have hf' := dA hf
     simp -implicitDefEqProofs only [hf', bM, aA, seval, jB]
     refine (aD.oA (by rw [show gP [AV.agg [.int .i64 hk, .int .i64 hn, .str hsn, .slice (hts.map Tm.av), .fslice []]] = [b7 (.mk hk hn hsn hts, b)] by simp only [gP, gH, hb, j5, jV, lB, qC, l9, bA, aW]]; exact LP (.mk hk hn hsn hts, b) hdn.1.2 (by have := hdn.2.1; omega) (fun x hx => (hdn.2.2 x hx).2) _) : aD prog 80 _ _ _).to ?_
     rw [gH]
     simp -implicitDefEqProofs only [aK, hbb.symm, aA, seval, jB]
     rw [← gH]
     exact ⟨MN _, hE _ _ _⟩
   | true =>
    simp -implicitDefEqProofs only [hw1, aA, seval]
    refine (kD s f1 45 _).to ?_
    rw [h58, eT, ← hf1] at hbd
    rw [show cO (sb s) f1 45 = false by simpa using hbd]
    simp -implicitDefEqProofs only [aA, seval, jB]
    rw [← he2]
    have hdn := (HN (by rw [cJ]; exact hs) hcl).2.2
    have hwl := bK (n := (s.size : Int) - 1)
    by_cases he : e2 + 1 = s.size
    case neg =>
     rw [uD hcl (fun h => he (by rw [cJ] at h; exact h.2.1))]
     have he' : ((e2 : Int) = (s.size : Int) - 1) = False := cI (by omega)
     simp -implicitDefEqProofs only [aK, hwl, he', hbb.symm, bX, aA, seval, jB]
     exact ⟨p9, hE _ _ _⟩
    have he' : ((e2 : Int) = (s.size : Int) - 1) = True := dA (by omega)
    simp -implicitDefEqProofs only [hwl, he', bM, aA, seval]
    refine (kD s e2 46 _).to ?_
    cases hd : cO (sb s) e2 46 with
    | false =>
     rw [uD hcl (fun h => by rw [hd] at h; exact absurd h.2.2.1 (by decide))]
     simp -implicitDefEqProofs only [aK, hbb.symm, aA, seval, jB]
     exact ⟨p9, hE _ _ _⟩
    | true =>
     simp -implicitDefEqProofs only [aA, seval, jB]
     refine (aD.oA (by rw [show gP [AV.agg [.int .i64 hk, .int .i64 hn, .str hsn, .slice (hts.map Tm.av), .fslice []]] = [b7 (.mk hk hn hsn hts, b)] by simp only [gP, gH, hb, j5, jV, lB, qC, l9, bA, aW]]; exact NJ (.mk hk hn hsn hts, b) _) : aD prog 167 _ _ _).to ?_
     by_cases hf : fmtC (.mk hk hn hsn hts, b) = s
     case neg =>
      rw [uD hcl (fun h => hf (O2 h.2.2.2))]
      have hf' := cI hf
      simp -implicitDefEqProofs only [aK, hf', hbb.symm, bX, aA, seval, jB]
      exact ⟨p9, hE _ _ _⟩
     rw [QV hcl ⟨by rw [cJ]; exact hs, by rw [cJ]; exact he, hd, by rw [hf]⟩]
     have hf' := dA hf
     simp -implicitDefEqProofs only [hf', bM, aA, seval, jB]
     refine (aD.oA (by rw [show gP [AV.agg [.int .i64 hk, .int .i64 hn, .str hsn, .slice (hts.map Tm.av), .fslice []]] = [b7 (.mk hk hn hsn hts, b)] by simp only [gP, gH, hb, j5, jV, lB, qC, l9, bA, aW]]; exact LP (.mk hk hn hsn hts, b) hdn.1.2 (by have := hdn.2.1; omega) (fun x hx => (hdn.2.2 x hx).2) _) : aD prog 80 _ _ _).to ?_
     rw [gH]
     simp -implicitDefEqProofs only [aK, hbb.symm, aA, seval, jB]
     rw [← gH]
     exact ⟨MN _, hE _ _ _⟩
  rw [cM, ← hf1] at hbd
  have aPT := nS hbd.2
  rw [cJ] at aPT
  rw [hbd.1]
  simp -implicitDefEqProofs only [hw1, aA, seval]
  refine (kD s f1 45 _).to ?_
  rw [hbd.2]
  simp -implicitDefEqProofs only [hw2, aA, seval]
  refine (UG hs f2 (by omega) _).mono ?_
  rintro r _ ⟨hr, rfl⟩
  cases hG : rO (sb s) 7 f2 [] with
  | none =>
   have hP : nN (sb s) = none := by
    unfold nN r9
    rw [hRi]
    simp only
    rw [aG (by rw [← hf1, hbd.1, hbd.2]; try rfl), ← hf2, hG]
   rw [hP]
   rw [hG] at hr
   simp only [rN] at hr
   subst hr
   have hwl := bK (n := (s.size : Int) - 1)
   have he' : ((-1 : Int) = (s.size : Int) - 1) = False := cI (by omega)
   simp -implicitDefEqProofs only [aK, hwl, he', hbb.symm, bX, aA, seval, jB]
   exact ⟨p9, hE _ _ _⟩
  | some p =>
   obtain ⟨b, e2⟩ := p
   rw [hG] at hr
   simp only [rN] at hr
   subst hr
   have hcl : r9 (sb s) = some ((.mk hk hn hsn hts, b), e2) := by
    unfold r9
    rw [hRi]
    simp only
    rw [aG (by rw [← hf1, hbd.1, hbd.2]; try rfl), ← hf2, hG]
   have hg2 := J6 (by rw [cJ]; exact hs) _ _ _ _ _ (by rw [cJ]; omega) (by simp) hG
   rw [cJ] at hg2
   simp -implicitDefEqProofs only [aK, aA, seval, jB]
   have hdn := (HN (by rw [cJ]; exact hs) hcl).2.2
   have hwl := bK (n := (s.size : Int) - 1)
   by_cases he : e2 + 1 = s.size
   case neg =>
    rw [uD hcl (fun h => he (by rw [cJ] at h; exact h.2.1))]
    have he' : ((e2 : Int) = (s.size : Int) - 1) = False := cI (by omega)
    simp -implicitDefEqProofs only [aK, hwl, he', hbb.symm, bX, aA, seval, jB]
    exact ⟨p9, hE _ _ _⟩
   have he' : ((e2 : Int) = (s.size : Int) - 1) = True := dA (by omega)
   simp -implicitDefEqProofs only [hwl, he', bM, aA, seval]
   refine (kD s e2 46 _).to ?_
   cases hd : cO (sb s) e2 46 with
   | false =>
    rw [uD hcl (fun h => by rw [hd] at h; exact absurd h.2.2.1 (by decide))]
    simp -implicitDefEqProofs only [aK, hbb.symm, aA, seval, jB]
    exact ⟨p9, hE _ _ _⟩
   | true =>
    simp -implicitDefEqProofs only [aA, seval, jB]
    refine (aD.oA (by rw [show gP [AV.agg [.int .i64 hk, .int .i64 hn, .str hsn, .slice (hts.map Tm.av), .slice (b.map Tm.av)]] = [b7 (.mk hk hn hsn hts, b)] by simp only [gP, gH, AV.soft]]; exact NJ (.mk hk hn hsn hts, b) _) : aD prog 167 _ _ _).to ?_
    by_cases hf : fmtC (.mk hk hn hsn hts, b) = s
    case neg =>
     rw [uD hcl (fun h => hf (O2 h.2.2.2))]
     have hf' := cI hf
     simp -implicitDefEqProofs only [aK, hf', hbb.symm, bX, aA, seval, jB]
     exact ⟨p9, hE _ _ _⟩
    rw [QV hcl ⟨by rw [cJ]; exact hs, by rw [cJ]; exact he, hd, by rw [hf]⟩]
    have hf' := dA hf
    simp -implicitDefEqProofs only [hf', bM, aA, seval, jB]
    refine (aD.oA (by rw [show gP [AV.agg [.int .i64 hk, .int .i64 hn, .str hsn, .slice (hts.map Tm.av), .slice (b.map Tm.av)]] = [b7 (.mk hk hn hsn hts, b)] by simp only [gP, gH, AV.soft]]; exact LP (.mk hk hn hsn hts, b) hdn.1.2 (by have := hdn.2.1; omega) (fun x hx => (hdn.2.2 x hx).2) _) : aD prog 80 _ _ _).to ?_
    rw [gH]
    simp -implicitDefEqProofs only [aK, hbb.symm, aA, seval, jB]
    rw [← gH]
    exact ⟨MN _, hE _ _ _⟩
abbrev wM := zi tI_3 (zi zI_3 (zi aX (zi tI_31 (zi zI_31 (zi aN (zi bF (zi bE (zi b9 (zi tI_63 (zi zI_63 (zi bS (zi bR (zi bP (zi bQ (zi bT (zi tI_76 (zi zI_76 (zi lF (zi lI lS)))))))))))))))))))
theorem aR4 (k n : Int) (s : ByteArray) (ks ts : List Tm) (h1 : (Tm.mk k n s ks).small = true) (h2 : ts.length ≤ 1048576) (h3 : ∀ x ∈ ts, x.small = true) (st : aB) : aD prog 80 [b7 (.mk k n s ks, ts)] st (fun r st' => ∃ b, r = .agg [.int .i64 k, .int .i64 n, .str s, .slice (ks.map Tm.av), a9 4 b (ts.map Tm.av)] ∧ st' = aZ st b (ts.map Tm.av) ∧ (ts.map Tm.av ≠ [] → st b = none)) := by
 have hhd := fun st => xT (.mk k n s ks) st h1
 simp only [aV] at hhd
 have IH := fun (x : Tm) (hx : x ∈ ts) st => xT x st (h3 x hx)
 have hlen : ts.length ≤ 1048576 := h2
 refine aD.lK ?_
 simp only [gH]
 refine wF [] 1 func80 ntmps80 rfl rfl ?_
 simp only [eE, AV.fits, eM, aF]
 intro ⟨_, _, _, _, hl, _⟩
 simp -implicitDefEqProofs only [aA, seval, wM]
 intro b2 hb2
 refine (hhd _).to ?_
 simp -implicitDefEqProofs only [aK, aA, seval, wM]
 intro c hc
 have hne : c ≠ b2 := by rintro rfl; rw [aB.aO] at hc; cases hc
 have hn2 : st c = none := by rw [aB.aM st _ hne] at hc; exact hc
 have m7 : b2 ≠ c := dB hne
 refine eK (σ := Nat) [] [1, 2, 3] ts (fun i b => (((ts.take i).map (fun y => y)).map Tm.av ≠ [] → (aB.aC (st.aC b2 (.cells [AV.int .i64 0, AV.int .i64 0, AV.str ⟨#[]⟩, AV.fslice [], AV.fslice []])) c (.cells ([AV.int .i64 k, AV.int .i64 n, AV.str s, AV.slice (ks.map Tm.av)] ++ [a9 4 b (((ts.take i).map (fun y => y)).map Tm.av)]))) b = none)) (fun i b => [(4, .int .i64 i)]) (fun i b => eV (st.aC b2 (.cells [AV.int .i64 0, AV.int .i64 0, AV.str ⟨#[]⟩, AV.fslice [], AV.fslice []])) c b [AV.int .i64 k, AV.int .i64 n, AV.str s, AV.slice (ks.map Tm.av)] (((ts.take i).map (fun y => y)).map Tm.av)) (by decide +kernel)
  ⟨0, fun h => absurd rfl h, aP.mk (by simp -implicitDefEqProofs only [aA, ↓aU, seval])⟩ (fun i x b hx hlt bU hdr hinv => ?_) (fun b hge hinv => ?_)
 case refine_1 =>
  have hw := bK (n := (i : Int) + 1)
  have cV : (((ts.take i).map (fun y => y)).map Tm.av).length = i := by simp only [aF, d7]; omega
  have htk : (ts.take (i + 1)).map (fun y => y) = (ts.take i).map (fun y => y) ++ [(fun y => y) x] := by rw [fM, hx]; simp
  have hbo := eC hinv
  simp -implicitDefEqProofs only [aF, bU, aA, seval, wM]
  refine wP [(0, 1), (2, 1), (4, 1), (1, 2), (3, 2), (5, 1), (6, 2), (7, 2), (8, 1), (9, 0), (10, 1), (11, 0)] [0, 2, 4, 1, 3, 5, 6, 7, 8, 10] mixed ?_
  simp -implicitDefEqProofs only [bL (av := Tm.av) aN hx (aH x), aT, aH, hbo, mD, gV, aA, seval, wM]
  refine i8 (IH x (cW hx) _) ?_
  simp -implicitDefEqProofs only [aT, aH, cG, gV, aA, seval, wM]
  refine eN aN bF bE rfl rfl (fC (aH _) (bZ _)) (dR _) hinv (by simp only [cV, aS, a7]; omega) (by simp only [cV, aS, a7]; omega) (fun b' hb' => ?_)
  rw [show (((ts.take i).map (fun y => y)).map Tm.av) ++ [((fun y => y) x).av] = ((ts.take (i + 1)).map (fun y => y)).map Tm.av by rw [htk]; simp] at hb' ⊢
  obtain ⟨g1, g2, g3⟩ := nG hb'
  simp only [fF, eR] at g1 g3
  simp -implicitDefEqProofs only [g3, mB, eU, aK, g1, hw, aK, aA, seval, wM]
  exact ⟨b', g2, aP.mk (by simp -implicitDefEqProofs only [aA, seval])⟩
 have hbo := eC hinv
 rw [eS] at hinv hbo ⊢
 simp -implicitDefEqProofs only [aF, hge, aA, seval, wM]
 simp -implicitDefEqProofs only [hbo, aK, aA, seval, wM]
 have hS : (st.aC b2 (.cells [AV.int .i64 0, AV.int .i64 0, AV.str ⟨#[]⟩, AV.fslice [], AV.fslice []])) b2 ≠ none := by rw [aB.aO]; simp
 have h1 := gC hinv hS m7
 rw [aB.aO] at h1
 simp -implicitDefEqProofs only [h1, eU, aA, seval]
 obtain ⟨h2, h3⟩ := j0 (o := .cells [AV.int .i64 k, AV.int .i64 n, AV.str s, AV.slice (ks.map Tm.av), a9 4 b ((ts.map fun y => y).map Tm.av)]) hinv hS m7
 simp only [fF, eR] at h2 h3
 rw [h2]
 have D : ∀ o o' o'', aL (((st.aC b2 o).aC c o').aC b2 o'') st := fun o o' o'' => (((aL.refl _).aC hb2).aC hn2).aC hb2
 simp only [List.map_id'] at h3 ⊢
 exact ⟨_, LY (D _ _ _), b, rfl, rfl, fun h => (D _ _ _ b).1 (h3 h)⟩
abbrev mZ := zi tI_3 (zi zI_3 (zi aX (zi tI_9 (zi zI_9 (zi cH (zi tI_31 (zi zI_31 (zi aN (zi bF (zi bE (zi b9 (zi tI_40 (zi zI_40 (zi aFX (zi aA2 (zi aCK (zi Y9 (zi aHO (zi aH0 (zi Y4 (zi tI_63 (zi zI_63 (zi bS (zi bR (zi bP (zi bQ (zi bT (zi tI_76 (zi zI_76 (zi lF (zi lI (zi lS (zi tI_90 (zi zI_90 (zi tI_101 (zi zI_101 (zi rR (zi wS (zi vR (zi AL (zi tI_125 (zi zI_125 (zi iV (zi lO (zi lJ mO)))))))))))))))))))))))))))))))))))))))))))))
set_option maxHeartbeats 2000000 in
theorem aY8 (bs : List Bt) (c p : Nat) (cl : Cl) (hcl : uJ cl) (st : aB) (hp : p + 6000 ≤ 1099511627776) (hR : dL st c bs p) :
 aD prog 94 [.ptr c 0, b7 cl] st (Dr bs c p 6000 st (fun r => ∃ cl' : Cl, r = b7 cl')) := by
 obtain ⟨⟨k, n, s, ks⟩, ts⟩ := cl
 obtain ⟨d1, d2, d3⟩ := hcl
 simp only at d1 d2 d3
 have hcp := fun st => aR4 k n s ks ts d1.2 (by omega) (fun x hx => (d3 x hx).2) st
 simp only [gH] at hcp ⊢
 refine aD.lK (aD.fin ?_)
 refine wF [1000000, 5] 2 func94 ntmps94 rfl rfl ?_
 intro _
 simp -implicitDefEqProofs only [aA, seval, mZ]
 intro b4 h4
 have h4c := hR.ne h4
 have hR' := fun o => hR.aC (o := o) h4c
 refine (hcp _).mono ?_
 rintro _ _ ⟨b, rfl, rfl, hb⟩
 simp -implicitDefEqProofs only [eU, aK, aA, ↓aU, seval, mZ]
 intro b5 h5
 obtain ⟨hn5, hb5⟩ := CX h5
 have h54 : b5 ≠ b4 := by rintro rfl; rw [aB.aO] at hn5; cases hn5
 have ML : st b5 = none := by rw [aB.aM _ _ h54] at hn5; exact hn5
 have h5c : b5 ≠ c := hR.ne ML
 have hW4 : ∀ q, ((st.aC b4 (.cells [.int .i64 0, .int .i64 0, .str ⟨#[]⟩, .fslice [], .fslice []])).aC c (cA bs q)) b4 = some (.cells [.int .i64 0, .int .i64 0, .str ⟨#[]⟩, .fslice [], .fslice []]) := fun q => by rw [aB.aM _ _ h4c, aB.aO]
 have hdr : ∀ q Z Y, aL ((((st.aC b4 (.cells [.int .i64 0, .int .i64 0, .str ⟨#[]⟩, .fslice [], .fslice []])).aC c (cA bs q)).aC b5 Z).aC b4 Y) (st.aC c (cA bs q)) := fun q Z Y x => by
  by_cases e4 : x = b4 <;> by_cases ec : x = c <;> by_cases e5 : x = b5 <;> simp_all [aB.aC]
 have e0 : (aZ (st.aC b4 (.cells [.int .i64 0, .int .i64 0, .str ⟨#[]⟩, .fslice [], .fslice []])) b (ts.map Tm.av)).aC b5 (.cells [.int .i64 k, .int .i64 n, .str s, .slice (ks.map Tm.av), a9 4 b (ts.map Tm.av)]) = eV (st.aC b4 (.cells [.int .i64 0, .int .i64 0, .str ⟨#[]⟩, .fslice [], .fslice []])) b5 b [.int .i64 k, .int .i64 n, .str s, .slice (ks.map Tm.av)] (ts.map Tm.av) := by
  rw [oM hb5]; try rfl
 have i0 : ts.map Tm.av ≠ [] → ((st.aC b4 (.cells [.int .i64 0, .int .i64 0, .str ⟨#[]⟩, .fslice [], .fslice []])).aC b5 (.cells ([.int .i64 k, .int .i64 n, .str s, .slice (ks.map Tm.av)] ++ [a9 4 b (ts.map Tm.av)]))) b = none := fun h => by
  rw [aB.aM _ _ (dB (hb5 h))]; exact hb h
 have hUc : (st.aC b4 (.cells [.int .i64 0, .int .i64 0, .str ⟨#[]⟩, .fslice [], .fslice []])) c ≠ none := by rw [hR' _]; simp
 rw [e0]
 have hRk : dL (eV (st.aC b4 (.cells [.int .i64 0, .int .i64 0, .str ⟨#[]⟩, .fslice [], .fslice []])) b5 b [.int .i64 k, .int .i64 n, .str s, .slice (ks.map Tm.av)] (ts.map Tm.av)) c bs p := by
  unfold dL
  rw [gC i0 hUc h5c.symm]
  exact hR' _
 refine (nA bs c p (by omega) 40 (by omega) (by omega) _ hRk).mono ?_
 rintro _ _ ⟨j, hj, rfl, rfl⟩
 obtain ⟨e1, i1⟩ := pL (o := cA bs (p + 1)) i0 hUc h5c.symm
 rw [e1]
 have hWc : ∀ q, ((st.aC b4 (.cells [.int .i64 0, .int .i64 0, .str ⟨#[]⟩, .fslice [], .fslice []])).aC c (cA bs q)) c ≠ none := fun q => by rw [aB.aO]; simp
 have hRq : ∀ q (hd l : List AV), (l ≠ [] → (((st.aC b4 (.cells [.int .i64 0, .int .i64 0, .str ⟨#[]⟩, .fslice [], .fslice []])).aC c (cA bs q)).aC b5 (.cells (hd ++ [a9 4 b l]))) b = none) → dL (eV ((st.aC b4 (.cells [.int .i64 0, .int .i64 0, .str ⟨#[]⟩, .fslice [], .fslice []])).aC c (cA bs q)) b5 b hd l) c bs q := fun q hd l hi => by
  unfold dL
  rw [gC hi (hWc q) h5c.symm, aB.aO]
  try rfl
 clear e0 i0 hRk e1
 simp -implicitDefEqProofs only [aA, seval]
 refine aQ (fun h0 => ?_) (fun h0 => ?_)
 · simp -implicitDefEqProofs only [aA, seval]
   refine (aIV bs c (p + 1) _ (by omega) (hRq _ _ _ i1)).mono ?_
   rintro _ _ ⟨p1, q1, q2, rfl, t1, ht1, rfl⟩
   obtain ⟨e1, i1⟩ := pL (o := cA bs p1) i1 (hWc _) h5c.symm
   rw [dE] at e1 i1
   rw [e1]
   simp -implicitDefEqProofs only [aA, seval]
   refine (PH bs c p1 t1 ht1.2 _ (by omega) (hRq _ _ _ i1)).mono ?_
   rintro _ _ ⟨p2, r1, r2, rfl, ⟨k', n', s', ks'⟩, rfl⟩
   obtain ⟨e1, i1⟩ := pL (o := cA bs p2) i1 (hWc _) h5c.symm
   rw [dE] at e1 i1
   rw [e1]
   have hbo := eC i1
   obtain ⟨e2, i1⟩ := GE (hd' := [.int .i64 k', .int .i64 n', .str s', .slice (ks'.map Tm.av)]) i1
   simp only [fF, eR] at e2
   rw [aV]
   simp -implicitDefEqProofs only [aK, hbo, aA, seval, mZ]
   rw [e2]
   have hbo := eC i1
   have h4o := gC i1 (x := b4) (by rw [hW4]; simp) h54.symm
   rw [hW4] at h4o
   simp -implicitDefEqProofs only [h4o, eU, aA, seval]
   obtain ⟨g5, g6⟩ := j0 (o := .cells [.int .i64 (k'), .int .i64 (n'), .str (s'), .slice ((ks').map Tm.av), a9 4 b ((ts).map Tm.av)]) i1 (show ((st.aC b4 (.cells [.int .i64 0, .int .i64 0, .str ⟨#[]⟩, .fslice [], .fslice []])).aC c (cA bs (p2))) b4 ≠ none by rw [hW4]; simp) h54.symm
   refine ⟨b, _, _, g5, g6, hH _, ⟨4, dR _⟩, st.aC c (cA bs (p2)), hdr _ _ _, p2, by omega, by omega, rfl, (.mk (k') (n') (s') (ks'), ts), ?_⟩
   simp only [fL, bA, aW, d9, iO, iE, iG, gH]
 simp -implicitDefEqProofs only [aA, seval]
 refine aQ (fun h0 => ?_) (fun h0 => ?_)
 · have hbo := eC i1
   simp -implicitDefEqProofs only [aA, seval]
   refine CH [(0, 1), (1, 1), (2, 1), (3, 1), (4, 0), (5, 0), (6, 1), (7, 0), (8, 1), (9, 2)] [0, 1, 2, 3, 6, 8] (dY.aC b5 (.cells [.int .i64 k, .int .i64 n, .str s, .slice (ks.map Tm.av), a9 4 b (ts.map Tm.av)])) mixed (by decide +kernel) (by decide +kernel) (by decide +kernel) rfl (g8 hbo) ?_
   simp -implicitDefEqProofs only [mD, aA, seval, mZ]
   refine (aIV bs c (p + 1) _ (by omega) (hRq _ _ _ i1)).mono ?_
   rintro _ _ ⟨p1, q1, q2, rfl, t1, ht1, rfl⟩
   obtain ⟨e1, i1⟩ := pL (o := cA bs p1) i1 (hWc _) h5c.symm
   rw [dE] at e1 i1
   rw [e1]
   have hbo := eC i1
   simp -implicitDefEqProofs only [aA, seval]
   refine ⟨g8 hbo, ?_⟩
   refine (PH bs c p1 t1 ht1.2 _ (by omega) (hRq _ _ _ i1)).mono ?_
   rintro _ _ ⟨p2, r1, r2, rfl, t2, rfl⟩
   obtain ⟨e1, i1⟩ := pL (o := cA bs p2) i1 (hWc _) h5c.symm
   rw [dE] at e1 i1
   rw [e1]
   have hbo := eC i1
   simp -implicitDefEqProofs only [aT, aH, cG, aA, seval, mZ]
   refine ⟨g8 hbo, ?_⟩
   refine eN aN bF bE rfl rfl (fC (aH _) (bZ _)) (dR _) i1 (by simp only [aF, aS, a7]; omega) (by simp only [aF, aS, a7]; omega) (fun b' hb' => ?_)
   rw [show ts.map Tm.av ++ [t2.av] = (ts ++ [t2]).map Tm.av by simp] at hb' ⊢
   obtain ⟨g1, g2, g3⟩ := nG hb'
   simp only [fF, eR] at g1 g3
   simp -implicitDefEqProofs only [aK, eU, mB, aA, seval, mZ]
   refine ⟨g8 g3, ?_⟩
   simp -implicitDefEqProofs only [g3, g1, aK, eU, aA, seval, mZ]
   have hbo := eC g2
   have h4o := gC g2 (x := b4) (by rw [hW4]; simp) h54.symm
   rw [hW4] at h4o
   simp -implicitDefEqProofs only [h4o, aA, seval]
   obtain ⟨g5, g6⟩ := j0 (o := .cells [.int .i64 (k), .int .i64 (n), .str (s), .slice ((ks).map Tm.av), a9 4 b' ((ts ++ [t2]).map Tm.av)]) g2 (show ((st.aC b4 (.cells [.int .i64 0, .int .i64 0, .str ⟨#[]⟩, .fslice [], .fslice []])).aC c (cA bs (p2))) b4 ≠ none by rw [hW4]; simp) h54.symm
   refine ⟨b', _, _, g5, g6, hH _, ⟨4, dR _⟩, st.aC c (cA bs (p2)), hdr _ _ _, p2, by omega, by omega, rfl, (.mk (k) (n) (s) (ks), ts ++ [t2]), ?_⟩
   simp only [fL, bA, aW, d9, iO, iE, iG, gH]
 simp -implicitDefEqProofs only [aA, seval]
 refine aQ (fun h0 => ?_) (fun h0 => ?_)
 · simp -implicitDefEqProofs only [aA, seval]
   refine g9 (σ := Nat × List Tm) [1000000, 5] [0, 4, 5, 9] (fun x => (x.2.map Tm.av ≠ [] → (aB.aC ((st.aC b4 (.cells [.int .i64 0, .int .i64 0, .str ⟨#[]⟩, .fslice [], .fslice []])).aC c (cA bs (p + 1))) b5 (.cells ([.int .i64 k, .int .i64 n, .str s, .slice (ks.map Tm.av)] ++ [a9 4 x.1 (x.2.map Tm.av)]))) x.1 = none)) (fun _ => []) (fun x => eV ((st.aC b4 (.cells [.int .i64 0, .int .i64 0, .str ⟨#[]⟩, .fslice [], .fslice []])).aC c (cA bs (p + 1))) b5 x.1 [.int .i64 k, .int .i64 n, .str s, .slice (ks.map Tm.av)] (x.2.map Tm.av)) (fun x => 7 - x.2.length) (by decide +kernel) ⟨(b, ts), i1, aP.mk (by simp -implicitDefEqProofs only [aA, seval])⟩ ?_
   rintro ⟨b, acc⟩ i1
   simp only at i1
   have hbo := eC i1
   have haL := sU (w := 4) (b := b) (l := acc.map Tm.av) b9
   simp -implicitDefEqProofs only [hbo, mD, haL, aF, aA, seval, mZ]
   refine aQ (fun h1 => ?_) (fun h1 => ?_)
   · simp only [bJ] at h1
     have cV : (acc.map Tm.av).length ≤ 6 := by rw [aF]; omega
     simp -implicitDefEqProofs only [aA, seval]
     refine CH [(0, 1), (1, 1), (2, 0), (3, 1), (4, 0), (5, 1), (6, 2)] [0, 1, 3, 5] (dY.aC b5 (.cells [.int .i64 k, .int .i64 n, .str s, .slice (ks.map Tm.av), a9 4 b (acc.map Tm.av)])) mixed (by decide +kernel) (by decide +kernel) (by decide +kernel) rfl (g8 hbo) ?_
     simp -implicitDefEqProofs only [mD, aA, seval, mZ]
     refine (rJ ⟨#[116, 114, 117, 101]⟩ [] (by simp) _).to ?_
     simp -implicitDefEqProofs only [aT, aH, cG, aA, seval, mZ]
     refine ⟨g8 hbo, ?_⟩
     refine eN aN bF bE rfl rfl (fC (aH _) (bZ _)) (dR _) i1 (by simp only [aS, a7]; omega) (by simp only [aS, a7]; omega) (fun b' hb' => ?_)
     rw [show acc.map Tm.av ++ [(Tm.mk 3 0 ⟨#[116, 114, 117, 101]⟩ []).av] = (acc ++ [Tm.mk 3 0 ⟨#[116, 114, 117, 101]⟩ []]).map Tm.av by simp] at hb' ⊢
     obtain ⟨g1, g2, g3⟩ := nG hb'
     simp only [fF, eR] at g1 g3
     simp -implicitDefEqProofs only [aK, eU, mB, aA, seval, mZ]
     refine ⟨g8 g3, ?_⟩
     simp -implicitDefEqProofs only [g3, g1, aA, seval]
     refine ⟨(b', acc ++ [Tm.mk 3 0 ⟨#[116, 114, 117, 101]⟩ []]), by simp only [dQ, aS, a7]; omega, g2, aP.mk (by simp -implicitDefEqProofs only [aA, seval])⟩
   · simp -implicitDefEqProofs only [aK, hbo, eU, aA, seval, mZ]
     have hbo := eC i1
     have h4o := gC i1 (x := b4) (by rw [hW4]; simp) h54.symm
     rw [hW4] at h4o
     simp -implicitDefEqProofs only [h4o, aA, seval]
     obtain ⟨g5, g6⟩ := j0 (o := .cells [.int .i64 (k), .int .i64 (n), .str (s), .slice ((ks).map Tm.av), a9 4 b ((acc).map Tm.av)]) i1 (show ((st.aC b4 (.cells [.int .i64 0, .int .i64 0, .str ⟨#[]⟩, .fslice [], .fslice []])).aC c (cA bs (p + 1))) b4 ≠ none by rw [hW4]; simp) h54.symm
     refine ⟨b, _, _, g5, g6, hH _, ⟨4, dR _⟩, st.aC c (cA bs (p + 1)), hdr _ _ _, p + 1, by omega, by omega, rfl, (.mk (k) (n) (s) (ks), acc), ?_⟩
     simp only [fL, bA, aW, d9, iO, iE, iG, gH]
 simp -implicitDefEqProofs only [aA, seval]
 refine aQ (fun h0 => ?_) (fun h0 => ?_)
 · simp -implicitDefEqProofs only [aA, seval, mZ]
   refine (EK [⟨#[116, 114, 117, 101]⟩, ⟨#[105, 115]⟩, ⟨#[61]⟩, ⟨#[109, 111, 100]⟩, ⟨#[113]⟩] (by simp) (by simp) bs c (p + 1) (by omega) _ (hRq _ _ _ i1)).mono ?_
   rintro _ _ ⟨y, _, rfl, rfl⟩
   obtain ⟨e1, i1⟩ := pL (o := cA bs (p + 1 + 1)) i1 (hWc _) h5c.symm
   rw [dE] at e1 i1
   rw [e1]
   have hbo := eC i1
   obtain ⟨e2, i1⟩ := GE (hd' := [.int .i64 k, .int .i64 n, .str y, .slice (ks.map Tm.av)]) i1
   simp only [fF, eR] at e2
   simp -implicitDefEqProofs only [aK, hbo, aA, seval, mZ]
   rw [e2]
   have hbo := eC i1
   have h4o := gC i1 (x := b4) (by rw [hW4]; simp) h54.symm
   rw [hW4] at h4o
   simp -implicitDefEqProofs only [h4o, eU, aA, seval]
   obtain ⟨g5, g6⟩ := j0 (o := .cells [.int .i64 (k), .int .i64 (n), .str (y), .slice ((ks).map Tm.av), a9 4 b ((ts).map Tm.av)]) i1 (show ((st.aC b4 (.cells [.int .i64 0, .int .i64 0, .str ⟨#[]⟩, .fslice [], .fslice []])).aC c (cA bs (p + 1 + 1))) b4 ≠ none by rw [hW4]; simp) h54.symm
   refine ⟨b, _, _, g5, g6, hH _, ⟨4, dR _⟩, st.aC c (cA bs (p + 1 + 1)), hdr _ _ _, p + 1 + 1, by omega, by omega, rfl, (.mk (k) (n) (y) (ks), ts), ?_⟩
   simp only [fL, bA, aW, d9, iO, iE, iG, gH]
 · simp -implicitDefEqProofs only [aA, seval, mZ]
   have hbo := eC i1
   have h4o := gC i1 (x := b4) (by rw [hW4]; simp) h54.symm
   rw [hW4] at h4o
   simp -implicitDefEqProofs only [aK, hbo, h4o, eU, aA, seval, mZ]
   obtain ⟨g5, g6⟩ := j0 (o := .cells [.int .i64 (k), .int .i64 (n), .str (s), .slice ((ks).map Tm.av), a9 4 b ((ts).map Tm.av)]) i1 (show ((st.aC b4 (.cells [.int .i64 0, .int .i64 0, .str ⟨#[]⟩, .fslice [], .fslice []])).aC c (cA bs (p + 1))) b4 ≠ none by rw [hW4]; simp) h54.symm
   refine ⟨b, _, _, g5, g6, hH _, ⟨4, dR _⟩, st.aC c (cA bs (p + 1)), hdr _ _ _, p + 1, by omega, by omega, rfl, (.mk (k) (n) (s) (ks), ts), ?_⟩
   simp only [fL, bA, aW, d9, iO, iE, iG, gH]
end Go.AW
namespace Go.AW
def KS : List ByteArray := [⟨#[97, 112, 112, 40, 91, 93, 44, 65, 44, 65, 41, 46, 10, 97, 112, 112, 40, 91, 65, 124, 66, 93, 44, 67, 44, 91, 65, 124, 68, 93, 41, 58, 45, 97, 112, 112, 40, 66, 44, 67, 44, 68, 41, 46, 10]⟩,
 ⟨#[109, 101, 109, 40, 65, 44, 91, 65, 124, 66, 93, 41, 46, 10, 109, 101, 109, 40, 65, 44, 91, 66, 124, 67, 93, 41, 58, 45, 109, 101, 109, 40, 65, 44, 67, 41, 46, 10]⟩,
 ⟨#[112, 40, 49, 41, 46, 10, 112, 40, 50, 41, 46, 10, 112, 40, 51, 41, 46, 10, 113, 40, 65, 41, 58, 45, 112, 40, 65, 41, 44, 65, 62, 49, 44, 33, 46, 10, 114, 40, 65, 44, 66, 41, 58, 45, 112, 40, 65, 41, 44, 112, 40, 66, 41, 46, 10]⟩,
 ⟨#[108, 101, 110, 40, 91, 93, 44, 48, 41, 46, 10, 108, 101, 110, 40, 91, 65, 124, 66, 93, 44, 67, 41, 58, 45, 108, 101, 110, 40, 66, 44, 68, 41, 44, 67, 32, 105, 115, 32, 68, 43, 49, 46, 10]⟩,
 ⟨#[109, 97, 120, 40, 65, 44, 66, 44, 65, 41, 58, 45, 65, 62, 61, 66, 44, 33, 46, 10, 109, 97, 120, 40, 65, 44, 66, 44, 66, 41, 46, 10]⟩,
 ⟨#[101, 40, 97, 44, 98, 41, 46, 10, 101, 40, 98, 44, 99, 41, 46, 10, 101, 40, 99, 44, 100, 41, 46, 10, 116, 40, 65, 44, 66, 41, 58, 45, 101, 40, 65, 44, 66, 41, 46, 10, 116, 40, 65, 44, 66, 41, 58, 45, 101, 40, 65, 44, 67, 41, 44, 116, 40, 67, 44, 66, 41, 46, 10]⟩,
 ⟨#[108, 111, 111, 112, 58, 45, 108, 111, 111, 112, 46, 10, 111, 107, 46, 10]⟩,
 ⟨#[102, 97, 99, 40, 48, 44, 49, 41, 58, 45, 33, 46, 10, 102, 97, 99, 40, 65, 44, 66, 41, 58, 45, 65, 62, 48, 44, 67, 32, 105, 115, 32, 65, 45, 49, 44, 102, 97, 99, 40, 67, 44, 68, 41, 44, 66, 32, 105, 115, 32, 65, 42, 68, 46, 10]⟩,
 ⟨#[115, 40, 65, 41, 58, 45, 65, 61, 102, 40, 66, 41, 44, 97, 114, 103, 40, 49, 44, 65, 44, 66, 41, 44, 66, 61, 49, 46, 10, 115, 40, 65, 41, 58, 45, 118, 97, 114, 40, 65, 41, 44, 65, 61, 110, 111, 110, 101, 46, 10]⟩,
 ⟨#[114, 101, 118, 40, 91, 93, 44, 65, 44, 65, 41, 46, 10, 114, 101, 118, 40, 91, 65, 124, 66, 93, 44, 67, 44, 68, 41, 58, 45, 114, 101, 118, 40, 66, 44, 91, 65, 124, 67, 93, 44, 68, 41, 46, 10]⟩,
 ⟨#[98, 97, 100, 40, 65, 41, 58, 45, 66, 32, 105, 115, 32, 65, 43, 102, 111, 111, 44, 67, 61, 66, 46, 10, 98, 105, 103, 40, 65, 41, 58, 45, 65, 32, 105, 115, 32, 57, 57, 57, 43, 49, 46, 10, 117, 110, 40, 65, 41, 58, 45, 110, 111, 115, 117, 99, 104, 40, 65, 41, 46, 10]⟩]
def PX : List ByteArray := [⟨#[97, 112, 112, 40, 65, 44, 66, 44, 91, 49, 44, 50, 93, 41]⟩,
 ⟨#[97, 112, 112, 40, 91, 49, 93, 44, 91, 50, 93, 44, 65, 41]⟩,
 ⟨#[109, 101, 109, 40, 65, 44, 91, 97, 44, 98, 44, 99, 93, 41]⟩,
 ⟨#[113, 40, 65, 41]⟩,
 ⟨#[114, 40, 65, 44, 66, 41, 44, 65, 62, 66]⟩,
 ⟨#[108, 101, 110, 40, 91, 97, 44, 98, 44, 99, 93, 44, 65, 41]⟩,
 ⟨#[109, 97, 120, 40, 51, 44, 50, 44, 65, 41]⟩,
 ⟨#[109, 97, 120, 40, 65, 44, 50, 44, 51, 41]⟩,
 ⟨#[116, 40, 97, 44, 65, 41]⟩,
 ⟨#[108, 111, 111, 112]⟩,
 ⟨#[111, 107, 44, 33]⟩,
 ⟨#[102, 97, 99, 40, 52, 44, 65, 41]⟩,
 ⟨#[115, 40, 65, 41]⟩,
 ⟨#[114, 101, 118, 40, 91, 49, 44, 50, 44, 51, 93, 44, 91, 93, 44, 65, 41]⟩,
 ⟨#[98, 97, 100, 40, 65, 41]⟩,
 ⟨#[98, 105, 103, 40, 65, 41]⟩,
 ⟨#[117, 110, 40, 65, 41]⟩,
 ⟨#[112, 40, 65, 41, 44, 33, 44, 112, 40, 66, 41]⟩,
 ⟨#[65, 61, 102, 40, 66, 44, 67, 41, 44, 97, 114, 103, 40, 49, 44, 65, 44, 68, 41]⟩,
 ⟨#[109, 101, 109, 40, 65, 44, 91, 49, 44, 50, 93, 41, 44, 109, 101, 109, 40, 66, 44, 91, 65, 44, 51, 93, 41]⟩,
 ⟨#[65, 32, 105, 115, 32, 51, 47, 47, 48]⟩,
 ⟨#[116, 114, 117, 101]⟩,
 ⟨#[109, 101, 109, 40, 65, 44, 66, 41]⟩,
 ⟨#[112, 40, 65, 41, 44, 65, 92, 61, 50]⟩]
def BT : List (List ByteArray) := [[⟨#[97, 112, 112, 40, 65, 44, 66, 44, 91, 49, 44, 50, 93, 41]⟩, ⟨#[97, 112, 112, 40, 91, 49, 93, 44, 91, 50, 124, 65, 93, 44, 66, 41]⟩, ⟨#[97, 112, 112, 40, 65, 44, 91, 49, 93, 44, 65, 41]⟩],
 [⟨#[109, 101, 109, 40, 65, 44, 91, 97, 44, 98, 44, 99, 93, 41]⟩, ⟨#[109, 101, 109, 40, 65, 44, 91, 49, 44, 50, 93, 41, 44, 109, 101, 109, 40, 66, 44, 91, 65, 44, 51, 93, 41]⟩, ⟨#[109, 101, 109, 40, 65, 44, 66, 41]⟩],
 [⟨#[113, 40, 65, 41]⟩, ⟨#[114, 40, 65, 44, 66, 41, 44, 65, 62, 66]⟩, ⟨#[112, 40, 65, 41, 44, 33, 44, 112, 40, 66, 41]⟩, ⟨#[114, 40, 65, 44, 65, 41]⟩],
 [⟨#[108, 101, 110, 40, 91, 97, 44, 98, 44, 99, 93, 44, 65, 41]⟩, ⟨#[108, 101, 110, 40, 65, 44, 50, 41]⟩],
 [⟨#[109, 97, 120, 40, 51, 44, 50, 44, 65, 41]⟩, ⟨#[109, 97, 120, 40, 65, 44, 50, 44, 51, 41]⟩, ⟨#[109, 97, 120, 40, 49, 44, 50, 44, 65, 41]⟩],
 [⟨#[116, 40, 97, 44, 65, 41]⟩, ⟨#[116, 40, 65, 44, 100, 41]⟩, ⟨#[101, 40, 65, 44, 66, 41]⟩],
 [⟨#[108, 111, 111, 112]⟩, ⟨#[111, 107, 44, 33]⟩, ⟨#[111, 107, 44, 108, 111, 111, 112]⟩],
 [⟨#[102, 97, 99, 40, 52, 44, 65, 41]⟩, ⟨#[102, 97, 99, 40, 48, 44, 65, 41]⟩, ⟨#[102, 97, 99, 40, 55, 44, 65, 41]⟩],
 [⟨#[115, 40, 65, 41]⟩, ⟨#[115, 40, 66, 41, 44, 66, 61, 102, 40, 49, 41]⟩],
 [⟨#[114, 101, 118, 40, 91, 49, 44, 50, 44, 51, 93, 44, 91, 93, 44, 65, 41]⟩, ⟨#[114, 101, 118, 40, 65, 44, 91, 93, 44, 91, 49, 93, 41]⟩],
 [⟨#[98, 97, 100, 40, 65, 41]⟩, ⟨#[98, 105, 103, 40, 65, 41]⟩, ⟨#[117, 110, 40, 65, 41]⟩]]
def O6 (s : ByteArray) : Bool := decide (s.size ≤ 200) && match z0 (sb s) with | some l => decide (2 ≤ l.length) && decide (l.length ≤ 20) | none => false
theorem aTG : KS.all O6 = true := by decide +kernel
theorem aQD : BT.all (fun l => decide (1 ≤ l.length) && l.all (fun s => decide (s.size ≤ 1000))) = true := by decide +kernel
theorem aWV (y : List ByteArray) (h : y ∈ BT) : y.length ≤ 4 := by
 have h2 : (BT.all fun l => decide (l.length ≤ 4)) = true := by decide +kernel
 simpa using eW.1 h2 y h
end Go.AW
