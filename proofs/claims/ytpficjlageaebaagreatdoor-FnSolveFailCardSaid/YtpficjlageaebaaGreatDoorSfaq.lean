import Derived.Test.YtpficjlageaebaaGreatDoorSfap
import Derived.Test.YtpficjlageaebaaGreatDoorSfai
import Derived.Test.YtpficjlageaebaaGreatDoorSfal
import Derived.Test.YtpficjlageaebaaGreatDoorSfan
import Derived.Test.YtpficjlageaebaaGreatDoorSfam
set_option linter.unusedSimpArgs false
set_option linter.unusedVariables false
set_option maxRecDepth 100000
namespace Go.AW
open Go.Proofs.Tryz
theorem aOG {nm : ByteArray} (h : dL nm ≠ 0) : nm ≠ ⟨#[]⟩ := by rintro rfl; exact h (by decide)
abbrev qV := zi tI_3 (zi zI_3 (zi aX (zi tI_9 (zi zI_9 (zi cH (zi tI_31 (zi zI_31 (zi aN (zi bE (zi bF (zi b9 (zi tI_63 (zi zI_63 (zi bP (zi bQ (zi bT (zi bS bR)))))))))))))))))
set_option maxHeartbeats 2000000 in
theorem aMR {s : ByteArray} (hs : s.size ≤ 1000) : ∀ (n d a lv : Nat) (st : aB), a ≤ s.size → lv ≤ 3 → d ≤ 1048576 → (s.size - a) * 4 + lv < n →
 aD prog 165 [.str s, .int .i64 (a : Int), .int .i64 (d : Int), .int .i64 (lv : Int)] st (fun r st' => lK (rd (sb s) n d a lv) r ∧ st' = st) := by
 intro n
 induction n with
 | zero => intro d a lv st _ _ _ h; omega
 | succ n IH =>
 intro d a lv st ha hlv hd hn
 have hl1 : (sb s).length ≤ 1000 := by rw [cJ]; exact hs
 refine aD.N7 ?_
 refine wF [1000000, 10] 4 func165 ntmps165 rfl rfl ?_
 intro _
 generalize hP : rd (sb s) (n + 1) d a lv = o
 simp -implicitDefEqProofs only [aA, seval, qV]
 intro b hb
 have hD := fun (o : AO) => (aL.refl st).aC (o := o) hb
 cases lv with
 | zero =>
  simp only [rd] at hP
  have h0 : (((0 : Nat) : Int) = 0) = True := dA rfl
  simp -implicitDefEqProofs only [bM, aA, ↓aU, seval]
  refine (aT1 (R := fun d a => rd (sb s) n d a 3) (a := a) (fun d hd a' st' h1 h2 => IH d a' 3 st' h2 (by omega) hd (by omega)) (fun d => zU hl1 n d 3) hs ha d hd _).mono ?_
  rintro r _ ⟨hr, rfl⟩
  rw [hP] at hr
  cases o with
  | none =>
   obtain ⟨k, hk, rfl⟩ := hr
   simp -implicitDefEqProofs only [aK, bZ, cG, bO, d9 (bO _), d8 (aT _), kN, aA, seval, qV]
   exact ⟨wV hk, hD _⟩
  | some p =>
   obtain ⟨t, e⟩ := p
   simp only [lK] at hr
   subst hr
   simp -implicitDefEqProofs only [aK, bZ, cG, bO, d9 (bO _), d8 (aT _), aA, seval, qV]
   exact ⟨qI rfl, hD _⟩
 | succ lv =>
  simp only [rd] at hP
  have h0 : (((lv + 1 : Nat) : Int) = 0) = False := cI (by omega)
  obtain ⟨lw, hlw⟩ : ∃ lw, lw = lv + 1 := ⟨_, rfl⟩
  rw [← hlw] at hP h0 ⊢
  have hwl := nB (x := (lw : Int) - 1) (m := lv) (by omega) (by omega)
  simp -implicitDefEqProofs only [h0, hwl, bX, aA, seval]
  refine (IH d a lv _ ha (by omega) hd (by omega)).mono ?_
  rintro r _ ⟨hr, rfl⟩
  cases hRi : rd (sb s) n d a lv with
  | none =>
   rw [hRi] at hr hP
   simp only at hP
   subst hP
   obtain ⟨k, hk, rfl⟩ := hr
   have hk0 : ((0 : Int) ≤ (-1 - (k : Int))) = False := cI (by omega)
   simp -implicitDefEqProofs only [aK, bZ, bO, kN, aA, ↓aU, seval, qV]
   intro b10 h10
   have hbb : b10 ≠ b := fun h => by rw [h, aB.aP] at h10; cases h10
   have NW : st b10 = none := by rwa [aB.aM _ _ hbb] at h10
   refine gZ (σ := Unit) [1000000, 10] [0, 2, 3, 8, 10] (fun _ => True) (fun _ => [(9, .int .i64 0), (11, .int .i64 (-1 - (k : Int)))]) (fun _ => (st.aC b (.cells [.int .i64 0, .int .i64 0, .str ⟨#[]⟩, .fslice []])).aC b10 (.cells ET.av.cells)) (fun _ => 0) (by decide +kernel) ⟨(), trivial, aO.mk (by simp -implicitDefEqProofs only [aA, seval])⟩ ?_
   rintro _ _
   simp -implicitDefEqProofs only [aK, hk0, hbb.symm, bX, aA, seval, qV]
   exact ⟨A2 hk, ((hD _).aC NW).aC hb⟩
  | some p =>
   obtain ⟨t, e⟩ := p
   rw [hRi] at hr hP
   simp only [lK] at hr hP
   subst hr
   obtain ⟨g1, g2, g3⟩ := zU hl1 n d lv a t e (by rw [cJ]; exact ha) hRi
   rw [cJ] at g2 hP
   simp -implicitDefEqProofs only [aK, bZ, bO, aA, ↓aU, seval, qV]
   intro b10 h10
   have hbb : b10 ≠ b := fun h => by rw [h, aB.aP] at h10; cases h10
   have NW : st b10 = none := by rwa [aB.aM _ _ hbb] at h10
   have hE : ∀ o1 o2 o3, aL (((st.aC b o1).aC b10 o2).aC b o3) st := fun o1 o2 o3 => ((hD _).aC NW).aC hb
   refine gZ (σ := Tm × Nat × Nat) [1000000, 10] [0, 2, 3, 8, 10] (fun x => BS (fun a => rd (sb s) n d a lv) (sb s) lw x.2.2 x.1 x.2.1 = o ∧ a < x.2.1 ∧ x.2.1 ≤ s.size ∧ s.size < x.2.2 + x.2.1) (fun x => [(9, .int .i64 0), (11, .int .i64 (x.2.1 : Int))]) (fun x => (st.aC b (.cells [.int .i64 0, .int .i64 0, .str ⟨#[]⟩, .fslice []])).aC b10 (.cells x.1.av.cells)) (fun x => x.2.2) (by decide +kernel) ⟨(t, e, s.size + 1), ⟨hP, g1, g2, by simp only; omega⟩, aO.mk (by simp -implicitDefEqProofs only [aA, seval])⟩ ?_
   rintro ⟨t, e, m⟩ ⟨ht, hae, hes, hm⟩
   simp only at ht hae hes hm ⊢
   obtain ⟨m, rfl⟩ : ∃ m', m = m' + 1 := ⟨m - 1, by omega⟩
   simp only [BS] at ht
   have he0 : ((0 : Int) ≤ (e : Int)) = True := dA (by omega)
   simp -implicitDefEqProofs only [he0, bM, aA, seval]
   refine (aUL s hs e hes _).to ?_
   cases hop : pD (sb s) e with
   | none =>
    rw [hop] at ht
    simp only at ht
    subst ht
    simp -implicitDefEqProofs only [aK, bZ, cG, bO, d9 (bO _), d8 (aT _), M7, hbb.symm, bM, aA, seval, qV]
    exact ⟨qI rfl, hE _ _ _⟩
   | some p =>
    obtain ⟨nm, e1⟩ := p
    rw [hop] at ht
    simp only at ht
    obtain ⟨k1, k2, k3⟩ := RQ hop
    rw [cJ] at k2
    have hnm := cI (aOG k3)
    simp -implicitDefEqProofs only [M7, hnm, bX, aA, seval]
    refine (uL nm _).to ?_
    by_cases aE8 : dL nm = lw
    case neg =>
     rw [aG aE8] at ht
     subst ht
     have hne : ((dL nm : Int) = (lw : Int)) = False := cI (by omega)
     simp -implicitDefEqProofs only [aK, bZ, cG, bO, d9 (bO _), d8 (aT _), hne, hbb.symm, bX, aA, seval, qV]
     exact ⟨qI rfl, hE _ _ _⟩
    rw [aE (by simpa using aE8)] at ht
    have hne : ((dL nm : Int) = (lw : Int)) = True := dA (by omega)
    simp -implicitDefEqProofs only [hne, hwl, bM, aA, seval]
    refine (IH d e1 lv _ k2 (by omega) hd (by omega)).mono ?_
    rintro r _ ⟨hr, rfl⟩
    cases hRj : rd (sb s) n d e1 lv with
    | none =>
     rw [hRj] at hr ht
     simp only at ht
     subst ht
     obtain ⟨k, hk, rfl⟩ := hr
     have hk0 : ((-1 - (k : Int)) < 0) = True := dA (by omega)
     simp -implicitDefEqProofs only [aK, aH, bZ, cG, hk0, kN, hbb.symm, bM, aA, ↓aU, seval, qV]
     exact ⟨A2 hk, hE _ _ _⟩
    | some p =>
     obtain ⟨t2, e2⟩ := p
     rw [hRj] at hr ht
     simp only [lK] at hr ht
     subst hr
     obtain ⟨q1, q2, q3⟩ := zU hl1 n d lv e1 t2 e2 (by rw [cJ]; exact k2) hRj
     rw [cJ] at q2
     have he2 : ((e2 : Int) < 0) = False := cI (by omega)
     simp -implicitDefEqProofs only [aT, aH, bZ, cG, bO, d9 (bO _), d8 (aT _), he2, bX, aA, ↓aU, seval, qV]
     refine (rH nm [t, t2] (by simp) _).to ?_
     by_cases h3 : lw = 3
     · rw [aG h3] at ht
       subst ht
       have h3' : ((lw : Int) = 3) = True := dA (by omega)
       simp -implicitDefEqProofs only [aK, bZ, cG, bO, d9 (bO _), d8 (aT _), h3', hbb.symm, bM, aA, seval, qV]
       exact ⟨qI rfl, hE _ _ _⟩
     · rw [aE h3] at ht
       have h3' : ((lw : Int) = 3) = False := cI (by omega)
       simp -implicitDefEqProofs only [aK, bZ, bO, h3', bX, aA, seval, qV]
       exact ⟨(nI nm [t, t2], e2, m), by simp only; omega, ⟨ht, by simp only; omega, q2, by simp only; omega⟩, aO.mk (by simp -implicitDefEqProofs only [aA, seval])⟩
end Go.AW
namespace Go.AW
def mX : Nat → Nat → ByteArray → ByteArray
 | 0, _, acc => acc
 | f + 1, n, acc => if 9 < n then mX f (n / 10) (⟨#[UInt8.ofNat (48 + n % 10)]⟩ ++ acc) else ⟨#[UInt8.ofNat (48 + n)]⟩ ++ acc
def xY (n : Int) : ByteArray := if n < 0 then ⟨#[45]⟩ ++ mX 20 (-n).toNat ⟨#[]⟩ else mX 20 n.toNat ⟨#[]⟩
def JZ (n : Int) : ByteArray := ⟨#[UInt8.ofNat (65 + n.toNat)]⟩
def qG (t : Tm) : Bool := decide (t.k = 3) && (decide (t.s = ⟨#[46]⟩) && decide (t.ts.length = 2))
def IZ (t : Tm) : Bool := decide (t.k = 3) && (decide (t.s = ⟨#[91, 93]⟩) && decide (t.ts.length = 0))
def t6 (t : Tm) : Bool := decide (t.k = 3) && (decide (t.ts.length = 2) && decide (0 < dL t.s))
def C3 (t : Tm) : Bool := decide (t.k = 3) && (decide (t.ts.length = 0) && decide (0 < dL t.s))
def PW (t : Tm) : Bool := decide (t.k = 3) && decide (0 < t.ts.length)
def nU (t : Tm) (i : Nat) : Tm := t.ts.getD i aZ4
 where aZ4 : Tm := .mk 0 0 ⟨#[]⟩ []
def kS (T : Tm → ByteArray) : List Tm → ByteArray
 | [] => ⟨#[]⟩
 | x :: xs => xs.foldl (fun o y => (o ++ ⟨#[44]⟩) ++ T y) (⟨#[]⟩ ++ T x)
def spine : Nat → Tm → List Tm × Tm
 | 0, t => ([], t)
 | n + 1, t => if qG t then (nU t 0 :: (spine n (nU t 1)).1, (spine n (nU t 1)).2) else ([], t)
def p8 (nm : ByteArray) : ByteArray := if iI nm then (⟨#[32]⟩ ++ nm) ++ ⟨#[32]⟩ else nm
def HK (l : List UInt8) : Bool := fR l 0 letter || (fR l 0 dN || (fR l 0 rA || (cO l 0 91 || cO l 0 40)))
def tE (T : Tm → ByteArray) (t : Tm) (lv : Nat) : ByteArray := if t6 t && decide (lv < dL t.s) then (⟨#[40]⟩ ++ T t) ++ ⟨#[41]⟩ else T t
def yF (T : Tm → ByteArray) (t : Tm) (lv : Nat) : ByteArray := if C3 t then (⟨#[40]⟩ ++ T t) ++ ⟨#[41]⟩ else tE T t lv
def zL (T : Tm → ByteArray) (t : Tm) (lv : Nat) : ByteArray := if C3 t || !HK (sb (tE T t lv)) then (⟨#[40]⟩ ++ tE T t lv) ++ ⟨#[41]⟩ else tE T t lv
def DO (T : Tm → ByteArray) (p : List Tm × Tm) : ByteArray := if IZ p.2 then (⟨#[91]⟩ ++ kS T p.1) ++ ⟨#[93]⟩ else (((⟨#[91]⟩ ++ kS T p.1) ++ ⟨#[124]⟩) ++ T p.2) ++ ⟨#[93]⟩
def BD (t : Tm) : ByteArray := if t.k = 1 then JZ t.n else if t.k = 2 then xY t.n else t.s
def lvl (n : Nat) : Nat := if n = 3 then 2 else n
def tx : Nat → Tm → ByteArray
 | 0, _ => ⟨#[]⟩
 | n + 1, t => if qG t then DO (tx n) (spine n t) else if t6 t then (yF (tx n) (nU t 0) (lvl (dL t.s)) ++ p8 t.s) ++ zL (tx n) (nU t 1) (dL t.s - 1)
  else if PW t then ((t.s ++ ⟨#[40]⟩) ++ kS (tx n) t.ts) ++ ⟨#[41]⟩ else BD t
theorem aN2 {T : Tm → ByteArray} {l : List Tm} {i : Nat} {x : Tm} (hx : l[i]? = some x) : kS T (l.take (i + 1)) = (if 0 < i then kS T (l.take i) ++ ⟨#[44]⟩ else kS T (l.take i)) ++ T x := by
 rw [fN, hx]
 cases l with
 | nil => simp at hx
 | cons y l =>
  cases i with
  | zero => simp at hx; subst hx; rfl
  | succ i =>
   rw [aG (by omega), vN]
   simp only [kS, G1, fF, List.foldl_append, z9, List.foldl_nil]
theorem dF (a b : ByteArray) : (a ++ b).size = a.size + b.size := ByteArray.size_append
theorem I8 : ∀ (f n : Nat) (acc : ByteArray), (mX f n acc).size ≤ f + acc.size
 | 0, n, acc => by simp [mX]
 | f + 1, n, acc => by
  unfold mX
  split
  · refine nF (I8 f _ _) ?_
    rw [dF]
    show f + (1 + acc.size) ≤ _
    omega
  · rw [dF]
    show 1 + acc.size ≤ _
    omega
abbrev Ws (t : Tm) : Prop := ∃ d, t.shape d = true
theorem Ws.own {k n : Int} {s : ByteArray} {ts : List Tm} (h : Ws (.mk k n s ts)) : eE k n s ts.length = true ∧ ∀ x ∈ ts, Ws x := by
 obtain ⟨d, h⟩ := h
 rw [Tm.BV, cM, cM, eW] at h
 exact ⟨h.1.2, fun x hx => ⟨_, h.2 x hx⟩⟩
theorem DV {k n : Int} {s : ByteArray} {len : Int} (h : eE k n s len = true) : (k = 1 ∧ 0 ≤ n ∧ n ≤ 25 ∧ s = ⟨#[]⟩ ∧ len = 0) ∨ (k = 2 ∧ -999 ≤ n ∧ n ≤ 999 ∧ s = ⟨#[]⟩ ∧ len = 0) ∨ (k = 3 ∧ n = 0 ∧ wA s = true ∧ len ≤ 4) := by
 unfold eE at h
 by_cases h1 : k = 1
 · rw [gD h1] at h
   simp only [cond_true, cM, bJ] at h
   exact Or.inl ⟨h1, h.1.1.1, h.1.1.2, h.1.2, h.2⟩
 rw [fJ h1] at h
 by_cases h2 : k = 2
 · rw [gD h2] at h
   simp only [cond_true, AD, cM, bJ] at h
   exact Or.inr (Or.inl ⟨h2, h.1.1.1, h.1.1.2, h.1.2, h.2⟩)
 rw [fJ h2] at h
 by_cases h3 : k = 3
 · rw [gD h3] at h
   simp only [cond_true, AD, cM, bJ] at h
   exact Or.inr (Or.inr ⟨h3, h.1.1, h.1.2, h.2⟩)
 · rw [fJ h3] at h
   cases h
theorem Y7 {s : ByteArray} (h : wA s = true) : 1 ≤ s.size ∧ s.size ≤ 6 := by
 unfold wA at h
 rw [q9] at h
 rcases h with h | h
 · simp only [rY, cM, bJ] at h
   omega
 · rw [List.any_eq_true] at h
   obtain ⟨x, hx, h⟩ := h
   rw [bJ] at h
   subst h
   revert hx
   revert s
   decide
theorem Ws.size {t : Tm} (h : Ws t) : t.s.size ≤ 6 ∧ (t.k = 3 → 1 ≤ t.s.size) := by
 obtain ⟨k, n, s, ts⟩ := t
 rcases DV h.own.1 with h | h | h
 · rw [show (Tm.mk k n s ts).s = s from rfl, h.2.2.2.1]; exact ⟨by decide, fun h3 => by have : k = 3 := h3; omega⟩
 · rw [show (Tm.mk k n s ts).s = s from rfl, h.2.2.2.1]; exact ⟨by decide, fun h3 => by have : k = 3 := h3; omega⟩
 · have := Y7 h.2.2.1; exact ⟨this.2, fun _ => this.1⟩
theorem qK (t : Tm) : 1 ≤ t.nodes := by obtain ⟨k, n, s, ts⟩ := t; rw [Tm.gP]; omega
theorem aBJ {x : Tm} {l : List Tm} (h : x ∈ l) : x.nodes ≤ bG Tm.nodes l := by
 induction l with
 | nil => cases h
 | cons y l ih =>
  simp only [bG]
  rcases cY.1 h with rfl | h
  · omega
  · have := ih h; omega
theorem aG6 : ∀ (l : List Tm) (i : Nat), bG Tm.nodes (l.take i) ≤ bG Tm.nodes l
 | [], i => by simp
 | x :: l, 0 => by simp [bG]
 | x :: l, i + 1 => by simp only [vN, bG]; have := aG6 l i; omega
theorem KJ {T : Tm → ByteArray} {l : List Tm} (h : ∀ x ∈ l, (T x).size ≤ 32 * x.nodes) : (kS T l).size ≤ 32 * bG Tm.nodes l + l.length := by
 have hg : ∀ (xs : List Tm) (o : ByteArray), (∀ x ∈ xs, (T x).size ≤ 32 * x.nodes) → (xs.foldl (fun o y => (o ++ ⟨#[44]⟩) ++ T y) o).size ≤ o.size + 32 * bG Tm.nodes xs + xs.length := by
  intro xs
  induction xs with
  | nil => intro o _; simp [bG]
  | cons x xs ih =>
   intro o hx
   refine nF (ih _ fun y hy => hx y (by simp [hy])) ?_
   rw [dF, dF]
   have := hx x (by simp)
   simp only [bG, aS]
   show o.size + 1 + _ + _ + _ ≤ _
   omega
 cases l with
 | nil => exact jE _
 | cons x l =>
  refine nF (hg l _ fun y hy => h y (by simp [hy])) ?_
  rw [dF]
  have := h x (by simp)
  simp only [bG, aS]
  show 0 + _ + _ + _ ≤ _
  omega
theorem BG {t : Tm} (h : qG t = true) : ∃ n x y, t = .mk 3 n ⟨#[46]⟩ [x, y] := by
 obtain ⟨k, n, s, ts⟩ := t
 simp only [qG, cM, bJ] at h
 simp only [Tm.k, Tm.s, Tm.ts] at h
 obtain ⟨rfl, rfl, h3⟩ := h
 match ts, h3 with
 | [x, y], _ => exact ⟨n, x, y, rfl⟩
theorem CE {k n : Int} {s : ByteArray} {x y : Tm} : nU (.mk k n s [x, y]) 0 = x ∧ nU (.mk k n s [x, y]) 1 = y := ⟨rfl, rfl⟩
theorem QQ : ∀ (n : Nat) (t : Tm), Ws t → (∀ x ∈ (spine n t).1, Ws x) ∧ Ws (spine n t).2 ∧ bG Tm.nodes (spine n t).1 + (spine n t).1.length + (spine n t).2.nodes = t.nodes
 | 0, t, h => ⟨by simp [spine], h, by simp [spine, bG]⟩
 | n + 1, t, h => by
  unfold spine
  split
  · rename_i hp
    obtain ⟨m, x, y, rfl⟩ := BG hp
    have hk := h.own.2
    obtain ⟨h1, h2, h3⟩ := QQ n y (hk y (by simp))
    simp only [CE]
    refine ⟨fun z hz => ?_, h2, ?_⟩
    · rcases cY.1 hz with rfl | hz
      · exact hk z (by simp)
      · exact h1 z hz
    · simp only [bG, aS, Tm.gP]
      omega
  · exact ⟨by simp, h, by simp [bG]⟩
theorem QC {t : Tm} (h : t6 t = true) : ∃ n s x y, t = .mk 3 n s [x, y] ∧ 0 < dL s := by
 obtain ⟨k, n, s, ts⟩ := t
 simp only [t6, cM, bJ] at h
 simp only [Tm.k, Tm.s, Tm.ts] at h
 obtain ⟨rfl, h2, h3⟩ := h
 match ts, h2 with
 | [x, y], _ => exact ⟨n, s, x, y, rfl, h3⟩
theorem NB {T : Tm → ByteArray} {t : Tm} (lv : Nat) : (T t).size ≤ (tE T t lv).size ∧ (tE T t lv).size ≤ (T t).size + 2 := by
 unfold tE
 split
 · rw [dF, dF]; show _ ≤ 1 + _ + 1 ∧ 1 + _ + 1 ≤ _; omega
 · omega
theorem aYG {T : Tm → ByteArray} {t : Tm} (lv : Nat) : (T t).size ≤ (yF T t lv).size ∧ (yF T t lv).size ≤ (T t).size + 2 := by
 unfold yF
 split
 · rw [dF, dF]; show _ ≤ 1 + _ + 1 ∧ 1 + _ + 1 ≤ _; omega
 · exact NB lv
theorem aUJ {T : Tm → ByteArray} {t : Tm} (lv : Nat) : (T t).size ≤ (zL T t lv).size ∧ (zL T t lv).size ≤ (T t).size + 4 := by
 have := NB (T := T) (t := t) lv
 unfold zL
 split
 · rw [dF, dF]; show _ ≤ 1 + _ + 1 ∧ 1 + _ + 1 ≤ _; omega
 · omega
theorem J9 : ∀ (n : Nat) (t : Tm), Ws t → (tx n t).size ≤ 32 * t.nodes
 | 0, t, _ => jE _
 | n + 1, t, h => by
  have hT := J9 n
  unfold tx
  split
  · rename_i hp
    obtain ⟨h1, h2, h3⟩ := QQ n t h
    have ha := KJ (T := tx n) (l := (spine n t).1) fun x hx => hT x (h1 x hx)
    have hb := hT _ h2
    have hq := qK (spine n t).2
    have hl : 1 ≤ (spine n t).1.length ∨ n = 0 := by
     cases n with
     | zero => exact Or.inr rfl
     | succ m => left; unfold spine; rw [aG hp]; simp
    have h4 : 3 ≤ t.nodes := by obtain ⟨m, x, y, rfl⟩ := BG hp; simp only [Tm.gP, bG]; have := qK x; have := qK y; omega
    have hb2 : 1 ≤ (spine n t).1.length ∨ ((tx n (spine n t).2).size = 0 ∧ (kS (tx n) (spine n t).1).size = 0) := by
     rcases hl with hl | rfl
     · left; omega
     · right; exact ⟨rfl, rfl⟩
    unfold DO
    split
    · rw [dF, dF]; show 1 + _ + 1 ≤ _; omega
    · rw [dF, dF, dF, dF]; show 1 + _ + 1 + _ + 1 ≤ _; omega
  split
  · rename_i hp
    obtain ⟨m, s, x, y, rfl, hs⟩ := QC hp
    have hk := h.own.2
    have h6 := h.size.1
    simp only [CE, Tm.gP, bG, Tm.s]
    have hx := hT x (hk x (by simp))
    have hy := hT y (hk y (by simp))
    have hl := (aYG (T := tx n) (t := x) (lvl (dL s))).2
    have hr := (aUJ (T := tx n) (t := y) (dL s - 1)).2
    rw [dF, dF]
    have hsp : (p8 s).size ≤ 8 := by
     have h6 : s.size ≤ 6 := h6
     unfold p8
     split
     · rw [dF, dF]; show 1 + _ + 1 ≤ _; omega
     · omega
    show _ + (p8 s).size + _ ≤ _
    omega
  split
  · obtain ⟨k, m, s, ts⟩ := t
    have ha := KJ (T := tx n) (l := ts) fun x hx => hT x (h.own.2 x hx)
    have h6 : s.size ≤ 6 := h.size.1
    have h4 : ts.length ≤ 4 := by rcases DV h.own.1 with h | h | h <;> omega
    rw [dF, dF, dF, Tm.gP]
    simp only [Tm.s, Tm.ts]
    show s.size + 1 + _ + 1 ≤ _
    omega
  · have h6 := h.size.1
    have hp := qK t
    unfold BD
    split
    · show 1 ≤ _; omega
    · split
      · unfold xY
        split
        · rw [dF]; have := I8 20 (-t.n).toNat ⟨#[]⟩; have h0 : (⟨#[]⟩ : ByteArray).size = 0 := rfl; show 1 + _ ≤ _; omega
        · have := I8 20 t.n.toNat ⟨#[]⟩; have h0 : (⟨#[]⟩ : ByteArray).size = 0 := rfl; omega
      · omega
def uV : Nat → Tm → Tm
 | 0, t => t
 | i + 1, t => uV i (nU t 1)
theorem aEK : ∀ (i : Nat) (t : Tm), uV (i + 1) t = nU (uV i t) 1
 | 0, t => rfl
 | i + 1, t => by rw [uV, aEK i]; try rfl
theorem aJA : ∀ (n : Nat) (t : Tm) (i : Nat) (x : Tm), (spine n t).1[i]? = some x → qG (uV i t) = true ∧ nU (uV i t) 0 = x
 | 0, t, i, x, h => by simp [spine] at h
 | n + 1, t, i, x, h => by
  unfold spine at h
  split at h
  · rename_i hp
    cases i with
    | zero => simp at h; exact ⟨hp, h⟩
    | succ i => exact aJA n _ i x (by simpa using h)
  · simp at h
theorem aJE : ∀ (n : Nat) (t : Tm), t.nodes ≤ n + 1 → (spine n t).2 = uV (spine n t).1.length t ∧ qG (spine n t).2 = false
 | 0, t, h => by
  refine ⟨rfl, ?_⟩
  cases hp : qG t with
  | false => exact hp
  | true => obtain ⟨m, x, y, rfl⟩ := BG hp; simp only [Tm.gP, bG] at h; have := qK x; omega
 | n + 1, t, h => by
  unfold spine
  split
  · rename_i hp
    obtain ⟨m, x, y, rfl⟩ := BG hp
    simp only [Tm.gP, bG] at h
    have := qK x
    have := aJE n y (by omega)
    exact ⟨this.1, this.2⟩
  · rename_i hp
    exact ⟨rfl, by simpa using hp⟩
theorem aX7 {n : Nat} {t : Tm} (h : Ws t) (hn : 1 ≤ n) : 1 ≤ (tx n t).size := by
 obtain ⟨n, rfl⟩ : ∃ m, n = m + 1 := ⟨n - 1, by omega⟩
 unfold tx
 split
 · unfold DO
   split
   · rw [dF, dF]; show 1 ≤ 1 + _ + 1; omega
   · rw [dF]; show 1 ≤ _ + 1; omega
 split
 · rename_i hp
   obtain ⟨m, s, x, y, rfl, hs⟩ := QC hp
   have h6 : 1 ≤ s.size := h.size.2 rfl
   rw [dF, dF]
   have : 1 ≤ (p8 s).size := by
    unfold p8
    split
    · rw [dF, dF]; omega
    · exact h6
   show 1 ≤ _ + (p8 s).size + _
   omega
 split
 · rw [dF]; show 1 ≤ _ + 1; omega
 · obtain ⟨k, m, s, ts⟩ := t
   rw [show BD (.mk k m s ts) = if k = 1 then JZ m else if k = 2 then xY m else s from rfl]
   rcases DV h.own.1 with h1 | h1 | h1
   · rw [aG h1.1]; exact c7 _
   · rw [aE (by omega), aG h1.1]
     unfold xY
     split
     · rw [dF]; show 1 ≤ 1 + _; omega
     · have hf : ∀ f n acc, 1 ≤ (mX (f + 1) n acc).size := by
        intro f
        induction f with
        | zero =>
         intro n acc; unfold mX; split
         · simp only [mX]; rw [dF]; show 1 ≤ 1 + _; omega
         · rw [dF]; show 1 ≤ 1 + _; omega
        | succ f ih =>
         intro n acc; unfold mX; split
         · exact ih _ _
         · rw [dF]; show 1 ≤ 1 + _; omega
       exact hf 19 _ _
   · rw [aE (by omega), aE (by omega)]; exact (Y7 h1.2.2.1).1
end Go.AW
namespace Go.AW
open Go.Proofs.Tryz
theorem aDN {k n : Int} {s : ByteArray} {ts : List Tm} : qG (.mk k n s ts) = (decide (k = 3) && (decide (s = ⟨#[46]⟩) && decide (ts.length = 2))) := rfl
theorem aRD {k n : Int} {s : ByteArray} {ts : List Tm} : IZ (.mk k n s ts) = (decide (k = 3) && (decide (s = ⟨#[91, 93]⟩) && decide (ts.length = 0))) := rfl
theorem aQR {k n : Int} {s : ByteArray} {ts : List Tm} : t6 (.mk k n s ts) = (decide (k = 3) && (decide (ts.length = 2) && decide (0 < dL s))) := rfl
theorem QD {k n : Int} {s : ByteArray} {ts : List Tm} : PW (.mk k n s ts) = (decide (k = 3) && decide (0 < ts.length)) := rfl
theorem aUB {k n : Int} {s : ByteArray} {ts : List Tm} : C3 (.mk k n s ts) = (decide (k = 3) && (decide (ts.length = 0) && decide (0 < dL s))) := rfl
abbrev NH := zi tI_3 (zi zI_3 (zi aX (zi tI_4 (zi zI_4 (zi cD (zi tI_9 (zi zI_9 (zi cH (zi tI_31 (zi zI_31 (zi aN (zi bE (zi bF (zi b9 (zi tI_63 (zi zI_63 (zi bP (zi bQ (zi bT (zi bS bR))))))))))))))))))))
theorem ID (t : Tm) (st : aB) : aD prog 239 [t.av] st (fun r st' => r = .bool (qG t) ∧ st' = st) := by
 obtain ⟨k, n, s, ts⟩ := t
 rw [aDN]
 refine wF [1000000] 1 func239 ntmps239 rfl rfl ?_
 intro _
 simp only [aV]
 by_cases h1 : k = 3
 case neg =>
  rw [fJ h1, gN]
  simp -implicitDefEqProofs only [h1, bX, aA, seval, NH]
 rw [gD h1, eT]
 by_cases h2 : s = ⟨#[46]⟩
 case neg =>
  rw [fJ h2, gN]
  simp -implicitDefEqProofs only [h1, h2, bM, bX, aA, seval, NH]
 rw [gD h2, eT]
 have h3 : decide (((ts.length : Nat) : Int) = 2) = decide (ts.length = 2) := by rw [AE]; omega
 simp -implicitDefEqProofs only [h1, h2, h3, bM, aF, aA, seval, NH]
abbrev ON := zi tI_3 (zi zI_3 (zi aX (zi tI_4 (zi zI_4 (zi cD (zi tI_9 (zi zI_9 (zi cH (zi tI_31 (zi zI_31 (zi aN (zi bE (zi bF (zi b9 (zi tI_63 (zi zI_63 (zi bP (zi bQ (zi bT (zi bS bR))))))))))))))))))))
theorem aSH (t : Tm) (st : aB) : aD prog 249 [t.av] st (fun r st' => r = .bool (IZ t) ∧ st' = st) := by
 obtain ⟨k, n, s, ts⟩ := t
 rw [aRD]
 refine wF [1000000] 1 func249 ntmps249 rfl rfl ?_
 intro _
 simp only [aV]
 by_cases h1 : k = 3
 case neg =>
  rw [fJ h1, gN]
  simp -implicitDefEqProofs only [h1, bX, aA, seval, ON]
 rw [gD h1, eT]
 by_cases h2 : s = ⟨#[91, 93]⟩
 case neg =>
  rw [fJ h2, gN]
  simp -implicitDefEqProofs only [h1, h2, bM, bX, aA, seval, ON]
 rw [gD h2, eT]
 have h3 : decide (((ts.length : Nat) : Int) = 0) = decide (ts.length = 0) := by rw [AE]; omega
 simp -implicitDefEqProofs only [h1, h2, h3, bM, aF, aA, seval, ON]
abbrev MY := zi tI_3 (zi zI_3 (zi aX (zi tI_4 (zi zI_4 (zi cD (zi tI_9 (zi zI_9 (zi cH (zi tI_31 (zi zI_31 (zi aN (zi bE (zi bF (zi b9 (zi tI_63 (zi zI_63 (zi bP (zi bQ (zi bT (zi bS bR))))))))))))))))))))
theorem aB9 (t : Tm) (st : aB) : aD prog 241 [t.av] st (fun r st' => r = .bool (t6 t) ∧ st' = st) := by
 obtain ⟨k, n, s, ts⟩ := t
 rw [aQR]
 refine wF [1000000] 1 func241 ntmps241 rfl rfl ?_
 intro _
 simp only [aV]
 by_cases h1 : k = 3
 case neg =>
  rw [fJ h1, gN]
  simp -implicitDefEqProofs only [h1, bX, aA, seval, MY]
 rw [gD h1, eT]
 by_cases h2 : ts.length = 2
 case neg =>
  rw [fJ h2, gN]
  have h2' : (((ts.length : Nat) : Int) = 2) = False := cI (by omega)
  simp -implicitDefEqProofs only [h1, h2', bM, bX, aF, aA, seval, MY]
 rw [gD h2, eT]
 have h2' : (((ts.length : Nat) : Int) = 2) = True := dA (by omega)
 simp -implicitDefEqProofs only [h1, h2', bM, aF, aA, seval, MY]
 refine (uL s _).to ?_
 have h3 : decide ((0 : Int) < (dL s : Int)) = decide (0 < dL s) := by rw [AE]; omega
 simp -implicitDefEqProofs only [h3, aA, seval]
abbrev OK := zi tI_3 (zi zI_3 (zi aX (zi tI_4 (zi zI_4 (zi cD (zi tI_9 (zi zI_9 (zi cH (zi tI_31 (zi zI_31 (zi aN (zi bE (zi bF (zi b9 (zi tI_63 (zi zI_63 (zi bP (zi bQ (zi bT (zi bS bR))))))))))))))))))))
theorem XQ (t : Tm) (st : aB) : aD prog 250 [t.av] st (fun r st' => r = .bool (C3 t) ∧ st' = st) := by
 obtain ⟨k, n, s, ts⟩ := t
 rw [aUB]
 refine wF [1000000] 1 func250 ntmps250 rfl rfl ?_
 intro _
 simp only [aV]
 by_cases h1 : k = 3
 case neg =>
  rw [fJ h1, gN]
  simp -implicitDefEqProofs only [h1, bX, aA, seval, OK]
 rw [gD h1, eT]
 by_cases h2 : ts.length = 0
 case neg =>
  rw [fJ h2, gN]
  have h2' : (((ts.length : Nat) : Int) = 0) = False := cI (by omega)
  simp -implicitDefEqProofs only [h1, h2', bM, bX, aF, aA, seval, OK]
 rw [gD h2, eT]
 have h2' : (((ts.length : Nat) : Int) = 0) = True := dA (by omega)
 simp -implicitDefEqProofs only [h1, h2', bM, aF, aA, seval, OK]
 refine (uL s _).to ?_
 have h3 : decide ((0 : Int) < (dL s : Int)) = decide (0 < dL s) := by rw [AE]; omega
 simp -implicitDefEqProofs only [h3, aA, seval]
theorem aNC (s : ByteArray) (hs : s.size ≤ 1000) (st : aB) : aD prog 243 [.str s] st (fun r st' => r = .str (p8 s) ∧ st' = st) := by
 refine wF [1000000] 1 func243 ntmps243 rfl rfl ?_
 intro _
 have hm : maxLen = 9223372036854775807 := by rfl
 have g1 : (⟨#[32]⟩ : ByteArray).size + s.size ≤ maxLen := by show 1 + s.size ≤ _; omega
 have g2 : ((⟨#[32]⟩ : ByteArray) ++ s).size + (⟨#[32]⟩ : ByteArray).size ≤ maxLen := by rw [dF]; show 1 + s.size + 1 ≤ _; omega
 by_cases h1 : s = ⟨#[105, 115]⟩
 · have hW : iI s = true := by unfold iI; rw [gD h1]; try rfl
   unfold p8
   rw [aG hW]
   have h1' := dA h1
   simp -implicitDefEqProofs only [h1', g1, g2, ↓reduceIte, bM, aA, seval]
 · have h1' := cI h1
   by_cases h2 : s = ⟨#[109, 111, 100]⟩
   · have hW : iI s = true := by unfold iI; rw [gD h2]; exact AC _
     unfold p8
     rw [aG hW]
     have h2' := dA h2
     simp -implicitDefEqProofs only [h1', h2', g1, g2, ↓reduceIte, bM, bX, aA, seval]
   · have hW : iI s = false := by unfold iI; rw [fJ h1, fJ h2]; try rfl
     unfold p8
     rw [aE (by rw [hW]; decide)]
     have h2' := cI h2
     simp -implicitDefEqProofs only [h1', h2', bX, aA, seval]
theorem aPU (s : ByteArray) (hs : 1 ≤ s.size) (st : aB) : aD prog 252 [.str s] st (fun r st' => r = .bool (HK (sb s)) ∧ st' = st) := by
 refine wF [1000000] 1 func252 ntmps252 rfl rfl ?_
 intro _
 obtain ⟨x, hx⟩ := vG (s := s) (n := 0) (by omega)
 have hix := sL (P := prog) (t := 9) cH hx
 rw [show ((0 : Nat) : Int) = 0 from rfl] at hix
 unfold HK
 simp only [vL hx, rT hx]
 simp -implicitDefEqProofs only [aA, seval]
 refine (SB s 0 _).to ?_
 rw [vL hx]
 cases h1 : letter x with
 | true =>
  simp -implicitDefEqProofs only [aA, seval]
  simp
 | false =>
  simp -implicitDefEqProofs only [aA, seval]
  refine (z8 s 0 _).to ?_
  rw [vL hx]
  cases h2 : dN x with
  | true =>
   simp -implicitDefEqProofs only [aA, seval]
   simp
  | false =>
   by_cases h3 : 65 ≤ x.toNat
   case' pos => have h3' : ((65 : Int) ≤ (x.toNat : Int)) = True := dA (by omega)
   case' neg => have h3' : ((65 : Int) ≤ (x.toNat : Int)) = False := cI (by omega)
   all_goals
    by_cases h4 : x.toNat ≤ 90
    case' pos => have h4' : ((x.toNat : Int) ≤ 90) = True := dA (by omega)
    case' neg => have h4' : ((x.toNat : Int) ≤ 90) = False := cI (by omega)
   all_goals
    by_cases h5 : x.toNat = 91
    case' pos => have h5' : ((x.toNat : Int) = 91) = True := dA (by omega)
    case' neg => have h5' : ((x.toNat : Int) = 91) = False := cI (by omega)
   all_goals
    by_cases h6 : x.toNat = 40
    case' pos => have h6' : ((x.toNat : Int) = 40) = True := dA (by omega)
    case' neg => have h6' : ((x.toNat : Int) = 40) = False := cI (by omega)
   all_goals try (exfalso; omega)
   all_goals
    simp -implicitDefEqProofs only [hix, h3', h4', h5', h6', bM, bX, aA, seval]
    simp [rA, h3, h4, h5, h6]
theorem NQ (n : Nat) : bytesOf [AV.int .u8 ((n : Nat) : Int)] = some [UInt8.ofNat n] := by simp only [bytesOf, l7, qZ]
theorem G7 {x : Int} {m : Nat} (h : x = (m : Int)) (hm : m ≤ 255) : IntKind.wrap .u8 x = (m : Int) := by rw [IntKind.wrap_u8]; omega
abbrev aSK := zi tI_3 (zi zI_3 (zi aX (zi tI_5 (zi zI_5 (zi kI (zi tI_9 (zi zI_9 (zi cH (zi tI_57 (zi zI_57 (zi sG (zi zC (zi yN v5)))))))))))))
theorem aOY (m : Nat) (hm : m ≤ 25) (st : aB) : aD prog 253 [.int .i64 (m : Int)] st (fun r st' => r = .str (JZ m) ∧ st' = st) := by
 refine wF [1000000] 1 func253 ntmps253 rfl rfl ?_
 intro _
 have hw := G7 (x := (m : Int)) rfl (by omega)
 obtain ⟨y, hy⟩ : ∃ y, y = 65 + m := ⟨_, rfl⟩
 have hw2 := G7 (x := 65 + (m : Int)) (m := y) (by omega) (by omega)
 simp -implicitDefEqProofs only [sV, hw, hw2, NQ, aA, seval, aSK]
 subst hy
 rfl
abbrev aDA := zi tI_3 (zi zI_3 (zi aX (zi tI_5 (zi zI_5 (zi kI (zi tI_9 (zi zI_9 (zi cH (zi tI_57 (zi zI_57 (zi sG (zi zC (zi yN v5)))))))))))))
theorem aI5 (n : Nat) (hn : n ≤ 1000000) (st : aB) : aD prog 211 [.int .i64 (n : Int)] st (fun r st' => r = .str (mX 20 n ⟨#[]⟩) ∧ st' = st) := by
 refine wF [1000000] 1 func211 ntmps211 rfl rfl ?_
 intro _
 have h1 : ((n : Int) < -9223372036854775807) = False := cI (by omega)
 have h2 : ((n : Int) < 0) = False := cI (by omega)
 simp -implicitDefEqProofs only [h1, h2, bX, aA, seval]
 generalize hT : mX 20 n ⟨#[]⟩ = T
 refine gZ (σ := Nat × ByteArray × Nat) [1000000] [2] (fun x => mX x.2.2 x.1 x.2.1 = T ∧ x.1 < 10 ^ x.2.2 ∧ x.1 ≤ 1000000 ∧ 1 ≤ x.2.2 ∧ x.2.1.size + x.2.2 ≤ 20) (fun x => [(0, .int .i64 (x.1 : Int)), (3, .str x.2.1)]) (fun _ => st) (fun x => x.2.2) (by decide +kernel) ⟨(n, ⟨#[]⟩, 20), ⟨hT, by simp only; omega, hn, by simp only; omega, by show 0 + 20 ≤ 20; omega⟩, aO.mk (by simp -implicitDefEqProofs only [aA, seval])⟩ ?_
 rintro ⟨k, acc, f⟩ ⟨hd, hk, hk6, hf, hb⟩
 simp only at hd hk hk6 hf hb ⊢
 obtain ⟨f, rfl⟩ : ∃ f', f = f' + 1 := ⟨f - 1, by omega⟩
 have hm : maxLen = 9223372036854775807 := by rfl
 have hsz : ∀ u : UInt8, (⟨#[u]⟩ : ByteArray).size + acc.size ≤ maxLen := fun u => by show 1 + acc.size ≤ _; omega
 have hr : ((k : Int)).tmod 10 = ((k % 10 : Nat) : Int) := by rw [Int.tmod_eq_emod_of_nonneg (by omega)]; omega
 have hq : ((k : Int)).tdiv 10 = ((k / 10 : Nat) : Int) := by rw [Int.tdiv_eq_ediv_of_nonneg (by omega)]; omega
 simp -implicitDefEqProofs only [aA, seval]
 refine aQ (fun h3 => ?_) (fun h3 => ?_)
 · simp only [bJ] at h3
   unfold mX at hd
   rw [aG (by omega)] at hd
   rw [Nat.pow_succ] at hk
   obtain ⟨y, hy⟩ : ∃ y, y = 48 + k % 10 := ⟨_, rfl⟩
   obtain ⟨q, hq'⟩ : ∃ q, q = k / 10 := ⟨_, rfl⟩
   obtain ⟨r, hr'⟩ : ∃ r, r = k % 10 := ⟨_, rfl⟩
   rw [← hr'] at hr
   rw [← hq'] at hq
   have hwr := bK (n := (r : Int))
   have hw := nB (x := 48 + (r : Int)) (m := y) (by omega) (by omega)
   have hw8 := G7 (x := (y : Int)) (m := y) rfl (by omega)
   have hw2 := bK (n := (q : Int))
   simp -implicitDefEqProofs only [sV, hr, hq, hw, hw8, hw2, NQ, hsz, aA, seval, aDA]
   refine ⟨(q, ⟨#[UInt8.ofNat y]⟩ ++ acc, f), by simp only; omega, ⟨by rw [hq', hy]; exact hd, by simp only; omega, by simp only; omega, ?_, ?_⟩, aO.mk (by simp -implicitDefEqProofs only [aA, seval] <;> rfl)⟩
   · show 1 ≤ f
     rcases Nat.eq_zero_or_pos f with rfl | h
     · simp only [Nat.pow_zero] at hk; omega
     · exact h
   · show (⟨#[UInt8.ofNat y]⟩ ++ acc : ByteArray).size + f ≤ 20
     rw [dF]
     show 1 + acc.size + f ≤ 20
     omega
 · simp only [dH] at h3
   unfold mX at hd
   rw [aE (by omega)] at hd
   obtain ⟨y, hy⟩ : ∃ y, y = 48 + k := ⟨_, rfl⟩
   have hw := nB (x := 48 + (k : Int)) (m := y) (by omega) (by omega)
   have hw8 := G7 (x := (y : Int)) (m := y) rfl (by omega)
   simp -implicitDefEqProofs only [sV, hw, hw8, NQ, hsz, aA, seval, aDA]
   rw [← hd, hy]
theorem aUH (n : Int) (h1 : -999 ≤ n) (h2 : n ≤ 999) (st : aB) : aD prog 210 [.int .i64 n] st (fun r st' => r = .str (xY n) ∧ st' = st) := by
 refine wF [1000000] 1 func210 ntmps210 rfl rfl ?_
 intro _
 unfold xY
 have hm : maxLen = 9223372036854775807 := by rfl
 by_cases h : n < 0
 · rw [aG h]
   obtain ⟨m, hm'⟩ : ∃ m : Nat, m = (-n).toNat := ⟨_, rfl⟩
   rw [← hm']
   have h' := dA h
   have hw := nB (x := 0 - n) (m := m) (by omega) (by omega)
   have hw' := nB (x := -n) (m := m) (by omega) (by omega)
   have hs : (⟨#[45]⟩ : ByteArray).size + (mX 20 m ⟨#[]⟩).size ≤ maxLen := by have := I8 20 m ⟨#[]⟩; have h0 : (⟨#[]⟩ : ByteArray).size = 0 := rfl; show 1 + _ ≤ _; omega
   simp -implicitDefEqProofs only [h', hw, ↓reduceIte, bM, aA, seval]
   refine (aI5 m (by omega) _).to ?_
   simp -implicitDefEqProofs only [hs, ↓reduceIte, aA, seval]
 · rw [aE h]
   obtain ⟨m, rfl⟩ := tU (show 0 ≤ n by omega)
   have h' := cI h
   rw [l7]
   simp -implicitDefEqProofs only [h', bX, aA, seval]
   refine (aI5 m (by omega) _).to ?_
   simp -implicitDefEqProofs only [aA, seval]
abbrev E8 := zi tI_3 (zi zI_3 (zi aX (zi tI_9 (zi zI_9 (zi cH (zi tI_31 (zi zI_31 (zi aN (zi bE (zi bF (zi b9 (zi tI_63 (zi zI_63 (zi bP (zi bQ (zi bT (zi bS bR)))))))))))))))))
theorem aZU (t : Tm) (ht : Ws t) (h0 : t.k = 3 → t.ts = []) (st : aB) : aD prog 246 [t.av] st (fun r st' => r = .str (BD t) ∧ st' = st) := by
 obtain ⟨k, n, s, ts⟩ := t
 have hp := ID (.mk k n s ts)
 simp only [aV] at hp ⊢
 rw [show BD (.mk k n s ts) = if k = 1 then JZ n else if k = 2 then xY n else s from rfl]
 have h0 : k = 3 → ts = [] := h0
 refine wF [1000000] 1 func246 ntmps246 rfl rfl ?_
 intro _
 rcases DV ht.own.1 with ⟨rfl, h1, h2, rfl, h4⟩ | ⟨rfl, h1, h2, rfl, h4⟩ | ⟨rfl, rfl, h2, h4⟩
 · obtain ⟨m, rfl⟩ := tU h1
   simp -implicitDefEqProofs only [aA, seval, E8]
   refine (aOY m (by omega) _).to ?_
   simp -implicitDefEqProofs only [aA, seval]
 · skip
   simp -implicitDefEqProofs only [aA, seval, E8]
   refine (aUH n h1 h2 _).to ?_
   simp -implicitDefEqProofs only [aA, seval]
 · obtain rfl := h0 rfl
   simp -implicitDefEqProofs only [aW, aA, seval, E8]
   refine (hp _).to ?_
   rw [show qG (.mk 3 0 s []) = false by rw [aDN]; simp]
   simp -implicitDefEqProofs only [aA, seval, E8]
   refine gZ (σ := Unit) [1000000] [1, 2] (fun _ => True) (fun _ => [(3, .str s), (4, .int .i64 0)]) (fun _ => st) (fun _ => 0) (by decide +kernel) ⟨(), trivial, aO.mk (by simp -implicitDefEqProofs only [aA, seval])⟩ ?_
   rintro _ _
   simp -implicitDefEqProofs only [a7, aA, seval, E8]
def vX (T : Tm → ByteArray) (t : Tm) : Prop := (∀ st : aB, aD prog 226 [t.av] st (fun r st' => r = .str (T t) ∧ st' = st)) ∧ (T t).size ≤ 32 * t.nodes ∧ 1 ≤ (T t).size ∧ t.nodes ≤ 1000
abbrev P7 := zi tI_3 (zi zI_3 (zi aX (zi tI_9 (zi zI_9 (zi cH (zi tI_31 (zi zI_31 (zi aN (zi bE (zi bF (zi b9 (zi tI_63 (zi zI_63 (zi bP (zi bQ (zi bT (zi bS bR)))))))))))))))))
theorem aJ0 {T : Tm → ByteArray} (l : List Tm) (hT : ∀ t ∈ l, vX T t) (hn : bG Tm.nodes l ≤ 10000) (hl : l.length ≤ 10000) (st : aB) : aD prog 245 [.slice (l.map Tm.av)] st (fun r st' => r = .str (kS T l) ∧ st' = st) := by
 refine wF [1000000] 1 func245 ntmps245 rfl rfl ?_
 intro _
 simp -implicitDefEqProofs only [aA, seval]
 refine eL (σ := Unit) [1000000] [0, 2] l (fun i _ => True) (fun i _ => [(3, .str (kS T (l.take i))), (4, .int .i64 i)]) (fun _ _ => st) (by decide +kernel) ⟨(), trivial, aO.mk (by simp -implicitDefEqProofs only [kU, aA, ↓aU, seval] <;> rfl)⟩ (fun i x _ hx hlt bU hdr hinv => ?_) (fun _ hge hinv => ?_)
 case refine_2 =>
  rw [eS]
  simp -implicitDefEqProofs only [hge, aF, aA, seval, P7]
 have hxm := cW hx
 obtain ⟨c1, c2, c3, c4⟩ := hT x hxm
 have hw := bK (n := (i : Int) + 1)
 have hat := bL (av := Tm.av) aN hx (aH x)
 have iJ := aN2 (T := T) hx
 have hsz := KJ (T := T) (l := l.take i) fun y hy => (hT y (lY hy)).2.1
 have hsl : bG Tm.nodes (l.take i) ≤ bG Tm.nodes l := aG6 l i
 have hln : (l.take i).length ≤ 10000 := by rw [d7]; omega
 have hm : maxLen = 9223372036854775807 := by rfl
 have hs1 : (kS T (l.take i)).size + (⟨#[44]⟩ : ByteArray).size ≤ maxLen := by show _ + 1 ≤ _; omega
 have hs2 : (kS T (l.take i) ++ (⟨#[44]⟩ : ByteArray)).size + (T x).size ≤ maxLen := by rw [dF]; show _ + 1 + _ ≤ _; omega
 have hs3 : (kS T (l.take i)).size + (T x).size ≤ maxLen := by omega
 by_cases h0 : 0 < i
 · rw [aG h0] at iJ
   have h0' : ((0 : Int) < (i : Int)) = True := dA (by omega)
   simp -implicitDefEqProofs only [aF, hat, aT, aH, bU, h0', hs1, ↓reduceIte, bM, aA, seval, P7]
   refine (c1 _).to ?_
   simp -implicitDefEqProofs only [hs2, ↓reduceIte, aA, seval]
   exact ⟨(), aO.mk (by simp -implicitDefEqProofs only [hw, iJ, ↓reduceIte, aA, seval])⟩
 · rw [aE h0] at iJ
   have h0' : ((0 : Int) < (i : Int)) = False := cI (by omega)
   simp -implicitDefEqProofs only [aF, hat, aT, aH, bU, h0', ↓reduceIte, bM, bX, aA, seval, P7]
   refine (c1 _).to ?_
   simp -implicitDefEqProofs only [hs3, ↓reduceIte, aA, seval]
   exact ⟨(), aO.mk (by simp -implicitDefEqProofs only [hw, iJ, ↓reduceIte, aA, seval])⟩
abbrev FJ := zi tI_3 (zi zI_3 (zi aX (zi tI_9 (zi zI_9 (zi cH (zi tI_63 (zi zI_63 (zi bP (zi bQ (zi bT (zi bS bR)))))))))))
theorem UD {T : Tm → ByteArray} (t : Tm) (hT : vX T t) (lv : Nat) (hlv : lv ≤ 10) (st : aB) : aD prog 251 [t.av, .int .i64 (lv : Int)] st (fun r st' => r = .str (tE T t lv) ∧ st' = st) := by
 obtain ⟨c1, c2, c3, c4⟩ := hT
 have hm : maxLen = 9223372036854775807 := by rfl
 have hs1 : (⟨#[40]⟩ : ByteArray).size + (T t).size ≤ maxLen := by show 1 + _ ≤ _; omega
 have hs2 : ((⟨#[40]⟩ : ByteArray) ++ T t).size + (⟨#[41]⟩ : ByteArray).size ≤ maxLen := by rw [dF]; show 1 + _ + 1 ≤ _; omega
 have hi := aB9 t
 obtain ⟨k, n, s, ts⟩ := t
 rw [show tE T (.mk k n s ts) lv = if (t6 (.mk k n s ts) && decide (lv < dL s)) = true then (⟨#[40]⟩ ++ T (.mk k n s ts)) ++ ⟨#[41]⟩ else T (.mk k n s ts) from rfl]
 generalize hTT : T (.mk k n s ts) = u at *
 simp only [aV] at hi c1 ⊢
 refine wF [1000000] 2 func251 ntmps251 rfl rfl ?_
 intro _
 simp -implicitDefEqProofs only [aA, seval, FJ]
 refine (hi _).to ?_
 cases hk : t6 (.mk k n s ts) with
 | false =>
  rw [gN, aE (by decide)]
  simp -implicitDefEqProofs only [aA, seval, FJ]
  refine (c1 _).to ?_
  simp -implicitDefEqProofs only [aA, seval]
 | true =>
  rw [eT]
  simp -implicitDefEqProofs only [aA, seval, FJ]
  refine (uL s _).to ?_
  by_cases h : lv < dL s
  · rw [gD h, aG rfl]
    have h' : ((lv : Int) < (dL s : Int)) = True := dA (by omega)
    simp -implicitDefEqProofs only [h', ↓reduceIte, bM, aA, seval, FJ]
    refine (c1 _).to ?_
    simp -implicitDefEqProofs only [hs1, hs2, ↓reduceIte, aA, seval]
  · rw [fJ h, aE (by decide)]
    have h' : ((lv : Int) < (dL s : Int)) = False := cI (by omega)
    simp -implicitDefEqProofs only [h', ↓reduceIte, bX, aA, seval, FJ]
    refine (c1 _).to ?_
    simp -implicitDefEqProofs only [↓reduceIte, aA, seval]
abbrev O6 := zi tI_3 (zi zI_3 (zi aX (zi tI_9 (zi zI_9 (zi cH (zi tI_63 (zi zI_63 (zi bP (zi bQ (zi bT (zi bS bR)))))))))))
theorem aMV {T : Tm → ByteArray} (t : Tm) (hT : vX T t) (lv : Nat) (hlv : lv ≤ 10) (st : aB) : aD prog 242 [t.av, .int .i64 (lv : Int)] st (fun r st' => r = .str (yF T t lv) ∧ st' = st) := by
 have hb := UD t hT lv hlv
 obtain ⟨c1, c2, c3, c4⟩ := hT
 have hm : maxLen = 9223372036854775807 := by rfl
 have hs1 : (⟨#[40]⟩ : ByteArray).size + (T t).size ≤ maxLen := by show 1 + _ ≤ _; omega
 have hs2 : ((⟨#[40]⟩ : ByteArray) ++ T t).size + (⟨#[41]⟩ : ByteArray).size ≤ maxLen := by rw [dF]; show 1 + _ + 1 ≤ _; omega
 have hi := XQ t
 unfold yF
 refine wF [1000000] 2 func242 ntmps242 rfl rfl ?_
 intro _
 simp -implicitDefEqProofs only [aT, aH, cG, ↓reduceIte, aA, seval, O6]
 refine (hi _).to ?_
 cases hk : C3 t with
 | false =>
  rw [aE (by decide)]
  simp -implicitDefEqProofs only [aT, aH, ↓reduceIte, aA, seval, O6]
  refine (hb _).to ?_
  simp -implicitDefEqProofs only [↓reduceIte, aA, seval]
 | true =>
  rw [aG rfl]
  simp -implicitDefEqProofs only [aT, aH, ↓reduceIte, aA, seval, O6]
  refine (c1 _).to ?_
  simp -implicitDefEqProofs only [↓reduceIte, hs1, hs2, aA, seval]
abbrev aBQ := zi tI_3 (zi zI_3 (zi aX (zi tI_4 (zi zI_4 (zi cD (zi tI_9 (zi zI_9 (zi cH (zi tI_63 (zi zI_63 (zi bP (zi bQ (zi bT (zi bS bR))))))))))))))
theorem a0K {T : Tm → ByteArray} (t : Tm) (hT : vX T t) (lv : Nat) (hlv : lv ≤ 10) (st : aB) : aD prog 244 [t.av, .int .i64 (lv : Int)] st (fun r st' => r = .str (zL T t lv) ∧ st' = st) := by
 have hb := UD t hT lv hlv
 have hbs := NB (T := T) (t := t) lv
 obtain ⟨c1, c2, c3, c4⟩ := hT
 have hm : maxLen = 9223372036854775807 := by rfl
 unfold zL
 generalize tE T t lv = u at *
 have hs1 : (⟨#[40]⟩ : ByteArray).size + u.size ≤ maxLen := by show 1 + _ ≤ _; omega
 have hs2 : ((⟨#[40]⟩ : ByteArray) ++ u).size + (⟨#[41]⟩ : ByteArray).size ≤ maxLen := by rw [dF]; show 1 + _ + 1 ≤ _; omega
 have hi := XQ t
 have hpl := aPU u (by omega)
 refine wF [1000000] 2 func244 ntmps244 rfl rfl ?_
 intro _
 simp -implicitDefEqProofs only [aT, aH, cG, ↓reduceIte, aA, seval, aBQ]
 refine (hb _).to ?_
 simp -implicitDefEqProofs only [aT, aH, ↓reduceIte, aA, seval, aBQ]
 refine (hi _).to ?_
 cases hk : C3 t with
 | true =>
  rw [xS, aG rfl]
  simp -implicitDefEqProofs only [↓reduceIte, hs1, hs2, aA, seval]
 | false =>
  rw [qX]
  simp -implicitDefEqProofs only [↓reduceIte, aA, seval]
  refine (hpl _).to ?_
  cases hq : HK (sb u) with
  | true =>
   rw [aE (by decide)]
   simp -implicitDefEqProofs only [↓reduceIte, aA, seval]
  | false =>
   rw [aG (by decide)]
   simp -implicitDefEqProofs only [↓reduceIte, hs1, hs2, aA, seval]
theorem aA8 {st : aB} {b q : Nat} {l : List AV} {o : AO} (hb : l ≠ [] → st b = none) (h : st q = some o) : aZ st b l q = some o := by
 cases l with
 | nil => exact h
 | cons x l => exact (aB.aM _ _ (by rintro rfl; have := hb (by simp); rw [h] at this; cases this)).trans h
abbrev yC := zi tI_9 (zi zI_9 (zi cH (zi tI_31 (zi zI_31 (zi aN (zi bE (zi bF (zi b9 (zi tI_63 (zi zI_63 (zi bP (zi bQ (zi bT (zi bS bR))))))))))))))
set_option maxHeartbeats 1000000 in
theorem aMG {T : Tm → ByteArray} (n : Nat) (t : Tm) (hn : t.nodes ≤ n + 1) (hws : Ws t) (MJ : t.nodes ≤ 1000) (hT : ∀ x, Ws x → x.nodes < t.nodes → vX T x) (hp : qG t = true) (st : aB) : aD prog 240 [t.av] st (fun r st' => r = .str (DO T (spine n t)) ∧ st' = st) := by
 obtain ⟨q1, q2, q3⟩ := QQ n t hws
 obtain ⟨e1, e2⟩ := aJE n t hn
 have dT := aJA n t
 have hnp := qK (spine n t).2
 have hne : 1 ≤ (spine n t).1.length := by
  cases n with
  | zero => obtain ⟨m, x, y, rfl⟩ := BG hp; simp only [Tm.gP, bG] at hn; have := qK x; omega
  | succ m => unfold spine; rw [aG hp]; simp
 generalize spine n t = p at *
 obtain ⟨its, tl⟩ := p
 simp only at q1 q2 q3 e1 e2 dT hnp hne
 have hTi : ∀ x ∈ its, vX T x := fun x hx => hT x (q1 x hx) (by have := aBJ hx; omega)
 have hTt : vX T tl := hT tl q2 (by omega)
 have qC := aJ0 its hTi (by omega) (by omega)
 have a2I := KJ (T := T) (l := its) fun x hx => (hTi x hx).2.1
 obtain ⟨c1, c2, c3, c4⟩ := hTt
 have hm : maxLen = 9223372036854775807 := by rfl
 have hs1 : (⟨#[91]⟩ : ByteArray).size + (kS T its).size ≤ maxLen := by show 1 + _ ≤ _; omega
 have hs2 : ((⟨#[91]⟩ : ByteArray) ++ kS T its).size + (⟨#[93]⟩ : ByteArray).size ≤ maxLen := by rw [dF]; show 1 + _ + 1 ≤ _; omega
 have hs3 : ((⟨#[91]⟩ : ByteArray) ++ kS T its).size + (⟨#[124]⟩ : ByteArray).size ≤ maxLen := by rw [dF]; show 1 + _ + 1 ≤ _; omega
 have hs4 : (((⟨#[91]⟩ : ByteArray) ++ kS T its) ++ (⟨#[124]⟩ : ByteArray)).size + (T tl).size ≤ maxLen := by rw [dF, dF]; show 1 + _ + 1 + _ ≤ _; omega
 have hs5 : ((((⟨#[91]⟩ : ByteArray) ++ kS T its) ++ (⟨#[124]⟩ : ByteArray)) ++ T tl).size + (⟨#[93]⟩ : ByteArray).size ≤ maxLen := by rw [dF, dF, dF]; show 1 + _ + 1 + _ + 1 ≤ _; omega
 refine aD.pO ?_
 refine wF [1000000, 1] 1 func240 ntmps240 rfl rfl ?_
 intro _
 simp -implicitDefEqProofs only [cG, ↓reduceIte, aA, seval, yC]
 intro b1 hb1
 have hD := fun (o : AO) => (aL.refl st).aC (o := o) hb1
 refine rC (σ := Unit) [1000000, 1] [1, 2] its 4 3 (fun i _ => (its.take i).map Tm.av) (fun _ _ => True) (fun i _ => []) (fun i _ => st.aC b1 (.cells (uV i t).av.cells)) (fun i _ _ e he => by simp only [cU] at he; obtain ⟨x, _, rfl⟩ := he; exact ⟨cG _, aH _⟩) (by decide +kernel) ⟨(), 0, trivial, fun h => absurd rfl h, aO.mk (by simp -implicitDefEqProofs only [jG, kU, aW, ↓reduceIte, aA, seval])⟩ (fun i x s b hx hlt bU hdr hinv hb => ?_) (fun s b hge hinv => ?_)
 case refine_1 =>
  obtain ⟨g1, g2⟩ := dT i x hx
  have hst := aEK i t
  generalize uV i t = u at *
  have hpu := ID u
  rw [g1] at hpu
  obtain ⟨m, y, z, rfl⟩ := BG g1
  rw [CE.1] at g2
  rw [CE.2] at hst
  subst g2
  have hcs : (Tm.mk 3 m ⟨#[46]⟩ [y, z]).av.cells = [.int .i64 3, .int .i64 m, .str ⟨#[46]⟩, .slice [y.av, z.av]] := by rw [aV]; try rfl
  rw [hcs] at hb ⊢
  have hlk : aZ (st.aC b1 (.cells [.int .i64 3, .int .i64 m, .str ⟨#[46]⟩, .slice [y.av, z.av]])) b ((its.take i).map Tm.av) b1 = some (.cells [.int .i64 3, .int .i64 m, .str ⟨#[46]⟩, .slice [y.av, z.av]]) := aA8 hb (aB.aP _ _ _)
  have hi0 := bL (av := Tm.av) (l := [y, z]) (i := 0) aN rfl (aH y)
  have hi1 := bL (av := Tm.av) (l := [y, z]) (i := 1) aN rfl (aH z)
  rw [show ((0 : Nat) : Int) = 0 from rfl] at hi0
  rw [show ((1 : Nat) : Int) = 1 from rfl] at hi1
  have cV : ((its.take i).map Tm.av).length = i := by simp only [aF, d7]; omega
  have htk : (its.take i).map Tm.av ++ [y.av] = (its.take (i + 1)).map Tm.av := by rw [fN, hx]; simp
  rw [hst]
  simp only [aV, bA, aW] at hlk hpu hi0 hi1 hb ⊢
  have hLw : ∀ e ∈ (its.take i).map Tm.av, e.width = 4 := dR _
  generalize (its.take i).map Tm.av = L at *
  simp -implicitDefEqProofs only [↓reduceIte, hlk, aA, seval, yC]
  refine (hpu _).to ?_
  simp -implicitDefEqProofs only [aT, aH, cG, ↓reduceIte, hlk, hi0, aA, seval, yC]
  refine eO aN bE bF rfl rfl (fB (aH _) (bZ _)) (fun e he => hLw e he) hb (by simp only [cV, aS, a7]; omega) (by simp only [cV, aS, a7]; omega) (fun b' hb' => ?_)
  rw [htk] at hb' ⊢
  have aMK := aA8 (l := (its.take (i + 1)).map Tm.av) hb' (aB.aP st b1 (.cells [.int .i64 3, .int .i64 m, .str ⟨#[46]⟩, .slice [y.av, z.av]]))
  have hnb : (its.take (i + 1)).map Tm.av ≠ [] → b1 ≠ b' := fun h => by rintro rfl; have := hb' h; rw [aB.aP] at this; cases this
  have hup := fun o => oJ (st := st.aC b1 (.cells [.int .i64 3, .int .i64 m, .str ⟨#[46]⟩, .slice [y.av, z.av]])) (o := o) hnb
  simp -implicitDefEqProofs only [aK, aT, aH, bZ, bO, ↓reduceIte, aMK, hi1, hup, dE, aA, seval, yC]
  exact ⟨(), b', fun h => by have := hb' h; rw [aB.aM _ _ (dB (hnb h))] at this ⊢; exact this, aO.mk (by simp -implicitDefEqProofs only [↓reduceIte, aA, seval])⟩
 rw [eS, ← e1]
 have hpt := ID tl
 rw [e2] at hpt
 have hnt := aSH tl
 simp -implicitDefEqProofs only [iP, E9, lI, aW, bO, d9 (bO _), d8 (aT _), ↓reduceIte, aA, seval, yC]
 refine (hpt _).to ?_
 simp -implicitDefEqProofs only [bO, d9 (bO _), d8 (aT _), ↓reduceIte, aA, seval, yC]
 refine (hnt _).to ?_
 unfold DO
 cases hnk : IZ tl with
 | true =>
  rw [aG rfl]
  simp -implicitDefEqProofs only [↓reduceIte, aA, seval]
  refine (qC _).to ?_
  simp -implicitDefEqProofs only [↓reduceIte, hs1, hs2, aA, seval]
  exact hD _
 | false =>
  rw [aE (by decide)]
  simp -implicitDefEqProofs only [↓reduceIte, aA, seval]
  refine wP [(0, 1), (1, 2), (2, 1), (3, 1), (4, 2), (5, 2), (6, 1), (7, 1), (8, 1)] [0, 1, 2, 3, 4, 5, 6, 7, 8] mixed ?_
  simp -implicitDefEqProofs only [↓reduceIte, aA, seval]
  refine jC (qC _) ?_
  simp -implicitDefEqProofs only [bO, d9 (bO _), d8 (aT _), ↓reduceIte, hs1, hs3, aA, seval, yC]
  refine jC (c1 _) ?_
  simp -implicitDefEqProofs only [↓reduceIte, hs4, hs5, aA, seval]
  exact hD _
abbrev rU := zi tI_3 (zi zI_3 (zi aX (zi tI_9 (zi zI_9 (zi cH (zi tI_31 (zi zI_31 (zi aN (zi bE (zi bF (zi b9 (zi tI_63 (zi zI_63 (zi bP (zi bQ (zi bT (zi bS bR)))))))))))))))))
set_option maxHeartbeats 1000000 in
theorem a0A : ∀ (n : Nat) (t : Tm) (st : aB), Ws t → t.nodes ≤ n → t.nodes ≤ 1000 → aD prog 226 [t.av] st (fun r st' => r = .str (tx n t) ∧ st' = st) := by
 intro n
 induction n with
 | zero => intro t st _ h; have := qK t; omega
 | succ n IH =>
 intro t st hws hn MJ
 have hsz := J9 (n + 1) t hws
 have hT : ∀ x, Ws x → x.nodes < t.nodes → vX (tx n) x := fun x hx hlt => ⟨fun st => IH x st hx (by omega) (by omega), J9 n x hx, aX7 hx (by have := qK x; omega), by omega⟩
 have hpt := ID t
 have hit := aB9 t
 have aTQ := aMG (T := tx n) n t hn hws MJ hT
 have hm : maxLen = 9223372036854775807 := by rfl
 unfold tx at hsz ⊢
 refine wF [1000000] 1 func226 ntmps226 rfl rfl ?_
 intro _
 simp -implicitDefEqProofs only [aT, aH, cG, ↓reduceIte, aA, seval, rU]
 refine (hpt _).to ?_
 cases hp : qG t with
 | true =>
  rw [aG rfl]
  simp -implicitDefEqProofs only [aT, aH, ↓reduceIte, aA, seval, rU]
  refine (aTQ hp _).to ?_
  simp -implicitDefEqProofs only [↓reduceIte, aA, seval]
 | false =>
  rw [hp] at hsz
  rw [aE (by decide)] at hsz ⊢
  simp -implicitDefEqProofs only [aT, aH, ↓reduceIte, aA, seval, rU]
  refine (hit _).to ?_
  cases hi : t6 t with
  | true =>
   rw [hi] at hsz
   rw [aG rfl] at hsz ⊢
   obtain ⟨m, s, x, y, rfl, hs⟩ := QC hi
   have hk := hws.own.2
   have hxl : x.nodes < (Tm.mk 3 m s [x, y]).nodes := by simp only [Tm.gP, bG]; have := qK y; omega
   have hyl : y.nodes < (Tm.mk 3 m s [x, y]).nodes := by simp only [Tm.gP, bG]; have := qK x; omega
   have hx := hT x (hk x (by simp)) hxl
   have hy := hT y (hk y (by simp)) hyl
   rw [CE.1, CE.2, show (Tm.mk 3 m s [x, y]).s = s from rfl] at hsz ⊢
   have h6 : s.size ≤ 6 := hws.size.1
   have hl3 : dL s ≤ 3 := by unfold dL; cases (decide (s = ⟨#[61]⟩) || decide (s = ⟨#[92, 61]⟩) || decide (s = ⟨#[61, 61]⟩) || decide (s = ⟨#[60]⟩) || decide (s = ⟨#[62]⟩) || decide (s = ⟨#[61, 60]⟩) || decide (s = ⟨#[62, 61]⟩) || decide (s = ⟨#[61, 58, 61]⟩) || decide (s = ⟨#[105, 115]⟩)) <;> cases (decide (s = ⟨#[43]⟩) || decide (s = ⟨#[45]⟩)) <;> cases (decide (s = ⟨#[42]⟩) || decide (s = ⟨#[47, 47]⟩) || decide (s = ⟨#[109, 111, 100]⟩)) <;> decide
   have hll : lvl (dL s) ≤ 10 := by unfold lvl; split <;> omega
   have cl := aMV x hx (lvl (dL s)) hll
   have cr := a0K y hy (dL s - 1) (by omega)
   have csp := aNC s (by omega)
   have clv := uL s
   rw [dF, dF] at hsz
   generalize hA : yF (tx n) x (lvl (dL s)) = A at *
   generalize hB : zL (tx n) y (dL s - 1) = B at *
   generalize p8 s = C at *
   have hs1 : A.size + C.size ≤ maxLen := by omega
   have hs2 : (A ++ C).size + B.size ≤ maxLen := by rw [dF]; omega
   have hi0 := bL (av := Tm.av) (l := [x, y]) (i := 0) aN rfl (aH x)
   have hi1 := bL (av := Tm.av) (l := [x, y]) (i := 1) aN rfl (aH y)
   rw [show ((0 : Nat) : Int) = 0 from rfl] at hi0
   rw [show ((1 : Nat) : Int) = 1 from rfl] at hi1
   simp only [aV, bA, aW] at hi0 hi1 ⊢
   generalize hL : dL s = L at *
   obtain ⟨L1, hL1⟩ : ∃ L1, L1 = L - 1 := ⟨_, rfl⟩
   have hw := nB (x := (L : Int) - 1) (m := L1) (by omega) (by omega)
   rw [← hL1] at cr
   by_cases h3 : L = 3
   case' pos =>
    have h3' : ((L : Int) = 3) = True := dA (by omega)
    have hlv : lvl L = 2 := by unfold lvl; rw [aG h3]
   case' neg =>
    have h3' : ((L : Int) = 3) = False := cI (by omega)
    have hlv : lvl L = L := by unfold lvl; rw [aE h3]
   all_goals
    rw [hlv] at cl
    simp -implicitDefEqProofs only [↓reduceIte, aA, seval, rU]
    refine (clv _).to ?_
    simp -implicitDefEqProofs only [↓reduceIte, h3', bM, bX, aA, seval]
    refine wP [(0, 1), (4, 1), (6, 1), (10, 1), (14, 1), (15, 1), (1, 2), (2, 1), (3, 2), (5, 2), (7, 2), (8, 2), (9, 1), (11, 2), (12, 1), (13, 2), (16, 2), (17, 1), (18, 1)] [0, 4, 6, 10, 14, 15, 1, 2, 3, 5, 7, 8, 9, 11, 12, 13, 16, 17, 18] mixed ?_
    simp -implicitDefEqProofs only [aT, aH, ↓reduceIte, hi0, hw, aA, seval, rU]
    refine jC (cl _) ?_
    simp -implicitDefEqProofs only [↓reduceIte, aA, seval, rU]
    refine jC (csp _) ?_
    simp -implicitDefEqProofs only [aT, aH, ↓reduceIte, hi1, hs1, aA, seval, rU]
    refine jC (cr _) ?_
    simp -implicitDefEqProofs only [↓reduceIte, hs2, aA, seval]
  | false =>
   rw [hi] at hsz
   rw [aE (by decide)] at hsz ⊢
   cases ha : PW t with
   | true =>
    rw [ha] at hsz
    rw [aG rfl] at hsz ⊢
    obtain ⟨k, m, s, ts⟩ := t
    rw [QD, cM, bJ, bJ] at ha
    obtain ⟨rfl, h0⟩ := ha
    have h0' : ((0 : Int) < (ts.length : Int)) = True := dA (by omega)
    simp only [Tm.s, Tm.ts] at hsz ⊢
    simp only [Tm.gP] at hn MJ hT hsz
    have hk := hws.own.2
    have h4 : ts.length ≤ 4 := by rcases DV hws.own.1 with h | h | h <;> omega
    have qC := aJ0 (T := tx n) ts (fun x hx => hT x (hk x hx) (by have := aBJ hx; omega)) (by omega) (by omega)
    rw [dF, dF, dF] at hsz
    generalize kS (tx n) ts = A at *
    have a02 : s.size + A.size ≤ 100000 := by omega
    have hs1 : s.size + (⟨#[40]⟩ : ByteArray).size ≤ maxLen := by show _ + 1 ≤ _; omega
    have hs2 : (s ++ (⟨#[40]⟩ : ByteArray)).size + A.size ≤ maxLen := by rw [dF]; show _ + 1 + _ ≤ _; omega
    have hs3 : ((s ++ (⟨#[40]⟩ : ByteArray)) ++ A).size + (⟨#[41]⟩ : ByteArray).size ≤ maxLen := by rw [dF, dF]; show _ + 1 + _ + 1 ≤ _; omega
    simp only [aV]
    simp -implicitDefEqProofs only [↓reduceIte, h0', aF, bM, aA, seval, rU]
    refine wP [(0, 1), (3, 1), (1, 2), (2, 1), (4, 2), (5, 2), (6, 1), (7, 1), (8, 1)] [0, 3, 1, 2, 4, 5, 6, 7, 8] mixed ?_
    simp -implicitDefEqProofs only [↓reduceIte, hs1, aA, seval, rU]
    refine jC (qC _) ?_
    simp -implicitDefEqProofs only [↓reduceIte, hs2, hs3, aA, seval]
   | false =>
    rw [aE (by decide)]
    have hl := aZU t hws (fun h => by
     obtain ⟨k, m, s, ts⟩ := t
     rw [QD, show k = 3 from h] at ha
     simp only [bM, eT, dH] at ha
     exact List.length_eq_zero_iff.1 (by show ts.length = 0; omega))
    generalize BD t = A at *
    obtain ⟨k, m, s, ts⟩ := t
    rw [QD] at ha
    simp only [aV] at hl ⊢
    by_cases hk : k = 3
    case pos =>
     rw [hk] at ha hl ⊢
     simp only [bM, eT, dH] at ha
     have h0' : ((0 : Int) < (ts.length : Int)) = False := cI (by omega)
     simp -implicitDefEqProofs only [↓reduceIte, h0', aF, bM, bX, aA, seval, rU]
     refine (hl _).to ?_
     simp -implicitDefEqProofs only [↓reduceIte, aA, seval]
    case neg =>
     have hk' := cI hk
     simp -implicitDefEqProofs only [↓reduceIte, hk', bX, aA, seval, rU]
     refine (hl _).to ?_
     simp -implicitDefEqProofs only [↓reduceIte, aA, seval]
end Go.AW
namespace Go.AW
def pB (t : Tm) : ByteArray := tx 130 t
def tN (T : Tm → ByteArray) (h : ByteArray) : List Tm → ByteArray
 | [] => h
 | x :: xs => xs.foldl (fun o y => (o ++ ⟨#[44]⟩) ++ T y) ((h ++ ⟨#[58, 45]⟩) ++ T x)
def OV (c : Cl) : ByteArray := tN pB (pB c.1) c.2 ++ ⟨#[46]⟩
def fmtC (c : Cl) : ByteArray := if kV c then OV c else ⟨#[]⟩
def FL (l : List UInt8) : kK := fun a => rd l (4 * l.length + 4) 30 a 3
def rL (l : List UInt8) : Nat → Nat → List Tm → Option (List Tm × Nat)
 | 0, _, _ => none
 | m + 1, a, acc => match FL l a with
  | none => none
  | some (t, e) => if cO l e 44 then rL l m (e + 1) (acc ++ [t]) else some (acc ++ [t], e)
def rE (l : List UInt8) : Option (Cl × Nat) :=
 match FL l 0 with
 | none => none
 | some (h, e) => if (cO l e 58 && cO l (e + 1) 45) = true then match rL l 7 (e + 2) [] with
  | none => none
  | some (b, e2) => some ((h, b), e2)
  else some ((h, []), e)
def nT (l : List UInt8) : Option Cl := match rE l with
 | none => none
 | some (c, e) => if l.length ≤ 1000 ∧ e + 1 = l.length ∧ cO l e 46 = true ∧ sb (fmtC c) = l then some c else none
def nC (c : Nat) : List UInt8 → List UInt8 → List (List UInt8)
 | [], acc => [acc]
 | x :: l, acc => if x.toNat = c then acc :: nC c l [] else nC c l (acc ++ [x])
def zH : List (List UInt8) → List Cl → Option (List Cl)
 | [], acc => some acc
 | l :: ls, acc => match nT l with
  | none => none
  | some c => zH ls (acc ++ [c])
def yS (l : List UInt8) : Option (List Cl) :=
 let ls := nC 10 l []
 if 21 < ls.length ∨ ls.getLast? ≠ some [] then none else zH ls.dropLast []
def mP (l : List UInt8) : Option (List Tm) := match rL l 7 0 [] with
 | none => none
 | some (g, e) => if l.length ≤ 1000 ∧ e = l.length ∧ lW g = true then some g else none
theorem aU7 {T : Tm → ByteArray} {h : ByteArray} {l : List Tm} {i : Nat} {x : Tm} (hx : l[i]? = some x) : tN T h (l.take (i + 1)) = (if i = 0 then tN T h (l.take i) ++ ⟨#[58, 45]⟩ else tN T h (l.take i) ++ ⟨#[44]⟩) ++ T x := by
 rw [fN, hx]
 cases l with
 | nil => simp at hx
 | cons y l =>
  cases i with
  | zero => simp at hx; subst hx; rfl
  | succ i =>
   rw [aE (by omega), vN]
   simp only [tN, G1, fF, List.foldl_append, z9, List.foldl_nil]
theorem TH {T : Tm → ByteArray} {h : ByteArray} {l : List Tm} {m : Nat} (hT : ∀ x ∈ l, (T x).size ≤ m) : (tN T h l).size ≤ h.size + l.length * (m + 2) := by
 have hg : ∀ (xs : List Tm) (o : ByteArray), (∀ x ∈ xs, (T x).size ≤ m) → (xs.foldl (fun o y => (o ++ ⟨#[44]⟩) ++ T y) o).size ≤ o.size + xs.length * (m + 2) := by
  intro xs
  induction xs with
  | nil => intro o _; simp
  | cons x xs ih =>
   intro o hx
   refine nF (ih _ fun y hy => hx y (by simp [hy])) ?_
   rw [dF, dF]
   have := hx x (by simp)
   simp only [aS, qW]
   show o.size + 1 + _ + _ ≤ _
   omega
 cases l with
 | nil => simp [tN]
 | cons x l =>
  refine nF (hg l _ fun y hy => hT y (by simp [hy])) ?_
  rw [dF, dF]
  have := hT x (by simp)
  simp only [aS, qW]
  show h.size + 2 + _ + _ ≤ _
  omega
theorem aAA {t : Tm} (h : t.valid = true) : Ws t ∧ t.nodes ≤ 120 := by
 simp only [Tm.valid, cM, bJ] at h
 exact ⟨⟨_, h.1⟩, h.2⟩
theorem aTM {t : Tm} (h : t.goal = true) : t.valid = true := by
 obtain ⟨k, n, s, ts⟩ := t
 simp only [Tm.goal, cM] at h
 exact h.1
theorem aRV {c : Cl} (h : kV c = true) : (Ws c.1 ∧ c.1.nodes ≤ 120) ∧ c.2.length ≤ 6 ∧ ∀ x ∈ c.2, Ws x ∧ x.nodes ≤ 120 := by
 simp only [kV, cM, bJ, eW] at h
 exact ⟨aAA h.1.1, h.2.1, fun x hx => aAA (aTM (h.2.2 x hx))⟩
theorem KN {l : List UInt8} (hl : l.length ≤ 1000) : ∀ (m a : Nat) (acc ts : List Tm) (e : Nat), a ≤ l.length → (∀ x ∈ acc, Dn x) → rL l m a acc = some (ts, e) → a < e ∧ e ≤ l.length ∧ (∀ x ∈ ts, Dn x) ∧ ts.length ≤ acc.length + m := by
 intro m
 induction m with
 | zero => intro a acc ts e _ _ h; cases h
 | succ m ih =>
  intro a acc ts e ha nM h
  unfold rL at h
  split at h
  · cases h
  rename_i t e1 h1
  obtain ⟨h2, h3, h4⟩ := zU hl _ _ _ a t e1 ha h1
  have DJ : ∀ x ∈ acc ++ [t], Dn x := by intro x hx; rw [fS] at hx; rcases hx with hx | hx; exact nM x hx; rw [K7] at hx; subst hx; exact h4
  split at h
  · rename_i h5
    have h6 := nP h5
    obtain ⟨g1, g2, g3, g4⟩ := ih (e1 + 1) _ ts e (by omega) DJ h
    rw [dQ, RM] at g4
    exact ⟨by omega, g2, g3, by omega⟩
  · cases h
    exact ⟨h2, h3, DJ, by rw [dQ, RM]; omega⟩
abbrev t8 (c : Cl) : Prop := Dn c.1 ∧ c.2.length ≤ 7 ∧ ∀ x ∈ c.2, Dn x
theorem KD {l : List UInt8} (hl : l.length ≤ 1000) {c : Cl} {e : Nat} (h : rE l = some (c, e)) : 0 < e ∧ e ≤ l.length ∧ t8 c := by
 unfold rE at h
 split at h
 · cases h
 rename_i t e1 h1
 obtain ⟨h2, h3, h4⟩ := zU hl _ _ _ 0 t e1 (jE _) h1
 split at h
 · rename_i h5
   rw [cM] at h5
   have h6 := nP h5.2
   split at h
   · cases h
   rename_i b e2 h7
   obtain ⟨g1, g2, g3, g4⟩ := KN hl _ _ _ _ _ (by omega) (by simp) h7
   cases h
   exact ⟨by omega, g2, h4, by rw [a7] at g4; show b.length ≤ 7; omega, g3⟩
 · cases h
   exact ⟨h2, h3, h4, by show 0 ≤ 7; omega, by intro x hx; cases hx⟩
theorem aB5 {l : List UInt8} {c : Cl} (h : nT l = some c) : t8 c ∧ kV c = true := by
 unfold nT at h
 split at h
 · cases h
 rename_i c' e h1
 split at h
 · rename_i h2
   cases h
   refine ⟨(KD h2.1 h1).2.2, ?_⟩
   have h3 := h2.2.2.2
   unfold fmtC at h3
   split at h3
   · assumption
   · have := n6 List.length h3
     simp at this
     omega
 · cases h
theorem aFY (c : Nat) : ∀ (l acc : List UInt8), nC c l acc ≠ []
 | [], acc => by simp [nC]
 | x :: l, acc => by unfold nC; split <;> simp [aFY c l]
theorem PY (c : Nat) : ∀ (l acc : List UInt8), (nC c l acc).length ≤ l.length + 1
 | [], acc => by simp [nC]
 | x :: l, acc => by unfold nC; split; have := PY c l []; simp only [aS]; omega; have := PY c l (acc ++ [x]); simp only [aS]; omega
end Go.AW
namespace Go.AW
open Go.Proofs.Tryz
theorem WV {t : Tm} (h : Ws t ∧ t.nodes ≤ 120) (st : aB) : aD prog 226 [t.av] st (fun r st' => r = .str (pB t) ∧ st' = st) := a0A 130 t st h.1 (by omega) (by omega)
theorem HN {t : Tm} (h : Ws t ∧ t.nodes ≤ 120) : (pB t).size ≤ 3840 := by have := J9 130 t h.1; unfold pB; omega
abbrev HR := zi tI_3 (zi zI_3 (zi aX (zi tI_9 (zi zI_9 (zi cH (zi tI_31 (zi zI_31 (zi aN (zi bE (zi bF (zi b9 (zi tI_63 (zi zI_63 (zi bP (zi bQ (zi bT (zi bS (zi bR (zi tI_76 (zi zI_76 (zi lO (zi lU lM))))))))))))))))))))))
set_option maxHeartbeats 1000000 in
theorem aQU (c : Cl) (hc : (Ws c.1 ∧ c.1.nodes ≤ 120) ∧ c.2.length ≤ 6 ∧ ∀ x ∈ c.2, Ws x ∧ x.nodes ≤ 120) (st : aB) : aD prog 206 [bY c] st (fun r st' => r = .str (OV c) ∧ st' = st) := by
 obtain ⟨⟨k, n, s, ks⟩, ts⟩ := c
 obtain ⟨hh, hl, hb⟩ := hc
 simp only at hh hl hb
 have hhd := fun st => WV hh st
 have hhs := HN hh
 unfold OV
 simp only
 generalize pB (.mk k n s ks) = H at *
 simp only [aV] at hhd
 simp only [gG]
 have hm : maxLen = 9223372036854775807 := by rfl
 refine wF [1000000] 1 func206 ntmps206 rfl rfl ?_
 intro _
 simp -implicitDefEqProofs only [aA, seval, HR]
 refine (hhd _).to ?_
 simp -implicitDefEqProofs only [aA, seval]
 refine eL (σ := Unit) [1000000] [1, 2] ts (fun i _ => True) (fun i _ => [(3, .str (tN pB H (ts.take i))), (4, .int .i64 i)]) (fun _ _ => st) (by decide +kernel) ⟨(), trivial, aO.mk (by simp -implicitDefEqProofs only [kU, aA, ↓aU, seval] <;> rfl)⟩ (fun i x _ hx hlt bU hdr hinv => ?_) (fun _ hge hinv => ?_)
 case refine_2 =>
  rw [eS]
  have hsz := TH (T := pB) (h := H) (l := ts) (m := 3840) fun x hx => HN (hb x hx)
  have hs : (tN pB H ts).size + (⟨#[46]⟩ : ByteArray).size ≤ maxLen := by
   have : ts.length * (3840 + 2) ≤ 6 * 3842 := sN _ hl
   show _ + 1 ≤ _; omega
  simp -implicitDefEqProofs only [aF, hge, hs, ↓reduceIte, aA, seval, HR]
 have hxm := cW hx
 have c1 := fun st => WV (hb x hxm) st
 have c2 := HN (hb x hxm)
 have hw := bK (n := (i : Int) + 1)
 have hat := bL (av := Tm.av) aN hx (aH x)
 have iJ := aU7 (T := pB) (h := H) hx
 have hsz := TH (T := pB) (h := H) (l := ts.take i) (m := 3840) fun y hy => HN (hb y (lY hy))
 have hln : (ts.take i).length * (3840 + 2) ≤ 6 * 3842 := sN _ (by rw [d7]; omega)
 generalize tN pB H (ts.take i) = B at *
 generalize pB x = X at *
 have hs1 : B.size + (⟨#[44]⟩ : ByteArray).size ≤ maxLen := by show _ + 1 ≤ _; omega
 have hs2 : (B ++ (⟨#[44]⟩ : ByteArray)).size + X.size ≤ maxLen := by rw [dF]; show _ + 1 + _ ≤ _; omega
 have hs3 : B.size + (⟨#[58, 45]⟩ : ByteArray).size ≤ maxLen := by show _ + 2 ≤ _; omega
 have hs4 : (B ++ (⟨#[58, 45]⟩ : ByteArray)).size + X.size ≤ maxLen := by rw [dF]; show _ + 2 + _ ≤ _; omega
 by_cases h0 : i = 0
 · rw [aG h0] at iJ
   have h0' : ((i : Int) = 0) = True := dA (by omega)
   simp -implicitDefEqProofs only [aF, hat, aT, aH, bU, h0', hs3, ↓reduceIte, bM, aA, seval, HR]
   refine (c1 _).to ?_
   simp -implicitDefEqProofs only [hs4, ↓reduceIte, aA, seval]
   exact ⟨(), aO.mk (by simp -implicitDefEqProofs only [hw, iJ, ↓reduceIte, aA, seval])⟩
 · rw [aE h0] at iJ
   have h0' : ((i : Int) = 0) = False := cI (by omega)
   simp -implicitDefEqProofs only [aF, hat, aT, aH, bU, h0', hs1, ↓reduceIte, bM, bX, aA, seval, HR]
   refine (c1 _).to ?_
   simp -implicitDefEqProofs only [hs2, ↓reduceIte, aA, seval]
   exact ⟨(), aO.mk (by simp -implicitDefEqProofs only [hw, iJ, ↓reduceIte, aA, seval])⟩
abbrev QZ := zi tI_4 (zi zI_4 (zi cD (zi tI_9 (zi zI_9 (zi cH (zi tI_76 (zi zI_76 (zi lO (zi lU lM)))))))))
theorem NT (c : Cl) (st : aB) : aD prog 167 [bY c] st (fun r st' => r = .str (fmtC c) ∧ st' = st) := by
 have hv := RN c
 unfold fmtC
 cases h : kV c with
 | true =>
  rw [h] at hv
  have ht := aQU c (aRV h)
  rw [aG rfl]
  obtain ⟨⟨k, n, s, ks⟩, ts⟩ := c
  simp only [gG] at hv ht ⊢
  refine wF [1000000] 1 func167 ntmps167 rfl rfl ?_
  intro _
  simp -implicitDefEqProofs only [aA, seval, QZ]
  refine (hv _).to ?_
  simp -implicitDefEqProofs only [aA, seval, QZ]
  refine (ht _).to ?_
  simp -implicitDefEqProofs only [aA, seval]
 | false =>
  rw [h] at hv
  rw [aE (by decide)]
  obtain ⟨⟨k, n, s, ks⟩, ts⟩ := c
  simp only [gG] at hv ⊢
  refine wF [1000000] 1 func167 ntmps167 rfl rfl ?_
  intro _
  simp -implicitDefEqProofs only [aA, seval, QZ]
  refine (hv _).to ?_
  simp -implicitDefEqProofs only [aA, seval]
theorem SV {s : ByteArray} (hs : s.size ≤ 1000) (a : Nat) (ha : a ≤ s.size) (st : aB) : aD prog 165 [.str s, .int .i64 (a : Int), .int .i64 30, .int .i64 3] st (fun r st' => lK (FL (sb s) a) r ∧ st' = st) :=
 aMR hs (4 * (sb s).length + 4) 30 a 3 st ha (by omega) (by omega) (by rw [cJ]; omega)
def rF (o : Option (List Tm × Nat)) (r : AV) : Prop := match o with | some (ts, e) => r = .tup [.slice (ts.map Tm.av), .int .i64 (e : Int)] | none => r = .tup [.slice [], .int .i64 (-1)]
abbrev QM := zi tI_3 (zi zI_3 (zi aX (zi tI_4 (zi zI_4 (zi cD (zi tI_5 (zi zI_5 (zi kI (zi tI_8 (zi zI_8 (zi wC (zi xI (zi wD (zi xN (zi w5 (zi tI_9 (zi zI_9 (zi cH (zi tI_31 (zi zI_31 (zi aN (zi bE (zi bF (zi b9 (zi tI_44 (zi zI_44 (zi aI3 (zi VY (zi aEF (zi aIL (zi aGH (zi aG0 (zi aBO (zi tI_63 (zi zI_63 (zi bP (zi bQ (zi bT (zi bS bR)))))))))))))))))))))))))))))))))))))))
set_option maxHeartbeats 1000000 in
theorem UH {s : ByteArray} (hs : s.size ≤ 1000) (a : Nat) (ha : a ≤ s.size) (st : aB) : aD prog 126 [.str s, .int .i64 (a : Int)] st (fun r st' => rF (rL (sb s) 7 a []) r ∧ st' = st) := by
 generalize hT : rL (sb s) 7 a [] = T
 refine aD.drop (Q := rF T) (aD.fin ?_)
 refine wF [1000000] 2 func126 ntmps126 rfl rfl ?_
 intro _
 simp -implicitDefEqProofs only [aA, seval, QM]
 refine gZ (σ := Nat × List Tm × Nat × Nat) [1000000] [0] (fun x => rL (sb s) x.2.2.1 x.1 x.2.1 = T ∧ x.1 ≤ s.size ∧ x.2.1.length + x.2.2.1 = 7 ∧ (x.2.1.map Tm.av ≠ [] → st x.2.2.2 = none)) (fun x => [(1, .int .i64 (x.1 : Int)), (4, .fslice []), (5, .int .i64 0), (6, a9 4 x.2.2.2 (x.2.1.map Tm.av))]) (fun x => aZ st x.2.2.2 (x.2.1.map Tm.av)) (fun x => x.2.2.1) (by decide +kernel) ⟨(a, [], 7, 0), ⟨hT, ha, rfl, by simp⟩, aO.mk (by simp -implicitDefEqProofs only [aW, jG, aA, seval])⟩ ?_
 rintro ⟨i, acc, m, b⟩ ⟨ht, hi, hlen, hb⟩
 simp only at ht hi hlen hb ⊢
 have fin : ∀ (l : List Tm) (b' : Nat) (r' : AV), (l.map Tm.av ≠ [] → st b' = none) → rF T (r'.fin b' (l.map Tm.av)) → ∃ b2 l2 s0, aZ st b' (l.map Tm.av) = aZ s0 b2 l2 ∧ (l2 ≠ [] → s0 b2 = none) ∧ (∀ e ∈ l2, e.cB = false) ∧ gX l2 ∧ aL s0 st ∧ rF T (r'.fin b2 l2) := fun l b' r' h1 h2 => ⟨b', _, st, rfl, h1, iB _, ⟨4, dR _⟩, aL.refl _, h2⟩
 have hTn : T = none → ∀ (b' : Nat) (l : List AV), rF T ((AV.tup [.fslice [], .int .i64 (-1)]).fin b' l) := by
  rintro rfl b' l
  simp only [rF, jL, eC, oC, bA, aW]
 have hln : (acc.map Tm.av).length = acc.length := aF _
 have hal := sW (P := prog) (b := b) (w := 4) (l := acc.map Tm.av) b9
 rw [hln] at hal
 by_cases h6 : acc.length ≤ 6
 case neg =>
  have h6' : ((acc.length : Int) ≤ 6) = False := cI (by omega)
  obtain rfl : m = 0 := by omega
  simp -implicitDefEqProofs only [hal, h6', bX, aA, seval]
  exact fin _ _ _ hb (hTn ht.symm _ _)
 have h6' : ((acc.length : Int) ≤ 6) = True := dA (by omega)
 obtain ⟨m, rfl⟩ : ∃ m', m = m' + 1 := ⟨m - 1, by omega⟩
 simp only [rL] at ht
 simp -implicitDefEqProofs only [hal, h6', bM, aA, seval]
 refine (SV hs i hi _).mono ?_
 rintro r _ ⟨hr, rfl⟩
 cases hRi : FL (sb s) i with
 | none =>
  rw [hRi] at ht hr
  obtain ⟨k, hk, rfl⟩ := hr
  have hk0 : ((-1 - (k : Int)) < 0) = True := dA (by omega)
  simp -implicitDefEqProofs only [aH, bZ, cG, hk0, kN, bM, aA, ↓aU, seval, QM]
  exact fin _ _ _ hb (hTn ht.symm _ _)
 | some p =>
  obtain ⟨t, e⟩ := p
  rw [hRi] at ht hr
  simp only at ht
  obtain ⟨g1, g2, g3⟩ := zU (by rw [cJ]; exact hs) _ _ _ i t e (by rw [cJ]; exact hi) hRi
  rw [cJ] at g2
  simp only [lK] at hr
  subst hr
  have he0 : ((e : Int) < 0) = False := cI (by omega)
  simp -implicitDefEqProofs only [aT, aH, bZ, cG, he0, n0, sP, bX, aA, ↓aU, seval, QM]
  refine eO aN bE bF rfl rfl (fB (aH _) (bZ _)) (dR _) hb (by simp only [aF, aS, a7]; omega) (by simp only [aF, aS, a7]; omega) (fun b' hb' => ?_)
  rw [show acc.map Tm.av ++ [t.av] = (acc ++ [t]).map Tm.av by simp] at hb' ⊢
  have hw1 := bK (n := (e : Int) + 1)
  simp -implicitDefEqProofs only [aA, seval]
  refine (kE s e 44 _).to ?_
  cases h3 : cO (sb s) e 44 with
  | true =>
   have h4 := nP h3
   rw [cJ] at h4
   rw [h3, aG rfl] at ht
   simp -implicitDefEqProofs only [hw1, aA, seval]
   refine ⟨(e + 1, acc ++ [t], m, b'), by simp only; omega, ⟨ht, by simp only; omega, by simp only [dQ, aS, a7]; omega, hb'⟩, aO.mk (by simp -implicitDefEqProofs only [aA, seval] <;> rfl)⟩
  | false =>
   rw [h3, aE (by decide)] at ht
   simp -implicitDefEqProofs only [mZ, n0, sP, aA, seval]
   refine fin _ _ _ hb' ?_
   subst ht
   simp only [rF, jL, eC, lI, bA, aW]
abbrev cl0 : Cl := (ET, [])
def y6 (o : Option Cl) : AV := match o with | some c => .tup [bY c, .bool true] | none => .tup [bY cl0, .bool false]
theorem qB : (AV.tup [.agg [.int .i64 0, .int .i64 0, .str ⟨#[]⟩, .fslice [], .fslice []], .bool false]).soft = y6 none := by simp only [y6, gG, kA, kF, jP, rO, kW, mG, bA, aW]
theorem PV (c : Cl) : (AV.tup [bY c, .bool true]).soft = y6 (some c) := by
 obtain ⟨⟨k, n, s, ks⟩, ts⟩ := c
 simp only [y6, gG, kA, kF, jP, rO, kW, p9, bA, aW]
theorem uH {l : List UInt8} {c : Cl} {e : Nat} (h : rE l = some (c, e)) (h1 : ¬(l.length ≤ 1000 ∧ e + 1 = l.length ∧ cO l e 46 = true ∧ sb (fmtC c) = l)) : nT l = none := by
 unfold nT
 rw [h]
 simp only
 rw [aE h1]
theorem MS {l : List UInt8} {c : Cl} {e : Nat} (h : rE l = some (c, e)) (h1 : l.length ≤ 1000 ∧ e + 1 = l.length ∧ cO l e 46 = true ∧ sb (fmtC c) = l) : nT l = some c := by
 unfold nT
 rw [h]
 simp only
 rw [aG h1]
theorem M8 {a b : ByteArray} (h : sb a = sb b) : a = b := by rw [← SG a, ← SG b, h]
abbrev iX := zi tI_3 (zi zI_3 (zi aX (zi tI_4 (zi zI_4 (zi cD (zi tI_5 (zi zI_5 (zi kI (zi tI_8 (zi zI_8 (zi wC (zi xI (zi wD (zi xN (zi w5 (zi tI_9 (zi zI_9 (zi cH (zi tI_31 (zi zI_31 (zi aN (zi bE (zi bF (zi b9 (zi tI_63 (zi zI_63 (zi bP (zi bQ (zi bT (zi bS (zi bR (zi tI_76 (zi zI_76 (zi lO (zi lU lM)))))))))))))))))))))))))))))))))))
set_option maxHeartbeats 2000000 in
theorem aRB (s : ByteArray) (st : aB) : aD prog 124 [.str s] st (fun r st' => r = y6 (nT (sb s)) ∧ st' = st) := by
 refine aD.done ?_
 refine wF [1000000, 6] 1 func124 ntmps124 rfl rfl ?_
 intro _
 simp -implicitDefEqProofs only [aA, seval, iX]
 intro b2 hb2
 have hD := fun (o : AO) => (aL.refl st).aC (o := o) hb2
 by_cases hs : s.size ≤ 1000
 case neg =>
  have hs' : ((1000 : Int) < (s.size : Int)) = True := dA (by omega)
  have hP : nT (sb s) = none := by
   unfold nT
   split
   · rfl
   · rw [aE fun h => hs (by rw [← cJ]; exact h.1)]
  rw [hP]
  simp -implicitDefEqProofs only [aK, hs', bM, aA, seval, iX]
  exact ⟨qB, hD _⟩
 have hs' : ((1000 : Int) < (s.size : Int)) = False := cI (by omega)
 have h0 := fun st => SV hs 0 (jE _) st
 rw [show ((0 : Nat) : Int) = 0 from rfl] at h0
 simp -implicitDefEqProofs only [hs', bX, aA, seval]
 refine (h0 _).mono ?_
 rintro r _ ⟨hr, rfl⟩
 cases hRi : FL (sb s) 0 with
 | none =>
  have hP : nT (sb s) = none := by unfold nT rE; rw [hRi]
  rw [hP]
  rw [hRi] at hr
  obtain ⟨k, hk, rfl⟩ := hr
  have hk0 : ((-1 - (k : Int)) < 0) = True := dA (by omega)
  simp -implicitDefEqProofs only [aK, aH, bZ, cG, hk0, kN, bM, aA, ↓aU, seval, iX]
  exact ⟨qB, hD _⟩
 | some p =>
  obtain ⟨⟨hk, hn, hsn, hts⟩, e⟩ := p
  rw [hRi] at hr
  simp only [lK, aV] at hr
  subst hr
  obtain ⟨g1, g2, g3⟩ := zU (by rw [cJ]; exact hs) _ _ _ 0 _ e (jE _) hRi
  rw [cJ] at g2
  have he0 : ((e : Int) < 0) = False := cI (by omega)
  obtain ⟨f1, hf1⟩ : ∃ f1, f1 = e + 1 := ⟨_, rfl⟩
  obtain ⟨f2, hf2⟩ : ∃ f2, f2 = e + 2 := ⟨_, rfl⟩
  have hw1 := nB (x := (e : Int) + 1) (m := f1) (by omega) (by omega)
  have hw2 := nB (x := (e : Int) + 2) (m := f2) (by omega) (by omega)
  simp -implicitDefEqProofs only [aK, he0, bX, aA, ↓aU, seval, iX]
  intro b6 h6
  have hbb : b6 ≠ b2 := fun h => by rw [h, aB.aP] at h6; cases h6
  have h6' : st b6 = none := by rwa [aB.aM _ _ hbb] at h6
  have hE : ∀ o1 o2 o3, aL (((st.aC b2 o1).aC b6 o2).aC b2 o3) st := fun o1 o2 o3 => ((hD _).aC h6').aC hb2
  refine (kE s e 58 _).to ?_
  by_cases hbd : (cO (sb s) e 58 && cO (sb s) (e + 1) 45) = true
  case neg =>
   obtain ⟨b, hb⟩ : ∃ b : List Tm, b = [] := ⟨_, rfl⟩
   have hcl : rE (sb s) = some ((.mk hk hn hsn hts, b), e) := by
    unfold rE
    rw [hRi, hb]
    simp only
    rw [aE hbd]
   obtain ⟨e2, he2⟩ : ∃ e2, e2 = e := ⟨_, rfl⟩
   rw [← he2] at hcl
   cases h58 : cO (sb s) e 58 with
   | false =>
    simp -implicitDefEqProofs only [aA, seval, iX]
    rw [← he2]
    have hdn := (KD (by rw [cJ]; exact hs) hcl).2.2
    have hwl := bK (n := (s.size : Int) - 1)
    by_cases he : e2 + 1 = s.size
    case neg =>
     rw [uH hcl (fun h => he (by rw [cJ] at h; exact h.2.1))]
     have he' : ((e2 : Int) = (s.size : Int) - 1) = False := cI (by omega)
     simp -implicitDefEqProofs only [aK, hwl, he', hbb.symm, bX, aA, seval, iX]
     exact ⟨qB, hE _ _ _⟩
    have he' : ((e2 : Int) = (s.size : Int) - 1) = True := dA (by omega)
    simp -implicitDefEqProofs only [hwl, he', bM, aA, seval]
    refine (kE s e2 46 _).to ?_
    cases hd : cO (sb s) e2 46 with
    | false =>
     rw [uH hcl (fun h => by rw [hd] at h; exact absurd h.2.2.1 (by decide))]
     simp -implicitDefEqProofs only [aK, hbb.symm, aA, seval, iX]
     exact ⟨qB, hE _ _ _⟩
    | true =>
     simp -implicitDefEqProofs only [aA, seval, iX]
     refine (aD.n7 (by rw [show gO [AV.agg [.int .i64 hk, .int .i64 hn, .str hsn, .slice (hts.map Tm.av), .fslice []]] = [bY (.mk hk hn hsn hts, b)] by simp only [gO, gG, hb, kA, jP, kW, p9, mG, bA, aW]]; exact NT (.mk hk hn hsn hts, b) _) : aD prog 167 _ _ _).to ?_
     by_cases hf : fmtC (.mk hk hn hsn hts, b) = s
     case neg =>
      rw [uH hcl (fun h => hf (M8 h.2.2.2))]
      have hf' := cI hf
      simp -implicitDefEqProofs only [aK, hf', hbb.symm, bX, aA, seval, iX]
      exact ⟨qB, hE _ _ _⟩
     rw [MS hcl ⟨by rw [cJ]; exact hs, by rw [cJ]; exact he, hd, by rw [hf]⟩]
     have hf' := dA hf
     simp -implicitDefEqProofs only [hf', bM, aA, seval, iX]
     refine (aD.n7 (by rw [show gO [AV.agg [.int .i64 hk, .int .i64 hn, .str hsn, .slice (hts.map Tm.av), .fslice []]] = [bY (.mk hk hn hsn hts, b)] by simp only [gO, gG, hb, kA, jP, kW, p9, mG, bA, aW]]; exact QW (.mk hk hn hsn hts, b) hdn.1.2 (by have := hdn.2.1; omega) (fun x hx => (hdn.2.2 x hx).2) _) : aD prog 80 _ _ _).to ?_
     rw [gG]
     simp -implicitDefEqProofs only [aK, hbb.symm, aA, seval, iX]
     rw [← gG]
     exact ⟨PV _, hE _ _ _⟩
   | true =>
    simp -implicitDefEqProofs only [hw1, aA, seval]
    refine (kE s f1 45 _).to ?_
    rw [h58, eT, ← hf1] at hbd
    rw [show cO (sb s) f1 45 = false by simpa using hbd]
    simp -implicitDefEqProofs only [aA, seval, iX]
    rw [← he2]
    have hdn := (KD (by rw [cJ]; exact hs) hcl).2.2
    have hwl := bK (n := (s.size : Int) - 1)
    by_cases he : e2 + 1 = s.size
    case neg =>
     rw [uH hcl (fun h => he (by rw [cJ] at h; exact h.2.1))]
     have he' : ((e2 : Int) = (s.size : Int) - 1) = False := cI (by omega)
     simp -implicitDefEqProofs only [aK, hwl, he', hbb.symm, bX, aA, seval, iX]
     exact ⟨qB, hE _ _ _⟩
    have he' : ((e2 : Int) = (s.size : Int) - 1) = True := dA (by omega)
    simp -implicitDefEqProofs only [hwl, he', bM, aA, seval]
    refine (kE s e2 46 _).to ?_
    cases hd : cO (sb s) e2 46 with
    | false =>
     rw [uH hcl (fun h => by rw [hd] at h; exact absurd h.2.2.1 (by decide))]
     simp -implicitDefEqProofs only [aK, hbb.symm, aA, seval, iX]
     exact ⟨qB, hE _ _ _⟩
    | true =>
     simp -implicitDefEqProofs only [aA, seval, iX]
     refine (aD.n7 (by rw [show gO [AV.agg [.int .i64 hk, .int .i64 hn, .str hsn, .slice (hts.map Tm.av), .fslice []]] = [bY (.mk hk hn hsn hts, b)] by simp only [gO, gG, hb, kA, jP, kW, p9, mG, bA, aW]]; exact NT (.mk hk hn hsn hts, b) _) : aD prog 167 _ _ _).to ?_
     by_cases hf : fmtC (.mk hk hn hsn hts, b) = s
     case neg =>
      rw [uH hcl (fun h => hf (M8 h.2.2.2))]
      have hf' := cI hf
      simp -implicitDefEqProofs only [aK, hf', hbb.symm, bX, aA, seval, iX]
      exact ⟨qB, hE _ _ _⟩
     rw [MS hcl ⟨by rw [cJ]; exact hs, by rw [cJ]; exact he, hd, by rw [hf]⟩]
     have hf' := dA hf
     simp -implicitDefEqProofs only [hf', bM, aA, seval, iX]
     refine (aD.n7 (by rw [show gO [AV.agg [.int .i64 hk, .int .i64 hn, .str hsn, .slice (hts.map Tm.av), .fslice []]] = [bY (.mk hk hn hsn hts, b)] by simp only [gO, gG, hb, kA, jP, kW, p9, mG, bA, aW]]; exact QW (.mk hk hn hsn hts, b) hdn.1.2 (by have := hdn.2.1; omega) (fun x hx => (hdn.2.2 x hx).2) _) : aD prog 80 _ _ _).to ?_
     rw [gG]
     simp -implicitDefEqProofs only [aK, hbb.symm, aA, seval, iX]
     rw [← gG]
     exact ⟨PV _, hE _ _ _⟩
  rw [cM, ← hf1] at hbd
  have aTO := nP hbd.2
  rw [cJ] at aTO
  rw [hbd.1]
  simp -implicitDefEqProofs only [hw1, aA, seval]
  refine (kE s f1 45 _).to ?_
  rw [hbd.2]
  simp -implicitDefEqProofs only [hw2, aA, seval]
  refine (UH hs f2 (by omega) _).mono ?_
  rintro r _ ⟨hr, rfl⟩
  cases hG : rL (sb s) 7 f2 [] with
  | none =>
   have hP : nT (sb s) = none := by
    unfold nT rE
    rw [hRi]
    simp only
    rw [aG (by rw [← hf1, hbd.1, hbd.2]; try rfl), ← hf2, hG]
   rw [hP]
   rw [hG] at hr
   simp only [rF] at hr
   subst hr
   have hwl := bK (n := (s.size : Int) - 1)
   have he' : ((-1 : Int) = (s.size : Int) - 1) = False := cI (by omega)
   simp -implicitDefEqProofs only [aK, hwl, he', hbb.symm, bX, aA, seval, iX]
   exact ⟨qB, hE _ _ _⟩
  | some p =>
   obtain ⟨b, e2⟩ := p
   rw [hG] at hr
   simp only [rF] at hr
   subst hr
   have hcl : rE (sb s) = some ((.mk hk hn hsn hts, b), e2) := by
    unfold rE
    rw [hRi]
    simp only
    rw [aG (by rw [← hf1, hbd.1, hbd.2]; try rfl), ← hf2, hG]
   have hg2 := KN (by rw [cJ]; exact hs) _ _ _ _ _ (by rw [cJ]; omega) (by simp) hG
   rw [cJ] at hg2
   simp -implicitDefEqProofs only [aK, aA, seval, iX]
   have hdn := (KD (by rw [cJ]; exact hs) hcl).2.2
   have hwl := bK (n := (s.size : Int) - 1)
   by_cases he : e2 + 1 = s.size
   case neg =>
    rw [uH hcl (fun h => he (by rw [cJ] at h; exact h.2.1))]
    have he' : ((e2 : Int) = (s.size : Int) - 1) = False := cI (by omega)
    simp -implicitDefEqProofs only [aK, hwl, he', hbb.symm, bX, aA, seval, iX]
    exact ⟨qB, hE _ _ _⟩
   have he' : ((e2 : Int) = (s.size : Int) - 1) = True := dA (by omega)
   simp -implicitDefEqProofs only [hwl, he', bM, aA, seval]
   refine (kE s e2 46 _).to ?_
   cases hd : cO (sb s) e2 46 with
   | false =>
    rw [uH hcl (fun h => by rw [hd] at h; exact absurd h.2.2.1 (by decide))]
    simp -implicitDefEqProofs only [aK, hbb.symm, aA, seval, iX]
    exact ⟨qB, hE _ _ _⟩
   | true =>
    simp -implicitDefEqProofs only [aA, seval, iX]
    refine (aD.n7 (by rw [show gO [AV.agg [.int .i64 hk, .int .i64 hn, .str hsn, .slice (hts.map Tm.av), .slice (b.map Tm.av)]] = [bY (.mk hk hn hsn hts, b)] by simp only [gO, gG, AV.soft]]; exact NT (.mk hk hn hsn hts, b) _) : aD prog 167 _ _ _).to ?_
    by_cases hf : fmtC (.mk hk hn hsn hts, b) = s
    case neg =>
     rw [uH hcl (fun h => hf (M8 h.2.2.2))]
     have hf' := cI hf
     simp -implicitDefEqProofs only [aK, hf', hbb.symm, bX, aA, seval, iX]
     exact ⟨qB, hE _ _ _⟩
    rw [MS hcl ⟨by rw [cJ]; exact hs, by rw [cJ]; exact he, hd, by rw [hf]⟩]
    have hf' := dA hf
    simp -implicitDefEqProofs only [hf', bM, aA, seval, iX]
    refine (aD.n7 (by rw [show gO [AV.agg [.int .i64 hk, .int .i64 hn, .str hsn, .slice (hts.map Tm.av), .slice (b.map Tm.av)]] = [bY (.mk hk hn hsn hts, b)] by simp only [gO, gG, AV.soft]]; exact QW (.mk hk hn hsn hts, b) hdn.1.2 (by have := hdn.2.1; omega) (fun x hx => (hdn.2.2 x hx).2) _) : aD prog 80 _ _ _).to ?_
    rw [gG]
    simp -implicitDefEqProofs only [aK, hbb.symm, aA, seval, iX]
    rw [← gG]
    exact ⟨PV _, hE _ _ _⟩
abbrev v4 := zi tI_3 (zi zI_3 (zi aX (zi tI_31 (zi zI_31 (zi aN (zi bE (zi bF (zi b9 (zi tI_63 (zi zI_63 (zi bP (zi bQ (zi bT (zi bS (zi bR (zi tI_76 (zi zI_76 (zi lO (zi lU lM)))))))))))))))))))
theorem aVS (k n : Int) (s : ByteArray) (ks ts : List Tm) (h1 : (Tm.mk k n s ks).small = true) (h2 : ts.length ≤ 1048576) (h3 : ∀ x ∈ ts, x.small = true) (st : aB) : aD prog 80 [bY (.mk k n s ks, ts)] st (fun r st' => ∃ b, r = .agg [.int .i64 k, .int .i64 n, .str s, .slice (ks.map Tm.av), a9 4 b (ts.map Tm.av)] ∧ st' = aZ st b (ts.map Tm.av) ∧ (ts.map Tm.av ≠ [] → st b = none)) := by
 have hhd := fun st => yR (.mk k n s ks) st h1
 simp only [aV] at hhd
 have IH := fun (x : Tm) (hx : x ∈ ts) st => yR x st (h3 x hx)
 have hlen : ts.length ≤ 1048576 := h2
 refine aD.lH ?_
 simp only [gG]
 refine wF [] 1 func80 ntmps80 rfl rfl ?_
 simp only [eG, AV.fits, eM, aF]
 intro ⟨_, _, _, _, hl, _⟩
 simp -implicitDefEqProofs only [aA, seval, v4]
 intro b2 hb2
 refine (hhd _).to ?_
 simp -implicitDefEqProofs only [aK, aA, seval, v4]
 intro c hc
 have hne : c ≠ b2 := by rintro rfl; rw [aB.aP] at hc; cases hc
 have hn2 : st c = none := by rw [aB.aM st _ hne] at hc; exact hc
 have nA : b2 ≠ c := dB hne
 refine eL (σ := Nat) [] [1, 2, 3] ts (fun i b => (((ts.take i).map (fun y => y)).map Tm.av ≠ [] → (aB.aC (st.aC b2 (.cells [AV.int .i64 0, AV.int .i64 0, AV.str ⟨#[]⟩, AV.fslice [], AV.fslice []])) c (.cells ([AV.int .i64 k, AV.int .i64 n, AV.str s, AV.slice (ks.map Tm.av)] ++ [a9 4 b (((ts.take i).map (fun y => y)).map Tm.av)]))) b = none)) (fun i b => [(4, .int .i64 i)]) (fun i b => eU (st.aC b2 (.cells [AV.int .i64 0, AV.int .i64 0, AV.str ⟨#[]⟩, AV.fslice [], AV.fslice []])) c b [AV.int .i64 k, AV.int .i64 n, AV.str s, AV.slice (ks.map Tm.av)] (((ts.take i).map (fun y => y)).map Tm.av)) (by decide +kernel)
  ⟨0, fun h => absurd rfl h, aO.mk (by simp -implicitDefEqProofs only [aA, ↓aU, seval])⟩ (fun i x b hx hlt bU hdr hinv => ?_) (fun b hge hinv => ?_)
 case refine_1 =>
  have hw := bK (n := (i : Int) + 1)
  have cV : (((ts.take i).map (fun y => y)).map Tm.av).length = i := by simp only [aF, d7]; omega
  have htk : (ts.take (i + 1)).map (fun y => y) = (ts.take i).map (fun y => y) ++ [(fun y => y) x] := by rw [fN, hx]; simp
  have hbo := eD hinv
  simp -implicitDefEqProofs only [aF, bU, aA, seval, v4]
  refine wP [(0, 1), (2, 1), (4, 1), (1, 2), (3, 2), (5, 1), (6, 2), (7, 2), (8, 1), (9, 0), (10, 1), (11, 0)] [0, 2, 4, 1, 3, 5, 6, 7, 8, 10] mixed ?_
  simp -implicitDefEqProofs only [bL (av := Tm.av) aN hx (aH x), aT, aH, hbo, mK, gY, aA, seval, v4]
  refine jC (IH x (cW hx) _) ?_
  simp -implicitDefEqProofs only [aT, aH, cG, gY, aA, seval, v4]
  refine eO aN bE bF rfl rfl (fB (aH _) (bZ _)) (dR _) hinv (by simp only [cV, aS, a7]; omega) (by simp only [cV, aS, a7]; omega) (fun b' hb' => ?_)
  rw [show (((ts.take i).map (fun y => y)).map Tm.av) ++ [((fun y => y) x).av] = ((ts.take (i + 1)).map (fun y => y)).map Tm.av by rw [htk]; simp] at hb' ⊢
  obtain ⟨g1, g2, g3⟩ := nO hb'
  simp only [fF, eR] at g1 g3
  simp -implicitDefEqProofs only [g3, mB, eV, aK, g1, hw, aK, aA, seval, v4]
  exact ⟨b', g2, aO.mk (by simp -implicitDefEqProofs only [aA, seval])⟩
 have hbo := eD hinv
 rw [eS] at hinv hbo ⊢
 simp -implicitDefEqProofs only [aF, hge, aA, seval, v4]
 simp -implicitDefEqProofs only [hbo, aK, aA, seval, v4]
 have hS : (st.aC b2 (.cells [AV.int .i64 0, AV.int .i64 0, AV.str ⟨#[]⟩, AV.fslice [], AV.fslice []])) b2 ≠ none := by rw [aB.aP]; simp
 have h1 := gF hinv hS nA
 rw [aB.aP] at h1
 simp -implicitDefEqProofs only [h1, eV, aA, seval]
 obtain ⟨h2, h3⟩ := j8 (o := .cells [AV.int .i64 k, AV.int .i64 n, AV.str s, AV.slice (ks.map Tm.av), a9 4 b ((ts.map fun y => y).map Tm.av)]) hinv hS nA
 simp only [fF, eR] at h2 h3
 rw [h2]
 have D : ∀ o o' o'', aL (((st.aC b2 o).aC c o').aC b2 o'') st := fun o o' o'' => (((aL.refl _).aC hb2).aC hn2).aC hb2
 simp only [List.map_id'] at h3 ⊢
 exact ⟨_, QE (D _ _ _), b, rfl, rfl, fun h => (D _ _ _ b).1 (h3 h)⟩
abbrev m9 := zi tI_3 (zi zI_3 (zi aX (zi tI_9 (zi zI_9 (zi cH (zi tI_31 (zi zI_31 (zi aN (zi bE (zi bF (zi b9 (zi tI_40 (zi zI_40 (zi WF (zi TQ (zi SY (zi aCH (zi aIG (zi aJN (zi SS (zi tI_63 (zi zI_63 (zi bP (zi bQ (zi bT (zi bS (zi bR (zi tI_76 (zi zI_76 (zi lO (zi lU (zi lM (zi tI_90 (zi zI_90 (zi tI_101 (zi zI_101 (zi rG (zi v9 (zi xJ (zi CI (zi tI_125 (zi zI_125 (zi iS (zi lR (zi lQ mF)))))))))))))))))))))))))))))))))))))))))))))
set_option maxHeartbeats 2000000 in
theorem aSQ (bs : List Bt) (c p : Nat) (cl : Cl) (hcl : t8 cl) (st : aB) (hp : p + 6000 ≤ 1099511627776) (hR : dK st c bs p) :
 aD prog 94 [.ptr c 0, bY cl] st (Dr bs c p 6000 st (fun r => ∃ cl' : Cl, r = bY cl')) := by
 obtain ⟨⟨k, n, s, ks⟩, ts⟩ := cl
 obtain ⟨d1, d2, d3⟩ := hcl
 simp only at d1 d2 d3
 have hcp := fun st => aVS k n s ks ts d1.2 (by omega) (fun x hx => (d3 x hx).2) st
 simp only [gG] at hcp ⊢
 refine aD.lH (aD.fin ?_)
 refine wF [1000000, 5] 2 func94 ntmps94 rfl rfl ?_
 intro _
 simp -implicitDefEqProofs only [aA, seval, m9]
 intro b4 h4
 have h4c := hR.ne h4
 have hR' := fun o => hR.aC (o := o) h4c
 refine (hcp _).mono ?_
 rintro _ _ ⟨b, rfl, rfl, hb⟩
 simp -implicitDefEqProofs only [eV, aK, aA, ↓aU, seval, m9]
 intro b5 h5
 obtain ⟨hn5, hb5⟩ := A3 h5
 have h54 : b5 ≠ b4 := by rintro rfl; rw [aB.aP] at hn5; cases hn5
 have QN : st b5 = none := by rw [aB.aM _ _ h54] at hn5; exact hn5
 have h5c : b5 ≠ c := hR.ne QN
 have hW4 : ∀ q, ((st.aC b4 (.cells [.int .i64 0, .int .i64 0, .str ⟨#[]⟩, .fslice [], .fslice []])).aC c (cA bs q)) b4 = some (.cells [.int .i64 0, .int .i64 0, .str ⟨#[]⟩, .fslice [], .fslice []]) := fun q => by rw [aB.aM _ _ h4c, aB.aP]
 have hdr : ∀ q Z Y, aL ((((st.aC b4 (.cells [.int .i64 0, .int .i64 0, .str ⟨#[]⟩, .fslice [], .fslice []])).aC c (cA bs q)).aC b5 Z).aC b4 Y) (st.aC c (cA bs q)) := fun q Z Y x => by
  by_cases e4 : x = b4 <;> by_cases ec : x = c <;> by_cases e5 : x = b5 <;> simp_all [aB.aC]
 have e0 : (aZ (st.aC b4 (.cells [.int .i64 0, .int .i64 0, .str ⟨#[]⟩, .fslice [], .fslice []])) b (ts.map Tm.av)).aC b5 (.cells [.int .i64 k, .int .i64 n, .str s, .slice (ks.map Tm.av), a9 4 b (ts.map Tm.av)]) = eU (st.aC b4 (.cells [.int .i64 0, .int .i64 0, .str ⟨#[]⟩, .fslice [], .fslice []])) b5 b [.int .i64 k, .int .i64 n, .str s, .slice (ks.map Tm.av)] (ts.map Tm.av) := by
  rw [oJ hb5]; try rfl
 have i0 : ts.map Tm.av ≠ [] → ((st.aC b4 (.cells [.int .i64 0, .int .i64 0, .str ⟨#[]⟩, .fslice [], .fslice []])).aC b5 (.cells ([.int .i64 k, .int .i64 n, .str s, .slice (ks.map Tm.av)] ++ [a9 4 b (ts.map Tm.av)]))) b = none := fun h => by
  rw [aB.aM _ _ (dB (hb5 h))]; exact hb h
 have hUc : (st.aC b4 (.cells [.int .i64 0, .int .i64 0, .str ⟨#[]⟩, .fslice [], .fslice []])) c ≠ none := by rw [hR' _]; simp
 rw [e0]
 have hRk : dK (eU (st.aC b4 (.cells [.int .i64 0, .int .i64 0, .str ⟨#[]⟩, .fslice [], .fslice []])) b5 b [.int .i64 k, .int .i64 n, .str s, .slice (ks.map Tm.av)] (ts.map Tm.av)) c bs p := by
  unfold dK
  rw [gF i0 hUc h5c.symm]
  exact hR' _
 refine (mY bs c p (by omega) 40 (by omega) (by omega) _ hRk).mono ?_
 rintro _ _ ⟨j, hj, rfl, rfl⟩
 obtain ⟨e1, i1⟩ := pU (o := cA bs (p + 1)) i0 hUc h5c.symm
 rw [e1]
 have hWc : ∀ q, ((st.aC b4 (.cells [.int .i64 0, .int .i64 0, .str ⟨#[]⟩, .fslice [], .fslice []])).aC c (cA bs q)) c ≠ none := fun q => by rw [aB.aP]; simp
 have hRq : ∀ q (hd l : List AV), (l ≠ [] → (((st.aC b4 (.cells [.int .i64 0, .int .i64 0, .str ⟨#[]⟩, .fslice [], .fslice []])).aC c (cA bs q)).aC b5 (.cells (hd ++ [a9 4 b l]))) b = none) → dK (eU ((st.aC b4 (.cells [.int .i64 0, .int .i64 0, .str ⟨#[]⟩, .fslice [], .fslice []])).aC c (cA bs q)) b5 b hd l) c bs q := fun q hd l hi => by
  unfold dK
  rw [gF hi (hWc q) h5c.symm, aB.aP]
  try rfl
 clear e0 i0 hRk e1
 simp -implicitDefEqProofs only [aA, seval]
 refine aQ (fun h0 => ?_) (fun h0 => ?_)
 · simp -implicitDefEqProofs only [aA, seval]
   refine (aBW bs c (p + 1) _ (by omega) (hRq _ _ _ i1)).mono ?_
   rintro _ _ ⟨p1, q1, q2, rfl, t1, ht1, rfl⟩
   obtain ⟨e1, i1⟩ := pU (o := cA bs p1) i1 (hWc _) h5c.symm
   rw [dE] at e1 i1
   rw [e1]
   simp -implicitDefEqProofs only [aA, seval]
   refine (N6 bs c p1 t1 ht1.2 _ (by omega) (hRq _ _ _ i1)).mono ?_
   rintro _ _ ⟨p2, r1, r2, rfl, ⟨k', n', s', ks'⟩, rfl⟩
   obtain ⟨e1, i1⟩ := pU (o := cA bs p2) i1 (hWc _) h5c.symm
   rw [dE] at e1 i1
   rw [e1]
   have hbo := eD i1
   obtain ⟨e2, i1⟩ := DI (hd' := [.int .i64 k', .int .i64 n', .str s', .slice (ks'.map Tm.av)]) i1
   simp only [fF, eR] at e2
   rw [aV]
   simp -implicitDefEqProofs only [aK, hbo, aA, seval, m9]
   rw [e2]
   have hbo := eD i1
   have h4o := gF i1 (x := b4) (by rw [hW4]; simp) h54.symm
   rw [hW4] at h4o
   simp -implicitDefEqProofs only [h4o, eV, aA, seval]
   obtain ⟨g5, g6⟩ := j8 (o := .cells [.int .i64 (k'), .int .i64 (n'), .str (s'), .slice ((ks').map Tm.av), a9 4 b ((ts).map Tm.av)]) i1 (show ((st.aC b4 (.cells [.int .i64 0, .int .i64 0, .str ⟨#[]⟩, .fslice [], .fslice []])).aC c (cA bs (p2))) b4 ≠ none by rw [hW4]; simp) h54.symm
   refine ⟨b, _, _, g5, g6, iB _, ⟨4, dR _⟩, st.aC c (cA bs (p2)), hdr _ _ _, p2, by omega, by omega, rfl, (.mk (k') (n') (s') (ks'), ts), ?_⟩
   simp only [fM, bA, aW, eC, iP, iK, iD, gG]
 simp -implicitDefEqProofs only [aA, seval]
 refine aQ (fun h0 => ?_) (fun h0 => ?_)
 · have hbo := eD i1
   simp -implicitDefEqProofs only [aA, seval]
   refine CJ [(0, 1), (1, 1), (2, 1), (3, 1), (4, 0), (5, 0), (6, 1), (7, 0), (8, 1), (9, 2)] [0, 1, 2, 3, 6, 8] (dX.aC b5 (.cells [.int .i64 k, .int .i64 n, .str s, .slice (ks.map Tm.av), a9 4 b (ts.map Tm.av)])) mixed (by decide +kernel) (by decide +kernel) (by decide +kernel) rfl (iA hbo) ?_
   simp -implicitDefEqProofs only [mK, aA, seval, m9]
   refine (aBW bs c (p + 1) _ (by omega) (hRq _ _ _ i1)).mono ?_
   rintro _ _ ⟨p1, q1, q2, rfl, t1, ht1, rfl⟩
   obtain ⟨e1, i1⟩ := pU (o := cA bs p1) i1 (hWc _) h5c.symm
   rw [dE] at e1 i1
   rw [e1]
   have hbo := eD i1
   simp -implicitDefEqProofs only [aA, seval]
   refine ⟨iA hbo, ?_⟩
   refine (N6 bs c p1 t1 ht1.2 _ (by omega) (hRq _ _ _ i1)).mono ?_
   rintro _ _ ⟨p2, r1, r2, rfl, t2, rfl⟩
   obtain ⟨e1, i1⟩ := pU (o := cA bs p2) i1 (hWc _) h5c.symm
   rw [dE] at e1 i1
   rw [e1]
   have hbo := eD i1
   simp -implicitDefEqProofs only [aT, aH, cG, aA, seval, m9]
   refine ⟨iA hbo, ?_⟩
   refine eO aN bE bF rfl rfl (fB (aH _) (bZ _)) (dR _) i1 (by simp only [aF, aS, a7]; omega) (by simp only [aF, aS, a7]; omega) (fun b' hb' => ?_)
   rw [show ts.map Tm.av ++ [t2.av] = (ts ++ [t2]).map Tm.av by simp] at hb' ⊢
   obtain ⟨g1, g2, g3⟩ := nO hb'
   simp only [fF, eR] at g1 g3
   simp -implicitDefEqProofs only [aK, eV, mB, aA, seval, m9]
   refine ⟨iA g3, ?_⟩
   simp -implicitDefEqProofs only [g3, g1, aK, eV, aA, seval, m9]
   have hbo := eD g2
   have h4o := gF g2 (x := b4) (by rw [hW4]; simp) h54.symm
   rw [hW4] at h4o
   simp -implicitDefEqProofs only [h4o, aA, seval]
   obtain ⟨g5, g6⟩ := j8 (o := .cells [.int .i64 (k), .int .i64 (n), .str (s), .slice ((ks).map Tm.av), a9 4 b' ((ts ++ [t2]).map Tm.av)]) g2 (show ((st.aC b4 (.cells [.int .i64 0, .int .i64 0, .str ⟨#[]⟩, .fslice [], .fslice []])).aC c (cA bs (p2))) b4 ≠ none by rw [hW4]; simp) h54.symm
   refine ⟨b', _, _, g5, g6, iB _, ⟨4, dR _⟩, st.aC c (cA bs (p2)), hdr _ _ _, p2, by omega, by omega, rfl, (.mk (k) (n) (s) (ks), ts ++ [t2]), ?_⟩
   simp only [fM, bA, aW, eC, iP, iK, iD, gG]
 simp -implicitDefEqProofs only [aA, seval]
 refine aQ (fun h0 => ?_) (fun h0 => ?_)
 · simp -implicitDefEqProofs only [aA, seval]
   refine gZ (σ := Nat × List Tm) [1000000, 5] [0, 4, 5, 9] (fun x => (x.2.map Tm.av ≠ [] → (aB.aC ((st.aC b4 (.cells [.int .i64 0, .int .i64 0, .str ⟨#[]⟩, .fslice [], .fslice []])).aC c (cA bs (p + 1))) b5 (.cells ([.int .i64 k, .int .i64 n, .str s, .slice (ks.map Tm.av)] ++ [a9 4 x.1 (x.2.map Tm.av)]))) x.1 = none)) (fun _ => []) (fun x => eU ((st.aC b4 (.cells [.int .i64 0, .int .i64 0, .str ⟨#[]⟩, .fslice [], .fslice []])).aC c (cA bs (p + 1))) b5 x.1 [.int .i64 k, .int .i64 n, .str s, .slice (ks.map Tm.av)] (x.2.map Tm.av)) (fun x => 7 - x.2.length) (by decide +kernel) ⟨(b, ts), i1, aO.mk (by simp -implicitDefEqProofs only [aA, seval])⟩ ?_
   rintro ⟨b, acc⟩ i1
   simp only at i1
   have hbo := eD i1
   have haL := sW (w := 4) (b := b) (l := acc.map Tm.av) b9
   simp -implicitDefEqProofs only [hbo, mK, haL, aF, aA, seval, m9]
   refine aQ (fun h1 => ?_) (fun h1 => ?_)
   · simp only [bJ] at h1
     have cV : (acc.map Tm.av).length ≤ 6 := by rw [aF]; omega
     simp -implicitDefEqProofs only [aA, seval]
     refine CJ [(0, 1), (1, 1), (2, 0), (3, 1), (4, 0), (5, 1), (6, 2)] [0, 1, 3, 5] (dX.aC b5 (.cells [.int .i64 k, .int .i64 n, .str s, .slice (ks.map Tm.av), a9 4 b (acc.map Tm.av)])) mixed (by decide +kernel) (by decide +kernel) (by decide +kernel) rfl (iA hbo) ?_
     simp -implicitDefEqProofs only [mK, aA, seval, m9]
     refine (rH ⟨#[116, 114, 117, 101]⟩ [] (by simp) _).to ?_
     simp -implicitDefEqProofs only [aT, aH, cG, aA, seval, m9]
     refine ⟨iA hbo, ?_⟩
     refine eO aN bE bF rfl rfl (fB (aH _) (bZ _)) (dR _) i1 (by simp only [aS, a7]; omega) (by simp only [aS, a7]; omega) (fun b' hb' => ?_)
     rw [show acc.map Tm.av ++ [(Tm.mk 3 0 ⟨#[116, 114, 117, 101]⟩ []).av] = (acc ++ [Tm.mk 3 0 ⟨#[116, 114, 117, 101]⟩ []]).map Tm.av by simp] at hb' ⊢
     obtain ⟨g1, g2, g3⟩ := nO hb'
     simp only [fF, eR] at g1 g3
     simp -implicitDefEqProofs only [aK, eV, mB, aA, seval, m9]
     refine ⟨iA g3, ?_⟩
     simp -implicitDefEqProofs only [g3, g1, aA, seval]
     refine ⟨(b', acc ++ [Tm.mk 3 0 ⟨#[116, 114, 117, 101]⟩ []]), by simp only [dQ, aS, a7]; omega, g2, aO.mk (by simp -implicitDefEqProofs only [aA, seval])⟩
   · simp -implicitDefEqProofs only [aK, hbo, eV, aA, seval, m9]
     have hbo := eD i1
     have h4o := gF i1 (x := b4) (by rw [hW4]; simp) h54.symm
     rw [hW4] at h4o
     simp -implicitDefEqProofs only [h4o, aA, seval]
     obtain ⟨g5, g6⟩ := j8 (o := .cells [.int .i64 (k), .int .i64 (n), .str (s), .slice ((ks).map Tm.av), a9 4 b ((acc).map Tm.av)]) i1 (show ((st.aC b4 (.cells [.int .i64 0, .int .i64 0, .str ⟨#[]⟩, .fslice [], .fslice []])).aC c (cA bs (p + 1))) b4 ≠ none by rw [hW4]; simp) h54.symm
     refine ⟨b, _, _, g5, g6, iB _, ⟨4, dR _⟩, st.aC c (cA bs (p + 1)), hdr _ _ _, p + 1, by omega, by omega, rfl, (.mk (k) (n) (s) (ks), acc), ?_⟩
     simp only [fM, bA, aW, eC, iP, iK, iD, gG]
 simp -implicitDefEqProofs only [aA, seval]
 refine aQ (fun h0 => ?_) (fun h0 => ?_)
 · simp -implicitDefEqProofs only [aA, seval, m9]
   refine (D5 [⟨#[116, 114, 117, 101]⟩, ⟨#[105, 115]⟩, ⟨#[61]⟩, ⟨#[109, 111, 100]⟩, ⟨#[113]⟩] (by simp) (by simp) bs c (p + 1) (by omega) _ (hRq _ _ _ i1)).mono ?_
   rintro _ _ ⟨y, _, rfl, rfl⟩
   obtain ⟨e1, i1⟩ := pU (o := cA bs (p + 1 + 1)) i1 (hWc _) h5c.symm
   rw [dE] at e1 i1
   rw [e1]
   have hbo := eD i1
   obtain ⟨e2, i1⟩ := DI (hd' := [.int .i64 k, .int .i64 n, .str y, .slice (ks.map Tm.av)]) i1
   simp only [fF, eR] at e2
   simp -implicitDefEqProofs only [aK, hbo, aA, seval, m9]
   rw [e2]
   have hbo := eD i1
   have h4o := gF i1 (x := b4) (by rw [hW4]; simp) h54.symm
   rw [hW4] at h4o
   simp -implicitDefEqProofs only [h4o, eV, aA, seval]
   obtain ⟨g5, g6⟩ := j8 (o := .cells [.int .i64 (k), .int .i64 (n), .str (y), .slice ((ks).map Tm.av), a9 4 b ((ts).map Tm.av)]) i1 (show ((st.aC b4 (.cells [.int .i64 0, .int .i64 0, .str ⟨#[]⟩, .fslice [], .fslice []])).aC c (cA bs (p + 1 + 1))) b4 ≠ none by rw [hW4]; simp) h54.symm
   refine ⟨b, _, _, g5, g6, iB _, ⟨4, dR _⟩, st.aC c (cA bs (p + 1 + 1)), hdr _ _ _, p + 1 + 1, by omega, by omega, rfl, (.mk (k) (n) (y) (ks), ts), ?_⟩
   simp only [fM, bA, aW, eC, iP, iK, iD, gG]
 · simp -implicitDefEqProofs only [aA, seval, m9]
   have hbo := eD i1
   have h4o := gF i1 (x := b4) (by rw [hW4]; simp) h54.symm
   rw [hW4] at h4o
   simp -implicitDefEqProofs only [aK, hbo, h4o, eV, aA, seval, m9]
   obtain ⟨g5, g6⟩ := j8 (o := .cells [.int .i64 (k), .int .i64 (n), .str (s), .slice ((ks).map Tm.av), a9 4 b ((ts).map Tm.av)]) i1 (show ((st.aC b4 (.cells [.int .i64 0, .int .i64 0, .str ⟨#[]⟩, .fslice [], .fslice []])).aC c (cA bs (p + 1))) b4 ≠ none by rw [hW4]; simp) h54.symm
   refine ⟨b, _, _, g5, g6, iB _, ⟨4, dR _⟩, st.aC c (cA bs (p + 1)), hdr _ _ _, p + 1, by omega, by omega, rfl, (.mk (k) (n) (s) (ks), ts), ?_⟩
   simp only [fM, bA, aW, eC, iP, iK, iD, gG]
end Go.AW
namespace Go.AW
def JS : List ByteArray := [⟨#[97, 112, 112, 40, 91, 93, 44, 65, 44, 65, 41, 46, 10, 97, 112, 112, 40, 91, 65, 124, 66, 93, 44, 67, 44, 91, 65, 124, 68, 93, 41, 58, 45, 97, 112, 112, 40, 66, 44, 67, 44, 68, 41, 46, 10]⟩,
 ⟨#[109, 101, 109, 40, 65, 44, 91, 65, 124, 66, 93, 41, 46, 10, 109, 101, 109, 40, 65, 44, 91, 66, 124, 67, 93, 41, 58, 45, 109, 101, 109, 40, 65, 44, 67, 41, 46, 10]⟩,
 ⟨#[112, 40, 49, 41, 46, 10, 112, 40, 50, 41, 46, 10, 112, 40, 51, 41, 46, 10, 113, 40, 65, 41, 58, 45, 112, 40, 65, 41, 44, 65, 62, 49, 44, 33, 46, 10, 114, 40, 65, 44, 66, 41, 58, 45, 112, 40, 65, 41, 44, 112, 40, 66, 41, 46, 10]⟩,
 ⟨#[108, 101, 110, 40, 91, 93, 44, 48, 41, 46, 10, 108, 101, 110, 40, 91, 65, 124, 66, 93, 44, 67, 41, 58, 45, 108, 101, 110, 40, 66, 44, 68, 41, 44, 67, 32, 105, 115, 32, 68, 43, 49, 46, 10]⟩,
 ⟨#[109, 97, 120, 40, 65, 44, 66, 44, 65, 41, 58, 45, 65, 62, 61, 66, 44, 33, 46, 10, 109, 97, 120, 40, 65, 44, 66, 44, 66, 41, 46, 10]⟩,
 ⟨#[101, 40, 97, 44, 98, 41, 46, 10, 101, 40, 98, 44, 99, 41, 46, 10, 101, 40, 99, 44, 100, 41, 46, 10, 116, 40, 65, 44, 66, 41, 58, 45, 101, 40, 65, 44, 66, 41, 46, 10, 116, 40, 65, 44, 66, 41, 58, 45, 101, 40, 65, 44, 67, 41, 44, 116, 40, 67, 44, 66, 41, 46, 10]⟩,
 ⟨#[108, 111, 111, 112, 58, 45, 108, 111, 111, 112, 46, 10, 111, 107, 46, 10]⟩,
 ⟨#[102, 97, 99, 40, 48, 44, 49, 41, 58, 45, 33, 46, 10, 102, 97, 99, 40, 65, 44, 66, 41, 58, 45, 65, 62, 48, 44, 67, 32, 105, 115, 32, 65, 45, 49, 44, 102, 97, 99, 40, 67, 44, 68, 41, 44, 66, 32, 105, 115, 32, 65, 42, 68, 46, 10]⟩,
 ⟨#[115, 40, 65, 41, 58, 45, 65, 61, 102, 40, 66, 41, 44, 97, 114, 103, 40, 49, 44, 65, 44, 66, 41, 44, 66, 61, 49, 46, 10, 115, 40, 65, 41, 58, 45, 118, 97, 114, 40, 65, 41, 44, 65, 61, 110, 111, 110, 101, 46, 10]⟩,
 ⟨#[114, 101, 118, 40, 91, 93, 44, 65, 44, 65, 41, 46, 10, 114, 101, 118, 40, 91, 65, 124, 66, 93, 44, 67, 44, 68, 41, 58, 45, 114, 101, 118, 40, 66, 44, 91, 65, 124, 67, 93, 44, 68, 41, 46, 10]⟩,
 ⟨#[98, 97, 100, 40, 65, 41, 58, 45, 66, 32, 105, 115, 32, 65, 43, 102, 111, 111, 44, 67, 61, 66, 46, 10, 98, 105, 103, 40, 65, 41, 58, 45, 65, 32, 105, 115, 32, 57, 57, 57, 43, 49, 46, 10, 117, 110, 40, 65, 41, 58, 45, 110, 111, 115, 117, 99, 104, 40, 65, 41, 46, 10]⟩]
def L2 : List ByteArray := [⟨#[97, 112, 112, 40, 65, 44, 66, 44, 91, 49, 44, 50, 93, 41]⟩,
 ⟨#[97, 112, 112, 40, 91, 49, 93, 44, 91, 50, 93, 44, 65, 41]⟩,
 ⟨#[109, 101, 109, 40, 65, 44, 91, 97, 44, 98, 44, 99, 93, 41]⟩,
 ⟨#[113, 40, 65, 41]⟩,
 ⟨#[114, 40, 65, 44, 66, 41, 44, 65, 62, 66]⟩,
 ⟨#[108, 101, 110, 40, 91, 97, 44, 98, 44, 99, 93, 44, 65, 41]⟩,
 ⟨#[109, 97, 120, 40, 51, 44, 50, 44, 65, 41]⟩,
 ⟨#[109, 97, 120, 40, 65, 44, 50, 44, 51, 41]⟩,
 ⟨#[116, 40, 97, 44, 65, 41]⟩,
 ⟨#[108, 111, 111, 112]⟩,
 ⟨#[111, 107, 44, 33]⟩,
 ⟨#[102, 97, 99, 40, 52, 44, 65, 41]⟩,
 ⟨#[115, 40, 65, 41]⟩,
 ⟨#[114, 101, 118, 40, 91, 49, 44, 50, 44, 51, 93, 44, 91, 93, 44, 65, 41]⟩,
 ⟨#[98, 97, 100, 40, 65, 41]⟩,
 ⟨#[98, 105, 103, 40, 65, 41]⟩,
 ⟨#[117, 110, 40, 65, 41]⟩,
 ⟨#[112, 40, 65, 41, 44, 33, 44, 112, 40, 66, 41]⟩,
 ⟨#[65, 61, 102, 40, 66, 44, 67, 41, 44, 97, 114, 103, 40, 49, 44, 65, 44, 68, 41]⟩,
 ⟨#[109, 101, 109, 40, 65, 44, 91, 49, 44, 50, 93, 41, 44, 109, 101, 109, 40, 66, 44, 91, 65, 44, 51, 93, 41]⟩,
 ⟨#[65, 32, 105, 115, 32, 51, 47, 47, 48]⟩,
 ⟨#[116, 114, 117, 101]⟩,
 ⟨#[109, 101, 109, 40, 65, 44, 66, 41]⟩,
 ⟨#[112, 40, 65, 41, 44, 65, 92, 61, 50]⟩]
def CO : List (List ByteArray) := [[⟨#[97, 112, 112, 40, 65, 44, 66, 44, 91, 49, 44, 50, 93, 41]⟩, ⟨#[97, 112, 112, 40, 91, 49, 93, 44, 91, 50, 124, 65, 93, 44, 66, 41]⟩, ⟨#[97, 112, 112, 40, 65, 44, 91, 49, 93, 44, 65, 41]⟩],
 [⟨#[109, 101, 109, 40, 65, 44, 91, 97, 44, 98, 44, 99, 93, 41]⟩, ⟨#[109, 101, 109, 40, 65, 44, 91, 49, 44, 50, 93, 41, 44, 109, 101, 109, 40, 66, 44, 91, 65, 44, 51, 93, 41]⟩, ⟨#[109, 101, 109, 40, 65, 44, 66, 41]⟩],
 [⟨#[113, 40, 65, 41]⟩, ⟨#[114, 40, 65, 44, 66, 41, 44, 65, 62, 66]⟩, ⟨#[112, 40, 65, 41, 44, 33, 44, 112, 40, 66, 41]⟩, ⟨#[114, 40, 65, 44, 65, 41]⟩],
 [⟨#[108, 101, 110, 40, 91, 97, 44, 98, 44, 99, 93, 44, 65, 41]⟩, ⟨#[108, 101, 110, 40, 65, 44, 50, 41]⟩],
 [⟨#[109, 97, 120, 40, 51, 44, 50, 44, 65, 41]⟩, ⟨#[109, 97, 120, 40, 65, 44, 50, 44, 51, 41]⟩, ⟨#[109, 97, 120, 40, 49, 44, 50, 44, 65, 41]⟩],
 [⟨#[116, 40, 97, 44, 65, 41]⟩, ⟨#[116, 40, 65, 44, 100, 41]⟩, ⟨#[101, 40, 65, 44, 66, 41]⟩],
 [⟨#[108, 111, 111, 112]⟩, ⟨#[111, 107, 44, 33]⟩, ⟨#[111, 107, 44, 108, 111, 111, 112]⟩],
 [⟨#[102, 97, 99, 40, 52, 44, 65, 41]⟩, ⟨#[102, 97, 99, 40, 48, 44, 65, 41]⟩, ⟨#[102, 97, 99, 40, 55, 44, 65, 41]⟩],
 [⟨#[115, 40, 65, 41]⟩, ⟨#[115, 40, 66, 41, 44, 66, 61, 102, 40, 49, 41]⟩],
 [⟨#[114, 101, 118, 40, 91, 49, 44, 50, 44, 51, 93, 44, 91, 93, 44, 65, 41]⟩, ⟨#[114, 101, 118, 40, 65, 44, 91, 93, 44, 91, 49, 93, 41]⟩],
 [⟨#[98, 97, 100, 40, 65, 41]⟩, ⟨#[98, 105, 103, 40, 65, 41]⟩, ⟨#[117, 110, 40, 65, 41]⟩]]
def L7 (s : ByteArray) : Bool := decide (s.size ≤ 200) && match yS (sb s) with | some l => decide (2 ≤ l.length) && decide (l.length ≤ 20) | none => false
theorem aPB : JS.all L7 = true := by decide +kernel
theorem aO3 : CO.all (fun l => decide (1 ≤ l.length) && l.all (fun s => decide (s.size ≤ 1000))) = true := by decide +kernel
theorem aV0 (y : List ByteArray) (h : y ∈ CO) : y.length ≤ 4 := by
 have h2 : (CO.all fun l => decide (l.length ≤ 4)) = true := by decide +kernel
 simpa using eW.1 h2 y h
end Go.AW
