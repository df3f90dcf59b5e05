/- Loops whose frame is kept, lists that are walked, lists that grow. -/
import Derived.Test.YtpficjlageaebaaGreatDoorSfae
set_option linter.unusedSimpArgs false
set_option linter.unusedVariables false
set_option maxRecDepth 100000
namespace Go.AW
def kD (φ : AF) : List Nat → List (Nat × AV) → List (Nat × AV)
 | [], l => l
 | d :: ds, l => (d, φ d) :: kD φ ds l
theorem ZR {φ : AF} {l : List (Nat × AV)} : kD φ [] l = l := rfl
theorem aAJ {φ : AF} {d : Nat} {ds : List Nat} {l : List (Nat × AV)} : kD φ (d :: ds) l = (d, φ d) :: kD φ ds l := rfl
theorem eL {P : Program} {N : Nat} {c : Code} {Q : Exit → AF → aB → Prop} {φ : AF} {st : aB} {α σ : Type} (mt : List Nat) (a8 : List Nat) (l : List α) (inv : Nat → σ → Prop) (ch : Nat → σ → List (Nat × AV)) (so : Nat → σ → aB)
 (hok : codeOk N c = true)
 (h0 : ∃ s, inv 0 s ∧ aO φ st (kD φ a8 (ch 0 s)) (so 0 s))
 (h1 : ∀ i x s, l[i]? = some x → i < l.length → ((i : Int) < (l.length : Int)) → l.drop i = x :: l.drop (i + 1) → inv i s → fV P N mt c (oP (fun φ' st' => ∃ s', inv (i + 1) s' ∧ aO φ' st' (kD φ a8 (ch (i + 1) s')) (so (i + 1) s')) Q) (uY (kD φ a8 (ch i s))) (so i s))
 (h2 : ∀ s, ¬ ((l.length : Int) < (l.length : Int)) → inv l.length s → fV P N mt c (oP (fun _ _ => False) Q) (uY (kD φ a8 (ch l.length s))) (so l.length s)) : gH P N (.loop c) Q φ st := by
 have m7 : ∀ (k : AF → aB → Prop) (i : Nat) (s : σ), (∀ φ' st', (∃ s', inv (i + 1) s' ∧ aO φ' st' (kD φ a8 (ch (i + 1) s')) (so (i + 1) s')) → k φ' st') →
  gH P N c (oP (fun φ' st' => ∃ s', inv (i + 1) s' ∧ aO φ' st' (kD φ a8 (ch (i + 1) s')) (so (i + 1) s')) Q) (j7 (kD φ a8 (ch i s))) (so i s) →
  gH P N c (oP k Q) (j7 (kD φ a8 (ch i s))) (so i s) := by
  intro k i s hk hr a w R
  refine wp_mono (hr a w R) ?_
  rintro e a' w' ⟨φ', st', R', T, sm, q⟩
  refine ⟨φ', st', R', T, sm, ?_⟩
  cases e with
  | normal => exact hk _ _ q
  | _ => exact q
 refine MG (α := Nat × σ) (fun p => p.1 ≤ l.length ∧ inv p.1 p.2) (fun p => j7 (kD φ a8 (ch p.1 p.2))) (fun p => so p.1 p.2) (fun p => l.length - p.1) ?_ ?_
 · obtain ⟨s, hs, hl⟩ := h0
   exact ⟨(0, s), ⟨jE _, hs⟩, hl⟩
 · rintro ⟨i, s⟩ ⟨hi, hs⟩
   simp only at hi hs ⊢
   rcases kT i l.length with hlt | hge
   · refine m7 _ i s ?_ (EX mt hok (h1 i l[i] s (fH hlt) hlt (by omega) (qY hlt) hs))
     rintro φ' st' ⟨s', h1', h2'⟩
     exact ⟨(i + 1, s'), by simp only; omega, ⟨by simp only; omega, h1'⟩, h2'⟩
   · obtain rfl : i = l.length := by omega
     intro a w R
     refine wp_mono (EX mt hok (h2 s (by omega) hs) a w R) ?_
     rintro e a' w' ⟨φ', st', R', T, sm, q⟩
     refine ⟨φ', st', R', T, sm, ?_⟩
     cases e with
     | normal => exact q.elim
     | _ => exact q
theorem gZ {P : Program} {N : Nat} {c : Code} {Q : Exit → AF → aB → Prop} {φ : AF} {st : aB} {σ : Type} (mt : List Nat) (a8 : List Nat) (inv : σ → Prop) (ch : σ → List (Nat × AV)) (so : σ → aB) (μ : σ → Nat)
 (hok : codeOk N c = true)
 (h0 : ∃ s, inv s ∧ aO φ st (kD φ a8 (ch s)) (so s))
 (h1 : ∀ s, inv s → fV P N mt c (oP (fun φ' st' => ∃ s', μ s' < μ s ∧ inv s' ∧ aO φ' st' (kD φ a8 (ch s')) (so s')) Q) (uY (kD φ a8 (ch s))) (so s)) : gH P N (.loop c) Q φ st :=
 uU mt inv (fun s => kD φ a8 (ch s)) so μ hok h0 h1
theorem aQ {b : Bool} {p q : Prop} (h1 : b = true → p) (h2 : b = false → q) : (b = true → p) ∧ (b = false → q) := ⟨h1, h2⟩
theorem aIA {P : Program} {t : TypeId} {s : ByteArray} : nS P t (.str s) = match P.underlying t with | some .string => some (.int .i64 s.size) | _ => none := rfl
theorem Y9 {P : Program} {t : TypeId} {es : List AV} : nS P t (.slice es) = match P.underlying t with | some (.slice _) => some (.int .i64 es.length) | _ => none := rfl
theorem aE0 {P : Program} {t : TypeId} {es : List AV} : nS P t (.fslice es) = match P.underlying t with | some (.slice _) => some (.int .i64 es.length) | _ => none := rfl
theorem YE {P : Program} {t : TypeId} {b o n w : Nat} : nS P t (.mslice b o n w) = match P.underlying t with | some (.slice _) => some (.int .i64 n) | _ => none := rfl
def a9 (w b : Nat) : List AV → AV
 | [] => .fslice []
 | x :: l => .mslice b 0 (x :: l).length w
def aZ (st : aB) (b : Nat) : List AV → aB
 | [] => st
 | x :: l => st.aC b (.cells ((x :: l).flatMap AV.cells))
theorem jG {w b : Nat} : a9 w b [] = .fslice [] := rfl
theorem vV {st : aB} {b : Nat} : aZ st b [] = st := rfl
theorem oB {w b : Nat} {l : List AV} (h : l ≠ []) : a9 w b l = .mslice b 0 l.length w := by cases l <;> first | exact absurd rfl h | rfl
theorem jF {st : aB} {b : Nat} {l : List AV} (h : l ≠ []) : aZ st b l = st.aC b (.cells (l.flatMap AV.cells)) := by cases l <;> first | exact absurd rfl h | rfl
theorem pX {st : aB} {b x : Nat} {l : List AV} (h : x ≠ b) : aZ st b l x = st x := by cases l <;> first | rfl | exact aB.aM _ _ h
theorem A3 {st : aB} {b x : Nat} {l : List AV} (h : aZ st b l x = none) : st x = none ∧ (l ≠ [] → x ≠ b) := by
 cases l with
 | nil => exact ⟨h, fun h => absurd rfl h⟩
 | cons y l =>
  simp only [aZ, aB.aC] at h
  split at h
  · cases h
  · rename_i hn; exact ⟨h, fun _ => hn⟩
theorem mZ {w b : Nat} {l : List AV} : (a9 w b l).cB = false := by cases l <;> rfl
theorem mK {w b : Nat} {l : List AV} : (a9 w b l).isAgg = false := by cases l <;> rfl
theorem mB {w b : Nat} {l : List AV} : (a9 w b l).cells = [a9 w b l] := by cases l <;> rfl
theorem eV {w b : Nat} {l : List AV} : (a9 w b l).storable = true := by cases l <;> rfl
theorem sW {P : Program} {t e : TypeId} {w b : Nat} {l : List AV} (h : P.underlying t = some (.slice e)) : nS P t (a9 w b l) = some (.int .i64 (l.length : Int)) := by
 cases l <;> simp [a9, nS, h]
theorem aL.aZ {st st' : aB} (x : aL st st') {b : Nat} {l : List AV} (h : l ≠ [] → st' b = none) : aL (aZ st b l) st' := by
 cases l with
 | nil => exact x
 | cons y l => exact x.aC (h (by simp))
theorem eO {P : Program} {t : TypeId} {ag : Bool} {w bytes : Nat} {zs : List AV} {st : aB} {b : Nat} {l xs : List AV} {x : AV} {K : AV → aB → Prop}
 (hI : eI P t = some (ag, w)) (hB : eB P t = some bytes) (hZ : eZ P t = some zs) (hz : zs.length = w) (hx : wH x = some xs) (fY : s8 w xs) (hw : ∀ e ∈ l, e.width = w) (hb : l ≠ [] → st b = none)
 (h1 : (l.length + xs.length) * bytes ≤ 140737488355328) (h2 : l.length + xs.length ≤ 9223372036854775807)
 (hK : ∀ b', (l ++ xs ≠ [] → st b' = none) → K (a9 w b' (l ++ xs)) (aZ st b' (l ++ xs))) : jO P t (aZ st b l) (a9 w b l) x K := by
 unfold jO
 rw [hI, hB, hZ, hx]
 refine ⟨hz, fY, ?_⟩
 cases l with
 | nil =>
  show _ ∧ _ ∧ _ ∧ _ ∧ _
  refine ⟨by simpa using h1, by simpa using h2, by simp, ?_, ?_⟩
  · rintro rfl
    have := hK b (by simp)
    simpa [a9, aZ] using this
  · intro hne b' hb'
    have := hK b' (fun _ => hb')
    rw [eR, oB hne, jF hne] at this
    simpa [aZ] using this
 | cons y l =>
  have hb := hb (by simp)
  show w = w ∧ _ ∧ _ ∧ _
  refine ⟨rfl, h1, h2, ?_⟩
  have hfl : ((y :: l).flatMap AV.cells).length = (y :: l).length * w := oF hw
  simp only [aZ, aB.aP]
  refine ⟨by rw [hfl]; exact c7 _, ?_, ?_⟩
  · have := hK b (fun _ => hb)
    rw [oB (by simp), jF (by simp), AA, dQ] at this
    rw [dE, ← hfl, eS]
    exact this
  · intro b' hb'
    have hne : b' ≠ b := by rintro rfl; rw [aB.aP] at hb'; cases hb'
    rw [aB.aM _ _ hne] at hb'
    have := hK b' (fun _ => hb')
    rw [oB (by simp), jF (by simp), AA, dQ] at this
    rw [aB.w9 _ _ _ hb, ← hfl, eS]
    exact this
def AV.fin (b : Nat) (l : List AV) (r : AV) : AV := if l.isEmpty = true then r.soft else (r.fz b l).soft
theorem iD {w b : Nat} {l : List AV} : (a9 w b l).fin b l = .slice l := by cases l <;> simp [a9, AV.fin, AV.fz, AV.soft]
theorem wB : ∀ cs : List AV, gO cs = cs.map AV.soft
 | [] => rfl
 | c :: cs => by simp [gO, wB cs]
theorem IA {b : Nat} {l : List AV} : ∀ cs : List AV, kL b l cs = cs.map (AV.fz b l)
 | [] => rfl
 | c :: cs => by simp [kL, IA cs]
theorem fM {b : Nat} {l : List AV} {cs : List AV} : (AV.agg cs).fin b l = .agg (cs.map (AV.fin b l)) := by
 unfold AV.fin
 split
 · simp [AV.soft, wB]
 · simp [AV.fz, AV.soft, wB, IA]
theorem jL {b : Nat} {l : List AV} {cs : List AV} : (AV.tup cs).fin b l = .tup (cs.map (AV.fin b l)) := by
 unfold AV.fin
 split
 · simp [AV.soft, wB]
 · simp [AV.fz, AV.soft, wB, IA]
theorem eC {b : Nat} {l : List AV} {k : IntKind} {n : Int} : (AV.int k n).fin b l = .int k n := by unfold AV.fin; split <;> rfl
theorem pQ {b : Nat} {l : List AV} {n : Bool} : (AV.bool n).fin b l = .bool n := by unfold AV.fin; split <;> rfl
theorem iP {b : Nat} {l : List AV} {s : ByteArray} : (AV.str s).fin b l = .str s := by unfold AV.fin; split <;> rfl
theorem iK {b : Nat} {l : List AV} {s : List AV} : (AV.slice s).fin b l = .slice s := by unfold AV.fin; split <;> rfl
theorem oC {b : Nat} {l : List AV} {s : List AV} : (AV.fslice s).fin b l = .slice s := by unfold AV.fin; split <;> rfl
theorem AS {b : Nat} {l : List AV} {e : AV} : (AV.pptr e).fin b l = .pptr e := by unfold AV.fin; split <;> rfl
theorem E9 {b c o : Nat} {l : List AV} : (AV.ptr c o).fin b l = .ptr c o := by unfold AV.fin; split <;> rfl
theorem X1 {b : Nat} {l : List AV} {g : FuncId} {cs : List AV} : (AV.func g cs).fin b l = .func g cs := by unfold AV.fin; split <;> rfl
theorem aD.fin {P : Program} {g : FuncId} {args : List AV} {st : aB} {Q : AV → aB → Prop}
 (x : aD P g args st (fun r st' => ∃ b l s0, st' = aZ s0 b l ∧ (l ≠ [] → s0 b = none) ∧ (∀ e ∈ l, e.cB = false) ∧ gX l ∧ Q (r.fin b l) s0)) : aD P g args st Q :=
 x.m7 fun r st' ⟨b, l, s0, h1, h0, h2, h3, h4⟩ => by
  cases l with
  | nil =>
   exact ⟨r.fin b [], st', (aL.refl _).sR, fun h v S y => y.soft, by have e : st' = s0 := h1; rw [e]; exact h4⟩
  | cons e l =>
   have hb := h0 (by simp)
   subst h1
   have h1 : aZ s0 b (e :: l) b = some (.cells ((e :: l).flatMap AV.cells)) := by simp only [aZ, aB.aP]
   have e1 : (aZ s0 b (e :: l)).erase b = s0 := by simp only [aZ]; exact aB.w9 _ _ _ hb
   refine ⟨r.fin b (e :: l), s0, ?_, fun h v S y => ?_, h4⟩
   · have := (jH (aZ s0 b (e :: l)) b).sR
     rwa [e1] at this
   · have := y.fz S h1 h2 h3
     rw [e1] at this
     exact this.soft
mutual
def AV.hH : AV → Bool
 | .slice _ => false
 | .fslice es => es.isEmpty
 | .pptr _ => false
 | .agg cs => kR cs
 | .tup vs => kR vs
 | .func _ cs => kR cs
 | _ => true
def kR : List AV → Bool
 | [] => true
 | a :: as => a.hH && kR as
end
def AO.hH : AO → Prop
 | .cells cs => kR cs = true
 | .map f => ∀ n a, f n = some a → a.hH = true
section
variable {h : bH} {st st' : aB}
mutual
theorem VC.anyS : ∀ (a : AV) (cs : List Value), a.hH = true → VC h st a cs → VC h st' a cs
 | .junk, _, _, x => x
 | .undef, _, _, x => x
 | .int _ _, _, _, x => x
 | .bool _, _, _, x => x
 | .str _, _, _, x => x
 | .agg as, cs, s, x => by simp only [VC] at x ⊢; exact aY.anyS as cs (by simpa [AV.hH] using s) x
 | .tup as, cs, s, x => by
  simp only [VC] at x ⊢
  obtain ⟨vs, e, r⟩ := x
  exact ⟨vs, e, dO.anyS as vs (by simpa [AV.hH] using s) r⟩
 | .slice es, _, s, _ => by simp [AV.hH] at s
 | .fslice es, cs, s, x => by
  have he : es = [] := by simpa [AV.hH] using s
  subst he
  unfold VC at x ⊢
  rcases x with x | ⟨b, off, e, _⟩
  · exact .inl x
  · exact .inl ⟨⟨_, e⟩, rfl⟩
 | .mslice b off len n, _, _, x => x
 | .nilptr, _, _, x => x
 | .ptr _ _, _, _, x => x
 | .pptr e, _, s, _ => by simp [AV.hH] at s
 | .nilmap, _, _, x => x
 | .map _, _, _, x => x
 | .func _ as, cs, s, x => by
  simp only [VC] at x ⊢
  obtain ⟨vs, e, r⟩ := x
  exact ⟨vs, e, dO.anyS as vs (by simpa [AV.hH] using s) r⟩
 | .raw _, _, _, x => x
 | .eslice, _, _, x => x
theorem aY.anyS : ∀ (as : List AV) (cs : List Value), kR as = true → aY h st as cs → aY h st' as cs
 | [], _, _, x => x
 | a :: as, cs, s, x => by
  simp only [aY] at x ⊢
  simp only [kR, cM] at s
  obtain ⟨c, r, e, x1, x2⟩ := x
  exact ⟨c, r, e, VC.anyS a [c] s.1 x1, aY.anyS as r s.2 x2⟩
theorem dO.anyS : ∀ (as : List AV) (cs : List Value), kR as = true → dO h st as cs → dO h st' as cs
 | [], _, _, x => x
 | a :: as, cs, s, x => by
  simp only [dO] at x ⊢
  simp only [kR, cM] at s
  obtain ⟨v, r, e, x1, x2⟩ := x
  exact ⟨v, r, e, ⟨x1.1, VC.anyS a _ s.1 x1.2⟩, dO.anyS as r s.2 x2⟩
end
theorem aR.anyS {a : AV} {v : Value} (s : a.hH = true) (x : aR h st a v) : aR h st' a v := by
 cases a <;> first | trivial | exact ⟨x.1, VC.anyS _ _ s x.2⟩
theorem k0.anyS {b : Nat} : ∀ {o : AO}, o.hH → k0 h st b o → k0 h st' b o
 | .cells as, s, x => by
  obtain ⟨c, t, e, l, vs, x1, x2⟩ := x
  exact ⟨c, t, e, l, vs, x1, aY.anyS as vs s x2⟩
 | .map f, s, x => by
  obtain ⟨es, cl, e, x1, x2, x3⟩ := x
  refine ⟨es, cl, e, x1, x2, fun n => ?_⟩
  have := x3 n
  split
  · rename_i a ha
    rw [ha] at this
    obtain ⟨e, he, hk, hv⟩ := this
    exact ⟨e, he, hk, hv.anyS (s n a ha)⟩
  · rename_i ha
    rw [ha] at this
    exact this
end
def aB.frame (st s0 s1 : aB) : aB := fun b => match s0 b, st b with
 | none, some o => some o
 | _, _ => s1 b
theorem aD.frame {P : Program} {g : FuncId} {args args' : List AV} {st s0 : aB} {Q : AV → aB → Prop} (D : aL st s0)
 (x : aD P g args s0 (fun r s1 => (∀ b, s0 b = none → s1 b ≠ none → st b = none) → r.hH = true ∧ (∀ b o, s1 b = some o → o.hH) ∧ Q r (st.frame s0 s1)))
 (hv : ∀ h vs, cS h st → cZ h st args' vs → cZ h s0 args vs) : aD P g args' st Q := by
 refine ⟨x.1, fun w vs S V => (x.2 w vs (D.B1 S) (hv _ _ S V)).mono ?_⟩
 rintro _ w' ⟨v, r, s1, rfl, hr, S1, T, sm, q⟩
 have hfr : ∀ b, s0 b = none → s1 b ≠ none → st b = none := fun b h0 h1 => by
  cases hb : st b with
  | none => rfl
  | some o => exact absurd (T.a8 b (S b o hb).1 h0).2 h1
 obtain ⟨hs, ho, hq⟩ := q hfr
 have T' : cC w.heap st w'.heap (st.frame s0 s1) := by
  refine ⟨T.size, fun b hb e => ?_, T.shape⟩
  obtain ⟨k1, k2⟩ := T.a8 b hb ((D b).1 e)
  exact ⟨k1, by simp only [aB.frame, e, k2]; split <;> first | rfl | (rename_i h; cases h)⟩
 refine ⟨v, r, st.frame s0 s1, rfl, hr.anyS hs, fun b o hb => ?_, T', sm, hq⟩
 simp only [aB.frame] at hb
 split at hb
 · rename_i o' h0 h1
   cases hb
   obtain ⟨l, y⟩ := S b _ h1
   exact ⟨vM l T.size, k0.mono T' (T.a8 b l h0).1 y⟩
 · obtain ⟨l, y⟩ := S1 b o hb
   exact ⟨l, y.anyS (ho b o hb)⟩
def dX : aB := fun _ => none
theorem aL.dX (st : aB) : aL st dX := fun _ => ⟨fun _ => rfl, fun _ h => by cases h⟩
theorem aTX (st : aB) : st.frame dX dX = st := by
 funext b; simp only [aB.frame, dX]; split
 · rename_i h; exact h.symm
 · rename_i h; cases hb : st b with
   | none => rfl
   | some o => exact absurd hb (h o rfl)
theorem aD.aEN {P : Program} {g : FuncId} {args args' : List AV} {st : aB} {r : AV} (hs : r.hH = true)
 (x : aD P g args dX (fun r' s1 => r' = r ∧ s1 = dX))
 (hv : ∀ h vs, cS h st → cZ h st args' vs → cZ h dX args vs) : aD P g args' st (fun r' st' => r' = r ∧ st' = st) :=
 aD.frame (aL.dX st) (x.mono fun r' s1 ⟨e1, e2⟩ _ => ⟨by rw [e1]; exact hs, (by rw [e2]; intro b o h; cases h), e1, by rw [e2, aTX]⟩) hv
mutual
def cK (st : aB) : AV → AV → List Nat → Prop
 | .int k n, o, bs => o = .int k n ∧ bs = []
 | .bool b, o, bs => o = .bool b ∧ bs = []
 | .str s, o, bs => o = .str s ∧ bs = []
 | .agg cs, o, bs => ∃ os, o = .agg os ∧ cF st cs os bs
 | .slice es, o, bs => (es = [] ∧ o = .fslice [] ∧ bs = []) ∨ ∃ b bs' os w, o = .mslice b 0 es.length w ∧ bs = b :: bs' ∧ st b = some (.cells (os.flatMap AV.cells)) ∧ cF st es os bs' ∧ (∀ e ∈ es, e.width = w)
 | _, _, _ => False
def cF (st : aB) : List AV → List AV → List Nat → Prop
 | [], os, bs => os = [] ∧ bs = []
 | a :: as, os, bs => ∃ o os' b1 b2, os = o :: os' ∧ bs = b1 ++ b2 ∧ cK st a o b1 ∧ cF st as os' b2
end
theorem cF.length {st : aB} : ∀ {as os : List AV} {bs : List Nat}, cF st as os bs → os.length = as.length
 | [], os, bs, x => by simp only [cF] at x; simp [x.1]
 | a :: as, os, bs, x => by
  simp only [cF] at x
  obtain ⟨o, os', b1, b2, rfl, rfl, _, x2⟩ := x
  simp [cF.length x2]
theorem cK.shape {st : aB} : ∀ {a o : AV} {bs : List Nat}, cK st a o bs → o.isAgg = a.isAgg ∧ o.width = a.width ∧ o.cB = false ∧ (∀ cs, a = .agg cs → ∃ os, o = .agg os)
 | .int k n, o, bs, x => by simp only [cK] at x; rw [x.1]; exact ⟨rfl, rfl, rfl, by simp⟩
 | .bool b, o, bs, x => by simp only [cK] at x; rw [x.1]; exact ⟨rfl, rfl, rfl, by simp⟩
 | .str s, o, bs, x => by simp only [cK] at x; rw [x.1]; exact ⟨rfl, rfl, rfl, by simp⟩
 | .agg cs, o, bs, x => by
  simp only [cK] at x
  obtain ⟨os, rfl, x⟩ := x
  exact ⟨rfl, x.length, rfl, fun _ _ => ⟨os, rfl⟩⟩
 | .slice es, o, bs, x => by
  simp only [cK] at x
  rcases x with ⟨_, rfl, _⟩ | ⟨b, bs', os, w, rfl, _⟩ <;> exact ⟨rfl, rfl, rfl, by simp⟩
 | .junk, _, _, x => x.elim
 | .undef, _, _, x => x.elim
 | .tup _, _, _, x => x.elim
 | .fslice _, _, _, x => x.elim
 | .mslice _ _ _ _, _, _, x => x.elim
 | .nilptr, _, _, x => x.elim
 | .ptr _ _, _, _, x => x.elim
 | .pptr _, _, _, x => x.elim
 | .nilmap, _, _, x => x.elim
 | .map _, _, _, x => x.elim
 | .func _ _, _, _, x => x.elim
 | .raw _, _, _, x => x.elim
 | .eslice, _, _, x => x.elim
section
variable {st st' : aB}
mutual
theorem cK.a8 : ∀ (a o : AV) (bs : List Nat), (∀ b ∈ bs, st' b = st b) → cK st a o bs → cK st' a o bs
 | .int k n, o, bs, _, x => x
 | .bool b, o, bs, _, x => x
 | .str s, o, bs, _, x => x
 | .agg cs, o, bs, h, x => by
  simp only [cK] at x ⊢
  obtain ⟨os, e, x⟩ := x
  exact ⟨os, e, cF.a8 cs os bs h x⟩
 | .slice es, o, bs, h, x => by
  simp only [cK] at x ⊢
  rcases x with x | ⟨b, bs', os, w, e1, rfl, e2, x, e3⟩
  · exact .inl x
  · exact .inr ⟨b, bs', os, w, e1, rfl, (h b (by simp)).trans e2, cF.a8 es os bs' (fun q hq => h q (by simp [hq])) x, e3⟩
 | .junk, _, _, _, x => x
 | .undef, _, _, _, x => x
 | .tup _, _, _, _, x => x
 | .fslice _, _, _, _, x => x
 | .mslice _ _ _ _, _, _, _, x => x
 | .nilptr, _, _, _, x => x
 | .ptr _ _, _, _, _, x => x
 | .pptr _, _, _, _, x => x
 | .nilmap, _, _, _, x => x
 | .map _, _, _, _, x => x
 | .func _ _, _, _, _, x => x
 | .raw _, _, _, _, x => x
 | .eslice, _, _, _, x => x
theorem cF.a8 : ∀ (as os : List AV) (bs : List Nat), (∀ b ∈ bs, st' b = st b) → cF st as os bs → cF st' as os bs
 | [], os, bs, _, x => x
 | a :: as, os, bs, h, x => by
  simp only [cF] at x ⊢
  obtain ⟨o, os', b1, b2, e1, rfl, x1, x2⟩ := x
  exact ⟨o, os', b1, b2, e1, rfl, cK.a8 a o b1 (fun q hq => h q (by simp [hq])) x1, cF.a8 as os' b2 (fun q hq => h q (by simp [hq])) x2⟩
end
mutual
theorem cK.hH : ∀ (a o : AV) (bs : List Nat), cK st a o bs → o.hH = true ∧ o.cells.all AV.storable = o.cells.all AV.storable ∧ ∀ b ∈ bs, ∃ cs, st b = some (.cells cs) ∧ kR cs = true
 | .int k n, o, bs, x => by simp only [cK] at x; rw [x.1, x.2]; exact ⟨rfl, rfl, by simp⟩
 | .bool b, o, bs, x => by simp only [cK] at x; rw [x.1, x.2]; exact ⟨rfl, rfl, by simp⟩
 | .str s, o, bs, x => by simp only [cK] at x; rw [x.1, x.2]; exact ⟨rfl, rfl, by simp⟩
 | .agg cs, o, bs, x => by
  simp only [cK] at x
  obtain ⟨os, rfl, x⟩ := x
  obtain ⟨h1, h2⟩ := cF.hH cs os bs x
  exact ⟨by simpa [AV.hH] using h1.1, rfl, h2⟩
 | .slice es, o, bs, x => by
  simp only [cK] at x
  rcases x with ⟨_, rfl, rfl⟩ | ⟨b, bs', os, w, rfl, rfl, e2, x, e3⟩
  · exact ⟨rfl, rfl, by simp⟩
  · obtain ⟨h1, h2⟩ := cF.hH es os bs' x
    refine ⟨rfl, rfl, fun q hq => ?_⟩
    rcases cY.1 hq with rfl | hq
    · exact ⟨_, e2, h1.2⟩
    · exact h2 q hq
 | .junk, _, _, x => x.elim
 | .undef, _, _, x => x.elim
 | .tup _, _, _, x => x.elim
 | .fslice _, _, _, x => x.elim
 | .mslice _ _ _ _, _, _, x => x.elim
 | .nilptr, _, _, x => x.elim
 | .ptr _ _, _, _, x => x.elim
 | .pptr _, _, _, x => x.elim
 | .nilmap, _, _, x => x.elim
 | .map _, _, _, x => x.elim
 | .func _ _, _, _, x => x.elim
 | .raw _, _, _, x => x.elim
 | .eslice, _, _, x => x.elim
theorem cF.hH : ∀ (as os : List AV) (bs : List Nat), cF st as os bs → (kR os = true ∧ kR (os.flatMap AV.cells) = true) ∧ ∀ b ∈ bs, ∃ cs, st b = some (.cells cs) ∧ kR cs = true
 | [], os, bs, x => by simp only [cF] at x; rw [x.1, x.2]; exact ⟨⟨rfl, rfl⟩, by simp⟩
 | a :: as, os, bs, x => by
  simp only [cF] at x
  obtain ⟨o, os', b1, b2, rfl, rfl, x1, x2⟩ := x
  obtain ⟨h1, _, h2⟩ := cK.hH a o b1 x1
  obtain ⟨⟨h3, h4⟩, h5⟩ := cF.hH as os' b2 x2
  have H3 : ∀ (p q : List AV), kR p = true → kR q = true → kR (p ++ q) = true := by
   intro p q hp hq
   induction p with
   | nil => exact hq
   | cons c p ih => simp only [kR, cM, fF] at hp ⊢; exact ⟨hp.1, ih hp.2⟩
  have hc : kR o.cells = true := by cases o <;> first | (simpa [AV.cells, kR] using h1) | (simpa [AV.cells, AV.hH] using h1)
  refine ⟨⟨by simp [kR, h1, h3], by rw [tS]; exact H3 _ _ hc h4⟩, fun q hq => ?_⟩
  rcases fS.1 hq with hq | hq
  · exact h2 q hq
  · exact h5 q hq
end
end
section
variable {h : bH} {st s0 : aB}
mutual
theorem cK.view (S : cS h st) (D : aL st s0) : ∀ (a o : AV) (bs : List Nat) (cs : List Value), cK st a o bs → (∀ b ∈ bs, s0 b = none) → VC h st o cs → VC h s0 a cs
 | .int k n, o, bs, cs, x, _, y => by simp only [cK] at x; rw [x.1] at y; exact y
 | .bool b, o, bs, cs, x, _, y => by simp only [cK] at x; rw [x.1] at y; exact y
 | .str s, o, bs, cs, x, _, y => by simp only [cK] at x; rw [x.1] at y; exact y
 | .agg as, o, bs, cs, x, hb, y => by
  simp only [cK] at x
  obtain ⟨os, rfl, x⟩ := x
  simp only [VC] at y ⊢
  exact cF.VG S D as os bs cs x hb y
 | .slice es, o, bs, cs, x, hb, y => by
  simp only [cK] at x
  rcases x with ⟨rfl, rfl, rfl⟩ | ⟨b, bs', os, w, rfl, rfl, e2, x, e3⟩
  · unfold VC at y ⊢
    rcases y with y | ⟨b, off, e, _⟩
    · exact .inl y
    · exact .inl ⟨⟨_, e⟩, rfl⟩
  · simp only [VC] at y
    obtain ⟨cap, e, l1, l2, _⟩ := y
    obtain ⟨hlt, c, t, q1, q2, vs, q3, q4⟩ := S b _ e2
    have hsh := cF.aHU x
    unfold VC
    refine .inr ⟨b, 0, cap, e, l1, l2, hb b (by simp), hlt, ⟨w, e3⟩, cF.aLS S D b es os bs' 0 x (fun q hq => hb q (by simp [hq])) (JH (fun q hq => hsh q hq) q3 q4)⟩
 | .junk, _, _, _, x, _, _ => x.elim
 | .undef, _, _, _, x, _, _ => x.elim
 | .tup _, _, _, _, x, _, _ => x.elim
 | .fslice _, _, _, _, x, _, _ => x.elim
 | .mslice _ _ _ _, _, _, _, x, _, _ => x.elim
 | .nilptr, _, _, _, x, _, _ => x.elim
 | .ptr _ _, _, _, _, x, _, _ => x.elim
 | .pptr _, _, _, _, x, _, _ => x.elim
 | .nilmap, _, _, _, x, _, _ => x.elim
 | .map _, _, _, _, x, _, _ => x.elim
 | .func _ _, _, _, _, x, _, _ => x.elim
 | .raw _, _, _, _, x, _, _ => x.elim
 | .eslice, _, _, _, x, _, _ => x.elim
theorem cF.VG (S : cS h st) (D : aL st s0) : ∀ (as os : List AV) (bs : List Nat) (cs : List Value), cF st as os bs → (∀ b ∈ bs, s0 b = none) → aY h st os cs → aY h s0 as cs
 | [], os, bs, cs, x, _, y => by simp only [cF] at x; rw [x.1] at y; exact y
 | a :: as, os, bs, cs, x, hb, y => by
  simp only [cF] at x
  obtain ⟨o, os', b1, b2, rfl, rfl, x1, x2⟩ := x
  simp only [aY] at y ⊢
  obtain ⟨c, r, e, y1, y2⟩ := y
  exact ⟨c, r, e, cK.view S D a o b1 [c] x1 (fun q hq => hb q (by simp [hq])) y1, cF.VG S D as os' b2 r x2 (fun q hq => hb q (by simp [hq])) y2⟩
theorem cF.aLS (S : cS h st) (D : aL st s0) (b : Nat) : ∀ (as os : List AV) (bs : List Nat) (off : Nat), cF st as os bs → (∀ b ∈ bs, s0 b = none) → cX h st b off os → cX h s0 b off as
 | [], os, bs, off, x, _, y => by simp only [cX]
 | a :: as, os, bs, off, x, hb, y => by
  simp only [cF] at x
  obtain ⟨o, os', b1, b2, rfl, rfl, x1, x2⟩ := x
  simp only [cX] at y ⊢
  obtain ⟨⟨cs, y1, y2, y3⟩, y4⟩ := y
  have hw := (cK.shape x1).2.1
  rw [hw] at y2 y4
  exact ⟨⟨cs, y1, y2, cK.view S D a o b1 cs x1 (fun q hq => hb q (by simp [hq])) y3⟩, cF.aLS S D b as os' b2 _ x2 (fun q hq => hb q (by simp [hq])) y4⟩
theorem cF.aHU : ∀ {as os : List AV} {bs : List Nat}, cF st as os bs → ∀ o ∈ os, o.cB = false
 | [], os, bs, x => by simp only [cF] at x; rw [x.1]; simp
 | a :: as, os, bs, x => by
  simp only [cF] at x
  obtain ⟨o, os', b1, b2, rfl, rfl, x1, x2⟩ := x
  intro q hq
  rcases cY.1 hq with rfl | hq
  · exact (cK.shape x1).2.2.1
  · exact cF.aHU x2 q hq
end
theorem cK.aPW (S : cS h st) (D : aL st s0) {a o : AV} {bs : List Nat} {v : Value} (x : cK st a o bs) (hb : ∀ b ∈ bs, s0 b = none) (y : aR h st o v) : aR h s0 a v := by
 have hs := x.shape
 have key : o.isAgg = k6 v ∧ VC h st o v.cells.toList := by
  cases o <;> first | exact y | simp [AV.cB] at hs
 have z : a.isAgg = k6 v ∧ VC h s0 a v.cells.toList := ⟨hs.1.symm.trans key.1, cK.view S D _ _ _ _ x hb key.2⟩
 cases ha : a <;> rw [ha] at z <;> first | trivial | exact z
end
def Seen (st s0 : aB) : List AV → List AV → Prop
 | [], as => as = []
 | o :: os, as => ∃ a as', as = a :: as' ∧ (o = a ∨ ∃ bs, cK st a o bs ∧ ∀ b ∈ bs, s0 b = none) ∧ Seen st s0 os as'
theorem Seen.rel {st s0 : aB} (D : aL st s0) : ∀ {os as : List AV}, Seen st s0 os as → ∀ h vs, cS h st → cZ h st os vs → cZ h s0 as vs
 | [], as, x, h, vs, _, y => by simp only [Seen] at x; rw [x]; exact y
 | o :: os, as, x, h, vs, S, y => by
  simp only [Seen] at x
  obtain ⟨a, as', rfl, x1, x2⟩ := x
  simp only [cZ] at y ⊢
  obtain ⟨v, r, rfl, y1, y2⟩ := y
  refine ⟨v, r, rfl, ?_, Seen.rel D x2 h r S y2⟩
  rcases x1 with rfl | ⟨bs, x1, hb⟩
  · exact y1.mono (D.step h)
  · exact x1.aPW S D hb y1
def Made (st : aB) (a r : AV) (st' : aB) : Prop := ∃ bs : List Nat, bs.Nodup ∧ (∀ b ∈ bs, st b = none) ∧ cK st' a r bs ∧ ∀ b, b ∉ bs → st' b = st b
theorem cF.aH5 {st : aB} {w : Nat} : ∀ {as os : List AV} {bs : List Nat}, cF st as os bs → (∀ e ∈ as, e.width = w) → (os.flatMap AV.cells).length = as.length * w
 | [], os, bs, x, _ => by simp only [cF] at x; rw [x.1]; simp
 | a :: as, os, bs, x, h => by
  simp only [cF] at x
  obtain ⟨o, os', b1, b2, rfl, rfl, x1, x2⟩ := x
  have := cF.aH5 x2 (fun e he => h e (by simp [he]))
  rw [tS, dQ, this, vE, (cK.shape x1).2.1, h a (by simp), aS, qW]
  omega
theorem SW {A C B x : List AV} {n j : Nat} (hA : A.length = n) (hj : j + x.length ≤ C.length) : aK (A ++ C ++ B) (n + j) x = A ++ aK C j x ++ B := by
 subst hA
 unfold aK
 have h1 : (A ++ C ++ B).take (A.length + j) = A ++ C.take j := by
  rw [nZ, List.take_length_add_append, DA (by omega)]
 have h2 : (A ++ C ++ B).drop (A.length + j + x.length) = C.drop (j + x.length) ++ B := by
  rw [nZ, C8, List.drop_length_add_append, List.drop_append_of_le_length (by omega)]
 rw [h1, h2]
 simp
theorem N5 {A B : List AV} {n : Nat} (hA : A.length = n) : (∀ (C : List AV) (v : AV) (j : Nat), j < C.length → aK (A ++ C ++ B) (n + j) [v] = A ++ C.set j v ++ B) ∧ (∀ (C : List AV) (c : Nat), c < C.length → n + c + 1 ≤ (A ++ C ++ B).length) ∧
 (∀ (C : List AV) (c : Nat), c < C.length → (A ++ C ++ B)[n + c]? = C[c]?) ∧ (∀ (C : List AV) (v : AV), 0 < C.length → aK (A ++ C ++ B) n [v] = A ++ C.set 0 v ++ B) ∧ (∀ (C : List AV), 0 < C.length → n + 1 ≤ (A ++ C ++ B).length) ∧
 ∀ (C : List AV), 0 < C.length → (A ++ C ++ B)[n]? = C[0]? := by
 have k1 : (∀ (C : List AV) (v : AV) (j : Nat), j < C.length → aK (A ++ C ++ B) (n + j) [v] = A ++ C.set j v ++ B) ∧ (∀ (C : List AV) (c : Nat), c < C.length → n + c + 1 ≤ (A ++ C ++ B).length) ∧ ∀ (C : List AV) (c : Nat), c < C.length → (A ++ C ++ B)[n + c]? = C[c]? := ?_
 · exact ⟨k1.1, k1.2.1, k1.2.2, fun C v h => k1.1 C v 0 h, fun C h => k1.2.1 C 0 h, fun C h => k1.2.2 C 0 h⟩
 refine ⟨fun C v j h => ?_, fun C c h => ?_, fun C c h => ?_⟩
 · rw [SW hA (by simp; omega), List.set_eq_take_append_cons_drop, aG h]
   unfold aK
   simp
 · simp only [dQ]; omega
 · subst hA
   rw [nZ, aL8 (by omega), Nat.add_sub_cancel_left, aL9 h]
theorem aM5 {A B C x : List AV} {n w : Nat} (hA : A.length = n) (hC : C.length = w) (hx : x.length = w) : aK (A ++ C ++ B) n x = A ++ x ++ B ∧ n + w ≤ (A ++ C ++ B).length := by
 have h := SW (A := A) (C := C) (B := B) (x := x) (n := n) (j := 0) hA (by omega)
 rw [GW] at h
 refine ⟨?_, by simp only [dQ]; omega⟩
 rw [h]
 unfold aK
 simp [hC, hx]
theorem xX {P : Program} {t : TypeId} {ag : Bool} {b len w i : Nat} (hI : eI P t = some (ag, w)) (hi : i < len) : dJ P t (.mslice b 0 len w) (.int .i64 (i : Int)) = some (.ptr b (i * w)) := by
 simp only [dJ, hI, l7, gY]
 rw [aG ⟨by omega, by omega, trivial⟩]
theorem cK.R6 {st : aB} : ∀ {cs os : List AV} {bs : List Nat}, cF st cs os bs → (∀ c ∈ cs, c.isAgg = false) → os.all AV.storable = true ∧ os.flatMap AV.cells = os
 | [], os, bs, x, _ => by simp only [cF] at x; rw [x.1]; simp
 | a :: as, os, bs, x, h => by
  simp only [cF] at x
  obtain ⟨o, os', b1, b2, rfl, rfl, x1, x2⟩ := x
  have ih := cK.R6 x2 (fun c hc => h c (by simp [hc]))
  have ha := h a (by simp)
  have ho : o.storable = true ∧ o.cells = [o] := by
   cases a <;> simp only [cK] at x1 <;> try exact x1.elim
   case int => rw [x1.1]; exact ⟨rfl, rfl⟩
   case bool => rw [x1.1]; exact ⟨rfl, rfl⟩
   case str => rw [x1.1]; exact ⟨rfl, rfl⟩
   case agg => simp [AV.isAgg] at ha
   case slice => rcases x1 with ⟨_, rfl, _⟩ | ⟨b, bs', os, w, rfl, _⟩ <;> exact ⟨rfl, rfl⟩
  rw [kG, ho.1, ih.1, tS, ih.2, ho.2]
  exact ⟨rfl, rfl⟩
theorem cF.snoc {st st' : aB} {a o : AV} {b2 : List Nat} : ∀ {as os : List AV} {b1 : List Nat}, cF st as os b1 → (∀ b ∈ b1, st' b = st b) → cK st' a o b2 → cF st' (as ++ [a]) (os ++ [o]) (b1 ++ b2)
 | [], os, b1, x, _, y => by
  simp only [cF] at x
  rw [x.1, x.2]
  simp only [eR, cF]
  exact ⟨o, [], b2, [], rfl, by simp, y, rfl, rfl⟩
 | c :: as, os, b1, x, h, y => by
  simp only [cF] at x
  obtain ⟨o1, os', b3, b4, rfl, rfl, x1, x2⟩ := x
  simp only [fF, cF]
  exact ⟨o1, os' ++ [o], b3, b4 ++ b2, rfl, by simp, cK.a8 _ _ _ (fun q hq => h q (by simp [hq])) x1, cF.snoc x2 (fun q hq => h q (by simp [hq])) y⟩
def aR2 (st : aB) (ds : List Nat) (a r : AV) (st' : aB) : Prop := ∃ bs : List Nat, bs.Nodup ∧ (∀ b ∈ bs, st b = none) ∧ (∀ d ∈ ds, st d = none ∧ d ∉ bs) ∧ cK st' a r bs ∧ ∀ b, b ∉ bs → b ∉ ds → st' b = st b
theorem aD.aPX {P : Program} {g : FuncId} {args : List AV} {st : aB} {a : AV} (x : aD P g args st (fun r st' => ∃ ds, aR2 st ds a r st')) : aD P g args st (Made st a) :=
 x.m7 fun r st' ⟨ds, bs, h1, h2, hd, h3, h4⟩ => by
  refine ⟨r, fun q => if q ∈ ds then none else st' q, ?_, ?_, bs, h1, h2, ?_, fun b hb => ?_⟩
  · have D : aL st' (fun q => if q ∈ ds then none else st' q) := fun q => by
     by_cases hq : q ∈ ds
     · simp only [hq, fZ]; exact ⟨fun _ => trivial, fun o h => by cases h⟩
     · simp only [hq, dZ]; exact ⟨id, fun o h => h⟩
    exact D.sR
  · have D : aL st' (fun q => if q ∈ ds then none else st' q) := fun q => by
     by_cases hq : q ∈ ds
     · simp only [hq, fZ]; exact ⟨fun _ => trivial, fun o h => by cases h⟩
     · simp only [hq, dZ]; exact ⟨id, fun o h => h⟩
    exact D.m7 r
  · exact cK.a8 _ _ _ (fun q hq => aE fun h => (hd q h).2 hq) h3
  · by_cases hq : b ∈ ds
    · simp only [hq, fZ]; exact (hd b hq).1.symm
    · simp only [hq, dZ]; exact h4 b hb hq
def vH (b : Nat) : List AV → List Nat
 | [] => []
 | _ :: _ => [b]
theorem aZM {s : aB} {b w : Nat} {es os : List AV} {bs : List Nat} (x : cF (aZ s b os) es os bs) (hw : ∀ e ∈ es, e.width = w) : cK (aZ s b os) (.slice es) (a9 w b os) (vH b os ++ bs) := by
 have hl := x.length
 cases os with
 | nil =>
  have : es = [] := sM (by simpa using hl.symm)
  subst this
  simp only [cF] at x
  simp only [cK, a9, vH, x.2]
  exact .inl ⟨trivial, trivial, rfl⟩
 | cons o os =>
  simp only [cK, a9, vH]
  refine .inr ⟨b, bs, o :: os, w, by rw [hl], rfl, ?_, x, hw⟩
  simp only [aZ, aB.aP]
def AV.flat : AV → Bool
 | .int _ _ | .bool _ | .str _ => true
 | _ => false
theorem cF.flat {s : aB} : ∀ {es : List AV}, es.all AV.flat = true → cF s es es []
 | [], _ => ⟨rfl, rfl⟩
 | e :: es, h => by
  simp only [kG, cM] at h
  simp only [cF]
  refine ⟨e, es, [], [], rfl, rfl, ?_, cF.flat h.2⟩
  cases e <;> simp [AV.flat] at h <;> simp [cK]
theorem Seen.nil {st s0 : aB} : Seen st s0 [] [] := rfl
theorem Seen.same {st s0 : aB} {x : AV} {os as : List AV} (h : Seen st s0 os as) : Seen st s0 (x :: os) (x :: as) := ⟨x, as, rfl, .inl rfl, h⟩
theorem Seen.own {st : aB} {a o : AV} {bs : List Nat} {os as : List AV} (hO : cK st a o bs) (h : Seen st dX os as) : Seen st dX (o :: os) (a :: as) := ⟨a, as, rfl, .inr ⟨bs, hO, fun _ _ => rfl⟩, h⟩
theorem aD.see {P : Program} {g : FuncId} {args args' : List AV} {st : aB} {r : AV} (x : ∀ s, aD P g args s (fun r' s' => r' = r ∧ s' = s)) (hv : Seen st dX args' args) (hs : r.hH = true) : aD P g args' st (fun r' s' => r' = r ∧ s' = st) :=
 aD.aEN hs (x dX) (Seen.rel (aL.dX st) hv)
theorem aD.pO {P : Program} {g : FuncId} {args : List AV} {st : aB} {r : AV} (x : aD P g args st (fun r' st' => r' = r ∧ aL st' st)) : aD P g args st (fun r' st' => r' = r ∧ st' = st) :=
 (x.mono fun _ _ h => ⟨h.2, h.1⟩).drop
theorem aXQ {P : Program} {t : TypeId} {st : aB} {s x : AV} {K K' : AV → aB → Prop} (h : ∀ r s, K r s → K' r s) (e : jO P t st s x K) : jO P t st s x K' := by
 unfold jO at *
 split at e
 case h_2 => exact e.elim
 refine ⟨e.1, e.2.1, ?_⟩
 have e := e.2.2
 split at e
 · exact ⟨e.1, e.2.1, e.2.2.1, fun q => h _ _ (e.2.2.2.1 q), fun q b hb => h _ _ (e.2.2.2.2 q b hb)⟩
 · refine ⟨e.1, e.2.1, e.2.2.1, ?_⟩
   have e := e.2.2.2
   split at e
   · exact ⟨e.1, h _ _ e.2.1, fun b hb => h _ _ (e.2.2 b hb)⟩
   · exact e.elim
 · exact e.elim
theorem aQZ {P : Program} {t t' : TypeId} {st : aB} {s x : AV} {K K' : AV → aB → Prop} (h : ∀ r s, K r s → K' r s) (e : sB P t t' st s x K) : sB P t t' st s x K' := by
 unfold sB at *
 split at e
 case h_2 => exact e.elim
 refine ⟨e.1, e.2.1, e.2.2.1, e.2.2.2.1, ?_⟩
 have e := e.2.2.2.2
 split at e
 · exact ⟨e.1, e.2.1, e.2.2.1, fun q => h _ _ (e.2.2.2.1 q), fun q b hb => h _ _ (e.2.2.2.2 q b hb)⟩
 · refine ⟨e.1, e.2.1, e.2.2.1, ?_⟩
   have e := e.2.2.2
   split at e
   · exact ⟨e.1, h _ _ e.2.1, fun b hb => h _ _ (e.2.2 b hb)⟩
   · exact e.elim
 · exact e.elim
theorem BK {P : Program} {mt : List Nat} {φ : AF} {st : aB} {o : Oper} {K K' : AV → aB → Prop} (h : ∀ r s, K r s → K' r s) (e : eX P mt φ st o K) : eX P mt φ st o K' := by
 unfold eX at *
 split at e
 · split at e
   · exact e.mono h
   · exact e.elim
 · split at e
   · split at e
     · rename_i ht; rw [aG ht]; exact aXQ h e
     · rename_i ht; rw [aE ht]; exact aQZ h e
   · exact e.elim
 · split at e
   · unfold zP at *
     split at e
     · split at e
       · exact h _ _ e
       · exact e.elim
     · exact e.elim
   · exact e.elim
 · split at e
   · rename_i hm
     rw [aG hm]
     exact ⟨e.1, fun b hb => h _ _ (e.2 b hb)⟩
   · rename_i hm
     rw [aE hm]
     split at e
     · exact h _ _ e
     · exact e.elim
 · split at e
   · exact fun b hb => h _ _ (e b hb)
   · exact e.elim
 · split at e
   · split at e
     · exact ⟨e.1, e.2.1, e.2.2.1, h _ _ e.2.2.2⟩
     · exact e.elim
   · exact e.elim
 · exact fun b hb => h _ _ (e b hb)
 · unfold wQ at *
   split at e
   · exact ⟨e.1, e.2.1, e.2.2.1, e.2.2.2.1, e.2.2.2.2.1, e.2.2.2.2.2.1, fun b hb => h _ _ (e.2.2.2.2.2.2 b hb)⟩
   · exact e.elim
 · unfold sE at *
   split at e
   · split at e
     · exact ⟨e.1, h _ _ e.2⟩
     · exact e.elim
   · exact e.elim
 · split at e
   · exact h _ _ e
   · exact e.elim
def jX (P : Program) (ops : Array Oper) (o : Oper) (φ : AF) (st : aB) (K : AV → aB → Prop) : Prop := match jB ops φ o with
 | some true => eX P [] φ st o K
 | some false => K .undef st
 | none => False
theorem v7 {P : Program} {ops : Array Oper} {o : Oper} {φ : AF} {st : aB} {K K' : AV → aB → Prop} (h : ∀ r s, K r s → K' r s) (e : jX P ops o φ st K) : jX P ops o φ st K' := by
 unfold jX at *
 split at e
 · exact BK h e
 · exact h _ _ e
 · exact e.elim
section
variable {P : Program}
theorem aNF {ops : Array Oper} {oi oj : Oper} (φ : AF) (v : AV) (h : ∀ d, oj.dst = some d → d ∉ oi.looksAt ops) : jB ops (φ.put oj.dst v) oi = jB ops φ oi := by
 unfold jB
 cases hg : oi.guard with
 | none => rfl
 | some gw =>
  obtain ⟨g, want⟩ := gw
  cases ht : (ops[g]?).bind (·.dst) with
  | none => simp only [ht]
  | some t =>
   simp only [ht]
   have : (φ.put oj.dst v) t = φ t := by
    have := HX (φ := φ) (dst := oj.dst) (v := v) (x := .tmp t) (fun d hd hxd => h d hd (by
     cases hxd
     simp [Oper.looksAt, hg, ht]))
    exact this
   rw [this]
theorem P8 {ops : Array Oper} {oi oj : Oper} (φ : AF) (v : AV) {st : aB} {K : AV → aB → Prop} (h : ∀ d, oj.dst = some d → d ∉ oi.looksAt ops) : jX P ops oi (φ.put oj.dst v) st K ↔ jX P ops oi φ st K := by
 have h1 : eX P [] (φ.put oj.dst v) st oi K = eX P [] φ st oi K :=
  YJ fun x hx => HX fun d hd hxd => h d hd (by
   subst hxd
   exact List.mem_append_left _ (List.mem_filterMap.2 ⟨.tmp d, by simpa using hx, rfl⟩))
 unfold jX
 rw [h1, aNF φ v h]
theorem aAC (n j : Nat) : (Array.replicate n false).getD j false = false := by
 rcases kT j n with h | h <;> simp [h]
def IJ (P : Program) (ops : Array Oper) (K : AF → aB → Prop) : Nat → Array Bool → AF → aB → Prop
 | 0, listed, φ, st => Region.ready .any ops listed = [] ∧ K φ st
 | f + 1, listed, φ, st => (Region.ready .any ops listed = [] → K φ st) ∧ ∀ i ∈ Region.ready .any ops listed, ∃ o, ops[i]? = some o ∧ jX P ops o φ st (fun r st' => IJ P ops K f (listed.setIfInBounds i true) (φ.put o.dst r) st')
theorem aT2 {N : Nat} {ops : Array Oper} (hN : ∀ (j d : Nat), (ops[j]?).bind (·.dst) = some d → d < N) {o : Oper} {i : Nat} {a : Act} {w : World} {φ : AF} {st : aB} {G : AV → aB → Prop} {K : Act → World → Prop} {Q : Exit → Act → World → Prop} (hi : ops[i]? = some o)
 (R : Rel N a w φ st) (hd : pP N o = true) (y : jX P ops o φ st G) (h : ∀ a' w' r st', Rel N a' w' (φ.put o.dst r) st' → cC w.heap st w'.heap st' → fP w w' → G r st' → K a' w') : wpOp P ops Q i K a w := by
 unfold jX at y
 unfold wpOp
 simp only [hi]
 split at y
 · rename_i hg
   rw [aG (v6 R hN hg)]
   refine .inl (IF R.frame R.store y fun v w' ⟨r', st', x1, x2, x3, x4, x5⟩ => ?_)
   exact h _ _ r' st' (R.put hd x3 x2 x1) x3 x4 x5
 · rename_i hg
   rw [aE (by rw [v6 R hN hg]; simp)]
   exact h _ _ .undef st (R.put (r := .undef) hd (cC.refl _ _) R.store ⟨rfl, rfl⟩) (cC.refl _ _) (fP.refl _) y
 · exact y.elim
theorem LQ {N : Nat} {ops : Array Oper} (hN : ∀ (j d : Nat), (ops[j]?).bind (·.dst) = some d → d < N) (hD : ∀ o ∈ ops.toList, pP N o = true) {K : AF → aB → Prop} {Q : Exit → Act → World → Prop} {w0 : World} {st0 : aB}
 (hK : ∀ φ st a w, K φ st → Rel N a w φ st → cC w0.heap st0 w.heap st → fP w0 w → Q .normal a w) :
 ∀ (f : Nat) (listed : Array Bool) (φ : AF) (st : aB) (a : Act) (w : World), IJ P ops K f listed φ st → Rel N a w φ st → cC w0.heap st0 w.heap st → fP w0 w → wpAny P .any ops Q f listed a w
 | 0, listed, φ, st, a, w, h, R, T, s => ⟨h.1, hK φ st a w h.2 R T s⟩
 | f + 1, listed, φ, st, a, w, h, R, T, s => by
  refine ⟨fun h0 => hK φ st a w (h.1 h0) R T s, fun i hi => ?_⟩
  obtain ⟨o, ho, y⟩ := h.2 i hi
  exact aT2 hN ho R (hD o (nY.2 (DB ho))) y fun a' w' r st' R' T' s' g => LQ hN hD hK f _ _ _ a' w' g R' (T.trans T') (s.trans s')
def aKY (P : Program) (ops : Array Oper) (o : Oper) (r : AV) (φ : AF) : Prop := ∀ st, jS P st ops o r φ
theorem a1A {ops : Array Oper} {o : Oper} {r : AV} {φ : AF} (h : aKY P ops o r φ) {st : aB} {K : AV → aB → Prop} (k : K r st) : jX P ops o φ st K := by
 unfold jX
 rcases h st with ⟨hg, hs⟩ | ⟨hg, rfl⟩
 · rw [hg]; exact BK (fun r' s' ⟨e1, e2⟩ => by rw [e1, e2]; exact k) hs
 · rw [hg]; exact k
theorem X5 {ops : Array Oper} {o : Oper} {r : AV} {φ : AF} {st : aB} (h : jS P st ops o r φ) {K : AV → aB → Prop} (k : K r st) : jX P ops o φ st K := by
 unfold jX
 rcases h with ⟨hg, hs⟩ | ⟨hg, rfl⟩
 · rw [hg]; exact BK (fun r' s' ⟨e1, e2⟩ => by rw [e1, e2]; exact k) hs
 · rw [hg]; exact k
def CA (P : Program) (ops : Array Oper) (S : List Nat) (K : AF → aB → Prop) : Nat → Array Bool → AF → aB → Prop
 | 0, listed, φ, st => Region.ready .any ops listed = [] ∧ K φ st
 | f + 1, listed, φ, st => (Region.ready .any ops listed = [] → K φ st) ∧ ∀ i ∈ Region.ready .any ops listed, ∃ o, ops[i]? = some o ∧
  ((S.contains i = true ∧ ∃ r, jS P st ops o r φ ∧ CA P ops S K f (listed.setIfInBounds i true) (φ.put o.dst r) st) ∨
   (S.contains i = false ∧ jX P ops o φ st (fun r st' => CA P ops S K f (listed.setIfInBounds i true) (φ.put o.dst r) st')))
theorem Q1 {ops : Array Oper} {S : List Nat} {K : AF → aB → Prop} : ∀ (f : Nat) (listed : Array Bool) (φ : AF) (st : aB), CA P ops S K f listed φ st → IJ P ops K f listed φ st
 | 0, _, _, _, h => h
 | f + 1, listed, φ, st, h => by
  refine ⟨h.1, fun i hi => ?_⟩
  obtain ⟨o, ho, h2⟩ := h.2 i hi
  refine ⟨o, ho, ?_⟩
  rcases h2 with ⟨_, r, y, k⟩ | ⟨_, k⟩
  · exact X5 y (Q1 f _ _ _ k)
  · exact v7 (fun r s q => Q1 f _ _ _ q) k
def vU (ops : Array Oper) (listed : Array Bool) : Prop := ∀ j o, ops[j]? = some o → listed.getD j false = true → ∀ e ∈ o.after, Region.binds .any e = true → listed.getD e.on false = true
theorem vU.set {ops : Array Oper} {listed : Array Bool} {i : Nat} (h : vU ops listed) (hr : i ∈ Region.ready .any ops listed) : vU ops (listed.setIfInBounds i true) := by
 intro j o ho hl e he hb
 by_cases hji : i = j
 · subst hji
   obtain ⟨_, o', ho', dV⟩ := mem_ready.1 hr
   rw [ho'] at ho; cases ho
   exact getD_set_true (dV e he hb)
 · rw [getD_set_ne false hji] at hl
   exact getD_set_true (h j o ho hl e he hb)
def tL (ops : Array Oper) : Nat → Nat → Nat → Bool
 | 0, _, _ => false
 | f + 1, j, i => match ops[j]? with
  | some o => o.after.any fun e => Region.binds .any e && (e.on == i || tL ops f e.on i)
  | none => false
theorem HM {ops : Array Oper} {listed : Array Bool} {i : Nat} (h : vU ops listed) (hi : listed.getD i false = false) : ∀ (f j : Nat) (o : Oper), ops[j]? = some o → tL ops f j i = true → ¬ ∀ e ∈ o.after, Region.binds .any e = true → listed.getD e.on false = true
 | 0, j, o, _, hd => by simp [tL] at hd
 | f + 1, j, o, ho, hd => by
  intro dV
  simp only [tL, ho] at hd
  obtain ⟨e, he, h2⟩ := Array.any_eq_true'.1 hd
  simp only [cM, q9, beq_iff_eq] at h2
  obtain ⟨hb, h3⟩ := h2
  have hl := dV e he hb
  rcases h3 with h3 | h3
  · rw [h3, hi] at hl; cases hl
  · cases hk : ops[e.on]? with
    | none => cases f <;> simp [tL, hk] at h3
    | some o2 => exact HM h hi f e.on o2 hk h3 (h e.on o2 hk hl)
def fK (st s : aB) : Prop := ∀ b o, st b = some o → s b = some o
theorem fK.refl (st : aB) : fK st st := fun _ _ h => h
theorem fK.trans {a b c : aB} (x : fK a b) (y : fK b c) : fK a c := fun q o h => y q o (x q o h)
def J5 (o : Oper) : Bool := match o.op with
 | .alloc _ => true
 | _ => false
theorem aP6 {ops : Array Oper} {o : Oper} {φ : AF} {st : aB} {K : AV → aB → Prop} (ho : J5 o = true) (e : jX P ops o φ st K) : jX P ops o φ st (fun r st' => fK st st' ∧ K r st') := by
 obtain ⟨dst, op, type, pos, after, guard⟩ := o
 cases op <;> simp only [J5, jD] at ho
 unfold jX at e ⊢
 split at e
 · simp only [eX] at e ⊢
   split at e
   · intro b hb
     refine ⟨fun q o hq => ?_, e b hb⟩
     rw [aB.aM _ _ (by rintro rfl; rw [hb] at hq; cases hq)]
     exact hq
   · cases e
 · exact ⟨fK.refl _, e⟩
 · cases e
theorem NE {ops : Array Oper} {S : List Nat} {i : Nat} {oi : Oper} {v : AV} {K : AF → aB → Prop} (hi : ops[i]? = some oi) (hS : S.contains i = true) :
 ∀ (f : Nat) (listed : Array Bool) (φ : AF) (st : aB), vU ops listed →
  (∀ j oj, ops[j]? = some oj → j ≠ i → listed.getD j true = false → (∀ e ∈ oj.after, Region.binds .any e = true → e.on ≠ i) → oi.apart ops oj = true) →
  i ∈ Region.ready .any ops listed → ((∀ s, jS P s ops oi v φ) ∨ (jS P st ops oi v φ ∧ ∀ j oj, ops[j]? = some oj → listed.getD j true = false → S.contains j = false → ∃ g, tL ops g j i = true) ∨ ((∀ s, fK st s → jS P s ops oi v φ) ∧ ∀ j oj, ops[j]? = some oj → listed.getD j true = false → S.contains j = false → (∃ g, tL ops g j i = true) ∨ J5 oj = true)) →
  CA P ops S K f (listed.setIfInBounds i true) (φ.put oi.dst v) st → CA P ops S K (f + 1) listed φ st := by
 intro f
 induction f with
 | zero =>
  intro listed φ st hcl _ hr hy H
  have hy0 : jS P st ops oi v φ := by
   rcases hy with h | h | h
   · exact h st
   · exact h.1
   · exact h.1 st (fK.refl st)
  refine ⟨fun h => (by rw [h] at hr; cases hr), fun j hj => ?_⟩
  by_cases hji : j = i
  · subst hji; exact ⟨oi, hi, .inl ⟨hS, v, hy0, H⟩⟩
  · have := ready_mono hj hji
    rw [H.1] at this
    cases this
 | succ f ih =>
  intro listed φ st hcl pI hr hy H
  have hy0 : jS P st ops oi v φ := by
   rcases hy with h | h | h
   · exact h st
   · exact h.1
   · exact h.1 st (fK.refl st)
  refine ⟨fun h => (by rw [h] at hr; cases hr), fun j hj => ?_⟩
  by_cases hji : j = i
  · subst hji; exact ⟨oi, hi, .inl ⟨hS, v, hy0, H⟩⟩
  · obtain ⟨oj, hoj, h1⟩ := H.2 j (ready_mono hj hji)
    obtain ⟨oH, oj', x7, dV⟩ := mem_ready.1 hj
    have : oj' = oj := nG (x7.symm.trans hoj)
    subst this
    have hun := (mem_ready.1 hr).1
    have sD : ∀ e ∈ oj'.after, Region.binds .any e = true → e.on ≠ i := fun e he hb heq => by
     have h1 := dV e he hb
     rw [heq, getD_both hun] at h1
     cases h1
    obtain ⟨a1, a2, a3⟩ := Oper.apart_spec (pI j oj' hoj hji oH sD)
    have s9 : ∀ k ok, ops[k]? = some ok → k ≠ i → (listed.setIfInBounds j true).getD k true = false →
     (∀ e ∈ ok.after, Region.binds .any e = true → e.on ≠ i) → oi.apart ops ok = true := fun k ok hk hki hun hno => by
     refine pI k ok hk hki ?_ hno
     by_cases hjk : j = k
     · subst hjk; exact oH
     · rw [getD_set_ne true hjk] at hun; exact hun
    have LK : ∀ k, (listed.setIfInBounds j true).getD k true = false → listed.getD k true = false := fun k hk => by
     by_cases hjk : j = k
     · subst hjk; exact oH
     · rw [getD_set_ne true hjk] at hk; exact hk
    refine ⟨oj', hoj, ?_⟩
    rcases h1 with ⟨hSj, r, yj, h2⟩ | ⟨hSj, h2⟩
    · refine .inl ⟨hSj, r, (pF φ v a1).1 yj, ih (listed.setIfInBounds j true) (φ.put oj'.dst r) st (hcl.set hj) s9 (ready_mono hr (dB hji)) ?_ ?_⟩
      · rcases hy with h | h | h
        · exact .inl fun s => (pF φ r a3).2 (h s)
        · exact .inr (.inl ⟨(pF φ r a3).2 h.1, fun k ok hk hl hs => h.2 k ok hk (LK k hl) hs⟩)
        · exact .inr (.inr ⟨fun s hs => (pF φ r a3).2 (h.1 s hs), fun k ok hk hl hs => h.2 k ok hk (LK k hl) hs⟩)
      · rw [DC _ _ hji, ← put_comm φ v r a2]
        exact h2
    · rcases hy with hf | ⟨_, hd⟩ | ⟨hx, hd⟩
      · refine .inr ⟨hSj, v7 (fun r st' h3 => ?_) ((P8 φ v a1).1 h2)⟩
        refine ih (listed.setIfInBounds j true) (φ.put oj'.dst r) st' (hcl.set hj) s9 (ready_mono hr (dB hji)) (.inl fun s => (pF φ r a3).2 (hf s)) ?_
        rw [DC _ _ hji, ← put_comm φ v r a2]
        exact h3
      · obtain ⟨g, hg⟩ := hd j oj' hoj oH hSj
        exact absurd dV (HM hcl (getD_both hun) g j oj' hoj hg)
      · rcases hd j oj' hoj oH hSj with ⟨g, hg⟩ | hal
        · exact absurd dV (HM hcl (getD_both hun) g j oj' hoj hg)
        · refine .inr ⟨hSj, v7 (fun r st' h3 => ?_) (aP6 hal ((P8 φ v a1).1 h2))⟩
          refine ih (listed.setIfInBounds j true) (φ.put oj'.dst r) st' (hcl.set hj) s9 (ready_mono hr (dB hji)) (.inr (.inr ⟨fun s hs => (pF φ r a3).2 (hx s (h3.1.trans hs)), fun k ok hk hl hs => hd k ok hk (LK k hl) hs⟩)) ?_
          rw [DC _ _ hji, ← put_comm φ v r a2]
          exact h3.2
def aGR (ops : Array Oper) (S : List Nat) (listed : Array Bool) (i : Nat) : Bool := (List.range ops.size).all fun j => listed.getD j true || S.contains j || tL ops ops.size j i
def aAH (ops : Array Oper) (S : List Nat) (listed : Array Bool) (i : Nat) : Bool := (List.range ops.size).all fun j => listed.getD j true || S.contains j || tL ops ops.size j i || ((ops[j]?).map J5).getD false
def UE (ops : Array Oper) (i : Nat) : Bool := ((ops[i]?).map j4).getD false
def sF (ops : Array Oper) (S : List Nat) : List (Nat × Nat) → Array Bool → Bool
 | [], listed => (Region.ready .any ops listed).isEmpty
 | (i, 0) :: r, listed => decide (Region.ready .any ops listed = [i]) && !S.contains i && sF ops S r (listed.setIfInBounds i true)
 | (i, 1) :: r, listed => (Region.ready .any ops listed).contains i && Region.free .any ops listed i && S.contains i && sF ops S r (listed.setIfInBounds i true)
 | (i, _) :: r, listed => (Region.ready .any ops listed).contains i && Region.free .any ops listed i && S.contains i && (aGR ops S listed i || (UE ops i && aAH ops S listed i)) && sF ops S r (listed.setIfInBounds i true)
def CP (P : Program) (ops : Array Oper) (K : AF → aB → Prop) : List (Nat × Nat) → AF → aB → Prop
 | [], φ, st => K φ st
 | (i, 0) :: r, φ, st => ∃ o, ops[i]? = some o ∧ jX P ops o φ st (fun v st' => CP P ops K r (φ.put o.dst v) st')
 | (i, 1) :: r, φ, st => ∃ o, ops[i]? = some o ∧ ∃ v, aKY P ops o v φ ∧ CP P ops K r (φ.put o.dst v) st
 | (i, _) :: r, φ, st => ∃ o, ops[i]? = some o ∧ ∃ v, jS P st ops o v φ ∧ CP P ops K r (φ.put o.dst v) st
theorem aQQ {t : TypeId} {ok : Bool} {x i r : AV} {st s : aB} (hs : fK st s) (h : oI P st t ok x i = some r) : oI P s t ok x i = some r := by
 unfold oI at *
 split at h
 · rename_i b n
   cases hb : st b with
   | none => rw [hb] at h; cases h
   | some o => rw [hs b o hb, ← hb]; exact h
 · cases h
theorem aSU {t : TypeId} {x r : AV} {st s : aB} (hs : fK st s) (h : g7 P st t x = some r) : g7 P s t x = some r := by
 unfold g7 at *
 split at h
 · exact h
 · rename_i b o
   cases hb : st b with
   | none => rw [hb] at h; split at h <;> simp_all
   | some o => rw [hs b o hb, ← hb]; exact h
 · cases h
theorem aI6 {φ : AF} {o : Oper} {r : AV} {st s : aB} (hs : fK st s) (h : kO P φ st o = some r) : kO P φ s o = some r := by
 obtain ⟨dst, op, type, pos, after, guard⟩ := o
 cases op
 case makeFunc fn a b => cases fn <;> exact h
 case call c =>
  obtain ⟨callee, args, ats⟩ := c
  cases callee
  case builtin b => cases b <;> exact h
  all_goals exact h
 case load => exact aSU hs h
 case lookup => exact aQQ hs h
 all_goals exact h
theorem a0J {ops : Array Oper} {o : Oper} {v : AV} {φ : AF} {st s : aB} (hp : j4 o = true) (hs : fK st s) (h : jS P st ops o v φ) : jS P s ops o v φ := by
 rcases h with ⟨h1, h2⟩ | h
 · refine .inl ⟨h1, ?_⟩
   rw [rM hp] at h2 ⊢
   cases hv : kO P φ st o with
   | none => rw [hv] at h2; cases h2
   | some r =>
    rw [hv] at h2
    rw [aI6 hs hv]
    exact ⟨h2.1, rfl⟩
 · exact .inr h
theorem D7 {ops : Array Oper} {S : List Nat} {K : AF → aB → Prop} : ∀ (p : List (Nat × Nat)) (listed : Array Bool) (φ : AF) (st : aB), vU ops listed → sF ops S p listed = true → CP P ops K p φ st → CA P ops S K p.length listed φ st
 | [], listed, φ, st, _, hB, h => ⟨by simpa [sF] using hB, h⟩
 | (i, 0) :: r, listed, φ, st, hcl, hB, h => by
  simp only [sF, cM, bJ, lZ] at hB
  obtain ⟨o, ho, h'⟩ := h
  have hr : i ∈ Region.ready .any ops listed := by rw [hB.1.1]; simp
  refine ⟨fun h0 => (by rw [hB.1.1] at h0; cases h0), fun j hj => ?_⟩
  rw [hB.1.1] at hj
  obtain rfl : j = i := by simpa using hj
  exact ⟨o, ho, .inr ⟨hB.1.2, v7 (fun v st' q => D7 r _ _ _ (hcl.set hr) hB.2 q) h'⟩⟩
 | (i, 1) :: r, listed, φ, st, hcl, hB, h => by
  simp only [sF, cM] at hB
  obtain ⟨⟨⟨hr, hf⟩, hS⟩, hB'⟩ := hB
  obtain ⟨o, ho, v, hv, h'⟩ := h
  have hr' : i ∈ Region.ready .any ops listed := by simpa using hr
  exact NE ho hS _ listed φ st hcl (Region.free_spec ho hf) hr' (.inl hv) (D7 r _ _ _ (hcl.set hr') hB' h')
 | (i, k + 2) :: r, listed, φ, st, hcl, hB, h => by
  simp only [sF, cM] at hB
  obtain ⟨⟨⟨⟨hr, hf⟩, hS⟩, hd⟩, hB'⟩ := hB
  obtain ⟨o, ho, v, hv, h'⟩ := h
  have hr' : i ∈ Region.ready .any ops listed := by simpa using hr
  rw [q9] at hd
  rcases hd with hd | hd
  · refine NE ho hS _ listed φ st hcl (Region.free_spec ho hf) hr' (.inr (.inl ⟨hv, fun j oj hj hl hs => ⟨ops.size, ?_⟩⟩)) (D7 r _ _ _ (hcl.set hr') hB' h')
    simp only [aGR, eW, xR] at hd
    have := hd j (Q9.1 hj).1
    simpa only [hl, hs, qX] using this
  · rw [cM] at hd
    obtain ⟨hp, hd⟩ := hd
    simp only [UE, ho, qZ, Option.getD_some] at hp
    refine NE ho hS _ listed φ st hcl (Region.free_spec ho hf) hr' (.inr (.inr ⟨fun s hs => a0J hp hs hv, fun j oj hj hl hs => ?_⟩)) (D7 r _ _ _ (hcl.set hr') hB' h')
    simp only [aAH, eW, xR] at hd
    have := hd j (Q9.1 hj).1
    simp only [hl, hs, qX, hj, qZ, Option.getD_some, q9] at this
    exact this.imp (fun h => ⟨ops.size, h⟩) id
theorem aUI {N : Nat} {id : Nat} {ops : Array Oper} {Q : Exit → AF → aB → Prop} {φ : AF} {st : aB} (p : List (Nat × Nat)) (S : List Nat) (hm : P.follows .mixedOrders = true) (hok : pJ N ops = true) (hl : p.length = ops.size) (hB : sF ops S p (Array.replicate ops.size false) = true)
 (h : CP P ops (Q .normal) p φ st) : gH P N (.region id ops true) Q φ st := by
 intro a w R
 refine wp_region_any hm ?_
 have R0 : Rel N a { w with drawn := w.drawn + 1 } φ st := ⟨R.size, R.defers, R.frame, R.store⟩
 have := Q1 _ _ _ _ (D7 p _ φ st (fun j o _ hl => (by rw [aAC] at hl; cases hl)) hB h)
 rw [hl] at this
 exact LQ (zO hok) (w4 hok) (w0 := w) (st0 := st) (fun φ' st' a' w' k R' T s => ⟨φ', st', R', T, s, k⟩) _ _ _ _ _ _ this R0 (cC.refl _ _) ⟨rfl, rfl, rfl⟩
theorem aRK {t : TypeId} {ok : Bool} {x i r : AV} (h : oI P dX t ok x i = some r) (st : aB) : oI P st t ok x i = some r := by
 unfold oI at *
 split at h
 · simp only [dX] at h; cases h
 · cases h
theorem aM9 {t : TypeId} {x r : AV} (h : g7 P dX t x = some r) (st : aB) : g7 P st t x = some r := by
 unfold g7 at *
 split at h
 · exact h
 · split at h
   · rename_i h1; simp only [dX] at h1; cases h1
   · cases h
 · cases h
theorem aTY {φ : AF} {o : Oper} {r : AV} (h : kO P φ dX o = some r) (st : aB) : kO P φ st o = some r := by
 obtain ⟨dst, op, type, pos, after, guard⟩ := o
 cases op
 case makeFunc fn a b => cases fn <;> exact h
 case call c =>
  obtain ⟨callee, args, ats⟩ := c
  cases callee
  case builtin b => cases b <;> exact h
  all_goals exact h
 case load => exact aM9 h st
 case lookup => exact aRK h st
 all_goals exact h
def jT (P : Program) (ops : Array Oper) (K : AF → aB → Prop) : List (Nat × Nat) → AF → aB → Prop
 | [], φ, st => K φ st
 | (i, 0) :: r, φ, st => match ops[i]? with
  | none => False
  | some o => bB P [] ops [o] (fun φ' st' => jT P ops K r φ' st') φ st
 | (i, 1) :: r, φ, st => match ops[i]? with
  | none => False
  | some o => if j4 o = true then bB P [] ops [o] (fun φ' _ => jT P ops K r φ' st) φ dX else
   match o.guard, o.op with
   | none, .call { callee := .value f, args, .. } => ∃ v, (∀ s, rN P (φ.eval f) (args.toList.map φ.eval) s (fun r' s' => r' = v ∧ s' = s)) ∧ jT P ops K r (φ.put o.dst v) st
   | _, _ => False
 | (i, _) :: r, φ, st => match ops[i]? with
  | none => False
  | some o => if j4 o = true then bB P [] ops [o] (fun φ' _ => jT P ops K r φ' st) φ st else
   match o.guard, o.op with
   | none, .call { callee := .value f, args, .. } => ∃ v, rN P (φ.eval f) (args.toList.map φ.eval) st (fun r' s' => r' = v ∧ s' = st) ∧ jT P ops K r (φ.put o.dst v) st
   | _, _ => False
theorem uJ {ops : Array Oper} {K : AF → aB → Prop} : ∀ (p : List (Nat × Nat)) (φ : AF) (st : aB), jT P ops K p φ st → CP P ops K p φ st
 | [], _, _, h => h
 | (i, 0) :: r, φ, st, h => by
  simp only [jT] at h
  split at h
  · exact h.elim
  · rename_i o ho
    refine ⟨o, ho, ?_⟩
    simp only [bB] at h
    unfold jX
    split at h
    · rename_i hg
      rw [hg]
      exact BK (fun v s q => uJ r _ _ q) h
    · rename_i hg
      rw [hg]
      exact uJ r _ _ h
    · exact h.elim
 | (i, 1) :: r, φ, st, h => by
  simp only [jT] at h
  split at h
  · exact h.elim
  · rename_i o ho
    split at h
    · rename_i hp
      simp only [bB] at h
      split at h
      · rename_i hg
        rw [rM hp] at h
        split at h
        · rename_i v hv
          exact ⟨o, ho, v, fun s => .inl ⟨hg, by rw [rM hp, aTY hv s]; exact ⟨rfl, rfl⟩⟩, uJ r _ _ h⟩
        · exact h.elim
      · rename_i hg
        exact ⟨o, ho, .undef, fun s => .inr ⟨hg, rfl⟩, uJ r _ _ h⟩
      · exact h.elim
    · split at h
      · rename_i f args ats hg hop
        obtain ⟨v, h1, h2⟩ := h
        refine ⟨o, ho, v, fun s => .inl ⟨by simp only [jB, hg], ?_⟩, uJ r _ _ h2⟩
        simp only [eX, hop]
        exact h1 s
      · exact h.elim
 | (i, k + 2) :: r, φ, st, h => by
  simp only [jT] at h
  split at h
  · exact h.elim
  · rename_i o ho
    split at h
    · rename_i hp
      simp only [bB] at h
      split at h
      · rename_i hg
        rw [rM hp] at h
        split at h
        · rename_i v hv
          exact ⟨o, ho, v, .inl ⟨hg, by rw [rM hp, hv]; exact ⟨rfl, rfl⟩⟩, uJ r _ _ h⟩
        · exact h.elim
      · rename_i hg
        exact ⟨o, ho, .undef, .inr ⟨hg, rfl⟩, uJ r _ _ h⟩
      · exact h.elim
    · split at h
      · rename_i f args ats hg hop
        obtain ⟨v, h1, h2⟩ := h
        refine ⟨o, ho, v, .inl ⟨by simp only [jB, hg], ?_⟩, uJ r _ _ h2⟩
        simp only [eX, hop]
        exact h1
      · exact h.elim
end
def OX (P : Program) (ops : Array Oper) (K : AF → aB → Prop) (r : List (Nat × Nat)) (φ : AF) (st : aB) : Prop := jT P ops K r φ st
def F3 (P : Program) (ops : Array Oper) (K : AF → aB → Prop) (r : List (Nat × Nat)) (st : aB) (φ : AF) (_ : aB) : Prop := jT P ops K r φ st
def x8 (P : Program) (ops : Array Oper) (K : AF → aB → Prop) (r : List (Nat × Nat)) (φ : AF) (dst : Option Tmp) (st : aB) (v : AV) : Prop := jT P ops K r (φ.put dst v) st
def D4 (P : Program) (f : AV) (args : List AV) (K : AV → Prop) : Prop := ∃ v, (∀ s, rN P f args s (fun r' s' => r' = v ∧ s' = s)) ∧ K v
def C0 (P : Program) (ops : Array Oper) (K : AF → aB → Prop) (r : List (Nat × Nat)) (φ : AF) (st : aB) : Nat → Option Oper → Prop
 | 0, some o => bB P [] ops [o] (OX P ops K r) φ st
 | 1, some o => if j4 o = true then bB P [] ops [o] (F3 P ops K r st) φ dX else
  match o.guard, o.op with
  | none, .call { callee := .value f, args, .. } => D4 P (φ.eval f) (args.toList.map φ.eval) (x8 P ops K r φ o.dst st)
  | _, _ => False
 | _, some o => if j4 o = true then bB P [] ops [o] (F3 P ops K r st) φ st else
  match o.guard, o.op with
  | none, .call { callee := .value f, args, .. } => wO P (φ.eval f) (args.toList.map φ.eval) st (x8 P ops K r φ o.dst st)
  | _, _ => False
 | _, none => False
theorem UG {P : Program} {ops : Array Oper} {K : AF → aB → Prop} {φ : AF} {st : aB} : jT P ops K [] φ st = K φ st := rfl
theorem aFF {P : Program} {l : List Oper} {K : AF → aB → Prop} {φ : AF} {st : aB} {i b : Nat} {r : List (Nat × Nat)} : jT P l.toArray K ((i, b) :: r) φ st = C0 P l.toArray K r φ st b l[i]? := by
 match b with
 | 0 => simp only [jT, AB]; cases l[i]? <;> rfl
 | 1 => simp only [jT, AB]; cases l[i]? <;> rfl
 | b + 2 => simp only [jT, AB]; cases l[i]? <;> rfl
theorem aI4 {P : Program} {ops : Array Oper} {K : AF → aB → Prop} {φ : AF} {st : aB} {r : List (Nat × Nat)} {o : Oper} : C0 P ops K r φ st 0 (some o) = bB P [] ops [o] (OX P ops K r) φ st := rfl
theorem aD6 {P : Program} {ops : Array Oper} {K : AF → aB → Prop} {φ : AF} {st : aB} {r : List (Nat × Nat)} {o : Oper} : C0 P ops K r φ st 1 (some o) = if j4 o = true then bB P [] ops [o] (F3 P ops K r st) φ dX else
      match o.guard, o.op with
      | none, .call { callee := .value f, args, .. } => D4 P (φ.eval f) (args.toList.map φ.eval) (x8 P ops K r φ o.dst st)
      | _, _ => False := rfl
theorem VX {P : Program} {ops : Array Oper} {K : AF → aB → Prop} {φ : AF} {st : aB} {r : List (Nat × Nat)} {o : Oper} : C0 P ops K r φ st 2 (some o) = if j4 o = true then bB P [] ops [o] (F3 P ops K r st) φ st else
      match o.guard, o.op with
      | none, .call { callee := .value f, args, .. } => wO P (φ.eval f) (args.toList.map φ.eval) st (x8 P ops K r φ o.dst st)
      | _, _ => False := rfl
theorem aFA {P : Program} {ops : Array Oper} {K : AF → aB → Prop} {φ : AF} {st : aB} {r : List (Nat × Nat)} : OX P ops K r φ st = jT P ops K r φ st := rfl
theorem TG {P : Program} {ops : Array Oper} {K : AF → aB → Prop} {φ : AF} {st s : aB} {r : List (Nat × Nat)} : F3 P ops K r st φ s = jT P ops K r φ st := rfl
theorem aGL {P : Program} {ops : Array Oper} {K : AF → aB → Prop} {φ : AF} {st : aB} {r : List (Nat × Nat)} {dst : Option Tmp} {v : AV} : x8 P ops K r φ dst st v = jT P ops K r (φ.put dst v) st := rfl
theorem MN {P : Program} {g : FuncId} {args : List AV} {r : AV} {K : AV → Prop} (x : ∀ st, aD P g args st (fun r' st' => r' = r ∧ st' = st)) (h : K r) : D4 P (.func g []) args K := ⟨r, fun st => by show aD P g (args ++ []) st _; rw [iC]; exact x st, h⟩
@[congr] theorem a2L {P : Program} {ops : Array Oper} {K : AF → aB → Prop} {p : List (Nat × Nat)} {φ φ' : AF} {st st' : aB} (h1 : φ = φ') (h2 : st = st') : jT P ops K p φ st = jT P ops K p φ' st' := by rw [h1, h2]
@[congr] theorem a2F {P : Program} {ops : Array Oper} {K : AF → aB → Prop} {p : List (Nat × Nat)} {φ φ' : AF} {st st' : aB} {b : Nat} {o o' : Option Oper} (h1 : φ = φ') (h2 : st = st') (h3 : o = o') : C0 P ops K p φ st b o = C0 P ops K p φ' st' b o' := by rw [h1, h2, h3]
@[congr] theorem a0Z {P : Program} {ops : Array Oper} {K : AF → aB → Prop} {p : List (Nat × Nat)} {φ φ' : AF} {dst : Option Tmp} {st st' : aB} {v v' : AV} (h1 : φ = φ') (h2 : st = st') (h3 : v = v') : x8 P ops K p φ dst st v = x8 P ops K p φ' dst st' v' := by rw [h1, h2, h3]
@[congr] theorem a2T {P : Program} {f f' : AV} {args args' : List AV} {K : AV → Prop} (h0 : f = f') (h1 : args = args') : D4 P f args K = D4 P f' args' K := by rw [h0, h1]
theorem zx5 {P : Program} {N : Nat} {id : Nat} {l : List Oper} {Q : Exit → AF → aB → Prop} {φ : AF} {st : aB} (p : List (Nat × Nat)) (S : List Nat) (hm : P.follows .mixedOrders = true) (hok : pJ N l.toArray = true) (hl : p.length = l.length) (hB : sF l.toArray S p (Array.replicate l.length false) = true)
 (h : jT P l.toArray (Q .normal) p φ st) : gH P N (.region id l.toArray true) Q φ st :=
 aUI p S hm hok (by simpa using hl) (by simpa using hB) (uJ p φ st h)
theorem aZJ {P : Program} {t : TypeId} {ag : Bool} {w bytes : Nat} {zs : List AV} {s : aB} {b : Nat} {l xs : List AV} {x : AV} {K : AV → aB → Prop}
 (hI : eI P t = some (ag, w)) (hB : eB P t = some bytes) (hZ : eZ P t = some zs) (hz : zs.length = w) (hx : wH x = some xs) (fY : s8 w xs) (hw : ∀ e ∈ l, e.width = w) (hb : l ≠ [] → s b = some (.cells (l.flatMap AV.cells)))
 (h1 : (l.length + xs.length) * bytes ≤ 140737488355328) (h2 : l.length + xs.length ≤ 9223372036854775807)
 (hK : ∀ b' s', (l ++ xs ≠ [] → s' b' = some (.cells ((l ++ xs).flatMap AV.cells))) → (l ++ xs ≠ [] → b' = b ∧ l ≠ [] ∨ s b' = none) → (∀ q, (l ++ xs ≠ [] → q ≠ b') → (l ≠ [] → q ≠ b) → s' q = s q) → (l ≠ [] → b' ≠ b → s' b = none) → K (a9 w b' (l ++ xs)) s') : jO P t s (a9 w b l) x K := by
 unfold jO
 rw [hI, hB, hZ, hx]
 refine ⟨hz, fY, ?_⟩
 cases l with
 | nil =>
  show _ ∧ _ ∧ _ ∧ _ ∧ _
  refine ⟨by simpa using h1, by simpa using h2, by simp, ?_, ?_⟩
  · rintro rfl
    have := hK b s (by simp) (by simp) (fun _ _ _ => rfl) (by simp)
    simpa [a9] using this
  · intro hne b' hb'
    have := hK b' (s.aC b' (.cells (xs.flatMap AV.cells))) (fun _ => by rw [aB.aP]; simp) (fun _ => .inr hb') (fun q h _ => aB.aM _ _ (h (by simpa using hne))) (by simp)
    rw [eR, oB hne] at this
    simpa using this
 | cons y l =>
  have hb := hb (by simp)
  show w = w ∧ _ ∧ _ ∧ _
  refine ⟨rfl, h1, h2, ?_⟩
  have hfl : ((y :: l).flatMap AV.cells).length = (y :: l).length * w := oF hw
  rw [hb]
  refine ⟨by rw [hfl]; exact c7 _, ?_, ?_⟩
  · have := hK b (s.aC b (.cells ((y :: l ++ xs).flatMap AV.cells))) (fun _ => aB.aP _ _ _) (fun _ => .inl ⟨rfl, by simp⟩) (fun q h _ => aB.aM _ _ (h (by simp))) (fun _ h => absurd rfl h)
    rw [oB (by simp), AA, dQ] at this
    rw [← hfl, eS]
    exact this
  · intro b' hb'
    have hne : b' ≠ b := by rintro rfl; rw [hb] at hb'; cases hb'
    have := hK b' ((s.erase b).aC b' (.cells ((y :: l ++ xs).flatMap AV.cells))) (fun _ => aB.aP _ _ _) (fun _ => .inr hb') (fun q h h' => by
     rw [aB.aM _ _ (h (by simp))]
     simp only [aB.erase, h' (by simp), dZ]) (fun _ _ => by rw [aB.aM _ _ (dB hne)]; exact aB.aC6 _ _)
    rw [oB (by simp), AA, dQ] at this
    rw [← hfl, eS]
    exact this
def vC (es : List AV) (st : aB) (i : Nat) (os : List AV) (bs : List Nat) (b : Nat) (s : aB) : Prop :=
 os.length = i ∧ cF s (es.take i) os bs ∧ bs.Nodup ∧ (∀ q ∈ bs, st q = none) ∧ (os ≠ [] → st b = none ∧ b ∉ bs ∧ s b = some (.cells (os.flatMap AV.cells))) ∧ ∀ q, q ∉ bs → (os ≠ [] → q ≠ b) → s q = st q
theorem vC.start {es : List AV} {st : aB} {b : Nat} : vC es st 0 [] [] b st := ⟨rfl, by simp [cF], pZ, by simp, by simp, fun _ _ _ => rfl⟩
theorem MT {b x : Nat} {l : List AV} : x ∈ vH b l ↔ x = b ∧ l ≠ [] := by cases l <;> simp [vH]
theorem vC.done {es : List AV} {st : aB} {n w : Nat} {os : List AV} {bs : List Nat} {b : Nat} {s : aB} (h : vC es st n os bs b s) (hl : es.length = n) (hw : ∀ e ∈ es, e.width = w) : Made st (.slice es) (a9 w b os) s := by
 obtain ⟨h1, h2, h3, h4, h5, h6⟩ := h
 rw [mR (by omega)] at h2
 refine ⟨vH b os ++ bs, ?_, fun q hq => ?_, ?_, fun q hq => ?_⟩
 · rw [tV]
   refine ⟨by cases os <;> simp [vH], h3, fun x hx y hy e => ?_⟩
   obtain ⟨rfl, hne⟩ := MT.1 hx
   exact (h5 hne).2.1 (e ▸ hy)
 · rcases fS.1 hq with hq | hq
   · obtain ⟨rfl, hne⟩ := MT.1 hq
     exact (h5 hne).1
   · exact h4 q hq
 · cases os with
   | nil =>
    have : es = [] := by simpa using h2.length.symm
    subst this
    simp only [cF] at h2
    simp only [cK, a9, vH, h2.2]
    exact .inl ⟨trivial, trivial, rfl⟩
   | cons o os =>
    simp only [cK, a9, vH]
    refine .inr ⟨b, bs, o :: os, w, by rw [h2.length], rfl, (h5 (by simp)).2.2, h2, hw⟩
 · simp only [fS, MT, not_or, not_and] at hq
   exact h6 q hq.2 (fun hne e => hq.1 e hne)
theorem cF.aIY {st : aB} {w : Nat} : ∀ {as os : List AV} {bs : List Nat}, cF st as os bs → (∀ e ∈ as, e.width = w) → ∀ o ∈ os, o.width = w
 | [], os, bs, x, _ => by simp only [cF] at x; rw [x.1]; simp
 | a :: as, os, bs, x, h => by
  simp only [cF] at x
  obtain ⟨o, os', b1, b2, rfl, rfl, x1, x2⟩ := x
  intro q hq
  rcases cY.1 hq with rfl | hq
  · rw [(cK.shape x1).2.1, h a (by simp)]
  · exact cF.aIY x2 (fun e he => h e (by simp [he])) q hq
theorem cK.aYI {st : aB} {e r : AV} {bs : List Nat} {w : Nat} (m3 : cK st e r bs) (hwe : e.width = w) (hst : e.cells.all AV.storable = true) : r.width = w ∧ r.cells.length = w ∧ r.cells.all AV.storable = true := by
 refine ⟨(cK.shape m3).2.1.trans hwe, by rw [vE, (cK.shape m3).2.1, hwe], ?_⟩
 cases e <;> simp only [cK] at m3 <;> try exact m3.elim
 case int => rw [m3.1]; try rfl
 case bool => rw [m3.1]; try rfl
 case str => rw [m3.1]; try rfl
 case slice => rcases m3 with ⟨_, rfl, _⟩ | ⟨_, _, _, _, rfl, _⟩ <;> rfl
 case agg cs =>
  obtain ⟨q, rfl, m3⟩ := m3
  refine (cK.R6 m3 fun c hc => ?_).1
  have hst : cs.all AV.storable = true := hst
  have := eW.1 hst c hc
  cases c <;> first | rfl | (simp [AV.storable] at this)
theorem vC.step {es : List AV} {st : aB} {i : Nat} {os : List AV} {bs bx : List Nat} {b x b' : Nat} {s s2 s' : aB} {o : AO} {e r : AV} (h : vC es st i os bs b s) (hx : s x = none) (he : es[i]? = some e)
 (m1 : bx.Nodup) (m2 : ∀ q ∈ bx, (s.aC x o) q = none) (m3 : cK s2 e r bx) (m4 : ∀ q, q ∉ bx → s2 q = (s.aC x o) q)
 (k1 : s' b' = some (.cells ((os ++ [r]).flatMap AV.cells))) (k2 : b' = b ∧ os ≠ [] ∨ s2 b' = none) (k3 : ∀ q, q ≠ b' → (os ≠ [] → q ≠ b) → s' q = s2 q) (k4 : os ≠ [] → b' ≠ b → s' b = none) :
 vC es st (i + 1) (os ++ [r]) (bs ++ bx) b' (s'.erase x) := by
 obtain ⟨h1, h2, h3, h4, h5, h6⟩ := h
 have AQ := cF.hH _ _ _ h2
 have hi : i < es.length := (gS.1 he).1
 have vQ : ∀ q ∈ bs, s q ≠ none := fun q hq => by obtain ⟨cs, e1, _⟩ := AQ.2 q hq; rw [e1]; simp
 have aP8 : x ∉ bs := fun hq => vQ x hq hx
 have hxb : os ≠ [] → x ≠ b := fun hne e => by have := (h5 hne).2.2; rw [← e, hx] at this; cases this
 have QL : x ∉ bx := fun hq => by have := m2 x hq; rw [aB.aP] at this; cases this
 have hbx : ∀ q ∈ bx, s q = none := fun q hq => by
  have := m2 q hq
  have hne : q ≠ x := fun e => QL (e ▸ hq)
  rwa [aB.aM _ _ hne] at this
 have B4 : ∀ q ∈ bs, q ∉ bx := fun q hq hq' => vQ q hq (hbx q hq')
 have aA0 : os ≠ [] → b ∉ bx := fun hne hq => by have := hbx b hq; rw [(h5 hne).2.2] at this; cases this
 have aX3 : s2 x = some o := by rw [m4 x QL, aB.aP]
 have hs2 : ∀ q, q ∉ bx → q ≠ x → s2 q = s q := fun q h1 h2 => by rw [m4 q h1, aB.aM _ _ h2]
 have QP : b' ≠ x := by
  rcases k2 with ⟨rfl, hne⟩ | hn
  · exact dB (hxb hne)
  · rintro rfl; rw [aX3] at hn; cases hn
 have KP : b' ∉ bx := by
  rcases k2 with ⟨rfl, hne⟩ | hn
  · exact aA0 hne
  · intro hq
    obtain ⟨cs, e1, _⟩ := (cK.hH _ _ _ m3).2.2 b' hq
    rw [e1] at hn; cases hn
 have OD : b' ∉ bs := by
  rcases k2 with ⟨rfl, hne⟩ | hn
  · exact (h5 hne).2.1
  · intro hq
    rw [hs2 b' KP QP] at hn
    exact vQ b' hq hn
 have a0H : st b' = none := by
  rcases k2 with ⟨rfl, hne⟩ | hn
  · exact (h5 hne).1
  · rw [hs2 b' KP QP] at hn
    by_cases hbb : os ≠ [] ∧ b' = b
    · rw [hbb.2]; exact (h5 hbb.1).1
    · rw [← h6 b' OD (fun hne e => hbb ⟨hne, e⟩)]; exact hn
 have aOP : os ≠ [] → ∀ q ∈ bs, q ≠ b := fun hne q hq e => (h5 hne).2.1 (e ▸ hq)
 have aYH : ∀ q ∈ bs, (s'.erase x) q = s q := fun q hq => by
  have hqx : q ≠ x := fun e => aP8 (e ▸ hq)
  simp only [aB.erase, hqx, dZ]
  rw [k3 q (fun e => OD (e ▸ hq)) (fun hne => aOP hne q hq), hs2 q (B4 q hq) hqx]
 have aSX : ∀ q ∈ bx, (s'.erase x) q = s2 q := fun q hq => by
  have hqx : q ≠ x := fun e => QL (e ▸ hq)
  simp only [aB.erase, hqx, dZ]
  exact k3 q (fun e => KP (e ▸ hq)) (fun hne e => aA0 hne (e ▸ hq))
 refine ⟨by simp [h1], ?_, tV.2 ⟨h3, m1, fun a ha c hc e => B4 a ha (e ▸ hc)⟩, fun q hq => ?_, fun _ => ⟨a0H, ?_, ?_⟩, fun q hq hqb => ?_⟩
 · rw [fN, he]
   exact cF.snoc h2 aYH (cK.a8 _ _ _ aSX m3)
 · rcases fS.1 hq with hq | hq
   · exact h4 q hq
   · by_cases hbb : os ≠ [] ∧ q = b
     · rw [hbb.2]; exact (h5 hbb.1).1
     · by_cases hqs : q ∈ bs
       · exact h4 q hqs
       · rw [← h6 q hqs (fun hne e => hbb ⟨hne, e⟩)]; exact hbx q hq
 · intro hq
   rcases fS.1 hq with hq | hq
   · exact OD hq
   · exact KP hq
 · simp only [aB.erase, QP, dZ]
   exact k1
 · simp only [fS, not_or] at hq
   have TJ := hqb (by simp)
   by_cases hqx : q = x
   · subst hqx
     simp only [aB.erase, fZ]
     rw [← h6 q hq.1 hxb, hx]
   · simp only [aB.erase, hqx, dZ]
     by_cases hbb : os ≠ [] ∧ q = b
     · rw [hbb.2, k4 hbb.1 (fun e => TJ (hbb.2.trans e.symm)), (h5 hbb.1).1]
     · rw [k3 q TJ (fun hne e => hbb ⟨hne, e⟩), hs2 q hq.2 hqx]
       exact h6 q hq.1 (fun hne e => hbb ⟨hne, e⟩)
theorem aD.done {P : Program} {g : FuncId} {args : List AV} {st : aB} {r : AV} (x : aD P g args st (fun r' st' => r'.soft = r ∧ aL st' st)) : aD P g args st (fun r' st' => r' = r ∧ st' = st) :=
 aD.pO (aD.soft x)
theorem aD.lH {P : Program} {g : FuncId} {args : List AV} {st : aB} {Q : AV → aB → Prop} (x : aD P g args st (fun r st' => ∃ s2, aL st' s2 ∧ Q r s2)) : aD P g args st Q :=
 x.m7 fun r _ ⟨s2, D, q⟩ => ⟨r, s2, D.sR, D.m7 r, q⟩
theorem kA {cs : List AV} : (AV.agg cs).soft = .agg (cs.map AV.soft) := by simp only [AV.soft, wB]
theorem kF {cs : List AV} : (AV.tup cs).soft = .tup (cs.map AV.soft) := by simp only [AV.soft, wB]
theorem jP {k : IntKind} {n : Int} : (AV.int k n).soft = .int k n := rfl
theorem rO {b : Bool} : (AV.bool b).soft = .bool b := rfl
theorem kW {s : ByteArray} : (AV.str s).soft = .str s := rfl
theorem p9 {es : List AV} : (AV.slice es).soft = .slice es := rfl
theorem mG {es : List AV} : (AV.fslice es).soft = .slice es := rfl
def uB (b : Nat) (l : List AV) : List (Nat × AV) → List (Nat × AV)
 | [] => []
 | p :: r => (p.1, p.2.fin b l) :: uB b l r
theorem Z2 {b : Nat} {l : List AV} : uB b l [] = [] := rfl
theorem aKS {b d : Nat} {l : List AV} {v : AV} {r : List (Nat × AV)} : uB b l ((d, v) :: r) = (d, v.fin b l) :: uB b l r := rfl
theorem aT9 {b : Nat} {l : List AV} : AV.junk.fin b l = .junk := by unfold AV.fin; split <;> rfl
theorem lI {w b : Nat} {l : List AV} : (a9 w b l).fin b l = .slice l := iD
theorem aU6 {st : aB} (b : Nat) (l : List AV) (hb : l ≠ [] → st b = none) (hj : ∀ e ∈ l, e.cB = false) (hE : gX l) (L : List (Nat × AV)) : fL (j7 L) (aZ st b l) (j7 (uB b l L)) st := by
 have key : ∀ L d, j7 (uB b l L) d = (j7 L d).fin b l := by
  intro L
  induction L with
  | nil => intro d; exact aT9.symm
  | cons p r ih =>
   obtain ⟨e, v⟩ := p
   intro d
   show ((j7 (uB b l r)).aC e (v.fin b l)) d = (((j7 r).aC e v) d).fin b l
   simp only [AF.aC]
   split
   · rfl
   · exact ih d
 intro h tmps S F
 cases l with
 | nil => exact ⟨S, cC.refl _ _, fun d => by rw [key]; exact (F d).soft⟩
 | cons y l =>
  have hst : (aZ st b (y :: l)) b = some (.cells ((y :: l).flatMap AV.cells)) := aB.aP _ _ _
  have he : (aZ st b (y :: l)).erase b = st := aB.w9 st b _ (hb (by simp))
  have L1 : fL (j7 L) (aZ st b (y :: l)) (fun d => (j7 L d).fz b (y :: l)) st := by
   have := fL.freeze (φ := j7 L) hst hj hE
   rwa [he] at this
  obtain ⟨a1, a2, a3⟩ := L1 h tmps S F
  exact ⟨a1, a2, fun d => by rw [key]; exact (a3 d).soft⟩
theorem rC {P : Program} {N : Nat} {c : Code} {Q : Exit → AF → aB → Prop} {φ : AF} {st : aB} {α σ : Type} (mt : List Nat) (a8 : List Nat) (l : List α) (w d : Nat) (acc : Nat → σ → List AV) (inv : Nat → σ → Prop) (ch : Nat → σ → List (Nat × AV)) (so : Nat → σ → aB)
 (hw : ∀ i s, inv i s → ∀ e ∈ acc i s, e.cB = false ∧ e.width = w)
 (hok : codeOk N c = true)
 (h0 : ∃ s b, inv 0 s ∧ (acc 0 s ≠ [] → so 0 s b = none) ∧ aO φ st (kD φ a8 ((d, a9 w b (acc 0 s)) :: ch 0 s)) (aZ (so 0 s) b (acc 0 s)))
 (h1 : ∀ i x s b, l[i]? = some x → i < l.length → ((i : Int) < (l.length : Int)) → l.drop i = x :: l.drop (i + 1) → inv i s → (acc i s ≠ [] → so i s b = none) →
  fV P N mt c (oP (fun φ' st' => ∃ s' b', inv (i + 1) s' ∧ (acc (i + 1) s' ≠ [] → so (i + 1) s' b' = none) ∧ aO φ' st' (kD φ a8 ((d, a9 w b' (acc (i + 1) s')) :: ch (i + 1) s')) (aZ (so (i + 1) s') b' (acc (i + 1) s'))) Q) (uY (kD φ a8 ((d, a9 w b (acc i s)) :: ch i s))) (aZ (so i s) b (acc i s)))
 (h2 : ∀ s b, ¬ ((l.length : Int) < (l.length : Int)) → inv l.length s → fV P N mt c (oP (fun _ _ => False) Q) (uY (uB b (acc l.length s) (kD φ a8 ((d, a9 w b (acc l.length s)) :: ch l.length s)))) (so l.length s)) : gH P N (.loop c) Q φ st := by
 have m7 : ∀ (k : AF → aB → Prop) (φ0 : AF) (st0 : aB) (k' : AF → aB → Prop), (∀ φ' st', k' φ' st' → k φ' st') →
  gH P N c (oP k' Q) φ0 st0 → gH P N c (oP k Q) φ0 st0 := by
  intro k φ0 st0 k' hk hr a w R
  refine wp_mono (hr a w R) ?_
  rintro e a' w' ⟨φ', st', R', T, sm, q⟩
  refine ⟨φ', st', R', T, sm, ?_⟩
  cases e with
  | normal => exact hk _ _ q
  | _ => exact q
 refine MG (α := Nat × σ × Nat) (fun p => p.1 ≤ l.length ∧ inv p.1 p.2.1 ∧ (acc p.1 p.2.1 ≠ [] → so p.1 p.2.1 p.2.2 = none)) (fun p => j7 (kD φ a8 ((d, a9 w p.2.2 (acc p.1 p.2.1)) :: ch p.1 p.2.1))) (fun p => aZ (so p.1 p.2.1) p.2.2 (acc p.1 p.2.1)) (fun p => l.length - p.1) ?_ ?_
 · obtain ⟨s, b, hs, hb, hl⟩ := h0
   exact ⟨(0, s, b), ⟨jE _, hs, hb⟩, hl⟩
 · rintro ⟨i, s, b⟩ ⟨hi, hs, hb⟩
   simp only at hi hs hb ⊢
   rcases kT i l.length with hlt | hge
   · refine m7 _ _ _ _ ?_ (EX mt hok (h1 i l[i] s b (fH hlt) hlt (by omega) (qY hlt) hs hb))
     rintro φ' st' ⟨s', b', h1', h2', h3'⟩
     exact ⟨(i + 1, s', b'), by simp only; omega, ⟨by simp only; omega, h1', h2'⟩, h3'⟩
   · obtain rfl : i = l.length := by omega
     refine gH.less (aU6 b (acc l.length s) hb (fun e he => (hw _ s hs e he).1) ⟨w, fun e he => (hw _ s hs e he).2⟩ _) ?_
     refine m7 _ _ _ _ ?_ (EX mt hok (h2 s b (by omega) hs))
     exact fun _ _ h => h.elim
section
variable {P : Program}
def O3 (ops : Array Oper) (S : List Nat) (j : Nat) : Bool := S.all fun i => tL ops ops.size j i
def AX (P : Program) (ops : Array Oper) (S : List Nat) (s0 : aB) (K : AF → aB → Prop) : Nat → Array Bool → AF → aB → Prop
 | 0, listed, φ, st => Region.ready .any ops listed = [] ∧ K φ st
 | f + 1, listed, φ, st => (Region.ready .any ops listed = [] → K φ st) ∧ ∀ i ∈ Region.ready .any ops listed, ∃ o, ops[i]? = some o ∧
  ((S.contains i = true ∧ ∃ r, jS P st ops o r φ ∧ AX P ops S s0 K f (listed.setIfInBounds i true) (φ.put o.dst r) st) ∨
   (S.contains i = false ∧ jX P ops o φ st (fun r st' => (O3 ops S i = true ∨ fK s0 st') ∧ AX P ops S s0 K f (listed.setIfInBounds i true) (φ.put o.dst r) st')))
theorem N0 {ops : Array Oper} {S : List Nat} {s0 : aB} {K : AF → aB → Prop} : ∀ (f : Nat) (listed : Array Bool) (φ : AF) (st : aB), AX P ops S s0 K f listed φ st → IJ P ops K f listed φ st
 | 0, _, _, _, h => h
 | f + 1, listed, φ, st, h => by
  refine ⟨h.1, fun i hi => ?_⟩
  obtain ⟨o, ho, h2⟩ := h.2 i hi
  refine ⟨o, ho, ?_⟩
  rcases h2 with ⟨_, r, y, k⟩ | ⟨_, k⟩
  · exact X5 y (N0 f _ _ _ k)
  · exact v7 (fun r s q => N0 f _ _ _ q.2) k
theorem aXE {ops : Array Oper} {S : List Nat} {s0 : aB} {i : Nat} {oi : Oper} {v : AV} {K : AF → aB → Prop} (hi : ops[i]? = some oi) (hS : S.contains i = true) :
 ∀ (f : Nat) (listed : Array Bool) (φ : AF) (st : aB), vU ops listed →
  (∀ j oj, ops[j]? = some oj → j ≠ i → listed.getD j true = false → (∀ e ∈ oj.after, Region.binds .any e = true → e.on ≠ i) → oi.apart ops oj = true) →
  i ∈ Region.ready .any ops listed → (∀ s, fK s0 s → jS P s ops oi v φ) → fK s0 st →
  AX P ops S s0 K f (listed.setIfInBounds i true) (φ.put oi.dst v) st → AX P ops S s0 K (f + 1) listed φ st := by
 intro f
 induction f with
 | zero =>
  intro listed φ st hcl _ hr hy hx H
  refine ⟨fun h => (by rw [h] at hr; cases hr), fun j hj => ?_⟩
  by_cases hji : j = i
  · subst hji; exact ⟨oi, hi, .inl ⟨hS, v, hy st hx, H⟩⟩
  · have := ready_mono hj hji
    rw [H.1] at this
    cases this
 | succ f ih =>
  intro listed φ st hcl pI hr hy hx H
  refine ⟨fun h => (by rw [h] at hr; cases hr), fun j hj => ?_⟩
  by_cases hji : j = i
  · subst hji; exact ⟨oi, hi, .inl ⟨hS, v, hy st hx, H⟩⟩
  · obtain ⟨oj, hoj, h1⟩ := H.2 j (ready_mono hj hji)
    obtain ⟨oH, oj', x7, dV⟩ := mem_ready.1 hj
    have : oj' = oj := nG (x7.symm.trans hoj)
    subst this
    have hun := (mem_ready.1 hr).1
    have sD : ∀ e ∈ oj'.after, Region.binds .any e = true → e.on ≠ i := fun e he hb heq => by
     have h1 := dV e he hb
     rw [heq, getD_both hun] at h1
     cases h1
    obtain ⟨a1, a2, a3⟩ := Oper.apart_spec (pI j oj' hoj hji oH sD)
    have s9 : ∀ k ok, ops[k]? = some ok → k ≠ i → (listed.setIfInBounds j true).getD k true = false →
     (∀ e ∈ ok.after, Region.binds .any e = true → e.on ≠ i) → oi.apart ops ok = true := fun k ok hk hki hun hno => by
     refine pI k ok hk hki ?_ hno
     by_cases hjk : j = k
     · subst hjk; exact oH
     · rw [getD_set_ne true hjk] at hun; exact hun
    refine ⟨oj', hoj, ?_⟩
    rcases h1 with ⟨hSj, r, yj, h2⟩ | ⟨hSj, h2⟩
    · refine .inl ⟨hSj, r, (pF φ v a1).1 yj, ih (listed.setIfInBounds j true) (φ.put oj'.dst r) st (hcl.set hj) s9 (ready_mono hr (dB hji)) (fun s hs => (pF φ r a3).2 (hy s hs)) hx ?_⟩
      rw [DC _ _ hji, ← put_comm φ v r a2]
      exact h2
    · refine .inr ⟨hSj, v7 (fun r st' h3 => ?_) ((P8 φ v a1).1 h2)⟩
      refine ⟨h3.1, ?_⟩
      have hx' : fK s0 st' := by
       rcases h3.1 with he | he
       · exfalso
         unfold O3 at he
         have hd := eW.1 he i (by simpa using hS)
         exact HM hcl (getD_both hun) _ j oj' hoj hd dV
       · exact he
      refine ih (listed.setIfInBounds j true) (φ.put oj'.dst r) st' (hcl.set hj) s9 (ready_mono hr (dB hji)) (fun s hs => (pF φ r a3).2 (hy s hs)) hx' ?_
      rw [DC _ _ hji, ← put_comm φ v r a2]
      exact h3.2
def rS (ops : Array Oper) (S : List Nat) : List (Nat × Nat) → Array Bool → Bool
 | [], listed => (Region.ready .any ops listed).isEmpty
 | (i, 0) :: r, listed => decide (Region.ready .any ops listed = [i]) && !S.contains i && rS ops S r (listed.setIfInBounds i true)
 | (i, 1) :: r, listed => (Region.ready .any ops listed).contains i && Region.free .any ops listed i && S.contains i && rS ops S r (listed.setIfInBounds i true)
 | (i, _) :: r, listed => decide (Region.ready .any ops listed = [i]) && !S.contains i && O3 ops S i && rS ops S r (listed.setIfInBounds i true)
def CN (P : Program) (ops : Array Oper) (s0 : aB) (K : AF → aB → Prop) : List (Nat × Nat) → AF → aB → Prop
 | [], φ, st => K φ st
 | (i, 0) :: r, φ, st => ∃ o, ops[i]? = some o ∧ jX P ops o φ st (fun v st' => fK s0 st' ∧ CN P ops s0 K r (φ.put o.dst v) st')
 | (i, 1) :: r, φ, st => ∃ o, ops[i]? = some o ∧ ∃ v, (∀ s, fK s0 s → jS P s ops o v φ) ∧ CN P ops s0 K r (φ.put o.dst v) st
 | (i, _) :: r, φ, st => ∃ o, ops[i]? = some o ∧ jX P ops o φ st (fun v st' => CN P ops s0 K r (φ.put o.dst v) st')
def BH : List (Nat × Nat) → Bool
 | [] => true
 | (_, 0) :: r => BH r
 | (_, 1) :: r => BH r
 | (_, _) :: r => r.all fun p => p.2 != 1
theorem KX {ops : Array Oper} {S : List Nat} {s0 : aB} {K : AF → aB → Prop} : ∀ (p : List (Nat × Nat)) (listed : Array Bool) (φ : AF) (st : aB), vU ops listed → rS ops S p listed = true → (BH p = true ∧ fK s0 st ∨ (p.all fun q => q.2 != 1) = true) → CN P ops s0 K p φ st → AX P ops S s0 K p.length listed φ st
 | [], listed, φ, st, _, hB, hx, h => ⟨by simpa [rS] using hB, h⟩
 | (i, 0) :: r, listed, φ, st, hcl, hB, hx, h => by
  simp only [rS, cM, bJ, lZ] at hB
  obtain ⟨o, ho, h'⟩ := h
  have hr : i ∈ Region.ready .any ops listed := by rw [hB.1.1]; simp
  refine ⟨fun h0 => (by rw [hB.1.1] at h0; cases h0), fun j hj => ?_⟩
  rw [hB.1.1] at hj
  obtain rfl : j = i := by simpa using hj
  refine ⟨o, ho, .inr ⟨hB.1.2, v7 (fun v st' q => ⟨.inr q.1, KX r _ _ _ (hcl.set hr) hB.2 ?_ q.2⟩) h'⟩⟩
  rcases hx with hx | hx
  · exact .inl ⟨hx.1, q.1⟩
  · refine .inr ?_
    simp only [kG, cM] at hx
    exact hx.2
 | (i, 1) :: r, listed, φ, st, hcl, hB, hx, h => by
  simp only [rS, cM] at hB
  obtain ⟨⟨⟨hr, hf⟩, hS⟩, hB'⟩ := hB
  obtain ⟨o, ho, v, hv, h'⟩ := h
  have hr' : i ∈ Region.ready .any ops listed := by simpa using hr
  rcases hx with hx | hx
  · exact aXE ho hS _ listed φ st hcl (Region.free_spec ho hf) hr' hv hx.2 (KX r _ _ _ (hcl.set hr') hB' (.inl hx) h')
  · simp at hx
 | (i, k + 2) :: r, listed, φ, st, hcl, hB, hx, h => by
  simp only [rS, cM, bJ, lZ] at hB
  obtain ⟨o, ho, h'⟩ := h
  have hr : i ∈ Region.ready .any ops listed := by rw [hB.1.1.1]; simp
  refine ⟨fun h0 => (by rw [hB.1.1.1] at h0; cases h0), fun j hj => ?_⟩
  rw [hB.1.1.1] at hj
  obtain rfl : j = i := by simpa using hj
  refine ⟨o, ho, .inr ⟨hB.1.1.2, v7 (fun v st' q => ⟨.inl hB.1.2, KX r _ _ _ (hcl.set hr) hB.2 (.inr ?_) q⟩) h'⟩⟩
  rcases hx with hx | hx
  · exact hx.1
  · simp only [kG, cM] at hx
    exact hx.2
theorem aXT {N : Nat} {id : Nat} {ops : Array Oper} {Q : Exit → AF → aB → Prop} {φ : AF} {st : aB} (p : List (Nat × Nat)) (S : List Nat) (s0 : aB) (hm : P.follows .mixedOrders = true) (hok : pJ N ops = true) (hl : p.length = ops.size) (hB : rS ops S p (Array.replicate ops.size false) = true) (hf : BH p = true) (hs : fK s0 st)
 (h : CN P ops s0 (Q .normal) p φ st) : gH P N (.region id ops true) Q φ st := by
 intro a w R
 refine wp_region_any hm ?_
 have R0 : Rel N a { w with drawn := w.drawn + 1 } φ st := ⟨R.size, R.defers, R.frame, R.store⟩
 have := N0 _ _ _ _ (KX p _ φ st (fun j o _ hl => (by rw [aAC] at hl; cases hl)) hB (.inl ⟨hf, hs⟩) h)
 rw [hl] at this
 exact LQ (zO hok) (w4 hok) (w0 := w) (st0 := st) (fun φ' st' a' w' k R' T s => ⟨φ', st', R', T, s, k⟩) _ _ _ _ _ _ this R0 (cC.refl _ _) ⟨rfl, rfl, rfl⟩
def jK (P : Program) (ops : Array Oper) (s0 : aB) (K : AF → aB → Prop) : List (Nat × Nat) → AF → aB → Prop
 | [], φ, st => K φ st
 | (i, 0) :: r, φ, st => match ops[i]? with
  | none => False
  | some o => bB P [] ops [o] (fun φ' st' => fK s0 st' ∧ jK P ops s0 K r φ' st') φ st
 | (i, 1) :: r, φ, st => match ops[i]? with
  | none => False
  | some o => if j4 o = true then bB P [] ops [o] (fun φ' _ => jK P ops s0 K r φ' st) φ s0 else
   match o.guard, o.op with
   | none, .call { callee := .value f, args, .. } => ∃ v, (∀ s, fK s0 s → rN P (φ.eval f) (args.toList.map φ.eval) s (fun r' s' => r' = v ∧ s' = s)) ∧ jK P ops s0 K r (φ.put o.dst v) st
   | _, _ => False
 | (i, _) :: r, φ, st => match ops[i]? with
  | none => False
  | some o => bB P [] ops [o] (fun φ' st' => jK P ops s0 K r φ' st') φ st
theorem wY {ops : Array Oper} {s0 : aB} {K : AF → aB → Prop} : ∀ (p : List (Nat × Nat)) (φ : AF) (st : aB), jK P ops s0 K p φ st → CN P ops s0 K p φ st
 | [], _, _, h => h
 | (i, 0) :: r, φ, st, h => by
  simp only [jK] at h
  split at h
  · exact h.elim
  · rename_i o ho
    refine ⟨o, ho, ?_⟩
    simp only [bB] at h
    unfold jX
    split at h
    · rename_i hg
      rw [hg]
      exact BK (fun v s q => ⟨q.1, wY r _ _ q.2⟩) h
    · rename_i hg
      rw [hg]
      exact ⟨h.1, wY r _ _ h.2⟩
    · exact h.elim
 | (i, 1) :: r, φ, st, h => by
  simp only [jK] at h
  split at h
  · exact h.elim
  · rename_i o ho
    split at h
    · rename_i hp
      simp only [bB] at h
      split at h
      · rename_i hg
        rw [rM hp] at h
        split at h
        · rename_i v hv
          refine ⟨o, ho, v, fun s hs => .inl ⟨hg, ?_⟩, wY r _ _ h⟩
          rw [rM hp, aI6 hs hv]
          exact ⟨rfl, rfl⟩
        · exact h.elim
      · rename_i hg
        exact ⟨o, ho, .undef, fun s _ => .inr ⟨hg, rfl⟩, wY r _ _ h⟩
      · exact h.elim
    · split at h
      · rename_i f args ats hg hop
        obtain ⟨v, h1, h2⟩ := h
        refine ⟨o, ho, v, fun s hs => .inl ⟨by simp only [jB, hg], ?_⟩, wY r _ _ h2⟩
        simp only [eX, hop]
        exact h1 s hs
      · exact h.elim
 | (i, k + 2) :: r, φ, st, h => by
  simp only [jK] at h
  split at h
  · exact h.elim
  · rename_i o ho
    refine ⟨o, ho, ?_⟩
    simp only [bB] at h
    unfold jX
    split at h
    · rename_i hg
      rw [hg]
      exact BK (fun v s q => wY r _ _ q) h
    · rename_i hg
      rw [hg]
      exact wY r _ _ h
    · exact h.elim
end
def MR (P : Program) (ops : Array Oper) (s0 : aB) (K : AF → aB → Prop) (r : List (Nat × Nat)) (φ : AF) (st : aB) : Prop := fK s0 st ∧ jK P ops s0 K r φ st
def NO (P : Program) (ops : Array Oper) (s0 : aB) (K : AF → aB → Prop) (r : List (Nat × Nat)) (φ : AF) (st : aB) : Prop := jK P ops s0 K r φ st
def PL (P : Program) (ops : Array Oper) (s0 : aB) (K : AF → aB → Prop) (r : List (Nat × Nat)) (st : aB) (φ : AF) (_ : aB) : Prop := jK P ops s0 K r φ st
def P4 (P : Program) (ops : Array Oper) (s0 : aB) (K : AF → aB → Prop) (r : List (Nat × Nat)) (φ : AF) (dst : Option Tmp) (st : aB) (v : AV) : Prop := jK P ops s0 K r (φ.put dst v) st
def DP (P : Program) (s0 : aB) (f : AV) (args : List AV) (K : AV → Prop) : Prop := ∃ v, (∀ s, fK s0 s → rN P f args s (fun r' s' => r' = v ∧ s' = s)) ∧ K v
theorem XC {P : Program} {s0 : aB} {g : FuncId} {args : List AV} {r : AV} {K : AV → Prop} (x : ∀ st, fK s0 st → aD P g args st (fun r' st' => r' = r ∧ st' = st)) (h : K r) : DP P s0 (.func g []) args K := ⟨r, fun st hs => by show aD P g (args ++ []) st _; rw [iC]; exact x st hs, h⟩
@[congr] theorem a25 {P : Program} {s0 : aB} {f f' : AV} {args args' : List AV} {K : AV → Prop} (h0 : f = f') (h1 : args = args') : DP P s0 f args K = DP P s0 f' args' K := by rw [h0, h1]
def BT (P : Program) (ops : Array Oper) (s0 : aB) (K : AF → aB → Prop) (r : List (Nat × Nat)) (φ : AF) (st : aB) : Nat → Option Oper → Prop
 | 0, some o => bB P [] ops [o] (MR P ops s0 K r) φ st
 | 1, some o => if j4 o = true then bB P [] ops [o] (PL P ops s0 K r st) φ s0 else
  match o.guard, o.op with
  | none, .call { callee := .value f, args, .. } => DP P s0 (φ.eval f) (args.toList.map φ.eval) (P4 P ops s0 K r φ o.dst st)
  | _, _ => False
 | _, some o => bB P [] ops [o] (NO P ops s0 K r) φ st
 | _, none => False
theorem aE5 {P : Program} {ops : Array Oper} {s0 : aB} {K : AF → aB → Prop} {φ : AF} {st : aB} : jK P ops s0 K [] φ st = K φ st := rfl
theorem aJO {P : Program} {l : List Oper} {s0 : aB} {K : AF → aB → Prop} {φ : AF} {st : aB} {i b : Nat} {r : List (Nat × Nat)} : jK P l.toArray s0 K ((i, b) :: r) φ st = BT P l.toArray s0 K r φ st b l[i]? := by
 match b with
 | 0 => simp only [jK, AB]; cases l[i]? <;> rfl
 | 1 => simp only [jK, AB]; cases l[i]? <;> rfl
 | b + 2 => simp only [jK, AB]; cases l[i]? <;> rfl
theorem XI {P : Program} {ops : Array Oper} {s0 : aB} {K : AF → aB → Prop} {φ : AF} {st : aB} {r : List (Nat × Nat)} {o : Oper} : BT P ops s0 K r φ st 0 (some o) = bB P [] ops [o] (MR P ops s0 K r) φ st := rfl
theorem aFE {P : Program} {ops : Array Oper} {s0 : aB} {K : AF → aB → Prop} {φ : AF} {st : aB} {r : List (Nat × Nat)} {o : Oper} : BT P ops s0 K r φ st 1 (some o) = if j4 o = true then bB P [] ops [o] (PL P ops s0 K r st) φ s0 else
      match o.guard, o.op with
      | none, .call { callee := .value f, args, .. } => DP P s0 (φ.eval f) (args.toList.map φ.eval) (P4 P ops s0 K r φ o.dst st)
      | _, _ => False := rfl
theorem aAE {P : Program} {ops : Array Oper} {s0 : aB} {K : AF → aB → Prop} {φ : AF} {st : aB} {r : List (Nat × Nat)} {o : Oper} : BT P ops s0 K r φ st 2 (some o) = bB P [] ops [o] (NO P ops s0 K r) φ st := rfl
theorem aAG {P : Program} {ops : Array Oper} {s0 : aB} {K : AF → aB → Prop} {φ : AF} {st : aB} {r : List (Nat × Nat)} : MR P ops s0 K r φ st = (fK s0 st ∧ jK P ops s0 K r φ st) := rfl
theorem UO {P : Program} {ops : Array Oper} {s0 : aB} {K : AF → aB → Prop} {φ : AF} {st : aB} {r : List (Nat × Nat)} : NO P ops s0 K r φ st = jK P ops s0 K r φ st := rfl
theorem XJ {P : Program} {ops : Array Oper} {s0 : aB} {K : AF → aB → Prop} {φ : AF} {st s : aB} {r : List (Nat × Nat)} : PL P ops s0 K r st φ s = jK P ops s0 K r φ st := rfl
theorem aCW {P : Program} {ops : Array Oper} {s0 : aB} {K : AF → aB → Prop} {φ : AF} {st : aB} {r : List (Nat × Nat)} {dst : Option Tmp} {v : AV} : P4 P ops s0 K r φ dst st v = jK P ops s0 K r (φ.put dst v) st := rfl
@[congr] theorem a22 {P : Program} {ops : Array Oper} {s0 : aB} {K : AF → aB → Prop} {p : List (Nat × Nat)} {φ φ' : AF} {st st' : aB} (h1 : φ = φ') (h2 : st = st') : jK P ops s0 K p φ st = jK P ops s0 K p φ' st' := by rw [h1, h2]
@[congr] theorem a1B {P : Program} {ops : Array Oper} {s0 : aB} {K : AF → aB → Prop} {p : List (Nat × Nat)} {φ φ' : AF} {st st' : aB} {b : Nat} {o o' : Option Oper} (h1 : φ = φ') (h2 : st = st') (h3 : o = o') : BT P ops s0 K p φ st b o = BT P ops s0 K p φ' st' b o' := by rw [h1, h2, h3]
theorem CJ {P : Program} {N : Nat} {id : Nat} {l : List Oper} {Q : Exit → AF → aB → Prop} {φ : AF} {st : aB} (p : List (Nat × Nat)) (S : List Nat) (s0 : aB) (hm : P.follows .mixedOrders = true) (hok : pJ N l.toArray = true) (hl : p.length = l.length) (hB : rS l.toArray S p (Array.replicate l.length false) = true) (hf : BH p = true) (hs : fK s0 st)
 (h : jK P l.toArray s0 (Q .normal) p φ st) : gH P N (.region id l.toArray true) Q φ st :=
 aXT p S s0 hm hok (by simpa using hl) (by simpa using hB) hf hs (wY p φ st h)
def aLT (K : AV → aB → Prop) (st : aB) : Option AV → Option AV → Prop
 | some r, some s => kB [r, s] = true ∧ K (.tup [r, s]) st
 | _, _ => False
theorem aAD {P : Program} {φ : AF} {st : aB} {p q : Tmp} {t u : TypeId} {K : AV → aB → Prop} : mO P [.cell p t, .cell q u] K φ st = aLT K st (g7 P st t (φ p)) (g7 P st u (φ q)) := by
 simp only [mO, pR, BO]
 cases g7 P st t (φ p) <;> cases g7 P st u (φ q) <;> rfl
theorem aIR {st : aB} {K : AV → aB → Prop} {r s : AV} : aLT K st (some r) (some s) = (kB [r, s] = true ∧ K (.tup [r, s]) st) := rfl
def one (b : Nat) (o : AO) : aB := dX.aC b o
theorem uC {b : Nat} {o : AO} : one b o b = some o := aB.aP _ _ _
theorem iA {b : Nat} {o : AO} {st : aB} (h : st b = some o) : fK (one b o) st := fun x p hx => by
 simp only [one, aB.aC] at hx
 split at hx
 · rename_i e; cases hx; rw [e]; exact h
 · cases hx
theorem gB {st : aB} : fK dX st := fun x p hx => by cases hx
section
variable {α : Type}
def k9 (f : α → α → Bool) : List α → List α → Bool
 | [], [] => true
 | x :: xs, y :: ys => f x y && k9 f xs ys
 | _, _ => false
theorem NV (f : α → α → Bool) : ∀ {a b : List α}, a.length ≠ b.length → k9 f a b = false
 | [], [], h => absurd rfl h
 | [], _ :: _, _ => rfl
 | _ :: _, [], _ => rfl
 | x :: xs, y :: ys, h => by simp only [k9, NV f (a := xs) (b := ys) (by simpa using h), tW]
theorem Q4 (f : α → α → Bool) : ∀ {a b : List α} (i : Nat) (x y : α), a[i]? = some x → b[i]? = some y → f x y = false → k9 f a b = false
 | [], _, i, x, y, h, _, _ => by simp at h
 | _ :: _, [], i, x, y, _, h, _ => by simp at h
 | t :: ts, t' :: ts', 0, x, y, h1, h2, h => by
  simp at h1 h2; subst h1; subst h2
  simp only [k9, h, gN]
 | t :: ts, t' :: ts', i + 1, x, y, h1, h2, h => by
  simp only [k9, Q4 f (a := ts) (b := ts') i x y (by simpa using h1) (by simpa using h2) h, tW]
theorem LD (f : α → α → Bool) : ∀ {a b : List α}, a.length = b.length → (∀ (i : Nat) (x y : α), a[i]? = some x → b[i]? = some y → f x y = true) → k9 f a b = true
 | [], [], _, _ => rfl
 | t :: ts, t' :: ts', h, g => by
  simp only [k9, cM]
  exact ⟨g 0 t t' rfl rfl, LD f (by simpa using h) fun i x y h1 h2 => g (i + 1) x y (by simpa using h1) (by simpa using h2)⟩
theorem QH {f : α → α → Bool} : ∀ {a b : List α}, (∀ x ∈ a, ∀ y, f x y = true ↔ x = y) → (k9 f a b = true ↔ a = b)
 | [], [], _ => by simp [k9]
 | [], _ :: _, _ => by simp [k9]
 | _ :: _, [], _ => by simp [k9]
 | x :: xs, y :: ys, h => by
  simp only [k9, cM, List.cons.injEq, h x (by simp) y, QH (a := xs) (b := ys) fun z hz => h z (by simp [hz])]
def bG (f : α → Nat) : List α → Nat
 | [] => 0
 | x :: xs => f x + bG f xs
theorem E5 (f : α → Nat) : ∀ {l : List α} {i : Nat} {x : α}, l[i]? = some x → bG f (l.take (i + 1)) = bG f (l.take i) + f x ∧ bG f (l.take (i + 1)) ≤ bG f l
 | [], i, x, h => by simp at h
 | y :: ys, 0, x, h => by simp at h; subst h; simp [bG]
 | y :: ys, i + 1, x, h => by
  have := E5 f (l := ys) (i := i) (x := x) (by simpa using h)
  simp only [vN, bG] at this ⊢
  omega
theorem DQ {f : α → Nat} : ∀ {l : List α} {x : α}, x ∈ l → f x ≤ bG f l
 | y :: ys, x, h => by
  simp only [cY] at h
  simp only [bG]
  rcases h with rfl | h
  · omega
  · have := DQ (f := f) h; omega
theorem bL {P : Program} {t : TypeId} {ag : Bool} {w : Nat} {av : α → AV} {l : List α} {i : Nat} {x : α} (hI : eI P t = some (ag, w)) (h : l[i]? = some x) (hw : (av x).width = w) : dJ P t (.slice (l.map av)) (.int .i64 (i : Int)) = some (.pptr (av x)) := by
 simp only [dJ, hI, l7, oV, h, qZ, hw]
 simp
theorem aPP {av : α → AV} {w : Nat} (hw : ∀ x, (av x).width = w) (l : List α) : gX (l.map av) := ⟨w, by intro e h; simp only [cU] at h; obtain ⟨t, _, rfl⟩ := h; exact hw t⟩
theorem aBM (zs : List AV) (hz : zs ≠ []) (n : Nat) : lL zs n = (List.replicate n zs).flatten := by
 have hl : 0 < zs.length := by cases zs with | nil => exact absurd rfl hz | cons => simp
 apply K4
 intro i
 unfold lL
 induction n generalizing i with
 | zero => simp
 | succ n ih =>
  rw [List.replicate_succ, List.flatten_cons]
  rcases kT i zs.length with h | h
  · rw [aL9 h]
    have : i < (n + 1) * zs.length := by rw [qW]; omega
    simp [this, Nat.mod_eq_of_lt h, h]
  · rw [aL8 h, ← ih]
    have e1 : i % zs.length = (i - zs.length) % zs.length := by rw [Nat.mod_eq_sub_mod h]
    simp only [oV]
    by_cases h2 : i - zs.length < n * zs.length
    · have h3 : i < (n + 1) * zs.length := by rw [qW]; omega
      simp [h2, h3, e1]
    · have h3 : ¬ i < (n + 1) * zs.length := by rw [qW]; omega
      simp [h2, h3]
end
theorem yZ {zs : List AV} {x : List AV} {w : Nat} (h1 : x.length = w) (h2 : zs.length = w) : aK zs 0 x = x := by
 unfold aK
 simp [h1, h2]
theorem d8 {x : AV} (h : x.isAgg = true) : AV.agg x.cells = x := by cases x <;> simp [AV.isAgg] at h <;> rfl
theorem d9 {x : List AV} {w : Nat} (h : x.length = w) : x.take w = x := by rw [← h]; exact eS
inductive Tm where
 | mk (kind n : Int) (name : ByteArray) (kids : List Tm)
mutual
def Tm.av : Tm → AV
 | .mk k n s ts => .agg [.int .i64 k, .int .i64 n, .str s, .slice (KL ts)]
def KL : List Tm → List AV
 | [] => []
 | t :: ts => t.av :: KL ts
end
theorem aJ6 : ∀ (ts : List Tm), KL ts = ts.map Tm.av
 | [] => rfl
 | t :: ts => by simp only [KL, bA, aJ6 ts]
theorem aV (k n : Int) (s : ByteArray) (ts : List Tm) : (Tm.mk k n s ts).av = .agg [.int .i64 k, .int .i64 n, .str s, .slice (ts.map Tm.av)] := by simp only [Tm.av, aJ6]
mutual
def Tm.same : Tm → Tm → Bool
 | .mk k n s ts, .mk k' n' s' ts' => decide (k = k') && decide (n = n') && decide (s = s') && JT ts ts'
def JT : List Tm → List Tm → Bool
 | [], [] => true
 | t :: ts, t' :: ts' => t.same t' && JT ts ts'
 | _, _ => false
end
theorem aE6 : ∀ (a b : List Tm), JT a b = k9 Tm.same a b
 | [], [] => rfl
 | [], _ :: _ => rfl
 | _ :: _, [] => rfl
 | t :: ts, t' :: ts' => by simp only [JT, k9, aE6 ts ts']
theorem Tm.PT (k n : Int) (s : ByteArray) (ts : List Tm) (k' n' : Int) (s' : ByteArray) (ts' : List Tm) : (Tm.mk k n s ts).same (Tm.mk k' n' s' ts') = (decide (k = k') && decide (n = n') && decide (s = s') && k9 Tm.same ts ts') := by simp only [Tm.same, aE6]
theorem Tm.HC : ∀ (a b : Tm), a.same b = true ↔ a = b
 | .mk k n s ts, .mk k' n' s' ts' => by
  have := QH (f := Tm.same) (a := ts) (b := ts') fun x hx y => Tm.HC x y
  simp only [Tm.PT, cM, bJ, Tm.mk.injEq, and_assoc, this]
termination_by a => SizeOf.sizeOf a
decreasing_by have := List.sizeOf_lt_of_mem hx; simp only [Tm.mk.sizeOf_spec]; omega
theorem aT (t : Tm) : t.av.isAgg = true := by cases t; rfl
theorem aH (t : Tm) : t.av.width = 4 := by cases t; rfl
theorem bO (t : Tm) : t.av.cells.length = 4 := by cases t; rfl
theorem bZ (t : Tm) : t.av.cells.all AV.storable = true := by cases t; rfl
theorem cG (t : Tm) : t.av.cB = false := by cases t; rfl
theorem aG8 {t : Tm} : t.av.isAgg = true := aT t
theorem aJH {t : Tm} : t.av.width = 4 := aH t
theorem SC {t : Tm} : t.av.cells.all AV.storable = true := bZ t
theorem W6 {t : Tm} : t.av.cB = false := cG t
theorem UJ {t : Tm} : t.av.cells.length = 4 := bO t
theorem aHR {t : Tm} : t.av.cells.take 4 = t.av.cells := d9 (bO t)
theorem aG5 {t : Tm} : AV.agg t.av.cells = t.av := d8 (aT t)
theorem aI1 {t : Tm} {a b c d : AV} : aK [a, b, c, d] 0 t.av.cells = t.av.cells := yZ (bO t) rfl
theorem UC {t u : Tm} : aK u.av.cells 0 t.av.cells = t.av.cells := yZ (bO t) (bO u)
theorem aKH {st : aB} {b : Nat} {o o' : AO} : (st.aC b o).aC b o' = st.aC b o' := dE st b o o'
theorem aKO {st : aB} {b : Nat} {o : AO} : (st.aC b o) b = some o := aB.aP st b o
theorem WM {st : aB} {b x : Nat} {o : AO} (h : x ≠ b) : (st.aC b o) x = st x := aB.aM st o h
theorem ZS {t : Tm} : t.av.cells.drop 4 = [] := List.drop_of_length_le (by rw [bO]; exact c7 _)
inductive Pf where
 | mk (goal : Tm) (clause : Int) (kids : List Pf)
def aKD (k : Nat) (acc : List UInt8) : List UInt8 := if k = 0 then acc else aKD (k / 10) (UInt8.ofNat (48 + k % 10) :: acc)
termination_by k
decreasing_by omega
def mt (k : Int) : ByteArray := if k ≤ 0 then ⟨#[109, 48]⟩ else ⟨(109 :: aKD k.toNat []).toArray⟩
theorem aNH {st : aB} {k n : Int} {s : ByteArray} {ts : List Tm} {o : AV} {bs : List Nat} :
 cK st (Tm.mk k n s ts).av o bs ↔ ∃ q, o = .agg [.int .i64 k, .int .i64 n, .str s, q] ∧ cK st (.slice (ts.map Tm.av)) q bs := by
 rw [aV]
 generalize AV.slice (ts.map Tm.av) = x
 simp only [cK, cF]
 constructor
 · rintro ⟨os, rfl, o1, os1, b1, b1', rfl, rfl, ⟨rfl, rfl⟩, o2, os2, b2, b2', rfl, rfl, ⟨rfl, rfl⟩, o3, os3, b3, b3', rfl, rfl, ⟨rfl, rfl⟩, o4, os4, b4, b4', rfl, rfl, h, rfl, rfl⟩
   exact ⟨o4, rfl, by simpa using h⟩
 · rintro ⟨q, rfl, h⟩
   exact ⟨_, rfl, _, _, [], bs, rfl, rfl, ⟨rfl, rfl⟩, _, _, [], bs, rfl, rfl, ⟨rfl, rfl⟩, _, _, [], bs, rfl, rfl, ⟨rfl, rfl⟩, q, [], bs, [], rfl, by simp, h, rfl, rfl⟩
abbrev iv (n : Int) : AV := .int .i64 n
theorem TC (l : List Int) : ∀ e ∈ l.map iv, e.width = 1 := by intro e h; simp only [cU] at h; obtain ⟨t, _, rfl⟩ := h; rfl
def dL (s : ByteArray) : Nat :=
 cond (decide (s = ⟨#[61]⟩) || decide (s = ⟨#[92, 61]⟩) || decide (s = ⟨#[61, 61]⟩) || decide (s = ⟨#[60]⟩) || decide (s = ⟨#[62]⟩) || decide (s = ⟨#[61, 60]⟩) || decide (s = ⟨#[62, 61]⟩) || decide (s = ⟨#[61, 58, 61]⟩) || decide (s = ⟨#[105, 115]⟩)) 3 (cond (decide (s = ⟨#[43]⟩) || decide (s = ⟨#[45]⟩)) 2 (cond (decide (s = ⟨#[42]⟩) || decide (s = ⟨#[47, 47]⟩) || decide (s = ⟨#[109, 111, 100]⟩)) 1 0))
def isBuiltin (s : ByteArray) (n : Int) : Bool :=
 cond (decide (s = ⟨#[61]⟩) || decide (s = ⟨#[92, 61]⟩) || decide (s = ⟨#[61, 61]⟩) || decide (s = ⟨#[60]⟩) || decide (s = ⟨#[62]⟩) || decide (s = ⟨#[61, 60]⟩) || decide (s = ⟨#[62, 61]⟩) || decide (s = ⟨#[61, 58, 61]⟩) || decide (s = ⟨#[105, 115]⟩)) (decide (n = 2)) (cond (decide (s = ⟨#[116, 114, 117, 101]⟩) || decide (s = ⟨#[102, 97, 105, 108]⟩)) (decide (n = 0)) (cond (decide (s = ⟨#[118, 97, 114]⟩) || decide (s = ⟨#[110, 111, 110, 118, 97, 114]⟩) || decide (s = ⟨#[97, 116, 111, 109]⟩) || decide (s = ⟨#[105, 110, 116]⟩)) (decide (n = 1)) (cond (decide (s = ⟨#[97, 114, 103]⟩)) (decide (n = 3)) false)))
abbrev sb (s : ByteArray) : List UInt8 := s.data.toList
theorem cJ (s : ByteArray) : (sb s).length = s.size := by simp only [sb, Array.length_toList]; rfl
theorem sL {P : Program} {t : TypeId} {s : ByteArray} {i : Nat} {c : UInt8} (hu : P.underlying t = some .string) (h : (sb s)[i]? = some c) : CW P t (.str s) (.int .i64 (i : Int)) = some (.int .u8 (c.toNat : Int)) := by
 have hi : i < s.size := by rw [← cJ]; exact (gS.1 h).1
 have : s[i]? = some c := by
  rw [getElem?_pos s i hi]
  obtain ⟨h1, h2⟩ := gS.1 h
  rw [← h2]
  try rfl
 simp only [CW, hu, l7, this]
 simp
def letter (c : UInt8) : Bool := decide (97 ≤ c.toNat) && decide (c.toNat ≤ 122)
def rY (s : ByteArray) : Bool := (sb s).all letter && (decide ((1 : Int) ≤ (s.size : Int)) && decide ((s.size : Int) ≤ 6))
theorem t7 {α : Type} {p : α → Bool} {l : List α} {i : Nat} {x : α} (h : l[i]? = some x) (hp : p x = false) : l.all p = false := by
 rw [List.all_eq_false]
 exact ⟨x, cW h, by simp [hp]⟩
theorem I3 {α : Type} {p : α → Bool} {l : List α} (h : ∀ (i : Nat) x, l[i]? = some x → p x = true) : l.all p = true := by
 rw [eW]
 intro x hx
 obtain ⟨i, hi⟩ := GV hx
 exact h i x hi
end Go.AW
