/- Loops whose frame is kept, lists that are walked, lists that grow. -/
import Derived.Test.YtpficjlageaebaaGreatDoorSfue
set_option linter.unusedSimpArgs false
set_option linter.unusedVariables false
set_option maxRecDepth 100000
namespace Go.AW
def j6 (φ : AF) : List Nat → List (Nat × AV) → List (Nat × AV)
 | [], l => l
 | d :: ds, l => (d, φ d) :: j6 φ ds l
theorem aKU {φ : AF} {l : List (Nat × AV)} : j6 φ [] l = l := rfl
theorem aEI {φ : AF} {d : Nat} {ds : List Nat} {l : List (Nat × AV)} : j6 φ (d :: ds) l = (d, φ d) :: j6 φ ds l := rfl
theorem eH {P : Program} {N : Nat} {c : Code} {Q : Exit → AF → aB → Prop} {φ : AF} {st : aB} {α σ : Type} (mt : List Nat) (a8 : List Nat) (l : List α) (inv : Nat → σ → Prop) (ch : Nat → σ → List (Nat × AV)) (so : Nat → σ → aB)
 (hok : codeOk N c = true)
 (h0 : ∃ s, inv 0 s ∧ aO φ st (j6 φ a8 (ch 0 s)) (so 0 s))
 (h1 : ∀ i x s, l[i]? = some x → i < l.length → ((i : Int) < (l.length : Int)) → l.drop i = x :: l.drop (i + 1) → inv i s → fT P N mt c (n6 (fun φ' st' => ∃ s', inv (i + 1) s' ∧ aO φ' st' (j6 φ a8 (ch (i + 1) s')) (so (i + 1) s')) Q) (tZ (j6 φ a8 (ch i s))) (so i s))
 (h2 : ∀ s, ¬ ((l.length : Int) < (l.length : Int)) → inv l.length s → fT P N mt c (n6 (fun _ _ => False) Q) (tZ (j6 φ a8 (ch l.length s))) (so l.length s)) : gH P N (.loop c) Q φ st := by
 have mW : ∀ (k : AF → aB → Prop) (i : Nat) (s : σ), (∀ φ' st', (∃ s', inv (i + 1) s' ∧ aO φ' st' (j6 φ a8 (ch (i + 1) s')) (so (i + 1) s')) → k φ' st') →
  gH P N c (n6 (fun φ' st' => ∃ s', inv (i + 1) s' ∧ aO φ' st' (j6 φ a8 (ch (i + 1) s')) (so (i + 1) s')) Q) (jW (j6 φ a8 (ch i s))) (so i s) →
  gH P N c (n6 k Q) (jW (j6 φ a8 (ch i s))) (so i s) := by
  intro k i s hk hr a w R
  refine wp_mono (hr a w R) ?_
  rintro e a' w' ⟨φ', st', R', T, sm, q⟩
  refine ⟨φ', st', R', T, sm, ?_⟩
  cases e with
  | normal => exact hk _ _ q
  | _ => exact q
 refine PY (α := Nat × σ) (fun p => p.1 ≤ l.length ∧ inv p.1 p.2) (fun p => jW (j6 φ a8 (ch p.1 p.2))) (fun p => so p.1 p.2) (fun p => l.length - p.1) ?_ ?_
 · obtain ⟨s, hs, hl⟩ := h0
   exact ⟨(0, s), ⟨jC _, hs⟩, hl⟩
 · rintro ⟨i, s⟩ ⟨hi, hs⟩
   simp only at hi hs ⊢
   rcases kP i l.length with hlt | hge
   · refine mW _ i s ?_ (D8 mt hok (h1 i l[i] s (fG hlt) hlt (by omega) (qV hlt) hs))
     rintro φ' st' ⟨s', h1', h2'⟩
     exact ⟨(i + 1, s'), by simp only; omega, ⟨by simp only; omega, h1'⟩, h2'⟩
   · obtain rfl : i = l.length := by omega
     intro a w R
     refine wp_mono (D8 mt hok (h2 s (by omega) hs) a w R) ?_
     rintro e a' w' ⟨φ', st', R', T, sm, q⟩
     refine ⟨φ', st', R', T, sm, ?_⟩
     cases e with
     | normal => exact q.elim
     | _ => exact q
theorem gX {P : Program} {N : Nat} {c : Code} {Q : Exit → AF → aB → Prop} {φ : AF} {st : aB} {σ : Type} (mt : List Nat) (a8 : List Nat) (inv : σ → Prop) (ch : σ → List (Nat × AV)) (so : σ → aB) (μ : σ → Nat)
 (hok : codeOk N c = true)
 (h0 : ∃ s, inv s ∧ aO φ st (j6 φ a8 (ch s)) (so s))
 (h1 : ∀ s, inv s → fT P N mt c (n6 (fun φ' st' => ∃ s', μ s' < μ s ∧ inv s' ∧ aO φ' st' (j6 φ a8 (ch s')) (so s')) Q) (tZ (j6 φ a8 (ch s))) (so s)) : gH P N (.loop c) Q φ st :=
 uH mt inv (fun s => j6 φ a8 (ch s)) so μ hok h0 h1
theorem aP {b : Bool} {p q : Prop} (h1 : b = true → p) (h2 : b = false → q) : (b = true → p) ∧ (b = false → q) := ⟨h1, h2⟩
theorem aJM {P : Program} {t : TypeId} {s : ByteArray} : nI P t (.str s) = match P.underlying t with | some .string => some (.int .i64 s.size) | _ => none := rfl
theorem WV {P : Program} {t : TypeId} {es : List AV} : nI P t (.slice es) = match P.underlying t with | some (.slice _) => some (.int .i64 es.length) | _ => none := rfl
theorem aCN {P : Program} {t : TypeId} {es : List AV} : nI P t (.fslice es) = match P.underlying t with | some (.slice _) => some (.int .i64 es.length) | _ => none := rfl
theorem U7 {P : Program} {t : TypeId} {b o n w : Nat} : nI P t (.mslice b o n w) = match P.underlying t with | some (.slice _) => some (.int .i64 n) | _ => none := rfl
def a9 (w b : Nat) : List AV → AV
 | [] => .fslice []
 | x :: l => .mslice b 0 (x :: l).length w
def aY (st : aB) (b : Nat) : List AV → aB
 | [] => st
 | x :: l => st.aC b (.cells ((x :: l).flatMap AV.cells))
theorem jF {w b : Nat} : a9 w b [] = .fslice [] := rfl
theorem xG {st : aB} {b : Nat} : aY st b [] = st := rfl
theorem oP {w b : Nat} {l : List AV} (h : l ≠ []) : a9 w b l = .mslice b 0 l.length w := by cases l <;> first | exact absurd rfl h | rfl
theorem jH {st : aB} {b : Nat} {l : List AV} (h : l ≠ []) : aY st b l = st.aC b (.cells (l.flatMap AV.cells)) := by cases l <;> first | exact absurd rfl h | rfl
theorem oZ {st : aB} {b x : Nat} {l : List AV} (h : x ≠ b) : aY st b l x = st x := by cases l <;> first | rfl | exact aB.aL _ _ h
theorem AT {st : aB} {b x : Nat} {l : List AV} (h : aY st b l x = none) : st x = none ∧ (l ≠ [] → x ≠ b) := by
 cases l with
 | nil => exact ⟨h, fun h => absurd rfl h⟩
 | cons y l =>
  simp only [aY, aB.aC] at h
  split at h
  · cases h
  · rename_i hn; exact ⟨h, fun _ => hn⟩
theorem mR {w b : Nat} {l : List AV} : (a9 w b l).cC = false := by cases l <;> rfl
theorem mI {w b : Nat} {l : List AV} : (a9 w b l).isAgg = false := by cases l <;> rfl
theorem mA {w b : Nat} {l : List AV} : (a9 w b l).cells = [a9 w b l] := by cases l <;> rfl
theorem eV {w b : Nat} {l : List AV} : (a9 w b l).storable = true := by cases l <;> rfl
theorem sU {P : Program} {t e : TypeId} {w b : Nat} {l : List AV} (h : P.underlying t = some (.slice e)) : nI P t (a9 w b l) = some (.int .i64 (l.length : Int)) := by
 cases l <;> simp [a9, nI, h]
theorem aM.aY {st st' : aB} (x : aM st st') {b : Nat} {l : List AV} (h : l ≠ [] → st' b = none) : aM (aY st b l) st' := by
 cases l with
 | nil => exact x
 | cons y l => exact x.aC (h (by simp))
theorem eN {P : Program} {t : TypeId} {ag : Bool} {w bytes : Nat} {zs : List AV} {st : aB} {b : Nat} {l xs : List AV} {x : AV} {K : AV → aB → Prop}
 (hI : eI P t = some (ag, w)) (hB : eB P t = some bytes) (hZ : eZ P t = some zs) (hz : zs.length = w) (hx : zS x = some xs) (gC : uI w xs) (hw : ∀ e ∈ l, e.width = w) (hb : l ≠ [] → st b = none)
 (h1 : (l.length + xs.length) * bytes ≤ 140737488355328) (h2 : l.length + xs.length ≤ 9223372036854775807)
 (hK : ∀ b', (l ++ xs ≠ [] → st b' = none) → K (a9 w b' (l ++ xs)) (aY st b' (l ++ xs))) : j3 P t (aY st b l) (a9 w b l) x K := by
 unfold j3
 rw [hI, hB, hZ, hx]
 refine ⟨hz, gC, ?_⟩
 cases l with
 | nil =>
  show _ ∧ _ ∧ _ ∧ _ ∧ _
  refine ⟨by simpa using h1, by simpa using h2, by simp, ?_, ?_⟩
  · rintro rfl
    have := hK b (by simp)
    simpa [a9, aY] using this
  · intro hne b' hb'
    have := hK b' (fun _ => hb')
    rw [eR, oP hne, jH hne] at this
    simpa [aY] using this
 | cons y l =>
  have hb := hb (by simp)
  show w = w ∧ _ ∧ _ ∧ _
  refine ⟨rfl, h1, h2, ?_⟩
  have hfl : ((y :: l).flatMap AV.cells).length = (y :: l).length * w := oM hw
  simp only [aY, aB.aQ]
  refine ⟨by rw [hfl]; exact cY _, ?_, ?_⟩
  · have := hK b (fun _ => hb)
    rw [oP (by simp), jH (by simp), zY, dP] at this
    rw [dD, ← hfl, eS]
    exact this
  · intro b' hb'
    have hne : b' ≠ b := by rintro rfl; rw [aB.aQ] at hb'; cases hb'
    rw [aB.aL _ _ hne] at hb'
    have := hK b' (fun _ => hb')
    rw [oP (by simp), jH (by simp), zY, dP] at this
    rw [aB.wR _ _ _ hb, ← hfl, eS]
    exact this
def AV.fin (b : Nat) (l : List AV) (r : AV) : AV := if l.isEmpty = true then r.soft else (r.fz b l).soft
theorem iD {w b : Nat} {l : List AV} : (a9 w b l).fin b l = .slice l := by cases l <;> simp [a9, AV.fin, AV.fz, AV.soft]
theorem xD : ∀ cs : List AV, gN cs = cs.map AV.soft
 | [] => rfl
 | c :: cs => by simp [gN, xD cs]
theorem JP {b : Nat} {l : List AV} : ∀ cs : List AV, kI b l cs = cs.map (AV.fz b l)
 | [] => rfl
 | c :: cs => by simp [kI, JP cs]
theorem fL {b : Nat} {l : List AV} {cs : List AV} : (AV.agg cs).fin b l = .agg (cs.map (AV.fin b l)) := by
 unfold AV.fin
 split
 · simp [AV.soft, xD]
 · simp [AV.fz, AV.soft, xD, JP]
theorem jG {b : Nat} {l : List AV} {cs : List AV} : (AV.tup cs).fin b l = .tup (cs.map (AV.fin b l)) := by
 unfold AV.fin
 split
 · simp [AV.soft, xD]
 · simp [AV.fz, AV.soft, xD, JP]
theorem eC {b : Nat} {l : List AV} {k : IntKind} {n : Int} : (AV.int k n).fin b l = .int k n := by unfold AV.fin; split <;> rfl
theorem pD {b : Nat} {l : List AV} {n : Bool} : (AV.bool n).fin b l = .bool n := by unfold AV.fin; split <;> rfl
theorem iS {b : Nat} {l : List AV} {s : ByteArray} : (AV.str s).fin b l = .str s := by unfold AV.fin; split <;> rfl
theorem iI {b : Nat} {l : List AV} {s : List AV} : (AV.slice s).fin b l = .slice s := by unfold AV.fin; split <;> rfl
theorem oK {b : Nat} {l : List AV} {s : List AV} : (AV.fslice s).fin b l = .slice s := by unfold AV.fin; split <;> rfl
theorem AE {b : Nat} {l : List AV} {e : AV} : (AV.pptr e).fin b l = .pptr e := by unfold AV.fin; split <;> rfl
theorem GI {b c o : Nat} {l : List AV} : (AV.ptr c o).fin b l = .ptr c o := by unfold AV.fin; split <;> rfl
theorem aAB {b : Nat} {l : List AV} {g : FuncId} {cs : List AV} : (AV.func g cs).fin b l = .func g cs := by unfold AV.fin; split <;> rfl
theorem aD.fin {P : Program} {g : FuncId} {args : List AV} {st : aB} {Q : AV → aB → Prop}
 (x : aD P g args st (fun r st' => ∃ b l s0, st' = aY s0 b l ∧ (l ≠ [] → s0 b = none) ∧ (∀ e ∈ l, e.cC = false) ∧ g9 l ∧ Q (r.fin b l) s0)) : aD P g args st Q :=
 x.mW fun r st' ⟨b, l, s0, h1, h0, h2, h3, h4⟩ => by
  cases l with
  | nil =>
   exact ⟨r.fin b [], st', (aM.refl _).sO, fun h v S y => y.soft, by have e : st' = s0 := h1; rw [e]; exact h4⟩
  | cons e l =>
   have hb := h0 (by simp)
   subst h1
   have h1 : aY s0 b (e :: l) b = some (.cells ((e :: l).flatMap AV.cells)) := by simp only [aY, aB.aQ]
   have e1 : (aY s0 b (e :: l)).erase b = s0 := by simp only [aY]; exact aB.wR _ _ _ hb
   refine ⟨r.fin b (e :: l), s0, ?_, fun h v S y => ?_, h4⟩
   · have := (jI (aY s0 b (e :: l)) b).sO
     rwa [e1] at this
   · have := y.fz S h1 h2 h3
     rw [e1] at this
     exact this.soft
mutual
def AV.iB : AV → Bool
 | .slice _ => false
 | .fslice es => es.isEmpty
 | .pptr _ => false
 | .agg cs => kO cs
 | .tup vs => kO vs
 | .func _ cs => kO cs
 | _ => true
def kO : List AV → Bool
 | [] => true
 | a :: as => a.iB && kO as
end
def AO.iB : AO → Prop
 | .cells cs => kO cs = true
 | .map f => ∀ n a, f n = some a → a.iB = true
section
variable {h : bH} {st st' : aB}
mutual
theorem VC.anyS : ∀ (a : AV) (cs : List Value), a.iB = true → VC h st a cs → VC h st' a cs
 | .junk, _, _, x => x
 | .undef, _, _, x => x
 | .int _ _, _, _, x => x
 | .bool _, _, _, x => x
 | .str _, _, _, x => x
 | .agg as, cs, s, x => by simp only [VC] at x ⊢; exact a7.anyS as cs (by simpa [AV.iB] using s) x
 | .tup as, cs, s, x => by
  simp only [VC] at x ⊢
  obtain ⟨vs, e, r⟩ := x
  exact ⟨vs, e, dO.anyS as vs (by simpa [AV.iB] using s) r⟩
 | .slice es, _, s, _ => by simp [AV.iB] at s
 | .fslice es, cs, s, x => by
  have he : es = [] := by simpa [AV.iB] using s
  subst he
  unfold VC at x ⊢
  rcases x with x | ⟨b, off, e, _⟩
  · exact .inl x
  · exact .inl ⟨⟨_, e⟩, rfl⟩
 | .mslice b off len n, _, _, x => x
 | .nilptr, _, _, x => x
 | .ptr _ _, _, _, x => x
 | .pptr e, _, s, _ => by simp [AV.iB] at s
 | .nilmap, _, _, x => x
 | .map _, _, _, x => x
 | .func _ as, cs, s, x => by
  simp only [VC] at x ⊢
  obtain ⟨vs, e, r⟩ := x
  exact ⟨vs, e, dO.anyS as vs (by simpa [AV.iB] using s) r⟩
 | .raw _, _, _, x => x
 | .eslice, _, _, x => x
theorem a7.anyS : ∀ (as : List AV) (cs : List Value), kO as = true → a7 h st as cs → a7 h st' as cs
 | [], _, _, x => x
 | a :: as, cs, s, x => by
  simp only [a7] at x ⊢
  simp only [kO, cM] at s
  obtain ⟨c, r, e, x1, x2⟩ := x
  exact ⟨c, r, e, VC.anyS a [c] s.1 x1, a7.anyS as r s.2 x2⟩
theorem dO.anyS : ∀ (as : List AV) (cs : List Value), kO as = true → dO h st as cs → dO h st' as cs
 | [], _, _, x => x
 | a :: as, cs, s, x => by
  simp only [dO] at x ⊢
  simp only [kO, cM] at s
  obtain ⟨v, r, e, x1, x2⟩ := x
  exact ⟨v, r, e, ⟨x1.1, VC.anyS a _ s.1 x1.2⟩, dO.anyS as r s.2 x2⟩
end
theorem aR.anyS {a : AV} {v : Value} (s : a.iB = true) (x : aR h st a v) : aR h st' a v := by
 cases a <;> first | trivial | exact ⟨x.1, VC.anyS _ _ s x.2⟩
theorem k0.anyS {b : Nat} : ∀ {o : AO}, o.iB → k0 h st b o → k0 h st' b o
 | .cells as, s, x => by
  obtain ⟨c, t, e, l, vs, x1, x2⟩ := x
  exact ⟨c, t, e, l, vs, x1, a7.anyS as vs s x2⟩
 | .map f, s, x => by
  obtain ⟨es, cl, e, x1, x2, x3⟩ := x
  refine ⟨es, cl, e, x1, x2, fun n => ?_⟩
  have := x3 n
  split
  · rename_i a ha
    rw [ha] at this
    obtain ⟨e, he, hk, hv⟩ := this
    exact ⟨e, he, hk, hv.anyS (s n a ha)⟩
  · rename_i ha
    rw [ha] at this
    exact this
end
def aB.frame (st s0 s1 : aB) : aB := fun b => match s0 b, st b with
 | none, some o => some o
 | _, _ => s1 b
theorem aD.frame {P : Program} {g : FuncId} {args args' : List AV} {st s0 : aB} {Q : AV → aB → Prop} (D : aM st s0)
 (x : aD P g args s0 (fun r s1 => (∀ b, s0 b = none → s1 b ≠ none → st b = none) → r.iB = true ∧ (∀ b o, s1 b = some o → o.iB) ∧ Q r (st.frame s0 s1)))
 (hv : ∀ h vs, cW h st → c8 h st args' vs → c8 h s0 args vs) : aD P g args' st Q := by
 refine ⟨x.1, fun w vs S V => (x.2 w vs (D.F5 S) (hv _ _ S V)).mono ?_⟩
 rintro _ w' ⟨v, r, s1, rfl, hr, S1, T, sm, q⟩
 have hfr : ∀ b, s0 b = none → s1 b ≠ none → st b = none := fun b h0 h1 => by
  cases hb : st b with
  | none => rfl
  | some o => exact absurd (T.a8 b (S b o hb).1 h0).2 h1
 obtain ⟨hs, ho, hq⟩ := q hfr
 have T' : cB w.heap st w'.heap (st.frame s0 s1) := by
  refine ⟨T.size, fun b hb e => ?_, T.shape⟩
  obtain ⟨k1, k2⟩ := T.a8 b hb ((D b).1 e)
  exact ⟨k1, by simp only [aB.frame, e, k2]; split <;> first | rfl | (rename_i h; cases h)⟩
 refine ⟨v, r, st.frame s0 s1, rfl, hr.anyS hs, fun b o hb => ?_, T', sm, hq⟩
 simp only [aB.frame] at hb
 split at hb
 · rename_i o' h0 h1
   cases hb
   obtain ⟨l, y⟩ := S b _ h1
   exact ⟨vH l T.size, k0.mono T' (T.a8 b l h0).1 y⟩
 · obtain ⟨l, y⟩ := S1 b o hb
   exact ⟨l, y.anyS (ho b o hb)⟩
def eJ : aB := fun _ => none
theorem aM.eJ (st : aB) : aM st eJ := fun _ => ⟨fun _ => rfl, fun _ h => by cases h⟩
theorem aQ7 (st : aB) : st.frame eJ eJ = st := by
 funext b; simp only [aB.frame, eJ]; split
 · rename_i h; exact h.symm
 · rename_i h; cases hb : st b with
   | none => rfl
   | some o => exact absurd hb (h o rfl)
theorem aD.aLR {P : Program} {g : FuncId} {args args' : List AV} {st : aB} {r : AV} (hs : r.iB = true)
 (x : aD P g args eJ (fun r' s1 => r' = r ∧ s1 = eJ))
 (hv : ∀ h vs, cW h st → c8 h st args' vs → c8 h eJ args vs) : aD P g args' st (fun r' st' => r' = r ∧ st' = st) :=
 aD.frame (aM.eJ st) (x.mono fun r' s1 ⟨e1, e2⟩ _ => ⟨by rw [e1]; exact hs, (by rw [e2]; intro b o h; cases h), e1, by rw [e2, aQ7]⟩) hv
mutual
def cL (st : aB) : AV → AV → List Nat → Prop
 | .int k n, o, bs => o = .int k n ∧ bs = []
 | .bool b, o, bs => o = .bool b ∧ bs = []
 | .str s, o, bs => o = .str s ∧ bs = []
 | .agg cs, o, bs => ∃ os, o = .agg os ∧ cI st cs os bs
 | .slice es, o, bs => (es = [] ∧ o = .fslice [] ∧ bs = []) ∨ ∃ b bs' os w, o = .mslice b 0 es.length w ∧ bs = b :: bs' ∧ st b = some (.cells (os.flatMap AV.cells)) ∧ cI st es os bs' ∧ (∀ e ∈ es, e.width = w)
 | _, _, _ => False
def cI (st : aB) : List AV → List AV → List Nat → Prop
 | [], os, bs => os = [] ∧ bs = []
 | a :: as, os, bs => ∃ o os' b1 b2, os = o :: os' ∧ bs = b1 ++ b2 ∧ cL st a o b1 ∧ cI st as os' b2
end
theorem cI.length {st : aB} : ∀ {as os : List AV} {bs : List Nat}, cI st as os bs → os.length = as.length
 | [], os, bs, x => by simp only [cI] at x; simp [x.1]
 | a :: as, os, bs, x => by
  simp only [cI] at x
  obtain ⟨o, os', b1, b2, rfl, rfl, _, x2⟩ := x
  simp [cI.length x2]
theorem cL.shape {st : aB} : ∀ {a o : AV} {bs : List Nat}, cL st a o bs → o.isAgg = a.isAgg ∧ o.width = a.width ∧ o.cC = false ∧ (∀ cs, a = .agg cs → ∃ os, o = .agg os)
 | .int k n, o, bs, x => by simp only [cL] at x; rw [x.1]; exact ⟨rfl, rfl, rfl, by simp⟩
 | .bool b, o, bs, x => by simp only [cL] at x; rw [x.1]; exact ⟨rfl, rfl, rfl, by simp⟩
 | .str s, o, bs, x => by simp only [cL] at x; rw [x.1]; exact ⟨rfl, rfl, rfl, by simp⟩
 | .agg cs, o, bs, x => by
  simp only [cL] at x
  obtain ⟨os, rfl, x⟩ := x
  exact ⟨rfl, x.length, rfl, fun _ _ => ⟨os, rfl⟩⟩
 | .slice es, o, bs, x => by
  simp only [cL] at x
  rcases x with ⟨_, rfl, _⟩ | ⟨b, bs', os, w, rfl, _⟩ <;> exact ⟨rfl, rfl, rfl, by simp⟩
 | .junk, _, _, x => x.elim
 | .undef, _, _, x => x.elim
 | .tup _, _, _, x => x.elim
 | .fslice _, _, _, x => x.elim
 | .mslice _ _ _ _, _, _, x => x.elim
 | .nilptr, _, _, x => x.elim
 | .ptr _ _, _, _, x => x.elim
 | .pptr _, _, _, x => x.elim
 | .nilmap, _, _, x => x.elim
 | .map _, _, _, x => x.elim
 | .func _ _, _, _, x => x.elim
 | .raw _, _, _, x => x.elim
 | .eslice, _, _, x => x.elim
section
variable {st st' : aB}
mutual
theorem cL.a8 : ∀ (a o : AV) (bs : List Nat), (∀ b ∈ bs, st' b = st b) → cL st a o bs → cL st' a o bs
 | .int k n, o, bs, _, x => x
 | .bool b, o, bs, _, x => x
 | .str s, o, bs, _, x => x
 | .agg cs, o, bs, h, x => by
  simp only [cL] at x ⊢
  obtain ⟨os, e, x⟩ := x
  exact ⟨os, e, cI.a8 cs os bs h x⟩
 | .slice es, o, bs, h, x => by
  simp only [cL] at x ⊢
  rcases x with x | ⟨b, bs', os, w, e1, rfl, e2, x, e3⟩
  · exact .inl x
  · exact .inr ⟨b, bs', os, w, e1, rfl, (h b (by simp)).trans e2, cI.a8 es os bs' (fun q hq => h q (by simp [hq])) x, e3⟩
 | .junk, _, _, _, x => x
 | .undef, _, _, _, x => x
 | .tup _, _, _, _, x => x
 | .fslice _, _, _, _, x => x
 | .mslice _ _ _ _, _, _, _, x => x
 | .nilptr, _, _, _, x => x
 | .ptr _ _, _, _, _, x => x
 | .pptr _, _, _, _, x => x
 | .nilmap, _, _, _, x => x
 | .map _, _, _, _, x => x
 | .func _ _, _, _, _, x => x
 | .raw _, _, _, _, x => x
 | .eslice, _, _, _, x => x
theorem cI.a8 : ∀ (as os : List AV) (bs : List Nat), (∀ b ∈ bs, st' b = st b) → cI st as os bs → cI st' as os bs
 | [], os, bs, _, x => x
 | a :: as, os, bs, h, x => by
  simp only [cI] at x ⊢
  obtain ⟨o, os', b1, b2, e1, rfl, x1, x2⟩ := x
  exact ⟨o, os', b1, b2, e1, rfl, cL.a8 a o b1 (fun q hq => h q (by simp [hq])) x1, cI.a8 as os' b2 (fun q hq => h q (by simp [hq])) x2⟩
end
mutual
theorem cL.iB : ∀ (a o : AV) (bs : List Nat), cL st a o bs → o.iB = true ∧ o.cells.all AV.storable = o.cells.all AV.storable ∧ ∀ b ∈ bs, ∃ cs, st b = some (.cells cs) ∧ kO cs = true
 | .int k n, o, bs, x => by simp only [cL] at x; rw [x.1, x.2]; exact ⟨rfl, rfl, by simp⟩
 | .bool b, o, bs, x => by simp only [cL] at x; rw [x.1, x.2]; exact ⟨rfl, rfl, by simp⟩
 | .str s, o, bs, x => by simp only [cL] at x; rw [x.1, x.2]; exact ⟨rfl, rfl, by simp⟩
 | .agg cs, o, bs, x => by
  simp only [cL] at x
  obtain ⟨os, rfl, x⟩ := x
  obtain ⟨h1, h2⟩ := cI.iB cs os bs x
  exact ⟨by simpa [AV.iB] using h1.1, rfl, h2⟩
 | .slice es, o, bs, x => by
  simp only [cL] at x
  rcases x with ⟨_, rfl, rfl⟩ | ⟨b, bs', os, w, rfl, rfl, e2, x, e3⟩
  · exact ⟨rfl, rfl, by simp⟩
  · obtain ⟨h1, h2⟩ := cI.iB es os bs' x
    refine ⟨rfl, rfl, fun q hq => ?_⟩
    rcases cZ.1 hq with rfl | hq
    · exact ⟨_, e2, h1.2⟩
    · exact h2 q hq
 | .junk, _, _, x => x.elim
 | .undef, _, _, x => x.elim
 | .tup _, _, _, x => x.elim
 | .fslice _, _, _, x => x.elim
 | .mslice _ _ _ _, _, _, x => x.elim
 | .nilptr, _, _, x => x.elim
 | .ptr _ _, _, _, x => x.elim
 | .pptr _, _, _, x => x.elim
 | .nilmap, _, _, x => x.elim
 | .map _, _, _, x => x.elim
 | .func _ _, _, _, x => x.elim
 | .raw _, _, _, x => x.elim
 | .eslice, _, _, x => x.elim
theorem cI.iB : ∀ (as os : List AV) (bs : List Nat), cI st as os bs → (kO os = true ∧ kO (os.flatMap AV.cells) = true) ∧ ∀ b ∈ bs, ∃ cs, st b = some (.cells cs) ∧ kO cs = true
 | [], os, bs, x => by simp only [cI] at x; rw [x.1, x.2]; exact ⟨⟨rfl, rfl⟩, by simp⟩
 | a :: as, os, bs, x => by
  simp only [cI] at x
  obtain ⟨o, os', b1, b2, rfl, rfl, x1, x2⟩ := x
  obtain ⟨h1, _, h2⟩ := cL.iB a o b1 x1
  obtain ⟨⟨h3, h4⟩, h5⟩ := cI.iB as os' b2 x2
  have HV : ∀ (p q : List AV), kO p = true → kO q = true → kO (p ++ q) = true := by
   intro p q hp hq
   induction p with
   | nil => exact hq
   | cons c p ih => simp only [kO, cM, fF] at hp ⊢; exact ⟨hp.1, ih hp.2⟩
  have hc : kO o.cells = true := by cases o <;> first | (simpa [AV.cells, kO] using h1) | (simpa [AV.cells, AV.iB] using h1)
  refine ⟨⟨by simp [kO, h1, h3], by rw [tM]; exact HV _ _ hc h4⟩, fun q hq => ?_⟩
  rcases fS.1 hq with hq | hq
  · exact h2 q hq
  · exact h5 q hq
end
end
section
variable {h : bH} {st s0 : aB}
mutual
theorem cL.view (S : cW h st) (D : aM st s0) : ∀ (a o : AV) (bs : List Nat) (cs : List Value), cL st a o bs → (∀ b ∈ bs, s0 b = none) → VC h st o cs → VC h s0 a cs
 | .int k n, o, bs, cs, x, _, y => by simp only [cL] at x; rw [x.1] at y; exact y
 | .bool b, o, bs, cs, x, _, y => by simp only [cL] at x; rw [x.1] at y; exact y
 | .str s, o, bs, cs, x, _, y => by simp only [cL] at x; rw [x.1] at y; exact y
 | .agg as, o, bs, cs, x, hb, y => by
  simp only [cL] at x
  obtain ⟨os, rfl, x⟩ := x
  simp only [VC] at y ⊢
  exact cI.aA5 S D as os bs cs x hb y
 | .slice es, o, bs, cs, x, hb, y => by
  simp only [cL] at x
  rcases x with ⟨rfl, rfl, rfl⟩ | ⟨b, bs', os, w, rfl, rfl, e2, x, e3⟩
  · unfold VC at y ⊢
    rcases y with y | ⟨b, off, e, _⟩
    · exact .inl y
    · exact .inl ⟨⟨_, e⟩, rfl⟩
  · simp only [VC] at y
    obtain ⟨cap, e, l1, l2, _⟩ := y
    obtain ⟨hlt, c, t, q1, q2, vs, q3, q4⟩ := S b _ e2
    have hsh := cI.TR x
    unfold VC
    refine .inr ⟨b, 0, cap, e, l1, l2, hb b (by simp), hlt, ⟨w, e3⟩, cI.UV S D b es os bs' 0 x (fun q hq => hb q (by simp [hq])) (H2 (fun q hq => hsh q hq) q3 q4)⟩
 | .junk, _, _, _, x, _, _ => x.elim
 | .undef, _, _, _, x, _, _ => x.elim
 | .tup _, _, _, _, x, _, _ => x.elim
 | .fslice _, _, _, _, x, _, _ => x.elim
 | .mslice _ _ _ _, _, _, _, x, _, _ => x.elim
 | .nilptr, _, _, _, x, _, _ => x.elim
 | .ptr _ _, _, _, _, x, _, _ => x.elim
 | .pptr _, _, _, _, x, _, _ => x.elim
 | .nilmap, _, _, _, x, _, _ => x.elim
 | .map _, _, _, _, x, _, _ => x.elim
 | .func _ _, _, _, _, x, _, _ => x.elim
 | .raw _, _, _, _, x, _, _ => x.elim
 | .eslice, _, _, _, x, _, _ => x.elim
theorem cI.aA5 (S : cW h st) (D : aM st s0) : ∀ (as os : List AV) (bs : List Nat) (cs : List Value), cI st as os bs → (∀ b ∈ bs, s0 b = none) → a7 h st os cs → a7 h s0 as cs
 | [], os, bs, cs, x, _, y => by simp only [cI] at x; rw [x.1] at y; exact y
 | a :: as, os, bs, cs, x, hb, y => by
  simp only [cI] at x
  obtain ⟨o, os', b1, b2, rfl, rfl, x1, x2⟩ := x
  simp only [a7] at y ⊢
  obtain ⟨c, r, e, y1, y2⟩ := y
  exact ⟨c, r, e, cL.view S D a o b1 [c] x1 (fun q hq => hb q (by simp [hq])) y1, cI.aA5 S D as os' b2 r x2 (fun q hq => hb q (by simp [hq])) y2⟩
theorem cI.UV (S : cW h st) (D : aM st s0) (b : Nat) : ∀ (as os : List AV) (bs : List Nat) (off : Nat), cI st as os bs → (∀ b ∈ bs, s0 b = none) → dH h st b off os → dH h s0 b off as
 | [], os, bs, off, x, _, y => by simp only [dH]
 | a :: as, os, bs, off, x, hb, y => by
  simp only [cI] at x
  obtain ⟨o, os', b1, b2, rfl, rfl, x1, x2⟩ := x
  simp only [dH] at y ⊢
  obtain ⟨⟨cs, y1, y2, y3⟩, y4⟩ := y
  have hw := (cL.shape x1).2.1
  rw [hw] at y2 y4
  exact ⟨⟨cs, y1, y2, cL.view S D a o b1 cs x1 (fun q hq => hb q (by simp [hq])) y3⟩, cI.UV S D b as os' b2 _ x2 (fun q hq => hb q (by simp [hq])) y4⟩
theorem cI.TR : ∀ {as os : List AV} {bs : List Nat}, cI st as os bs → ∀ o ∈ os, o.cC = false
 | [], os, bs, x => by simp only [cI] at x; rw [x.1]; simp
 | a :: as, os, bs, x => by
  simp only [cI] at x
  obtain ⟨o, os', b1, b2, rfl, rfl, x1, x2⟩ := x
  intro q hq
  rcases cZ.1 hq with rfl | hq
  · exact (cL.shape x1).2.2.1
  · exact cI.TR x2 q hq
end
theorem cL.aUD (S : cW h st) (D : aM st s0) {a o : AV} {bs : List Nat} {v : Value} (x : cL st a o bs) (hb : ∀ b ∈ bs, s0 b = none) (y : aR h st o v) : aR h s0 a v := by
 have hs := x.shape
 have key : o.isAgg = k7 v ∧ VC h st o v.cells.toList := by
  cases o <;> first | exact y | simp [AV.cC] at hs
 have z : a.isAgg = k7 v ∧ VC h s0 a v.cells.toList := ⟨hs.1.symm.trans key.1, cL.view S D _ _ _ _ x hb key.2⟩
 cases ha : a <;> rw [ha] at z <;> first | trivial | exact z
end
def Seen (st s0 : aB) : List AV → List AV → Prop
 | [], as => as = []
 | o :: os, as => ∃ a as', as = a :: as' ∧ (o = a ∨ ∃ bs, cL st a o bs ∧ ∀ b ∈ bs, s0 b = none) ∧ Seen st s0 os as'
theorem Seen.rel {st s0 : aB} (D : aM st s0) : ∀ {os as : List AV}, Seen st s0 os as → ∀ h vs, cW h st → c8 h st os vs → c8 h s0 as vs
 | [], as, x, h, vs, _, y => by simp only [Seen] at x; rw [x]; exact y
 | o :: os, as, x, h, vs, S, y => by
  simp only [Seen] at x
  obtain ⟨a, as', rfl, x1, x2⟩ := x
  simp only [c8] at y ⊢
  obtain ⟨v, r, rfl, y1, y2⟩ := y
  refine ⟨v, r, rfl, ?_, Seen.rel D x2 h r S y2⟩
  rcases x1 with rfl | ⟨bs, x1, hb⟩
  · exact y1.mono (D.step h)
  · exact x1.aUD S D hb y1
def Made (st : aB) (a r : AV) (st' : aB) : Prop := ∃ bs : List Nat, bs.Nodup ∧ (∀ b ∈ bs, st b = none) ∧ cL st' a r bs ∧ ∀ b, b ∉ bs → st' b = st b
theorem cI.aFV {st : aB} {w : Nat} : ∀ {as os : List AV} {bs : List Nat}, cI st as os bs → (∀ e ∈ as, e.width = w) → (os.flatMap AV.cells).length = as.length * w
 | [], os, bs, x, _ => by simp only [cI] at x; rw [x.1]; simp
 | a :: as, os, bs, x, h => by
  simp only [cI] at x
  obtain ⟨o, os', b1, b2, rfl, rfl, x1, x2⟩ := x
  have := cI.aFV x2 (fun e he => h e (by simp [he]))
  rw [tM, dP, this, uK, (cL.shape x1).2.1, h a (by simp), aS, qT]
  omega
theorem TM {A C B x : List AV} {n j : Nat} (hA : A.length = n) (hj : j + x.length ≤ C.length) : aK (A ++ C ++ B) (n + j) x = A ++ aK C j x ++ B := by
 subst hA
 unfold aK
 have h1 : (A ++ C ++ B).take (A.length + j) = A ++ C.take j := by
  rw [nV, List.take_length_add_append, C3 (by omega)]
 have h2 : (A ++ C ++ B).drop (A.length + j + x.length) = C.drop (j + x.length) ++ B := by
  rw [nV, CZ, List.drop_length_add_append, List.drop_append_of_le_length (by omega)]
 rw [h1, h2]
 simp
theorem PI {A B : List AV} {n : Nat} (hA : A.length = n) : (∀ (C : List AV) (v : AV) (j : Nat), j < C.length → aK (A ++ C ++ B) (n + j) [v] = A ++ C.set j v ++ B) ∧ (∀ (C : List AV) (c : Nat), c < C.length → n + c + 1 ≤ (A ++ C ++ B).length) ∧
 (∀ (C : List AV) (c : Nat), c < C.length → (A ++ C ++ B)[n + c]? = C[c]?) ∧ (∀ (C : List AV) (v : AV), 0 < C.length → aK (A ++ C ++ B) n [v] = A ++ C.set 0 v ++ B) ∧ (∀ (C : List AV), 0 < C.length → n + 1 ≤ (A ++ C ++ B).length) ∧
 ∀ (C : List AV), 0 < C.length → (A ++ C ++ B)[n]? = C[0]? := by
 have k1 : (∀ (C : List AV) (v : AV) (j : Nat), j < C.length → aK (A ++ C ++ B) (n + j) [v] = A ++ C.set j v ++ B) ∧ (∀ (C : List AV) (c : Nat), c < C.length → n + c + 1 ≤ (A ++ C ++ B).length) ∧ ∀ (C : List AV) (c : Nat), c < C.length → (A ++ C ++ B)[n + c]? = C[c]? := ?_
 · exact ⟨k1.1, k1.2.1, k1.2.2, fun C v h => k1.1 C v 0 h, fun C h => k1.2.1 C 0 h, fun C h => k1.2.2 C 0 h⟩
 refine ⟨fun C v j h => ?_, fun C c h => ?_, fun C c h => ?_⟩
 · rw [TM hA (by simp; omega), List.set_eq_take_append_cons_drop, aG h]
   unfold aK
   simp
 · simp only [dP]; omega
 · subst hA
   rw [nV, aL1 (by omega), Nat.add_sub_cancel_left, aL2 h]
theorem aV5 {A B C x : List AV} {n w : Nat} (hA : A.length = n) (hC : C.length = w) (hx : x.length = w) : aK (A ++ C ++ B) n x = A ++ x ++ B ∧ n + w ≤ (A ++ C ++ B).length := by
 have h := TM (A := A) (C := C) (B := B) (x := x) (n := n) (j := 0) hA (by omega)
 rw [GQ] at h
 refine ⟨?_, by simp only [dP]; omega⟩
 rw [h]
 unfold aK
 simp [hC, hx]
theorem x6 {P : Program} {t : TypeId} {ag : Bool} {b len w i : Nat} (hI : eI P t = some (ag, w)) (hi : i < len) : dJ P t (.mslice b 0 len w) (.int .i64 (i : Int)) = some (.ptr b (i * w)) := by
 simp only [dJ, hI, lC, gV]
 rw [aG ⟨by omega, by omega, trivial⟩]
theorem cL.aHR {st : aB} : ∀ {cs os : List AV} {bs : List Nat}, cI st cs os bs → (∀ c ∈ cs, c.isAgg = false) → os.all AV.storable = true ∧ os.flatMap AV.cells = os
 | [], os, bs, x, _ => by simp only [cI] at x; rw [x.1]; simp
 | a :: as, os, bs, x, h => by
  simp only [cI] at x
  obtain ⟨o, os', b1, b2, rfl, rfl, x1, x2⟩ := x
  have ih := cL.aHR x2 (fun c hc => h c (by simp [hc]))
  have ha := h a (by simp)
  have ho : o.storable = true ∧ o.cells = [o] := by
   cases a <;> simp only [cL] at x1 <;> try exact x1.elim
   case int => rw [x1.1]; exact ⟨rfl, rfl⟩
   case bool => rw [x1.1]; exact ⟨rfl, rfl⟩
   case str => rw [x1.1]; exact ⟨rfl, rfl⟩
   case agg => simp [AV.isAgg] at ha
   case slice => rcases x1 with ⟨_, rfl, _⟩ | ⟨b, bs', os, w, rfl, _⟩ <;> exact ⟨rfl, rfl⟩
  rw [kD, ho.1, ih.1, tM, ih.2, ho.2]
  exact ⟨rfl, rfl⟩
theorem cI.snoc {st st' : aB} {a o : AV} {b2 : List Nat} : ∀ {as os : List AV} {b1 : List Nat}, cI st as os b1 → (∀ b ∈ b1, st' b = st b) → cL st' a o b2 → cI st' (as ++ [a]) (os ++ [o]) (b1 ++ b2)
 | [], os, b1, x, _, y => by
  simp only [cI] at x
  rw [x.1, x.2]
  simp only [eR, cI]
  exact ⟨o, [], b2, [], rfl, by simp, y, rfl, rfl⟩
 | c :: as, os, b1, x, h, y => by
  simp only [cI] at x
  obtain ⟨o1, os', b3, b4, rfl, rfl, x1, x2⟩ := x
  simp only [fF, cI]
  exact ⟨o1, os' ++ [o], b3, b4 ++ b2, rfl, by simp, cL.a8 _ _ _ (fun q hq => h q (by simp [hq])) x1, cI.snoc x2 (fun q hq => h q (by simp [hq])) y⟩
def aPH (st : aB) (ds : List Nat) (a r : AV) (st' : aB) : Prop := ∃ bs : List Nat, bs.Nodup ∧ (∀ b ∈ bs, st b = none) ∧ (∀ d ∈ ds, st d = none ∧ d ∉ bs) ∧ cL st' a r bs ∧ ∀ b, b ∉ bs → b ∉ ds → st' b = st b
theorem aD.aYZ {P : Program} {g : FuncId} {args : List AV} {st : aB} {a : AV} (x : aD P g args st (fun r st' => ∃ ds, aPH st ds a r st')) : aD P g args st (Made st a) :=
 x.mW fun r st' ⟨ds, bs, h1, h2, hd, h3, h4⟩ => by
  refine ⟨r, fun q => if q ∈ ds then none else st' q, ?_, ?_, bs, h1, h2, ?_, fun b hb => ?_⟩
  · have D : aM st' (fun q => if q ∈ ds then none else st' q) := fun q => by
     by_cases hq : q ∈ ds
     · simp only [hq, f9]; exact ⟨fun _ => trivial, fun o h => by cases h⟩
     · simp only [hq, d6]; exact ⟨id, fun o h => h⟩
    exact D.sO
  · have D : aM st' (fun q => if q ∈ ds then none else st' q) := fun q => by
     by_cases hq : q ∈ ds
     · simp only [hq, f9]; exact ⟨fun _ => trivial, fun o h => by cases h⟩
     · simp only [hq, d6]; exact ⟨id, fun o h => h⟩
    exact D.mW r
  · exact cL.a8 _ _ _ (fun q hq => aE fun h => (hd q h).2 hq) h3
  · by_cases hq : b ∈ ds
    · simp only [hq, f9]; exact (hd b hq).1.symm
    · simp only [hq, d6]; exact h4 b hb hq
def uT (b : Nat) : List AV → List Nat
 | [] => []
 | _ :: _ => [b]
theorem aTT {s : aB} {b w : Nat} {es os : List AV} {bs : List Nat} (x : cI (aY s b os) es os bs) (hw : ∀ e ∈ es, e.width = w) : cL (aY s b os) (.slice es) (a9 w b os) (uT b os ++ bs) := by
 have hl := x.length
 cases os with
 | nil =>
  have : es = [] := sE (by simpa using hl.symm)
  subst this
  simp only [cI] at x
  simp only [cL, a9, uT, x.2]
  exact .inl ⟨trivial, trivial, rfl⟩
 | cons o os =>
  simp only [cL, a9, uT]
  refine .inr ⟨b, bs, o :: os, w, by rw [hl], rfl, ?_, x, hw⟩
  simp only [aY, aB.aQ]
def AV.flat : AV → Bool
 | .int _ _ | .bool _ | .str _ => true
 | _ => false
theorem cI.flat {s : aB} : ∀ {es : List AV}, es.all AV.flat = true → cI s es es []
 | [], _ => ⟨rfl, rfl⟩
 | e :: es, h => by
  simp only [kD, cM] at h
  simp only [cI]
  refine ⟨e, es, [], [], rfl, rfl, ?_, cI.flat h.2⟩
  cases e <;> simp [AV.flat] at h <;> simp [cL]
theorem Seen.nil {st s0 : aB} : Seen st s0 [] [] := rfl
theorem Seen.same {st s0 : aB} {x : AV} {os as : List AV} (h : Seen st s0 os as) : Seen st s0 (x :: os) (x :: as) := ⟨x, as, rfl, .inl rfl, h⟩
theorem Seen.own {st : aB} {a o : AV} {bs : List Nat} {os as : List AV} (hO : cL st a o bs) (h : Seen st eJ os as) : Seen st eJ (o :: os) (a :: as) := ⟨a, as, rfl, .inr ⟨bs, hO, fun _ _ => rfl⟩, h⟩
theorem aD.see {P : Program} {g : FuncId} {args args' : List AV} {st : aB} {r : AV} (x : ∀ s, aD P g args s (fun r' s' => r' = r ∧ s' = s)) (hv : Seen st eJ args' args) (hs : r.iB = true) : aD P g args' st (fun r' s' => r' = r ∧ s' = st) :=
 aD.aLR hs (x eJ) (Seen.rel (aM.eJ st) hv)
theorem aD.pC {P : Program} {g : FuncId} {args : List AV} {st : aB} {r : AV} (x : aD P g args st (fun r' st' => r' = r ∧ aM st' st)) : aD P g args st (fun r' st' => r' = r ∧ st' = st) :=
 (x.mono fun _ _ h => ⟨h.2, h.1⟩).drop
theorem aQA {P : Program} {t : TypeId} {st : aB} {s x : AV} {K K' : AV → aB → Prop} (h : ∀ r s, K r s → K' r s) (e : j3 P t st s x K) : j3 P t st s x K' := by
 unfold j3 at *
 split at e
 case h_2 => exact e.elim
 refine ⟨e.1, e.2.1, ?_⟩
 have e := e.2.2
 split at e
 · exact ⟨e.1, e.2.1, e.2.2.1, fun q => h _ _ (e.2.2.2.1 q), fun q b hb => h _ _ (e.2.2.2.2 q b hb)⟩
 · refine ⟨e.1, e.2.1, e.2.2.1, ?_⟩
   have e := e.2.2.2
   split at e
   · exact ⟨e.1, h _ _ e.2.1, fun b hb => h _ _ (e.2.2 b hb)⟩
   · exact e.elim
 · exact e.elim
theorem aO4 {P : Program} {t t' : TypeId} {st : aB} {s x : AV} {K K' : AV → aB → Prop} (h : ∀ r s, K r s → K' r s) (e : rF P t t' st s x K) : rF P t t' st s x K' := by
 unfold rF at *
 split at e
 case h_2 => exact e.elim
 refine ⟨e.1, e.2.1, e.2.2.1, e.2.2.2.1, ?_⟩
 have e := e.2.2.2.2
 split at e
 · exact ⟨e.1, e.2.1, e.2.2.1, fun q => h _ _ (e.2.2.2.1 q), fun q b hb => h _ _ (e.2.2.2.2 q b hb)⟩
 · refine ⟨e.1, e.2.1, e.2.2.1, ?_⟩
   have e := e.2.2.2
   split at e
   · exact ⟨e.1, h _ _ e.2.1, fun b hb => h _ _ (e.2.2 b hb)⟩
   · exact e.elim
 · exact e.elim
theorem AK {P : Program} {mt : List Nat} {φ : AF} {st : aB} {o : Oper} {K K' : AV → aB → Prop} (h : ∀ r s, K r s → K' r s) (e : eX P mt φ st o K) : eX P mt φ st o K' := by
 unfold eX at *
 split at e
 · split at e
   · exact e.mono h
   · exact e.elim
 · split at e
   · split at e
     · rename_i ht; rw [aG ht]; exact aQA h e
     · rename_i ht; rw [aE ht]; exact aO4 h e
   · exact e.elim
 · split at e
   · unfold xQ at *
     split at e
     · split at e
       · exact h _ _ e
       · exact e.elim
     · exact e.elim
   · exact e.elim
 · split at e
   · rename_i hm
     rw [aG hm]
     exact ⟨e.1, fun b hb => h _ _ (e.2 b hb)⟩
   · rename_i hm
     rw [aE hm]
     split at e
     · exact h _ _ e
     · exact e.elim
 · split at e
   · exact fun b hb => h _ _ (e b hb)
   · exact e.elim
 · split at e
   · split at e
     · exact ⟨e.1, e.2.1, e.2.2.1, h _ _ e.2.2.2⟩
     · exact e.elim
   · exact e.elim
 · exact fun b hb => h _ _ (e b hb)
 · unfold wL at *
   split at e
   · exact ⟨e.1, e.2.1, e.2.2.1, e.2.2.2.1, e.2.2.2.2.1, e.2.2.2.2.2.1, fun b hb => h _ _ (e.2.2.2.2.2.2 b hb)⟩
   · exact e.elim
 · unfold rZ at *
   split at e
   · split at e
     · exact ⟨e.1, h _ _ e.2⟩
     · exact e.elim
   · exact e.elim
 · split at e
   · exact h _ _ e
   · exact e.elim
def jN (P : Program) (ops : Array Oper) (o : Oper) (φ : AF) (st : aB) (K : AV → aB → Prop) : Prop := match jA ops φ o with
 | some true => eX P [] φ st o K
 | some false => K .undef st
 | none => False
theorem wH {P : Program} {ops : Array Oper} {o : Oper} {φ : AF} {st : aB} {K K' : AV → aB → Prop} (h : ∀ r s, K r s → K' r s) (e : jN P ops o φ st K) : jN P ops o φ st K' := by
 unfold jN at *
 split at e
 · exact AK h e
 · exact h _ _ e
 · exact e.elim
section
variable {P : Program}
theorem aXM {ops : Array Oper} {oi oj : Oper} (φ : AF) (v : AV) (h : ∀ d, oj.dst = some d → d ∉ oi.looksAt ops) : jA ops (φ.put oj.dst v) oi = jA ops φ oi := by
 unfold jA
 cases hg : oi.guard with
 | none => rfl
 | some gw =>
  obtain ⟨g, want⟩ := gw
  cases ht : (ops[g]?).bind (·.dst) with
  | none => simp only [ht]
  | some t =>
   simp only [ht]
   have : (φ.put oj.dst v) t = φ t := by
    have := HW (φ := φ) (dst := oj.dst) (v := v) (x := .tmp t) (fun d hd hxd => h d hd (by
     cases hxd
     simp [Oper.looksAt, hg, ht]))
    exact this
   rw [this]
theorem K5 {ops : Array Oper} {oi oj : Oper} (φ : AF) (v : AV) {st : aB} {K : AV → aB → Prop} (h : ∀ d, oj.dst = some d → d ∉ oi.looksAt ops) : jN P ops oi (φ.put oj.dst v) st K ↔ jN P ops oi φ st K := by
 have h1 : eX P [] (φ.put oj.dst v) st oi K = eX P [] φ st oi K :=
  aDR fun x hx => HW fun d hd hxd => h d hd (by
   subst hxd
   exact List.mem_append_left _ (List.mem_filterMap.2 ⟨.tmp d, by simpa using hx, rfl⟩))
 unfold jN
 rw [h1, aXM φ v h]
theorem SX (n j : Nat) : (Array.replicate n false).getD j false = false := by
 rcases kP j n with h | h <;> simp [h]
def G1 (P : Program) (ops : Array Oper) (K : AF → aB → Prop) : Nat → Array Bool → AF → aB → Prop
 | 0, listed, φ, st => Region.ready .any ops listed = [] ∧ K φ st
 | f + 1, listed, φ, st => (Region.ready .any ops listed = [] → K φ st) ∧ ∀ i ∈ Region.ready .any ops listed, ∃ o, ops[i]? = some o ∧ jN P ops o φ st (fun r st' => G1 P ops K f (listed.setIfInBounds i true) (φ.put o.dst r) st')
theorem aW9 {N : Nat} {ops : Array Oper} (hN : ∀ (j d : Nat), (ops[j]?).bind (·.dst) = some d → d < N) {o : Oper} {i : Nat} {a : Act} {w : World} {φ : AF} {st : aB} {G : AV → aB → Prop} {K : Act → World → Prop} {Q : Exit → Act → World → Prop} (hi : ops[i]? = some o)
 (R : Rel N a w φ st) (hd : pL N o = true) (y : jN P ops o φ st G) (h : ∀ a' w' r st', Rel N a' w' (φ.put o.dst r) st' → cB w.heap st w'.heap st' → fQ w w' → G r st' → K a' w') : wpOp P ops Q i K a w := by
 unfold jN at y
 unfold wpOp
 simp only [hi]
 split at y
 · rename_i hg
   rw [aG (vV R hN hg)]
   refine .inl (IB R.frame R.store y fun v w' ⟨r', st', x1, x2, x3, x4, x5⟩ => ?_)
   exact h _ _ r' st' (R.put hd x3 x2 x1) x3 x4 x5
 · rename_i hg
   rw [aE (by rw [vV R hN hg]; simp)]
   exact h _ _ .undef st (R.put (r := .undef) hd (cB.refl _ _) R.store ⟨rfl, rfl⟩) (cB.refl _ _) (fQ.refl _) y
 · exact y.elim
theorem PN {N : Nat} {ops : Array Oper} (hN : ∀ (j d : Nat), (ops[j]?).bind (·.dst) = some d → d < N) (hD : ∀ o ∈ ops.toList, pL N o = true) {K : AF → aB → Prop} {Q : Exit → Act → World → Prop} {w0 : World} {st0 : aB}
 (hK : ∀ φ st a w, K φ st → Rel N a w φ st → cB w0.heap st0 w.heap st → fQ w0 w → Q .normal a w) :
 ∀ (f : Nat) (listed : Array Bool) (φ : AF) (st : aB) (a : Act) (w : World), G1 P ops K f listed φ st → Rel N a w φ st → cB w0.heap st0 w.heap st → fQ w0 w → wpAny P .any ops Q f listed a w
 | 0, listed, φ, st, a, w, h, R, T, s => ⟨h.1, hK φ st a w h.2 R T s⟩
 | f + 1, listed, φ, st, a, w, h, R, T, s => by
  refine ⟨fun h0 => hK φ st a w (h.1 h0) R T s, fun i hi => ?_⟩
  obtain ⟨o, ho, y⟩ := h.2 i hi
  exact aW9 hN ho R (hD o (nU.2 (C4 ho))) y fun a' w' r st' R' T' s' g => PN hN hD hK f _ _ _ a' w' g R' (T.trans T') (s.trans s')
def aIG (P : Program) (ops : Array Oper) (o : Oper) (r : AV) (φ : AF) : Prop := ∀ st, jP P st ops o r φ
theorem a1P {ops : Array Oper} {o : Oper} {r : AV} {φ : AF} (h : aIG P ops o r φ) {st : aB} {K : AV → aB → Prop} (k : K r st) : jN P ops o φ st K := by
 unfold jN
 rcases h st with ⟨hg, hs⟩ | ⟨hg, rfl⟩
 · rw [hg]; exact AK (fun r' s' ⟨e1, e2⟩ => by rw [e1, e2]; exact k) hs
 · rw [hg]; exact k
theorem aK4 {ops : Array Oper} {o : Oper} {r : AV} {φ : AF} {st : aB} (h : jP P st ops o r φ) {K : AV → aB → Prop} (k : K r st) : jN P ops o φ st K := by
 unfold jN
 rcases h with ⟨hg, hs⟩ | ⟨hg, rfl⟩
 · rw [hg]; exact AK (fun r' s' ⟨e1, e2⟩ => by rw [e1, e2]; exact k) hs
 · rw [hg]; exact k
def AG (P : Program) (ops : Array Oper) (S : List Nat) (K : AF → aB → Prop) : Nat → Array Bool → AF → aB → Prop
 | 0, listed, φ, st => Region.ready .any ops listed = [] ∧ K φ st
 | f + 1, listed, φ, st => (Region.ready .any ops listed = [] → K φ st) ∧ ∀ i ∈ Region.ready .any ops listed, ∃ o, ops[i]? = some o ∧
  ((S.contains i = true ∧ ∃ r, jP P st ops o r φ ∧ AG P ops S K f (listed.setIfInBounds i true) (φ.put o.dst r) st) ∨
   (S.contains i = false ∧ jN P ops o φ st (fun r st' => AG P ops S K f (listed.setIfInBounds i true) (φ.put o.dst r) st')))
theorem N6 {ops : Array Oper} {S : List Nat} {K : AF → aB → Prop} : ∀ (f : Nat) (listed : Array Bool) (φ : AF) (st : aB), AG P ops S K f listed φ st → G1 P ops K f listed φ st
 | 0, _, _, _, h => h
 | f + 1, listed, φ, st, h => by
  refine ⟨h.1, fun i hi => ?_⟩
  obtain ⟨o, ho, h2⟩ := h.2 i hi
  refine ⟨o, ho, ?_⟩
  rcases h2 with ⟨_, r, y, k⟩ | ⟨_, k⟩
  · exact aK4 y (N6 f _ _ _ k)
  · exact wH (fun r s q => N6 f _ _ _ q) k
def wJ (ops : Array Oper) (listed : Array Bool) : Prop := ∀ j o, ops[j]? = some o → listed.getD j false = true → ∀ e ∈ o.after, Region.binds .any e = true → listed.getD e.on false = true
theorem wJ.set {ops : Array Oper} {listed : Array Bool} {i : Nat} (h : wJ ops listed) (hr : i ∈ Region.ready .any ops listed) : wJ ops (listed.setIfInBounds i true) := by
 intro j o ho hl e he hb
 by_cases hji : i = j
 · subst hji
   obtain ⟨_, o', ho', dX⟩ := mem_ready.1 hr
   rw [ho'] at ho; cases ho
   exact getD_set_true (dX e he hb)
 · rw [getD_set_ne false hji] at hl
   exact getD_set_true (h j o ho hl e he hb)
def sZ (ops : Array Oper) : Nat → Nat → Nat → Bool
 | 0, _, _ => false
 | f + 1, j, i => match ops[j]? with
  | some o => o.after.any fun e => Region.binds .any e && (e.on == i || sZ ops f e.on i)
  | none => false
theorem H9 {ops : Array Oper} {listed : Array Bool} {i : Nat} (h : wJ ops listed) (hi : listed.getD i false = false) : ∀ (f j : Nat) (o : Oper), ops[j]? = some o → sZ ops f j i = true → ¬ ∀ e ∈ o.after, Region.binds .any e = true → listed.getD e.on false = true
 | 0, j, o, _, hd => by simp [sZ] at hd
 | f + 1, j, o, ho, hd => by
  intro dX
  simp only [sZ, ho] at hd
  obtain ⟨e, he, h2⟩ := Array.any_eq_true'.1 hd
  simp only [cM, qY, beq_iff_eq] at h2
  obtain ⟨hb, h3⟩ := h2
  have hl := dX e he hb
  rcases h3 with h3 | h3
  · rw [h3, hi] at hl; cases hl
  · cases hk : ops[e.on]? with
    | none => cases f <;> simp [sZ, hk] at h3
    | some o2 => exact H9 h hi f e.on o2 hk h3 (h e.on o2 hk hl)
def fJ (st s : aB) : Prop := ∀ b o, st b = some o → s b = some o
theorem fJ.refl (st : aB) : fJ st st := fun _ _ h => h
theorem fJ.trans {a b c : aB} (x : fJ a b) (y : fJ b c) : fJ a c := fun q o h => y q o (x q o h)
def HQ (o : Oper) : Bool := match o.op with
 | .alloc _ => true
 | _ => false
theorem aQO {ops : Array Oper} {o : Oper} {φ : AF} {st : aB} {K : AV → aB → Prop} (ho : HQ o = true) (e : jN P ops o φ st K) : jN P ops o φ st (fun r st' => fJ st st' ∧ K r st') := by
 obtain ⟨dst, op, type, pos, after, guard⟩ := o
 cases op <;> simp only [HQ, jM] at ho
 unfold jN at e ⊢
 split at e
 · simp only [eX] at e ⊢
   split at e
   · intro b hb
     refine ⟨fun q o hq => ?_, e b hb⟩
     rw [aB.aL _ _ (by rintro rfl; rw [hb] at hq; cases hq)]
     exact hq
   · cases e
 · exact ⟨fJ.refl _, e⟩
 · cases e
theorem LB {ops : Array Oper} {S : List Nat} {i : Nat} {oi : Oper} {v : AV} {K : AF → aB → Prop} (hi : ops[i]? = some oi) (hS : S.contains i = true) :
 ∀ (f : Nat) (listed : Array Bool) (φ : AF) (st : aB), wJ ops listed →
  (∀ j oj, ops[j]? = some oj → j ≠ i → listed.getD j true = false → (∀ e ∈ oj.after, Region.binds .any e = true → e.on ≠ i) → oi.apart ops oj = true) →
  i ∈ Region.ready .any ops listed → ((∀ s, jP P s ops oi v φ) ∨ (jP P st ops oi v φ ∧ ∀ j oj, ops[j]? = some oj → listed.getD j true = false → S.contains j = false → ∃ g, sZ ops g j i = true) ∨ ((∀ s, fJ st s → jP P s ops oi v φ) ∧ ∀ j oj, ops[j]? = some oj → listed.getD j true = false → S.contains j = false → (∃ g, sZ ops g j i = true) ∨ HQ oj = true)) →
  AG P ops S K f (listed.setIfInBounds i true) (φ.put oi.dst v) st → AG P ops S K (f + 1) listed φ st := by
 intro f
 induction f with
 | zero =>
  intro listed φ st hcl _ hr hy H
  have hy0 : jP P st ops oi v φ := by
   rcases hy with h | h | h
   · exact h st
   · exact h.1
   · exact h.1 st (fJ.refl st)
  refine ⟨fun h => (by rw [h] at hr; cases hr), fun j hj => ?_⟩
  by_cases hji : j = i
  · subst hji; exact ⟨oi, hi, .inl ⟨hS, v, hy0, H⟩⟩
  · have := ready_mono hj hji
    rw [H.1] at this
    cases this
 | succ f ih =>
  intro listed φ st hcl pF hr hy H
  have hy0 : jP P st ops oi v φ := by
   rcases hy with h | h | h
   · exact h st
   · exact h.1
   · exact h.1 st (fJ.refl st)
  refine ⟨fun h => (by rw [h] at hr; cases hr), fun j hj => ?_⟩
  by_cases hji : j = i
  · subst hji; exact ⟨oi, hi, .inl ⟨hS, v, hy0, H⟩⟩
  · obtain ⟨oj, hoj, h1⟩ := H.2 j (ready_mono hj hji)
    obtain ⟨oI, oj', yM, dX⟩ := mem_ready.1 hj
    have : oj' = oj := nC (yM.symm.trans hoj)
    subst this
    have hun := (mem_ready.1 hr).1
    have rS : ∀ e ∈ oj'.after, Region.binds .any e = true → e.on ≠ i := fun e he hb heq => by
     have h1 := dX e he hb
     rw [heq, getD_both hun] at h1
     cases h1
    obtain ⟨a1, a2, a3⟩ := Oper.apart_spec (pF j oj' hoj hji oI rS)
    have sV : ∀ k ok, ops[k]? = some ok → k ≠ i → (listed.setIfInBounds j true).getD k true = false →
     (∀ e ∈ ok.after, Region.binds .any e = true → e.on ≠ i) → oi.apart ops ok = true := fun k ok hk hki hun hno => by
     refine pF k ok hk hki ?_ hno
     by_cases hjk : j = k
     · subst hjk; exact oI
     · rw [getD_set_ne true hjk] at hun; exact hun
    have N1 : ∀ k, (listed.setIfInBounds j true).getD k true = false → listed.getD k true = false := fun k hk => by
     by_cases hjk : j = k
     · subst hjk; exact oI
     · rw [getD_set_ne true hjk] at hk; exact hk
    refine ⟨oj', hoj, ?_⟩
    rcases h1 with ⟨hSj, r, yj, h2⟩ | ⟨hSj, h2⟩
    · refine .inl ⟨hSj, r, (oY φ v a1).1 yj, ih (listed.setIfInBounds j true) (φ.put oj'.dst r) st (hcl.set hj) sV (ready_mono hr (dA hji)) ?_ ?_⟩
      · rcases hy with h | h | h
        · exact .inl fun s => (oY φ r a3).2 (h s)
        · exact .inr (.inl ⟨(oY φ r a3).2 h.1, fun k ok hk hl hs => h.2 k ok hk (N1 k hl) hs⟩)
        · exact .inr (.inr ⟨fun s hs => (oY φ r a3).2 (h.1 s hs), fun k ok hk hl hs => h.2 k ok hk (N1 k hl) hs⟩)
      · rw [C5 _ _ hji, ← put_comm φ v r a2]
        exact h2
    · rcases hy with hf | ⟨_, hd⟩ | ⟨hx, hd⟩
      · refine .inr ⟨hSj, wH (fun r st' h3 => ?_) ((K5 φ v a1).1 h2)⟩
        refine ih (listed.setIfInBounds j true) (φ.put oj'.dst r) st' (hcl.set hj) sV (ready_mono hr (dA hji)) (.inl fun s => (oY φ r a3).2 (hf s)) ?_
        rw [C5 _ _ hji, ← put_comm φ v r a2]
        exact h3
      · obtain ⟨g, hg⟩ := hd j oj' hoj oI hSj
        exact absurd dX (H9 hcl (getD_both hun) g j oj' hoj hg)
      · rcases hd j oj' hoj oI hSj with ⟨g, hg⟩ | hal
        · exact absurd dX (H9 hcl (getD_both hun) g j oj' hoj hg)
        · refine .inr ⟨hSj, wH (fun r st' h3 => ?_) (aQO hal ((K5 φ v a1).1 h2))⟩
          refine ih (listed.setIfInBounds j true) (φ.put oj'.dst r) st' (hcl.set hj) sV (ready_mono hr (dA hji)) (.inr (.inr ⟨fun s hs => (oY φ r a3).2 (hx s (h3.1.trans hs)), fun k ok hk hl hs => hd k ok hk (N1 k hl) hs⟩)) ?_
          rw [C5 _ _ hji, ← put_comm φ v r a2]
          exact h3.2
def aJY (ops : Array Oper) (S : List Nat) (listed : Array Bool) (i : Nat) : Bool := (List.range ops.size).all fun j => listed.getD j true || S.contains j || sZ ops ops.size j i
def aKF (ops : Array Oper) (S : List Nat) (listed : Array Bool) (i : Nat) : Bool := (List.range ops.size).all fun j => listed.getD j true || S.contains j || sZ ops ops.size j i || ((ops[j]?).map HQ).getD false
def aET (ops : Array Oper) (i : Nat) : Bool := ((ops[i]?).map j4).getD false
def rG (ops : Array Oper) (S : List Nat) : List (Nat × Nat) → Array Bool → Bool
 | [], listed => (Region.ready .any ops listed).isEmpty
 | (i, 0) :: r, listed => decide (Region.ready .any ops listed = [i]) && !S.contains i && rG ops S r (listed.setIfInBounds i true)
 | (i, 1) :: r, listed => (Region.ready .any ops listed).contains i && Region.free .any ops listed i && S.contains i && rG ops S r (listed.setIfInBounds i true)
 | (i, _) :: r, listed => (Region.ready .any ops listed).contains i && Region.free .any ops listed i && S.contains i && (aJY ops S listed i || (aET ops i && aKF ops S listed i)) && rG ops S r (listed.setIfInBounds i true)
def BE (P : Program) (ops : Array Oper) (K : AF → aB → Prop) : List (Nat × Nat) → AF → aB → Prop
 | [], φ, st => K φ st
 | (i, 0) :: r, φ, st => ∃ o, ops[i]? = some o ∧ jN P ops o φ st (fun v st' => BE P ops K r (φ.put o.dst v) st')
 | (i, 1) :: r, φ, st => ∃ o, ops[i]? = some o ∧ ∃ v, aIG P ops o v φ ∧ BE P ops K r (φ.put o.dst v) st
 | (i, _) :: r, φ, st => ∃ o, ops[i]? = some o ∧ ∃ v, jP P st ops o v φ ∧ BE P ops K r (φ.put o.dst v) st
theorem aRR {t : TypeId} {ok : Bool} {x i r : AV} {st s : aB} (hs : fJ st s) (h : oQ P st t ok x i = some r) : oQ P s t ok x i = some r := by
 unfold oQ at *
 split at h
 · rename_i b n
   cases hb : st b with
   | none => rw [hb] at h; cases h
   | some o => rw [hs b o hb, ← hb]; exact h
 · cases h
theorem aR4 {t : TypeId} {x r : AV} {st s : aB} (hs : fJ st s) (h : g7 P st t x = some r) : g7 P s t x = some r := by
 unfold g7 at *
 split at h
 · exact h
 · rename_i b o
   cases hb : st b with
   | none => rw [hb] at h; split at h <;> simp_all
   | some o => rw [hs b o hb, ← hb]; exact h
 · cases h
theorem TA {φ : AF} {o : Oper} {r : AV} {st s : aB} (hs : fJ st s) (h : kG P φ st o = some r) : kG P φ s o = some r := by
 obtain ⟨dst, op, type, pos, after, guard⟩ := o
 cases op
 case makeFunc fn a b => cases fn <;> exact h
 case call c =>
  obtain ⟨callee, args, ats⟩ := c
  cases callee
  case builtin b => cases b <;> exact h
  all_goals exact h
 case load => exact aR4 hs h
 case lookup => exact aRR hs h
 all_goals exact h
theorem aV8 {ops : Array Oper} {o : Oper} {v : AV} {φ : AF} {st s : aB} (hp : j4 o = true) (hs : fJ st s) (h : jP P st ops o v φ) : jP P s ops o v φ := by
 rcases h with ⟨h1, h2⟩ | h
 · refine .inl ⟨h1, ?_⟩
   rw [r0 hp] at h2 ⊢
   cases hv : kG P φ st o with
   | none => rw [hv] at h2; cases h2
   | some r =>
    rw [hv] at h2
    rw [TA hs hv]
    exact ⟨h2.1, rfl⟩
 · exact .inr h
theorem FS {ops : Array Oper} {S : List Nat} {K : AF → aB → Prop} : ∀ (p : List (Nat × Nat)) (listed : Array Bool) (φ : AF) (st : aB), wJ ops listed → rG ops S p listed = true → BE P ops K p φ st → AG P ops S K p.length listed φ st
 | [], listed, φ, st, _, hB, h => ⟨by simpa [rG] using hB, h⟩
 | (i, 0) :: r, listed, φ, st, hcl, hB, h => by
  simp only [rG, cM, bJ, lX] at hB
  obtain ⟨o, ho, h'⟩ := h
  have hr : i ∈ Region.ready .any ops listed := by rw [hB.1.1]; simp
  refine ⟨fun h0 => (by rw [hB.1.1] at h0; cases h0), fun j hj => ?_⟩
  rw [hB.1.1] at hj
  obtain rfl : j = i := by simpa using hj
  exact ⟨o, ho, .inr ⟨hB.1.2, wH (fun v st' q => FS r _ _ _ (hcl.set hr) hB.2 q) h'⟩⟩
 | (i, 1) :: r, listed, φ, st, hcl, hB, h => by
  simp only [rG, cM] at hB
  obtain ⟨⟨⟨hr, hf⟩, hS⟩, hB'⟩ := hB
  obtain ⟨o, ho, v, hv, h'⟩ := h
  have hr' : i ∈ Region.ready .any ops listed := by simpa using hr
  exact LB ho hS _ listed φ st hcl (Region.free_spec ho hf) hr' (.inl hv) (FS r _ _ _ (hcl.set hr') hB' h')
 | (i, k + 2) :: r, listed, φ, st, hcl, hB, h => by
  simp only [rG, cM] at hB
  obtain ⟨⟨⟨⟨hr, hf⟩, hS⟩, hd⟩, hB'⟩ := hB
  obtain ⟨o, ho, v, hv, h'⟩ := h
  have hr' : i ∈ Region.ready .any ops listed := by simpa using hr
  rw [qY] at hd
  rcases hd with hd | hd
  · refine LB ho hS _ listed φ st hcl (Region.free_spec ho hf) hr' (.inr (.inl ⟨hv, fun j oj hj hl hs => ⟨ops.size, ?_⟩⟩)) (FS r _ _ _ (hcl.set hr') hB' h')
    simp only [aJY, eW, xK] at hd
    have := hd j (Q4.1 hj).1
    simpa only [hl, hs, qU] using this
  · rw [cM] at hd
    obtain ⟨hp, hd⟩ := hd
    simp only [aET, ho, qW, Option.getD_some] at hp
    refine LB ho hS _ listed φ st hcl (Region.free_spec ho hf) hr' (.inr (.inr ⟨fun s hs => aV8 hp hs hv, fun j oj hj hl hs => ?_⟩)) (FS r _ _ _ (hcl.set hr') hB' h')
    simp only [aKF, eW, xK] at hd
    have := hd j (Q4.1 hj).1
    simp only [hl, hs, qU, hj, qW, Option.getD_some, qY] at this
    exact this.imp (fun h => ⟨ops.size, h⟩) id
theorem aPI {N : Nat} {id : Nat} {ops : Array Oper} {Q : Exit → AF → aB → Prop} {φ : AF} {st : aB} (p : List (Nat × Nat)) (S : List Nat) (hm : P.follows .mixedOrders = true) (hok : pJ N ops = true) (hl : p.length = ops.size) (hB : rG ops S p (Array.replicate ops.size false) = true)
 (h : BE P ops (Q .normal) p φ st) : gH P N (.region id ops true) Q φ st := by
 intro a w R
 refine wp_region_any hm ?_
 have R0 : Rel N a { w with drawn := w.drawn + 1 } φ st := ⟨R.size, R.defers, R.frame, R.store⟩
 have := N6 _ _ _ _ (FS p _ φ st (fun j o _ hl => (by rw [SX] at hl; cases hl)) hB h)
 rw [hl] at this
 exact PN (zU hok) (xE hok) (w0 := w) (st0 := st) (fun φ' st' a' w' k R' T s => ⟨φ', st', R', T, s, k⟩) _ _ _ _ _ _ this R0 (cB.refl _ _) ⟨rfl, rfl, rfl⟩
theorem aX2 {t : TypeId} {ok : Bool} {x i r : AV} (h : oQ P eJ t ok x i = some r) (st : aB) : oQ P st t ok x i = some r := by
 unfold oQ at *
 split at h
 · simp only [eJ] at h; cases h
 · cases h
theorem aRJ {t : TypeId} {x r : AV} (h : g7 P eJ t x = some r) (st : aB) : g7 P st t x = some r := by
 unfold g7 at *
 split at h
 · exact h
 · split at h
   · rename_i h1; simp only [eJ] at h1; cases h1
   · cases h
 · cases h
theorem aUX {φ : AF} {o : Oper} {r : AV} (h : kG P φ eJ o = some r) (st : aB) : kG P φ st o = some r := by
 obtain ⟨dst, op, type, pos, after, guard⟩ := o
 cases op
 case makeFunc fn a b => cases fn <;> exact h
 case call c =>
  obtain ⟨callee, args, ats⟩ := c
  cases callee
  case builtin b => cases b <;> exact h
  all_goals exact h
 case load => exact aRJ h st
 case lookup => exact aX2 h st
 all_goals exact h
def jS (P : Program) (ops : Array Oper) (K : AF → aB → Prop) : List (Nat × Nat) → AF → aB → Prop
 | [], φ, st => K φ st
 | (i, 0) :: r, φ, st => match ops[i]? with
  | none => False
  | some o => bB P [] ops [o] (fun φ' st' => jS P ops K r φ' st') φ st
 | (i, 1) :: r, φ, st => match ops[i]? with
  | none => False
  | some o => if j4 o = true then bB P [] ops [o] (fun φ' _ => jS P ops K r φ' st) φ eJ else
   match o.guard, o.op with
   | none, .call { callee := .value f, args, .. } => ∃ v, (∀ s, q9 P (φ.eval f) (args.toList.map φ.eval) s (fun r' s' => r' = v ∧ s' = s)) ∧ jS P ops K r (φ.put o.dst v) st
   | _, _ => False
 | (i, _) :: r, φ, st => match ops[i]? with
  | none => False
  | some o => if j4 o = true then bB P [] ops [o] (fun φ' _ => jS P ops K r φ' st) φ st else
   match o.guard, o.op with
   | none, .call { callee := .value f, args, .. } => ∃ v, q9 P (φ.eval f) (args.toList.map φ.eval) st (fun r' s' => r' = v ∧ s' = st) ∧ jS P ops K r (φ.put o.dst v) st
   | _, _ => False
theorem uE {ops : Array Oper} {K : AF → aB → Prop} : ∀ (p : List (Nat × Nat)) (φ : AF) (st : aB), jS P ops K p φ st → BE P ops K p φ st
 | [], _, _, h => h
 | (i, 0) :: r, φ, st, h => by
  simp only [jS] at h
  split at h
  · exact h.elim
  · rename_i o ho
    refine ⟨o, ho, ?_⟩
    simp only [bB] at h
    unfold jN
    split at h
    · rename_i hg
      rw [hg]
      exact AK (fun v s q => uE r _ _ q) h
    · rename_i hg
      rw [hg]
      exact uE r _ _ h
    · exact h.elim
 | (i, 1) :: r, φ, st, h => by
  simp only [jS] at h
  split at h
  · exact h.elim
  · rename_i o ho
    split at h
    · rename_i hp
      simp only [bB] at h
      split at h
      · rename_i hg
        rw [r0 hp] at h
        split at h
        · rename_i v hv
          exact ⟨o, ho, v, fun s => .inl ⟨hg, by rw [r0 hp, aUX hv s]; exact ⟨rfl, rfl⟩⟩, uE r _ _ h⟩
        · exact h.elim
      · rename_i hg
        exact ⟨o, ho, .undef, fun s => .inr ⟨hg, rfl⟩, uE r _ _ h⟩
      · exact h.elim
    · split at h
      · rename_i f args ats hg hop
        obtain ⟨v, h1, h2⟩ := h
        refine ⟨o, ho, v, fun s => .inl ⟨by simp only [jA, hg], ?_⟩, uE r _ _ h2⟩
        simp only [eX, hop]
        exact h1 s
      · exact h.elim
 | (i, k + 2) :: r, φ, st, h => by
  simp only [jS] at h
  split at h
  · exact h.elim
  · rename_i o ho
    split at h
    · rename_i hp
      simp only [bB] at h
      split at h
      · rename_i hg
        rw [r0 hp] at h
        split at h
        · rename_i v hv
          exact ⟨o, ho, v, .inl ⟨hg, by rw [r0 hp, hv]; exact ⟨rfl, rfl⟩⟩, uE r _ _ h⟩
        · exact h.elim
      · rename_i hg
        exact ⟨o, ho, .undef, .inr ⟨hg, rfl⟩, uE r _ _ h⟩
      · exact h.elim
    · split at h
      · rename_i f args ats hg hop
        obtain ⟨v, h1, h2⟩ := h
        refine ⟨o, ho, v, .inl ⟨by simp only [jA, hg], ?_⟩, uE r _ _ h2⟩
        simp only [eX, hop]
        exact h1
      · exact h.elim
end
def O6 (P : Program) (ops : Array Oper) (K : AF → aB → Prop) (r : List (Nat × Nat)) (φ : AF) (st : aB) : Prop := jS P ops K r φ st
def FL (P : Program) (ops : Array Oper) (K : AF → aB → Prop) (r : List (Nat × Nat)) (st : aB) (φ : AF) (_ : aB) : Prop := jS P ops K r φ st
def y7 (P : Program) (ops : Array Oper) (K : AF → aB → Prop) (r : List (Nat × Nat)) (φ : AF) (dst : Option Tmp) (st : aB) (v : AV) : Prop := jS P ops K r (φ.put dst v) st
def FI (P : Program) (f : AV) (args : List AV) (K : AV → Prop) : Prop := ∃ v, (∀ s, q9 P f args s (fun r' s' => r' = v ∧ s' = s)) ∧ K v
def CX (P : Program) (ops : Array Oper) (K : AF → aB → Prop) (r : List (Nat × Nat)) (φ : AF) (st : aB) : Nat → Option Oper → Prop
 | 0, some o => bB P [] ops [o] (O6 P ops K r) φ st
 | 1, some o => if j4 o = true then bB P [] ops [o] (FL P ops K r st) φ eJ else
  match o.guard, o.op with
  | none, .call { callee := .value f, args, .. } => FI P (φ.eval f) (args.toList.map φ.eval) (y7 P ops K r φ o.dst st)
  | _, _ => False
 | _, some o => if j4 o = true then bB P [] ops [o] (FL P ops K r st) φ st else
  match o.guard, o.op with
  | none, .call { callee := .value f, args, .. } => v8 P (φ.eval f) (args.toList.map φ.eval) st (y7 P ops K r φ o.dst st)
  | _, _ => False
 | _, none => False
theorem aDT {P : Program} {ops : Array Oper} {K : AF → aB → Prop} {φ : AF} {st : aB} : jS P ops K [] φ st = K φ st := rfl
theorem TK {P : Program} {l : List Oper} {K : AF → aB → Prop} {φ : AF} {st : aB} {i b : Nat} {r : List (Nat × Nat)} : jS P l.toArray K ((i, b) :: r) φ st = CX P l.toArray K r φ st b l[i]? := by
 match b with
 | 0 => simp only [jS, zZ]; cases l[i]? <;> rfl
 | 1 => simp only [jS, zZ]; cases l[i]? <;> rfl
 | b + 2 => simp only [jS, zZ]; cases l[i]? <;> rfl
theorem aGQ {P : Program} {ops : Array Oper} {K : AF → aB → Prop} {φ : AF} {st : aB} {r : List (Nat × Nat)} {o : Oper} : CX P ops K r φ st 0 (some o) = bB P [] ops [o] (O6 P ops K r) φ st := rfl
theorem aI4 {P : Program} {ops : Array Oper} {K : AF → aB → Prop} {φ : AF} {st : aB} {r : List (Nat × Nat)} {o : Oper} : CX P ops K r φ st 1 (some o) = if j4 o = true then bB P [] ops [o] (FL P ops K r st) φ eJ else
      match o.guard, o.op with
      | none, .call { callee := .value f, args, .. } => FI P (φ.eval f) (args.toList.map φ.eval) (y7 P ops K r φ o.dst st)
      | _, _ => False := rfl
theorem aKT {P : Program} {ops : Array Oper} {K : AF → aB → Prop} {φ : AF} {st : aB} {r : List (Nat × Nat)} {o : Oper} : CX P ops K r φ st 2 (some o) = if j4 o = true then bB P [] ops [o] (FL P ops K r st) φ st else
      match o.guard, o.op with
      | none, .call { callee := .value f, args, .. } => v8 P (φ.eval f) (args.toList.map φ.eval) st (y7 P ops K r φ o.dst st)
      | _, _ => False := rfl
theorem XW {P : Program} {ops : Array Oper} {K : AF → aB → Prop} {φ : AF} {st : aB} {r : List (Nat × Nat)} : O6 P ops K r φ st = jS P ops K r φ st := rfl
theorem U0 {P : Program} {ops : Array Oper} {K : AF → aB → Prop} {φ : AF} {st s : aB} {r : List (Nat × Nat)} : FL P ops K r st φ s = jS P ops K r φ st := rfl
theorem ZQ {P : Program} {ops : Array Oper} {K : AF → aB → Prop} {φ : AF} {st : aB} {r : List (Nat × Nat)} {dst : Option Tmp} {v : AV} : y7 P ops K r φ dst st v = jS P ops K r (φ.put dst v) st := rfl
theorem NO {P : Program} {g : FuncId} {args : List AV} {r : AV} {K : AV → Prop} (x : ∀ st, aD P g args st (fun r' st' => r' = r ∧ st' = st)) (h : K r) : FI P (.func g []) args K := ⟨r, fun st => by show aD P g (args ++ []) st _; rw [iA]; exact x st, h⟩
@[congr] theorem a0R {P : Program} {ops : Array Oper} {K : AF → aB → Prop} {p : List (Nat × Nat)} {φ φ' : AF} {st st' : aB} (h1 : φ = φ') (h2 : st = st') : jS P ops K p φ st = jS P ops K p φ' st' := by rw [h1, h2]
@[congr] theorem a0P {P : Program} {ops : Array Oper} {K : AF → aB → Prop} {p : List (Nat × Nat)} {φ φ' : AF} {st st' : aB} {b : Nat} {o o' : Option Oper} (h1 : φ = φ') (h2 : st = st') (h3 : o = o') : CX P ops K p φ st b o = CX P ops K p φ' st' b o' := by rw [h1, h2, h3]
@[congr] theorem a08 {P : Program} {ops : Array Oper} {K : AF → aB → Prop} {p : List (Nat × Nat)} {φ φ' : AF} {dst : Option Tmp} {st st' : aB} {v v' : AV} (h1 : φ = φ') (h2 : st = st') (h3 : v = v') : y7 P ops K p φ dst st v = y7 P ops K p φ' dst st' v' := by rw [h1, h2, h3]
@[congr] theorem a05 {P : Program} {f f' : AV} {args args' : List AV} {K : AV → Prop} (h0 : f = f') (h1 : args = args') : FI P f args K = FI P f' args' K := by rw [h0, h1]
theorem zx5 {P : Program} {N : Nat} {id : Nat} {l : List Oper} {Q : Exit → AF → aB → Prop} {φ : AF} {st : aB} (p : List (Nat × Nat)) (S : List Nat) (hm : P.follows .mixedOrders = true) (hok : pJ N l.toArray = true) (hl : p.length = l.length) (hB : rG l.toArray S p (Array.replicate l.length false) = true)
 (h : jS P l.toArray (Q .normal) p φ st) : gH P N (.region id l.toArray true) Q φ st :=
 aPI p S hm hok (by simpa using hl) (by simpa using hB) (uE p φ st h)
theorem aRP {P : Program} {t : TypeId} {ag : Bool} {w bytes : Nat} {zs : List AV} {s : aB} {b : Nat} {l xs : List AV} {x : AV} {K : AV → aB → Prop}
 (hI : eI P t = some (ag, w)) (hB : eB P t = some bytes) (hZ : eZ P t = some zs) (hz : zs.length = w) (hx : zS x = some xs) (gC : uI w xs) (hw : ∀ e ∈ l, e.width = w) (hb : l ≠ [] → s b = some (.cells (l.flatMap AV.cells)))
 (h1 : (l.length + xs.length) * bytes ≤ 140737488355328) (h2 : l.length + xs.length ≤ 9223372036854775807)
 (hK : ∀ b' s', (l ++ xs ≠ [] → s' b' = some (.cells ((l ++ xs).flatMap AV.cells))) → (l ++ xs ≠ [] → b' = b ∧ l ≠ [] ∨ s b' = none) → (∀ q, (l ++ xs ≠ [] → q ≠ b') → (l ≠ [] → q ≠ b) → s' q = s q) → (l ≠ [] → b' ≠ b → s' b = none) → K (a9 w b' (l ++ xs)) s') : j3 P t s (a9 w b l) x K := by
 unfold j3
 rw [hI, hB, hZ, hx]
 refine ⟨hz, gC, ?_⟩
 cases l with
 | nil =>
  show _ ∧ _ ∧ _ ∧ _ ∧ _
  refine ⟨by simpa using h1, by simpa using h2, by simp, ?_, ?_⟩
  · rintro rfl
    have := hK b s (by simp) (by simp) (fun _ _ _ => rfl) (by simp)
    simpa [a9] using this
  · intro hne b' hb'
    have := hK b' (s.aC b' (.cells (xs.flatMap AV.cells))) (fun _ => by rw [aB.aQ]; simp) (fun _ => .inr hb') (fun q h _ => aB.aL _ _ (h (by simpa using hne))) (by simp)
    rw [eR, oP hne] at this
    simpa using this
 | cons y l =>
  have hb := hb (by simp)
  show w = w ∧ _ ∧ _ ∧ _
  refine ⟨rfl, h1, h2, ?_⟩
  have hfl : ((y :: l).flatMap AV.cells).length = (y :: l).length * w := oM hw
  rw [hb]
  refine ⟨by rw [hfl]; exact cY _, ?_, ?_⟩
  · have := hK b (s.aC b (.cells ((y :: l ++ xs).flatMap AV.cells))) (fun _ => aB.aQ _ _ _) (fun _ => .inl ⟨rfl, by simp⟩) (fun q h _ => aB.aL _ _ (h (by simp))) (fun _ h => absurd rfl h)
    rw [oP (by simp), zY, dP] at this
    rw [← hfl, eS]
    exact this
  · intro b' hb'
    have hne : b' ≠ b := by rintro rfl; rw [hb] at hb'; cases hb'
    have := hK b' ((s.erase b).aC b' (.cells ((y :: l ++ xs).flatMap AV.cells))) (fun _ => aB.aQ _ _ _) (fun _ => .inr hb') (fun q h h' => by
     rw [aB.aL _ _ (h (by simp))]
     simp only [aB.erase, h' (by simp), d6]) (fun _ _ => by rw [aB.aL _ _ (dA hne)]; exact aB.aGF _ _)
    rw [oP (by simp), zY, dP] at this
    rw [← hfl, eS]
    exact this
def tU (es : List AV) (st : aB) (i : Nat) (os : List AV) (bs : List Nat) (b : Nat) (s : aB) : Prop :=
 os.length = i ∧ cI s (es.take i) os bs ∧ bs.Nodup ∧ (∀ q ∈ bs, st q = none) ∧ (os ≠ [] → st b = none ∧ b ∉ bs ∧ s b = some (.cells (os.flatMap AV.cells))) ∧ ∀ q, q ∉ bs → (os ≠ [] → q ≠ b) → s q = st q
theorem tU.start {es : List AV} {st : aB} {b : Nat} : tU es st 0 [] [] b st := ⟨rfl, by simp [cI], pU, by simp, by simp, fun _ _ _ => rfl⟩
theorem OC {b x : Nat} {l : List AV} : x ∈ uT b l ↔ x = b ∧ l ≠ [] := by cases l <;> simp [uT]
theorem tU.done {es : List AV} {st : aB} {n w : Nat} {os : List AV} {bs : List Nat} {b : Nat} {s : aB} (h : tU es st n os bs b s) (hl : es.length = n) (hw : ∀ e ∈ es, e.width = w) : Made st (.slice es) (a9 w b os) s := by
 obtain ⟨h1, h2, h3, h4, h5, h6⟩ := h
 rw [mO (by omega)] at h2
 refine ⟨uT b os ++ bs, ?_, fun q hq => ?_, ?_, fun q hq => ?_⟩
 · rw [tP]
   refine ⟨by cases os <;> simp [uT], h3, fun x hx y hy e => ?_⟩
   obtain ⟨rfl, hne⟩ := OC.1 hx
   exact (h5 hne).2.1 (e ▸ hy)
 · rcases fS.1 hq with hq | hq
   · obtain ⟨rfl, hne⟩ := OC.1 hq
     exact (h5 hne).1
   · exact h4 q hq
 · cases os with
   | nil =>
    have : es = [] := by simpa using h2.length.symm
    subst this
    simp only [cI] at h2
    simp only [cL, a9, uT, h2.2]
    exact .inl ⟨trivial, trivial, rfl⟩
   | cons o os =>
    simp only [cL, a9, uT]
    refine .inr ⟨b, bs, o :: os, w, by rw [h2.length], rfl, (h5 (by simp)).2.2, h2, hw⟩
 · simp only [fS, OC, not_or, not_and] at hq
   exact h6 q hq.2 (fun hne e => hq.1 e hne)
theorem cI.aKC {st : aB} {w : Nat} : ∀ {as os : List AV} {bs : List Nat}, cI st as os bs → (∀ e ∈ as, e.width = w) → ∀ o ∈ os, o.width = w
 | [], os, bs, x, _ => by simp only [cI] at x; rw [x.1]; simp
 | a :: as, os, bs, x, h => by
  simp only [cI] at x
  obtain ⟨o, os', b1, b2, rfl, rfl, x1, x2⟩ := x
  intro q hq
  rcases cZ.1 hq with rfl | hq
  · rw [(cL.shape x1).2.1, h a (by simp)]
  · exact cI.aKC x2 (fun e he => h e (by simp [he])) q hq
theorem cL.aQ9 {st : aB} {e r : AV} {bs : List Nat} {w : Nat} (m3 : cL st e r bs) (hwe : e.width = w) (hst : e.cells.all AV.storable = true) : r.width = w ∧ r.cells.length = w ∧ r.cells.all AV.storable = true := by
 refine ⟨(cL.shape m3).2.1.trans hwe, by rw [uK, (cL.shape m3).2.1, hwe], ?_⟩
 cases e <;> simp only [cL] at m3 <;> try exact m3.elim
 case int => rw [m3.1]; try rfl
 case bool => rw [m3.1]; try rfl
 case str => rw [m3.1]; try rfl
 case slice => rcases m3 with ⟨_, rfl, _⟩ | ⟨_, _, _, _, rfl, _⟩ <;> rfl
 case agg cs =>
  obtain ⟨q, rfl, m3⟩ := m3
  refine (cL.aHR m3 fun c hc => ?_).1
  have hst : cs.all AV.storable = true := hst
  have := eW.1 hst c hc
  cases c <;> first | rfl | (simp [AV.storable] at this)
theorem tU.step {es : List AV} {st : aB} {i : Nat} {os : List AV} {bs bx : List Nat} {b x b' : Nat} {s s2 s' : aB} {o : AO} {e r : AV} (h : tU es st i os bs b s) (hx : s x = none) (he : es[i]? = some e)
 (m1 : bx.Nodup) (m2 : ∀ q ∈ bx, (s.aC x o) q = none) (m3 : cL s2 e r bx) (m4 : ∀ q, q ∉ bx → s2 q = (s.aC x o) q)
 (k1 : s' b' = some (.cells ((os ++ [r]).flatMap AV.cells))) (k2 : b' = b ∧ os ≠ [] ∨ s2 b' = none) (k3 : ∀ q, q ≠ b' → (os ≠ [] → q ≠ b) → s' q = s2 q) (k4 : os ≠ [] → b' ≠ b → s' b = none) :
 tU es st (i + 1) (os ++ [r]) (bs ++ bx) b' (s'.erase x) := by
 obtain ⟨h1, h2, h3, h4, h5, h6⟩ := h
 have CB := cI.iB _ _ _ h2
 have hi : i < es.length := (gQ.1 he).1
 have wN : ∀ q ∈ bs, s q ≠ none := fun q hq => by obtain ⟨cs, e1, _⟩ := CB.2 q hq; rw [e1]; simp
 have aUP : x ∉ bs := fun hq => wN x hq hx
 have hxb : os ≠ [] → x ≠ b := fun hne e => by have := (h5 hne).2.2; rw [← e, hx] at this; cases this
 have MD : x ∉ bx := fun hq => by have := m2 x hq; rw [aB.aQ] at this; cases this
 have hbx : ∀ q ∈ bx, s q = none := fun q hq => by
  have := m2 q hq
  have hne : q ≠ x := fun e => MD (e ▸ hq)
  rwa [aB.aL _ _ hne] at this
 have BR : ∀ q ∈ bs, q ∉ bx := fun q hq hq' => wN q hq (hbx q hq')
 have UN : os ≠ [] → b ∉ bx := fun hne hq => by have := hbx b hq; rw [(h5 hne).2.2] at this; cases this
 have aVR : s2 x = some o := by rw [m4 x MD, aB.aQ]
 have hs2 : ∀ q, q ∉ bx → q ≠ x → s2 q = s q := fun q h1 h2 => by rw [m4 q h1, aB.aL _ _ h2]
 have P6 : b' ≠ x := by
  rcases k2 with ⟨rfl, hne⟩ | hn
  · exact dA (hxb hne)
  · rintro rfl; rw [aVR] at hn; cases hn
 have G6 : b' ∉ bx := by
  rcases k2 with ⟨rfl, hne⟩ | hn
  · exact UN hne
  · intro hq
    obtain ⟨cs, e1, _⟩ := (cL.iB _ _ _ m3).2.2 b' hq
    rw [e1] at hn; cases hn
 have QC : b' ∉ bs := by
  rcases k2 with ⟨rfl, hne⟩ | hn
  · exact (h5 hne).2.1
  · intro hq
    rw [hs2 b' G6 P6] at hn
    exact wN b' hq hn
 have aWU : st b' = none := by
  rcases k2 with ⟨rfl, hne⟩ | hn
  · exact (h5 hne).1
  · rw [hs2 b' G6 P6] at hn
    by_cases hbb : os ≠ [] ∧ b' = b
    · rw [hbb.2]; exact (h5 hbb.1).1
    · rw [← h6 b' QC (fun hne e => hbb ⟨hne, e⟩)]; exact hn
 have aOB : os ≠ [] → ∀ q ∈ bs, q ≠ b := fun hne q hq e => (h5 hne).2.1 (e ▸ hq)
 have aRQ : ∀ q ∈ bs, (s'.erase x) q = s q := fun q hq => by
  have hqx : q ≠ x := fun e => aUP (e ▸ hq)
  simp only [aB.erase, hqx, d6]
  rw [k3 q (fun e => QC (e ▸ hq)) (fun hne => aOB hne q hq), hs2 q (BR q hq) hqx]
 have aOW : ∀ q ∈ bx, (s'.erase x) q = s2 q := fun q hq => by
  have hqx : q ≠ x := fun e => MD (e ▸ hq)
  simp only [aB.erase, hqx, d6]
  exact k3 q (fun e => G6 (e ▸ hq)) (fun hne e => UN hne (e ▸ hq))
 refine ⟨by simp [h1], ?_, tP.2 ⟨h3, m1, fun a ha c hc e => BR a ha (e ▸ hc)⟩, fun q hq => ?_, fun _ => ⟨aWU, ?_, ?_⟩, fun q hq hqb => ?_⟩
 · rw [fM, he]
   exact cI.snoc h2 aRQ (cL.a8 _ _ _ aOW m3)
 · rcases fS.1 hq with hq | hq
   · exact h4 q hq
   · by_cases hbb : os ≠ [] ∧ q = b
     · rw [hbb.2]; exact (h5 hbb.1).1
     · by_cases hqs : q ∈ bs
       · exact h4 q hqs
       · rw [← h6 q hqs (fun hne e => hbb ⟨hne, e⟩)]; exact hbx q hq
 · intro hq
   rcases fS.1 hq with hq | hq
   · exact QC hq
   · exact G6 hq
 · simp only [aB.erase, P6, d6]
   exact k1
 · simp only [fS, not_or] at hq
   have aF5 := hqb (by simp)
   by_cases hqx : q = x
   · subst hqx
     simp only [aB.erase, f9]
     rw [← h6 q hq.1 hxb, hx]
   · simp only [aB.erase, hqx, d6]
     by_cases hbb : os ≠ [] ∧ q = b
     · rw [hbb.2, k4 hbb.1 (fun e => aF5 (hbb.2.trans e.symm)), (h5 hbb.1).1]
     · rw [k3 q aF5 (fun hne e => hbb ⟨hne, e⟩), hs2 q hq.2 hqx]
       exact h6 q hq.1 (fun hne e => hbb ⟨hne, e⟩)
theorem aD.done {P : Program} {g : FuncId} {args : List AV} {st : aB} {r : AV} (x : aD P g args st (fun r' st' => r'.soft = r ∧ aM st' st)) : aD P g args st (fun r' st' => r' = r ∧ st' = st) :=
 aD.pC (aD.soft x)
theorem aD.lU {P : Program} {g : FuncId} {args : List AV} {st : aB} {Q : AV → aB → Prop} (x : aD P g args st (fun r st' => ∃ s2, aM st' s2 ∧ Q r s2)) : aD P g args st Q :=
 x.mW fun r _ ⟨s2, D, q⟩ => ⟨r, s2, D.sO, D.mW r, q⟩
theorem j9 {cs : List AV} : (AV.agg cs).soft = .agg (cs.map AV.soft) := by simp only [AV.soft, xD]
theorem kC {cs : List AV} : (AV.tup cs).soft = .tup (cs.map AV.soft) := by simp only [AV.soft, xD]
theorem jV {k : IntKind} {n : Int} : (AV.int k n).soft = .int k n := rfl
theorem rY {b : Bool} : (AV.bool b).soft = .bool b := rfl
theorem kY {s : ByteArray} : (AV.str s).soft = .str s := rfl
theorem qA {es : List AV} : (AV.slice es).soft = .slice es := rfl
theorem lY {es : List AV} : (AV.fslice es).soft = .slice es := rfl
def uD (b : Nat) (l : List AV) : List (Nat × AV) → List (Nat × AV)
 | [] => []
 | p :: r => (p.1, p.2.fin b l) :: uD b l r
theorem ZE {b : Nat} {l : List AV} : uD b l [] = [] := rfl
theorem X9 {b d : Nat} {l : List AV} {v : AV} {r : List (Nat × AV)} : uD b l ((d, v) :: r) = (d, v.fin b l) :: uD b l r := rfl
theorem aWC {b : Nat} {l : List AV} : AV.junk.fin b l = .junk := by unfold AV.fin; split <;> rfl
theorem lT {w b : Nat} {l : List AV} : (a9 w b l).fin b l = .slice l := iD
theorem aT3 {st : aB} (b : Nat) (l : List AV) (hb : l ≠ [] → st b = none) (hj : ∀ e ∈ l, e.cC = false) (hE : g9 l) (L : List (Nat × AV)) : fK (jW L) (aY st b l) (jW (uD b l L)) st := by
 have key : ∀ L d, jW (uD b l L) d = (jW L d).fin b l := by
  intro L
  induction L with
  | nil => intro d; exact aWC.symm
  | cons p r ih =>
   obtain ⟨e, v⟩ := p
   intro d
   show ((jW (uD b l r)).aC e (v.fin b l)) d = (((jW r).aC e v) d).fin b l
   simp only [AF.aC]
   split
   · rfl
   · exact ih d
 intro h tmps S F
 cases l with
 | nil => exact ⟨S, cB.refl _ _, fun d => by rw [key]; exact (F d).soft⟩
 | cons y l =>
  have hst : (aY st b (y :: l)) b = some (.cells ((y :: l).flatMap AV.cells)) := aB.aQ _ _ _
  have he : (aY st b (y :: l)).erase b = st := aB.wR st b _ (hb (by simp))
  have L1 : fK (jW L) (aY st b (y :: l)) (fun d => (jW L d).fz b (y :: l)) st := by
   have := fK.freeze (φ := jW L) hst hj hE
   rwa [he] at this
  obtain ⟨a1, a2, a3⟩ := L1 h tmps S F
  exact ⟨a1, a2, fun d => by rw [key]; exact (a3 d).soft⟩
theorem rH {P : Program} {N : Nat} {c : Code} {Q : Exit → AF → aB → Prop} {φ : AF} {st : aB} {α σ : Type} (mt : List Nat) (a8 : List Nat) (l : List α) (w d : Nat) (acc : Nat → σ → List AV) (inv : Nat → σ → Prop) (ch : Nat → σ → List (Nat × AV)) (so : Nat → σ → aB)
 (hw : ∀ i s, inv i s → ∀ e ∈ acc i s, e.cC = false ∧ e.width = w)
 (hok : codeOk N c = true)
 (h0 : ∃ s b, inv 0 s ∧ (acc 0 s ≠ [] → so 0 s b = none) ∧ aO φ st (j6 φ a8 ((d, a9 w b (acc 0 s)) :: ch 0 s)) (aY (so 0 s) b (acc 0 s)))
 (h1 : ∀ i x s b, l[i]? = some x → i < l.length → ((i : Int) < (l.length : Int)) → l.drop i = x :: l.drop (i + 1) → inv i s → (acc i s ≠ [] → so i s b = none) →
  fT P N mt c (n6 (fun φ' st' => ∃ s' b', inv (i + 1) s' ∧ (acc (i + 1) s' ≠ [] → so (i + 1) s' b' = none) ∧ aO φ' st' (j6 φ a8 ((d, a9 w b' (acc (i + 1) s')) :: ch (i + 1) s')) (aY (so (i + 1) s') b' (acc (i + 1) s'))) Q) (tZ (j6 φ a8 ((d, a9 w b (acc i s)) :: ch i s))) (aY (so i s) b (acc i s)))
 (h2 : ∀ s b, ¬ ((l.length : Int) < (l.length : Int)) → inv l.length s → fT P N mt c (n6 (fun _ _ => False) Q) (tZ (uD b (acc l.length s) (j6 φ a8 ((d, a9 w b (acc l.length s)) :: ch l.length s)))) (so l.length s)) : gH P N (.loop c) Q φ st := by
 have mW : ∀ (k : AF → aB → Prop) (φ0 : AF) (st0 : aB) (k' : AF → aB → Prop), (∀ φ' st', k' φ' st' → k φ' st') →
  gH P N c (n6 k' Q) φ0 st0 → gH P N c (n6 k Q) φ0 st0 := by
  intro k φ0 st0 k' hk hr a w R
  refine wp_mono (hr a w R) ?_
  rintro e a' w' ⟨φ', st', R', T, sm, q⟩
  refine ⟨φ', st', R', T, sm, ?_⟩
  cases e with
  | normal => exact hk _ _ q
  | _ => exact q
 refine PY (α := Nat × σ × Nat) (fun p => p.1 ≤ l.length ∧ inv p.1 p.2.1 ∧ (acc p.1 p.2.1 ≠ [] → so p.1 p.2.1 p.2.2 = none)) (fun p => jW (j6 φ a8 ((d, a9 w p.2.2 (acc p.1 p.2.1)) :: ch p.1 p.2.1))) (fun p => aY (so p.1 p.2.1) p.2.2 (acc p.1 p.2.1)) (fun p => l.length - p.1) ?_ ?_
 · obtain ⟨s, b, hs, hb, hl⟩ := h0
   exact ⟨(0, s, b), ⟨jC _, hs, hb⟩, hl⟩
 · rintro ⟨i, s, b⟩ ⟨hi, hs, hb⟩
   simp only at hi hs hb ⊢
   rcases kP i l.length with hlt | hge
   · refine mW _ _ _ _ ?_ (D8 mt hok (h1 i l[i] s b (fG hlt) hlt (by omega) (qV hlt) hs hb))
     rintro φ' st' ⟨s', b', h1', h2', h3'⟩
     exact ⟨(i + 1, s', b'), by simp only; omega, ⟨by simp only; omega, h1', h2'⟩, h3'⟩
   · obtain rfl : i = l.length := by omega
     refine gH.less (aT3 b (acc l.length s) hb (fun e he => (hw _ s hs e he).1) ⟨w, fun e he => (hw _ s hs e he).2⟩ _) ?_
     refine mW _ _ _ _ ?_ (D8 mt hok (h2 s b (by omega) hs))
     exact fun _ _ h => h.elim
section
variable {P : Program}
def QJ (ops : Array Oper) (S : List Nat) (j : Nat) : Bool := S.all fun i => sZ ops ops.size j i
def BM (P : Program) (ops : Array Oper) (S : List Nat) (s0 : aB) (K : AF → aB → Prop) : Nat → Array Bool → AF → aB → Prop
 | 0, listed, φ, st => Region.ready .any ops listed = [] ∧ K φ st
 | f + 1, listed, φ, st => (Region.ready .any ops listed = [] → K φ st) ∧ ∀ i ∈ Region.ready .any ops listed, ∃ o, ops[i]? = some o ∧
  ((S.contains i = true ∧ ∃ r, jP P st ops o r φ ∧ BM P ops S s0 K f (listed.setIfInBounds i true) (φ.put o.dst r) st) ∨
   (S.contains i = false ∧ jN P ops o φ st (fun r st' => (QJ ops S i = true ∨ fJ s0 st') ∧ BM P ops S s0 K f (listed.setIfInBounds i true) (φ.put o.dst r) st')))
theorem L7 {ops : Array Oper} {S : List Nat} {s0 : aB} {K : AF → aB → Prop} : ∀ (f : Nat) (listed : Array Bool) (φ : AF) (st : aB), BM P ops S s0 K f listed φ st → G1 P ops K f listed φ st
 | 0, _, _, _, h => h
 | f + 1, listed, φ, st, h => by
  refine ⟨h.1, fun i hi => ?_⟩
  obtain ⟨o, ho, h2⟩ := h.2 i hi
  refine ⟨o, ho, ?_⟩
  rcases h2 with ⟨_, r, y, k⟩ | ⟨_, k⟩
  · exact aK4 y (L7 f _ _ _ k)
  · exact wH (fun r s q => L7 f _ _ _ q.2) k
theorem aQ2 {ops : Array Oper} {S : List Nat} {s0 : aB} {i : Nat} {oi : Oper} {v : AV} {K : AF → aB → Prop} (hi : ops[i]? = some oi) (hS : S.contains i = true) :
 ∀ (f : Nat) (listed : Array Bool) (φ : AF) (st : aB), wJ ops listed →
  (∀ j oj, ops[j]? = some oj → j ≠ i → listed.getD j true = false → (∀ e ∈ oj.after, Region.binds .any e = true → e.on ≠ i) → oi.apart ops oj = true) →
  i ∈ Region.ready .any ops listed → (∀ s, fJ s0 s → jP P s ops oi v φ) → fJ s0 st →
  BM P ops S s0 K f (listed.setIfInBounds i true) (φ.put oi.dst v) st → BM P ops S s0 K (f + 1) listed φ st := by
 intro f
 induction f with
 | zero =>
  intro listed φ st hcl _ hr hy hx H
  refine ⟨fun h => (by rw [h] at hr; cases hr), fun j hj => ?_⟩
  by_cases hji : j = i
  · subst hji; exact ⟨oi, hi, .inl ⟨hS, v, hy st hx, H⟩⟩
  · have := ready_mono hj hji
    rw [H.1] at this
    cases this
 | succ f ih =>
  intro listed φ st hcl pF hr hy hx H
  refine ⟨fun h => (by rw [h] at hr; cases hr), fun j hj => ?_⟩
  by_cases hji : j = i
  · subst hji; exact ⟨oi, hi, .inl ⟨hS, v, hy st hx, H⟩⟩
  · obtain ⟨oj, hoj, h1⟩ := H.2 j (ready_mono hj hji)
    obtain ⟨oI, oj', yM, dX⟩ := mem_ready.1 hj
    have : oj' = oj := nC (yM.symm.trans hoj)
    subst this
    have hun := (mem_ready.1 hr).1
    have rS : ∀ e ∈ oj'.after, Region.binds .any e = true → e.on ≠ i := fun e he hb heq => by
     have h1 := dX e he hb
     rw [heq, getD_both hun] at h1
     cases h1
    obtain ⟨a1, a2, a3⟩ := Oper.apart_spec (pF j oj' hoj hji oI rS)
    have sV : ∀ k ok, ops[k]? = some ok → k ≠ i → (listed.setIfInBounds j true).getD k true = false →
     (∀ e ∈ ok.after, Region.binds .any e = true → e.on ≠ i) → oi.apart ops ok = true := fun k ok hk hki hun hno => by
     refine pF k ok hk hki ?_ hno
     by_cases hjk : j = k
     · subst hjk; exact oI
     · rw [getD_set_ne true hjk] at hun; exact hun
    refine ⟨oj', hoj, ?_⟩
    rcases h1 with ⟨hSj, r, yj, h2⟩ | ⟨hSj, h2⟩
    · refine .inl ⟨hSj, r, (oY φ v a1).1 yj, ih (listed.setIfInBounds j true) (φ.put oj'.dst r) st (hcl.set hj) sV (ready_mono hr (dA hji)) (fun s hs => (oY φ r a3).2 (hy s hs)) hx ?_⟩
      rw [C5 _ _ hji, ← put_comm φ v r a2]
      exact h2
    · refine .inr ⟨hSj, wH (fun r st' h3 => ?_) ((K5 φ v a1).1 h2)⟩
      refine ⟨h3.1, ?_⟩
      have hx' : fJ s0 st' := by
       rcases h3.1 with he | he
       · exfalso
         unfold QJ at he
         have hd := eW.1 he i (by simpa using hS)
         exact H9 hcl (getD_both hun) _ j oj' hoj hd dX
       · exact he
      refine ih (listed.setIfInBounds j true) (φ.put oj'.dst r) st' (hcl.set hj) sV (ready_mono hr (dA hji)) (fun s hs => (oY φ r a3).2 (hy s hs)) hx' ?_
      rw [C5 _ _ hji, ← put_comm φ v r a2]
      exact h3.2
def rB (ops : Array Oper) (S : List Nat) : List (Nat × Nat) → Array Bool → Bool
 | [], listed => (Region.ready .any ops listed).isEmpty
 | (i, 0) :: r, listed => decide (Region.ready .any ops listed = [i]) && !S.contains i && rB ops S r (listed.setIfInBounds i true)
 | (i, 1) :: r, listed => (Region.ready .any ops listed).contains i && Region.free .any ops listed i && S.contains i && rB ops S r (listed.setIfInBounds i true)
 | (i, _) :: r, listed => decide (Region.ready .any ops listed = [i]) && !S.contains i && QJ ops S i && rB ops S r (listed.setIfInBounds i true)
def AB (P : Program) (ops : Array Oper) (s0 : aB) (K : AF → aB → Prop) : List (Nat × Nat) → AF → aB → Prop
 | [], φ, st => K φ st
 | (i, 0) :: r, φ, st => ∃ o, ops[i]? = some o ∧ jN P ops o φ st (fun v st' => fJ s0 st' ∧ AB P ops s0 K r (φ.put o.dst v) st')
 | (i, 1) :: r, φ, st => ∃ o, ops[i]? = some o ∧ ∃ v, (∀ s, fJ s0 s → jP P s ops o v φ) ∧ AB P ops s0 K r (φ.put o.dst v) st
 | (i, _) :: r, φ, st => ∃ o, ops[i]? = some o ∧ jN P ops o φ st (fun v st' => AB P ops s0 K r (φ.put o.dst v) st')
def BH : List (Nat × Nat) → Bool
 | [] => true
 | (_, 0) :: r => BH r
 | (_, 1) :: r => BH r
 | (_, _) :: r => r.all fun p => p.2 != 1
theorem G8 {ops : Array Oper} {S : List Nat} {s0 : aB} {K : AF → aB → Prop} : ∀ (p : List (Nat × Nat)) (listed : Array Bool) (φ : AF) (st : aB), wJ ops listed → rB ops S p listed = true → (BH p = true ∧ fJ s0 st ∨ (p.all fun q => q.2 != 1) = true) → AB P ops s0 K p φ st → BM P ops S s0 K p.length listed φ st
 | [], listed, φ, st, _, hB, hx, h => ⟨by simpa [rB] using hB, h⟩
 | (i, 0) :: r, listed, φ, st, hcl, hB, hx, h => by
  simp only [rB, cM, bJ, lX] at hB
  obtain ⟨o, ho, h'⟩ := h
  have hr : i ∈ Region.ready .any ops listed := by rw [hB.1.1]; simp
  refine ⟨fun h0 => (by rw [hB.1.1] at h0; cases h0), fun j hj => ?_⟩
  rw [hB.1.1] at hj
  obtain rfl : j = i := by simpa using hj
  refine ⟨o, ho, .inr ⟨hB.1.2, wH (fun v st' q => ⟨.inr q.1, G8 r _ _ _ (hcl.set hr) hB.2 ?_ q.2⟩) h'⟩⟩
  rcases hx with hx | hx
  · exact .inl ⟨hx.1, q.1⟩
  · refine .inr ?_
    simp only [kD, cM] at hx
    exact hx.2
 | (i, 1) :: r, listed, φ, st, hcl, hB, hx, h => by
  simp only [rB, cM] at hB
  obtain ⟨⟨⟨hr, hf⟩, hS⟩, hB'⟩ := hB
  obtain ⟨o, ho, v, hv, h'⟩ := h
  have hr' : i ∈ Region.ready .any ops listed := by simpa using hr
  rcases hx with hx | hx
  · exact aQ2 ho hS _ listed φ st hcl (Region.free_spec ho hf) hr' hv hx.2 (G8 r _ _ _ (hcl.set hr') hB' (.inl hx) h')
  · simp at hx
 | (i, k + 2) :: r, listed, φ, st, hcl, hB, hx, h => by
  simp only [rB, cM, bJ, lX] at hB
  obtain ⟨o, ho, h'⟩ := h
  have hr : i ∈ Region.ready .any ops listed := by rw [hB.1.1.1]; simp
  refine ⟨fun h0 => (by rw [hB.1.1.1] at h0; cases h0), fun j hj => ?_⟩
  rw [hB.1.1.1] at hj
  obtain rfl : j = i := by simpa using hj
  refine ⟨o, ho, .inr ⟨hB.1.1.2, wH (fun v st' q => ⟨.inl hB.1.2, G8 r _ _ _ (hcl.set hr) hB.2 (.inr ?_) q⟩) h'⟩⟩
  rcases hx with hx | hx
  · exact hx.1
  · simp only [kD, cM] at hx
    exact hx.2
theorem aQX {N : Nat} {id : Nat} {ops : Array Oper} {Q : Exit → AF → aB → Prop} {φ : AF} {st : aB} (p : List (Nat × Nat)) (S : List Nat) (s0 : aB) (hm : P.follows .mixedOrders = true) (hok : pJ N ops = true) (hl : p.length = ops.size) (hB : rB ops S p (Array.replicate ops.size false) = true) (hf : BH p = true) (hs : fJ s0 st)
 (h : AB P ops s0 (Q .normal) p φ st) : gH P N (.region id ops true) Q φ st := by
 intro a w R
 refine wp_region_any hm ?_
 have R0 : Rel N a { w with drawn := w.drawn + 1 } φ st := ⟨R.size, R.defers, R.frame, R.store⟩
 have := L7 _ _ _ _ (G8 p _ φ st (fun j o _ hl => (by rw [SX] at hl; cases hl)) hB (.inl ⟨hf, hs⟩) h)
 rw [hl] at this
 exact PN (zU hok) (xE hok) (w0 := w) (st0 := st) (fun φ' st' a' w' k R' T s => ⟨φ', st', R', T, s, k⟩) _ _ _ _ _ _ this R0 (cB.refl _ _) ⟨rfl, rfl, rfl⟩
def jE (P : Program) (ops : Array Oper) (s0 : aB) (K : AF → aB → Prop) : List (Nat × Nat) → AF → aB → Prop
 | [], φ, st => K φ st
 | (i, 0) :: r, φ, st => match ops[i]? with
  | none => False
  | some o => bB P [] ops [o] (fun φ' st' => fJ s0 st' ∧ jE P ops s0 K r φ' st') φ st
 | (i, 1) :: r, φ, st => match ops[i]? with
  | none => False
  | some o => if j4 o = true then bB P [] ops [o] (fun φ' _ => jE P ops s0 K r φ' st) φ s0 else
   match o.guard, o.op with
   | none, .call { callee := .value f, args, .. } => ∃ v, (∀ s, fJ s0 s → q9 P (φ.eval f) (args.toList.map φ.eval) s (fun r' s' => r' = v ∧ s' = s)) ∧ jE P ops s0 K r (φ.put o.dst v) st
   | _, _ => False
 | (i, _) :: r, φ, st => match ops[i]? with
  | none => False
  | some o => bB P [] ops [o] (fun φ' st' => jE P ops s0 K r φ' st') φ st
theorem v3 {ops : Array Oper} {s0 : aB} {K : AF → aB → Prop} : ∀ (p : List (Nat × Nat)) (φ : AF) (st : aB), jE P ops s0 K p φ st → AB P ops s0 K p φ st
 | [], _, _, h => h
 | (i, 0) :: r, φ, st, h => by
  simp only [jE] at h
  split at h
  · exact h.elim
  · rename_i o ho
    refine ⟨o, ho, ?_⟩
    simp only [bB] at h
    unfold jN
    split at h
    · rename_i hg
      rw [hg]
      exact AK (fun v s q => ⟨q.1, v3 r _ _ q.2⟩) h
    · rename_i hg
      rw [hg]
      exact ⟨h.1, v3 r _ _ h.2⟩
    · exact h.elim
 | (i, 1) :: r, φ, st, h => by
  simp only [jE] at h
  split at h
  · exact h.elim
  · rename_i o ho
    split at h
    · rename_i hp
      simp only [bB] at h
      split at h
      · rename_i hg
        rw [r0 hp] at h
        split at h
        · rename_i v hv
          refine ⟨o, ho, v, fun s hs => .inl ⟨hg, ?_⟩, v3 r _ _ h⟩
          rw [r0 hp, TA hs hv]
          exact ⟨rfl, rfl⟩
        · exact h.elim
      · rename_i hg
        exact ⟨o, ho, .undef, fun s _ => .inr ⟨hg, rfl⟩, v3 r _ _ h⟩
      · exact h.elim
    · split at h
      · rename_i f args ats hg hop
        obtain ⟨v, h1, h2⟩ := h
        refine ⟨o, ho, v, fun s hs => .inl ⟨by simp only [jA, hg], ?_⟩, v3 r _ _ h2⟩
        simp only [eX, hop]
        exact h1 s hs
      · exact h.elim
 | (i, k + 2) :: r, φ, st, h => by
  simp only [jE] at h
  split at h
  · exact h.elim
  · rename_i o ho
    refine ⟨o, ho, ?_⟩
    simp only [bB] at h
    unfold jN
    split at h
    · rename_i hg
      rw [hg]
      exact AK (fun v s q => v3 r _ _ q) h
    · rename_i hg
      rw [hg]
      exact v3 r _ _ h
    · exact h.elim
end
def MC (P : Program) (ops : Array Oper) (s0 : aB) (K : AF → aB → Prop) (r : List (Nat × Nat)) (φ : AF) (st : aB) : Prop := fJ s0 st ∧ jE P ops s0 K r φ st
def Q0 (P : Program) (ops : Array Oper) (s0 : aB) (K : AF → aB → Prop) (r : List (Nat × Nat)) (φ : AF) (st : aB) : Prop := jE P ops s0 K r φ st
def OZ (P : Program) (ops : Array Oper) (s0 : aB) (K : AF → aB → Prop) (r : List (Nat × Nat)) (st : aB) (φ : AF) (_ : aB) : Prop := jE P ops s0 K r φ st
def LH (P : Program) (ops : Array Oper) (s0 : aB) (K : AF → aB → Prop) (r : List (Nat × Nat)) (φ : AF) (dst : Option Tmp) (st : aB) (v : AV) : Prop := jE P ops s0 K r (φ.put dst v) st
def E6 (P : Program) (s0 : aB) (f : AV) (args : List AV) (K : AV → Prop) : Prop := ∃ v, (∀ s, fJ s0 s → q9 P f args s (fun r' s' => r' = v ∧ s' = s)) ∧ K v
theorem VT {P : Program} {s0 : aB} {g : FuncId} {args : List AV} {r : AV} {K : AV → Prop} (x : ∀ st, fJ s0 st → aD P g args st (fun r' st' => r' = r ∧ st' = st)) (h : K r) : E6 P s0 (.func g []) args K := ⟨r, fun st hs => by show aD P g (args ++ []) st _; rw [iA]; exact x st hs, h⟩
@[congr] theorem a1U {P : Program} {s0 : aB} {f f' : AV} {args args' : List AV} {K : AV → Prop} (h0 : f = f') (h1 : args = args') : E6 P s0 f args K = E6 P s0 f' args' K := by rw [h0, h1]
def B0 (P : Program) (ops : Array Oper) (s0 : aB) (K : AF → aB → Prop) (r : List (Nat × Nat)) (φ : AF) (st : aB) : Nat → Option Oper → Prop
 | 0, some o => bB P [] ops [o] (MC P ops s0 K r) φ st
 | 1, some o => if j4 o = true then bB P [] ops [o] (OZ P ops s0 K r st) φ s0 else
  match o.guard, o.op with
  | none, .call { callee := .value f, args, .. } => E6 P s0 (φ.eval f) (args.toList.map φ.eval) (LH P ops s0 K r φ o.dst st)
  | _, _ => False
 | _, some o => bB P [] ops [o] (Q0 P ops s0 K r) φ st
 | _, none => False
theorem XA {P : Program} {ops : Array Oper} {s0 : aB} {K : AF → aB → Prop} {φ : AF} {st : aB} : jE P ops s0 K [] φ st = K φ st := rfl
theorem aHU {P : Program} {l : List Oper} {s0 : aB} {K : AF → aB → Prop} {φ : AF} {st : aB} {i b : Nat} {r : List (Nat × Nat)} : jE P l.toArray s0 K ((i, b) :: r) φ st = B0 P l.toArray s0 K r φ st b l[i]? := by
 match b with
 | 0 => simp only [jE, zZ]; cases l[i]? <;> rfl
 | 1 => simp only [jE, zZ]; cases l[i]? <;> rfl
 | b + 2 => simp only [jE, zZ]; cases l[i]? <;> rfl
theorem aLO {P : Program} {ops : Array Oper} {s0 : aB} {K : AF → aB → Prop} {φ : AF} {st : aB} {r : List (Nat × Nat)} {o : Oper} : B0 P ops s0 K r φ st 0 (some o) = bB P [] ops [o] (MC P ops s0 K r) φ st := rfl
theorem aKQ {P : Program} {ops : Array Oper} {s0 : aB} {K : AF → aB → Prop} {φ : AF} {st : aB} {r : List (Nat × Nat)} {o : Oper} : B0 P ops s0 K r φ st 1 (some o) = if j4 o = true then bB P [] ops [o] (OZ P ops s0 K r st) φ s0 else
      match o.guard, o.op with
      | none, .call { callee := .value f, args, .. } => E6 P s0 (φ.eval f) (args.toList.map φ.eval) (LH P ops s0 K r φ o.dst st)
      | _, _ => False := rfl
theorem aLL {P : Program} {ops : Array Oper} {s0 : aB} {K : AF → aB → Prop} {φ : AF} {st : aB} {r : List (Nat × Nat)} {o : Oper} : B0 P ops s0 K r φ st 2 (some o) = bB P [] ops [o] (Q0 P ops s0 K r) φ st := rfl
theorem aAM {P : Program} {ops : Array Oper} {s0 : aB} {K : AF → aB → Prop} {φ : AF} {st : aB} {r : List (Nat × Nat)} : MC P ops s0 K r φ st = (fJ s0 st ∧ jE P ops s0 K r φ st) := rfl
theorem aGK {P : Program} {ops : Array Oper} {s0 : aB} {K : AF → aB → Prop} {φ : AF} {st : aB} {r : List (Nat × Nat)} : Q0 P ops s0 K r φ st = jE P ops s0 K r φ st := rfl
theorem aFF {P : Program} {ops : Array Oper} {s0 : aB} {K : AF → aB → Prop} {φ : AF} {st s : aB} {r : List (Nat × Nat)} : OZ P ops s0 K r st φ s = jE P ops s0 K r φ st := rfl
theorem RJ {P : Program} {ops : Array Oper} {s0 : aB} {K : AF → aB → Prop} {φ : AF} {st : aB} {r : List (Nat × Nat)} {dst : Option Tmp} {v : AV} : LH P ops s0 K r φ dst st v = jE P ops s0 K r (φ.put dst v) st := rfl
@[congr] theorem a1W {P : Program} {ops : Array Oper} {s0 : aB} {K : AF → aB → Prop} {p : List (Nat × Nat)} {φ φ' : AF} {st st' : aB} (h1 : φ = φ') (h2 : st = st') : jE P ops s0 K p φ st = jE P ops s0 K p φ' st' := by rw [h1, h2]
@[congr] theorem a0Q {P : Program} {ops : Array Oper} {s0 : aB} {K : AF → aB → Prop} {p : List (Nat × Nat)} {φ φ' : AF} {st st' : aB} {b : Nat} {o o' : Option Oper} (h1 : φ = φ') (h2 : st = st') (h3 : o = o') : B0 P ops s0 K p φ st b o = B0 P ops s0 K p φ' st' b o' := by rw [h1, h2, h3]
theorem CP {P : Program} {N : Nat} {id : Nat} {l : List Oper} {Q : Exit → AF → aB → Prop} {φ : AF} {st : aB} (p : List (Nat × Nat)) (S : List Nat) (s0 : aB) (hm : P.follows .mixedOrders = true) (hok : pJ N l.toArray = true) (hl : p.length = l.length) (hB : rB l.toArray S p (Array.replicate l.length false) = true) (hf : BH p = true) (hs : fJ s0 st)
 (h : jE P l.toArray s0 (Q .normal) p φ st) : gH P N (.region id l.toArray true) Q φ st :=
 aQX p S s0 hm hok (by simpa using hl) (by simpa using hB) hf hs (v3 p φ st h)
def Y1 (K : AV → aB → Prop) (st : aB) : Option AV → Option AV → Prop
 | some r, some s => j5 [r, s] = true ∧ K (.tup [r, s]) st
 | _, _ => False
theorem ZU {P : Program} {φ : AF} {st : aB} {p q : Tmp} {t u : TypeId} {K : AV → aB → Prop} : l7 P [.cell p t, .cell q u] K φ st = Y1 K st (g7 P st t (φ p)) (g7 P st u (φ q)) := by
 simp only [l7, pS, A2]
 cases g7 P st t (φ p) <;> cases g7 P st u (φ q) <;> rfl
theorem aG9 {st : aB} {K : AV → aB → Prop} {r s : AV} : Y1 K st (some r) (some s) = (j5 [r, s] = true ∧ K (.tup [r, s]) st) := rfl
def one (b : Nat) (o : AO) : aB := eJ.aC b o
theorem uZ {b : Nat} {o : AO} : one b o b = some o := aB.aQ _ _ _
theorem gZ {b : Nat} {o : AO} {st : aB} (h : st b = some o) : fJ (one b o) st := fun x p hx => by
 simp only [one, aB.aC] at hx
 split at hx
 · rename_i e; cases hx; rw [e]; exact h
 · cases hx
theorem fY {st : aB} : fJ eJ st := fun x p hx => by cases hx
section
variable {α : Type}
def k9 (f : α → α → Bool) : List α → List α → Bool
 | [], [] => true
 | x :: xs, y :: ys => f x y && k9 f xs ys
 | _, _ => false
theorem QP (f : α → α → Bool) : ∀ {a b : List α}, a.length ≠ b.length → k9 f a b = false
 | [], [], h => absurd rfl h
 | [], _ :: _, _ => rfl
 | _ :: _, [], _ => rfl
 | x :: xs, y :: ys, h => by simp only [k9, QP f (a := xs) (b := ys) (by simpa using h), tQ]
theorem MK (f : α → α → Bool) : ∀ {a b : List α} (i : Nat) (x y : α), a[i]? = some x → b[i]? = some y → f x y = false → k9 f a b = false
 | [], _, i, x, y, h, _, _ => by simp at h
 | _ :: _, [], i, x, y, _, h, _ => by simp at h
 | t :: ts, t' :: ts', 0, x, y, h1, h2, h => by
  simp at h1 h2; subst h1; subst h2
  simp only [k9, h, gK]
 | t :: ts, t' :: ts', i + 1, x, y, h1, h2, h => by
  simp only [k9, MK f (a := ts) (b := ts') i x y (by simpa using h1) (by simpa using h2) h, tQ]
theorem ME (f : α → α → Bool) : ∀ {a b : List α}, a.length = b.length → (∀ (i : Nat) (x y : α), a[i]? = some x → b[i]? = some y → f x y = true) → k9 f a b = true
 | [], [], _, _ => rfl
 | t :: ts, t' :: ts', h, g => by
  simp only [k9, cM]
  exact ⟨g 0 t t' rfl rfl, ME f (by simpa using h) fun i x y h1 h2 => g (i + 1) x y (by simpa using h1) (by simpa using h2)⟩
theorem OV {f : α → α → Bool} : ∀ {a b : List α}, (∀ x ∈ a, ∀ y, f x y = true ↔ x = y) → (k9 f a b = true ↔ a = b)
 | [], [], _ => by simp [k9]
 | [], _ :: _, _ => by simp [k9]
 | _ :: _, [], _ => by simp [k9]
 | x :: xs, y :: ys, h => by
  simp only [k9, cM, List.cons.injEq, h x (by simp) y, OV (a := xs) (b := ys) fun z hz => h z (by simp [hz])]
def bG (f : α → Nat) : List α → Nat
 | [] => 0
 | x :: xs => f x + bG f xs
theorem DK (f : α → Nat) : ∀ {l : List α} {i : Nat} {x : α}, l[i]? = some x → bG f (l.take (i + 1)) = bG f (l.take i) + f x ∧ bG f (l.take (i + 1)) ≤ bG f l
 | [], i, x, h => by simp at h
 | y :: ys, 0, x, h => by simp at h; subst h; simp [bG]
 | y :: ys, i + 1, x, h => by
  have := DK f (l := ys) (i := i) (x := x) (by simpa using h)
  simp only [vI, bG] at this ⊢
  omega
theorem GE {f : α → Nat} : ∀ {l : List α} {x : α}, x ∈ l → f x ≤ bG f l
 | y :: ys, x, h => by
  simp only [cZ] at h
  simp only [bG]
  rcases h with rfl | h
  · omega
  · have := GE (f := f) h; omega
theorem bL {P : Program} {t : TypeId} {ag : Bool} {w : Nat} {av : α → AV} {l : List α} {i : Nat} {x : α} (hI : eI P t = some (ag, w)) (h : l[i]? = some x) (hw : (av x).width = w) : dJ P t (.slice (l.map av)) (.int .i64 (i : Int)) = some (.pptr (av x)) := by
 simp only [dJ, hI, lC, oR, h, qW, hw]
 simp
theorem aNH {av : α → AV} {w : Nat} (hw : ∀ x, (av x).width = w) (l : List α) : g9 (l.map av) := ⟨w, by intro e h; simp only [cV] at h; obtain ⟨t, _, rfl⟩ := h; exact hw t⟩
theorem aLF (zs : List AV) (hz : zs ≠ []) (n : Nat) : lM zs n = (List.replicate n zs).flatten := by
 have hl : 0 < zs.length := by cases zs with | nil => exact absurd rfl hz | cons => simp
 apply KY
 intro i
 unfold lM
 induction n generalizing i with
 | zero => simp
 | succ n ih =>
  rw [List.replicate_succ, List.flatten_cons]
  rcases kP i zs.length with h | h
  · rw [aL2 h]
    have : i < (n + 1) * zs.length := by rw [qT]; omega
    simp [this, Nat.mod_eq_of_lt h, h]
  · rw [aL1 h, ← ih]
    have e1 : i % zs.length = (i - zs.length) % zs.length := by rw [Nat.mod_eq_sub_mod h]
    simp only [oR]
    by_cases h2 : i - zs.length < n * zs.length
    · have h3 : i < (n + 1) * zs.length := by rw [qT]; omega
      simp [h2, h3, e1]
    · have h3 : ¬ i < (n + 1) * zs.length := by rw [qT]; omega
      simp [h2, h3]
end
theorem yN {zs : List AV} {x : List AV} {w : Nat} (h1 : x.length = w) (h2 : zs.length = w) : aK zs 0 x = x := by
 unfold aK
 simp [h1, h2]
theorem d7 {x : AV} (h : x.isAgg = true) : AV.agg x.cells = x := by cases x <;> simp [AV.isAgg] at h <;> rfl
theorem d9 {x : List AV} {w : Nat} (h : x.length = w) : x.take w = x := by rw [← h]; exact eS
inductive Tm where
 | mk (kind n : Int) (name : ByteArray) (kids : List Tm)
mutual
def Tm.av : Tm → AV
 | .mk k n s ts => .agg [.int .i64 k, .int .i64 n, .str s, .slice (I7 ts)]
def I7 : List Tm → List AV
 | [] => []
 | t :: ts => t.av :: I7 ts
end
theorem aA0 : ∀ (ts : List Tm), I7 ts = ts.map Tm.av
 | [] => rfl
 | t :: ts => by simp only [I7, bA, aA0 ts]
theorem aV (k n : Int) (s : ByteArray) (ts : List Tm) : (Tm.mk k n s ts).av = .agg [.int .i64 k, .int .i64 n, .str s, .slice (ts.map Tm.av)] := by simp only [Tm.av, aA0]
mutual
def Tm.same : Tm → Tm → Bool
 | .mk k n s ts, .mk k' n' s' ts' => decide (k = k') && decide (n = n') && decide (s = s') && HY ts ts'
def HY : List Tm → List Tm → Bool
 | [], [] => true
 | t :: ts, t' :: ts' => t.same t' && HY ts ts'
 | _, _ => false
end
theorem aBK : ∀ (a b : List Tm), HY a b = k9 Tm.same a b
 | [], [] => rfl
 | [], _ :: _ => rfl
 | _ :: _, [] => rfl
 | t :: ts, t' :: ts' => by simp only [HY, k9, aBK ts ts']
theorem Tm.LP (k n : Int) (s : ByteArray) (ts : List Tm) (k' n' : Int) (s' : ByteArray) (ts' : List Tm) : (Tm.mk k n s ts).same (Tm.mk k' n' s' ts') = (decide (k = k') && decide (n = n') && decide (s = s') && k9 Tm.same ts ts') := by simp only [Tm.same, aBK]
theorem Tm.KD : ∀ (a b : Tm), a.same b = true ↔ a = b
 | .mk k n s ts, .mk k' n' s' ts' => by
  have := OV (f := Tm.same) (a := ts) (b := ts') fun x hx y => Tm.KD x y
  simp only [Tm.LP, cM, bJ, Tm.mk.injEq, and_assoc, this]
termination_by a => SizeOf.sizeOf a
decreasing_by have := List.sizeOf_lt_of_mem hx; simp only [Tm.mk.sizeOf_spec]; omega
theorem aT (t : Tm) : t.av.isAgg = true := by cases t; rfl
theorem aH (t : Tm) : t.av.width = 4 := by cases t; rfl
theorem bO (t : Tm) : t.av.cells.length = 4 := by cases t; rfl
theorem b7 (t : Tm) : t.av.cells.all AV.storable = true := by cases t; rfl
theorem cF (t : Tm) : t.av.cC = false := by cases t; rfl
theorem aE2 {t : Tm} : t.av.isAgg = true := aT t
theorem W3 {t : Tm} : t.av.width = 4 := aH t
theorem X3 {t : Tm} : t.av.cells.all AV.storable = true := b7 t
theorem TT {t : Tm} : t.av.cC = false := cF t
theorem aH7 {t : Tm} : t.av.cells.length = 4 := bO t
theorem aAU {t : Tm} : t.av.cells.take 4 = t.av.cells := d9 (bO t)
theorem aIW {t : Tm} : AV.agg t.av.cells = t.av := d7 (aT t)
theorem YK {t : Tm} {a b c d : AV} : aK [a, b, c, d] 0 t.av.cells = t.av.cells := yN (bO t) rfl
theorem aGR {t u : Tm} : aK u.av.cells 0 t.av.cells = t.av.cells := yN (bO t) (bO u)
theorem aKL {st : aB} {b : Nat} {o o' : AO} : (st.aC b o).aC b o' = st.aC b o' := dD st b o o'
theorem aFG {st : aB} {b : Nat} {o : AO} : (st.aC b o) b = some o := aB.aQ st b o
theorem aIA {st : aB} {b x : Nat} {o : AO} (h : x ≠ b) : (st.aC b o) x = st x := aB.aL st o h
theorem aC7 {t : Tm} : t.av.cells.drop 4 = [] := List.drop_of_length_le (by rw [bO]; exact cY _)
inductive Pf where
 | mk (goal : Tm) (clause : Int) (kids : List Pf)
def aHX (k : Nat) (acc : List UInt8) : List UInt8 := if k = 0 then acc else aHX (k / 10) (UInt8.ofNat (48 + k % 10) :: acc)
termination_by k
decreasing_by omega
def mt (k : Int) : ByteArray := if k ≤ 0 then ⟨#[109, 48]⟩ else ⟨(109 :: aHX k.toNat []).toArray⟩
theorem aYJ {st : aB} {k n : Int} {s : ByteArray} {ts : List Tm} {o : AV} {bs : List Nat} :
 cL st (Tm.mk k n s ts).av o bs ↔ ∃ q, o = .agg [.int .i64 k, .int .i64 n, .str s, q] ∧ cL st (.slice (ts.map Tm.av)) q bs := by
 rw [aV]
 generalize AV.slice (ts.map Tm.av) = x
 simp only [cL, cI]
 constructor
 · rintro ⟨os, rfl, o1, os1, b1, b1', rfl, rfl, ⟨rfl, rfl⟩, o2, os2, b2, b2', rfl, rfl, ⟨rfl, rfl⟩, o3, os3, b3, b3', rfl, rfl, ⟨rfl, rfl⟩, o4, os4, b4, b4', rfl, rfl, h, rfl, rfl⟩
   exact ⟨o4, rfl, by simpa using h⟩
 · rintro ⟨q, rfl, h⟩
   exact ⟨_, rfl, _, _, [], bs, rfl, rfl, ⟨rfl, rfl⟩, _, _, [], bs, rfl, rfl, ⟨rfl, rfl⟩, _, _, [], bs, rfl, rfl, ⟨rfl, rfl⟩, q, [], bs, [], rfl, by simp, h, rfl, rfl⟩
abbrev iv (n : Int) : AV := .int .i64 n
theorem aD1 (l : List Int) : ∀ e ∈ l.map iv, e.width = 1 := by intro e h; simp only [cV] at h; obtain ⟨t, _, rfl⟩ := h; rfl
def dL (s : ByteArray) : Nat :=
 cond (decide (s = ⟨#[61]⟩) || decide (s = ⟨#[92, 61]⟩) || decide (s = ⟨#[61, 61]⟩) || decide (s = ⟨#[60]⟩) || decide (s = ⟨#[62]⟩) || decide (s = ⟨#[61, 60]⟩) || decide (s = ⟨#[62, 61]⟩) || decide (s = ⟨#[61, 58, 61]⟩) || decide (s = ⟨#[105, 115]⟩)) 3 (cond (decide (s = ⟨#[43]⟩) || decide (s = ⟨#[45]⟩)) 2 (cond (decide (s = ⟨#[42]⟩) || decide (s = ⟨#[47, 47]⟩) || decide (s = ⟨#[109, 111, 100]⟩)) 1 0))
def isBuiltin (s : ByteArray) (n : Int) : Bool :=
 cond (decide (s = ⟨#[61]⟩) || decide (s = ⟨#[92, 61]⟩) || decide (s = ⟨#[61, 61]⟩) || decide (s = ⟨#[60]⟩) || decide (s = ⟨#[62]⟩) || decide (s = ⟨#[61, 60]⟩) || decide (s = ⟨#[62, 61]⟩) || decide (s = ⟨#[61, 58, 61]⟩) || decide (s = ⟨#[105, 115]⟩)) (decide (n = 2)) (cond (decide (s = ⟨#[116, 114, 117, 101]⟩) || decide (s = ⟨#[102, 97, 105, 108]⟩)) (decide (n = 0)) (cond (decide (s = ⟨#[118, 97, 114]⟩) || decide (s = ⟨#[110, 111, 110, 118, 97, 114]⟩) || decide (s = ⟨#[97, 116, 111, 109]⟩) || decide (s = ⟨#[105, 110, 116]⟩)) (decide (n = 1)) (cond (decide (s = ⟨#[97, 114, 103]⟩)) (decide (n = 3)) false)))
abbrev sb (s : ByteArray) : List UInt8 := s.data.toList
theorem cJ (s : ByteArray) : (sb s).length = s.size := by simp only [sb, Array.length_toList]; rfl
theorem rW {P : Program} {t : TypeId} {s : ByteArray} {i : Nat} {c : UInt8} (hu : P.underlying t = some .string) (h : (sb s)[i]? = some c) : CC P t (.str s) (.int .i64 (i : Int)) = some (.int .u8 (c.toNat : Int)) := by
 have hi : i < s.size := by rw [← cJ]; exact (gQ.1 h).1
 have : s[i]? = some c := by
  rw [getElem?_pos s i hi]
  obtain ⟨h1, h2⟩ := gQ.1 h
  rw [← h2]
  try rfl
 simp only [CC, hu, lC, this]
 simp
def letter (c : UInt8) : Bool := decide (97 ≤ c.toNat) && decide (c.toNat ≤ 122)
def rJ (s : ByteArray) : Bool := (sb s).all letter && (decide ((1 : Int) ≤ (s.size : Int)) && decide ((s.size : Int) ≤ 6))
theorem t9 {α : Type} {p : α → Bool} {l : List α} {i : Nat} {x : α} (h : l[i]? = some x) (hp : p x = false) : l.all p = false := by
 rw [List.all_eq_false]
 exact ⟨x, cU h, by simp [hp]⟩
theorem IM {α : Type} {p : α → Bool} {l : List α} (h : ∀ (i : Nat) x, l[i]? = some x → p x = true) : l.all p = true := by
 rw [eW]
 intro x hx
 obtain ⟨i, hi⟩ := GP hx
 exact h i x hi
end Go.AW
