/- Smaller stores, frozen slices, sizes, frames as lists, regions that draw. -/
import Derived.Test.YtpficjlageaebaaGreatDoorSfud
set_option linter.unusedSimpArgs false
set_option linter.unusedVariables false
set_option maxRecDepth 100000
namespace Go.AW
def aM (st st' : aB) : Prop := ∀ b, (st b = none → st' b = none) ∧ ∀ o, st' b = some o → st b = some o
theorem aM.refl (st : aB) : aM st st := fun _ => ⟨id, fun _ => id⟩
theorem aM.trans {a b c : aB} (x : aM a b) (y : aM b c) : aM a c := fun i => ⟨fun h => (y i).1 ((x i).1 h), fun o h => (x i).2 o ((y i).2 o h)⟩
theorem aM.aC {st st' : aB} (x : aM st st') {b : Nat} {o : AO} (h : st' b = none) : aM (st.aC b o) st' := fun i => by
 simp only [aB.aC]
 split
 · rename_i e; subst e; exact ⟨fun _ => h, fun o' h' => by rw [h] at h'; cases h'⟩
 · exact x i
theorem jI (st : aB) (b : Nat) : aM st (st.erase b) := fun i => by
 simp only [aB.erase]
 split
 · exact ⟨fun _ => rfl, fun o' h' => by cases h'⟩
 · exact ⟨id, fun _ => id⟩
theorem aM.step {st st' : aB} (x : aM st st') (h : bH) : cB h st h st' := ⟨cY _, fun b _ e => ⟨rfl, (x b).1 e⟩, fun _ c _ _ e => ⟨c, e, rfl⟩⟩
theorem aM.F5 {st st' : aB} (x : aM st st') {h : bH} (S : cW h st) : cW h st' := fun b o e => by
 obtain ⟨h1, h2⟩ := S b o ((x b).2 o e)
 refine ⟨h1, ?_⟩
 cases o with
 | cells as =>
  obtain ⟨c, t, e1, e2, vs, e3, e4⟩ := h2
  exact ⟨c, t, e1, e2, vs, e3, a7.mono (x.step h) _ _ e4⟩
 | map f =>
  obtain ⟨es, clock, e1, e2, e3, e4⟩ := h2
  refine ⟨es, clock, e1, e2, e3, fun n => ?_⟩
  have := e4 n
  cases hf : f n with
  | none => rw [hf] at this; exact this
  | some a =>
   rw [hf] at this
   obtain ⟨e, m, k, v⟩ := this
   exact ⟨e, m, k, v.mono (x.step h)⟩
theorem aM.sO {st st' : aB} (x : aM st st') : yL st st' := fun h S => ⟨x.F5 S, x.step h⟩
theorem aM.mW {st st' : aB} (x : aM st st') (r : AV) : qL st r st' r := fun h _ _ y => y.mono (x.step h)
theorem aD.drop {P : Program} {g : FuncId} {args : List AV} {st : aB} {Q : AV → Prop} (x : aD P g args st (fun r st' => aM st' st ∧ Q r)) : aD P g args st (fun r st' => Q r ∧ st' = st) :=
 x.mW fun r st' ⟨h1, h2⟩ => ⟨r, st, h1.sO, h1.mW r, h2, rfl⟩
mutual
def AV.fz (b : Nat) (es : List AV) : AV → AV
 | .mslice b' 0 n sz => if b' = b ∧ n = es.length then .slice es else .mslice b' 0 n sz
 | .agg cs => .agg (kI b es cs)
 | .tup vs => .tup (kI b es vs)
 | a => a
def kI (b : Nat) (es : List AV) : List AV → List AV
 | [] => []
 | a :: as => AV.fz b es a :: kI b es as
end
theorem VR (b : Nat) (es : List AV) (a : AV) : (a.fz b es).isAgg = a.isAgg := by
 cases a <;> try rfl
 case mslice b' off n sz =>
  cases off with
  | zero => simp only [AV.fz]; split <;> rfl
  | succ k => rfl
section
variable {h : bH} {st : aB} {b : Nat} {es : List AV}
theorem frozen (S : cW h st) (hb : st b = some (.cells (es.flatMap AV.cells))) (hj : ∀ e ∈ es, e.cC = false) : b < h.size ∧ dH h (st.erase b) b 0 es := by
 obtain ⟨h1, c, t, e1, e2, vs, e3, e4⟩ := S b _ hb
 exact ⟨h1, dH.mono ((jI st b).step h) b rfl _ _ (H2 hj e3 e4)⟩
theorem VC.aXT {b' off n sz : Nat} {cs : List Value} (S : cW h st) (hb : st b = some (.cells (es.flatMap AV.cells))) (hj : ∀ e ∈ es, e.cC = false) (hE : g9 es) (x : VC h st (.mslice b' off n sz) cs) : VC h (st.erase b) ((AV.mslice b' off n sz).fz b es) cs := by
 have x0 : VC h (st.erase b) (.mslice b' off n sz) cs := VC.mono ((jI st b).step h) _ _ x
 cases off with
 | succ k => exact x0
 | zero =>
  simp only [AV.fz]
  split
  · rename_i e
    obtain ⟨rfl, rfl⟩ := e
    simp only [VC] at x
    obtain ⟨cap, e1, l1, l2, c, t, _, _⟩ := x
    obtain ⟨hs, hE'⟩ := frozen S hb hj
    unfold VC
    exact .inr ⟨b', 0, cap, e1, l1, l2, aB.aGF _ _, hs, hE, hE'⟩
  · exact x0
mutual
theorem VC.fz (S : cW h st) (hb : st b = some (.cells (es.flatMap AV.cells))) (hj : ∀ e ∈ es, e.cC = false) (hE : g9 es) : ∀ (a : AV) (cs : List Value), VC h st a cs → VC h (st.erase b) (a.fz b es) cs
 | .mslice b' off n sz, cs, x => VC.aXT S hb hj hE x
 | .agg as, cs, x => by simp only [VC, AV.fz] at x ⊢; exact a7.fz S hb hj hE as cs x
 | .tup as, cs, x => by
  simp only [VC, AV.fz] at x ⊢
  obtain ⟨vs, e, r⟩ := x
  exact ⟨vs, e, dO.fz S hb hj hE as vs r⟩
 | .junk, cs, x => VC.mono ((jI st b).step h) _ _ x
 | .undef, cs, x => VC.mono ((jI st b).step h) _ _ x
 | .int _ _, cs, x => VC.mono ((jI st b).step h) _ _ x
 | .bool _, cs, x => VC.mono ((jI st b).step h) _ _ x
 | .str _, cs, x => VC.mono ((jI st b).step h) _ _ x
 | .slice _, cs, x => VC.mono ((jI st b).step h) _ _ x
 | .fslice _, cs, x => VC.mono ((jI st b).step h) _ _ x
 | .nilptr, cs, x => VC.mono ((jI st b).step h) _ _ x
 | .ptr _ _, cs, x => VC.mono ((jI st b).step h) _ _ x
 | .pptr _, cs, x => VC.mono ((jI st b).step h) _ _ x
 | .nilmap, cs, x => VC.mono ((jI st b).step h) _ _ x
 | .map _, cs, x => VC.mono ((jI st b).step h) _ _ x
 | .func _ _, cs, x => VC.mono ((jI st b).step h) _ _ x
 | .raw _, cs, x => VC.mono ((jI st b).step h) _ _ x
 | .eslice, cs, x => VC.mono ((jI st b).step h) _ _ x
theorem a7.fz (S : cW h st) (hb : st b = some (.cells (es.flatMap AV.cells))) (hj : ∀ e ∈ es, e.cC = false) (hE : g9 es) : ∀ (as : List AV) (cs : List Value), a7 h st as cs → a7 h (st.erase b) (kI b es as) cs
 | [], _, x => x
 | a :: as, cs, x => by
  simp only [a7, kI] at x ⊢
  obtain ⟨c, r, e, x1, x2⟩ := x
  exact ⟨c, r, e, VC.fz S hb hj hE a [c] x1, a7.fz S hb hj hE as r x2⟩
theorem dO.fz (S : cW h st) (hb : st b = some (.cells (es.flatMap AV.cells))) (hj : ∀ e ∈ es, e.cC = false) (hE : g9 es) : ∀ (as : List AV) (cs : List Value), dO h st as cs → dO h (st.erase b) (kI b es as) cs
 | [], _, x => x
 | a :: as, cs, x => by
  simp only [dO, kI] at x ⊢
  obtain ⟨v, r, e, x1, x2⟩ := x
  exact ⟨v, r, e, ⟨(VR b es a).trans x1.1, VC.fz S hb hj hE a _ x1.2⟩, dO.fz S hb hj hE as r x2⟩
end
theorem aR.fz {a : AV} {v : Value} (S : cW h st) (hb : st b = some (.cells (es.flatMap AV.cells))) (hj : ∀ e ∈ es, e.cC = false) (hE : g9 es) (x : aR h st a v) : aR h (st.erase b) (a.fz b es) v := by
 have key : a.isAgg = k7 v ∧ VC h st a v.cells.toList → aR h (st.erase b) (a.fz b es) v := fun x => by
  have y : (a.fz b es).isAgg = k7 v ∧ VC h (st.erase b) (a.fz b es) v.cells.toList := ⟨(VR b es a).trans x.1, VC.fz S hb hj hE a _ x.2⟩
  cases hq : a.fz b es <;> rw [hq] at y <;> first | trivial | exact y
 cases a <;> first | trivial | exact key x
end
theorem fK.freeze {φ : AF} {st : aB} {b : Nat} {es : List AV} (h1 : st b = some (.cells (es.flatMap AV.cells))) (h2 : ∀ e ∈ es, e.cC = false) (h3 : g9 es) : fK φ st (fun d => (φ d).fz b es) (st.erase b) :=
 fun h _ S F => ⟨(jI st b).F5 S, (jI st b).step h, fun d => (F d).fz S h1 h2 h3⟩
theorem fK.drop {φ : AF} {st st' : aB} (x : aM st st') : fK φ st φ st' := fun h _ S F => ⟨x.F5 S, x.step h, fun d => (F d).mono (x.step h)⟩
mutual
def AV.soft : AV → AV
 | .fslice es => .slice es
 | .agg cs => .agg (gN cs)
 | .tup vs => .tup (gN vs)
 | a => a
def gN : List AV → List AV
 | [] => []
 | a :: as => a.soft :: gN as
end
theorem aMO (a : AV) : a.soft.isAgg = a.isAgg := by cases a <;> rfl
section
variable {h : bH} {st : aB}
mutual
theorem VC.soft : ∀ (a : AV) (cs : List Value), VC h st a cs → VC h st a.soft cs
 | .fslice es, cs, x => by
  simp only [AV.soft]
  unfold VC at x ⊢
  rcases x with x | ⟨b, off, e, l, r⟩
  · exact .inl x
  · exact .inr ⟨b, off, es.length, e, cY _, l, r⟩
 | .agg as, cs, x => by simp only [VC, AV.soft] at x ⊢; exact a7.soft as cs x
 | .tup as, cs, x => by
  simp only [VC, AV.soft] at x ⊢
  obtain ⟨vs, e, r⟩ := x
  exact ⟨vs, e, dO.soft as vs r⟩
 | .mslice _ _ _ _, cs, x => x
 | .junk, cs, x => x
 | .undef, cs, x => x
 | .int _ _, cs, x => x
 | .bool _, cs, x => x
 | .str _, cs, x => x
 | .slice _, cs, x => x
 | .nilptr, cs, x => x
 | .ptr _ _, cs, x => x
 | .pptr _, cs, x => x
 | .nilmap, cs, x => x
 | .map _, cs, x => x
 | .func _ _, cs, x => x
 | .raw _, cs, x => x
 | .eslice, cs, x => x
theorem a7.soft : ∀ (as : List AV) (cs : List Value), a7 h st as cs → a7 h st (gN as) cs
 | [], _, x => x
 | a :: as, cs, x => by
  simp only [a7, gN] at x ⊢
  obtain ⟨c, r, e, x1, x2⟩ := x
  exact ⟨c, r, e, VC.soft a [c] x1, a7.soft as r x2⟩
theorem dO.soft : ∀ (as : List AV) (cs : List Value), dO h st as cs → dO h st (gN as) cs
 | [], _, x => x
 | a :: as, cs, x => by
  simp only [dO, gN] at x ⊢
  obtain ⟨v, r, e, x1, x2⟩ := x
  exact ⟨v, r, e, ⟨(aMO a).trans x1.1, VC.soft a _ x1.2⟩, dO.soft as r x2⟩
end
theorem aR.soft {a : AV} {v : Value} (x : aR h st a v) : aR h st a.soft v := by
 cases a
 case fslice => exact x.D7
 case agg => exact ⟨x.1, VC.soft _ _ x.2⟩
 case tup => exact ⟨x.1, VC.soft _ _ x.2⟩
 all_goals exact x
end
theorem aD.soft {P : Program} {g : FuncId} {args : List AV} {st : aB} {Q : AV → aB → Prop} (x : aD P g args st (fun r st' => Q r.soft st')) : aD P g args st Q :=
 x.mW fun r st' h => ⟨r.soft, st', (aM.refl st').sO, fun _ _ _ y => y.soft, h⟩
theorem aD.n8 {P : Program} {g : FuncId} {args : List AV} {st : aB} {Q : AV → aB → Prop} (x : aD P g (gN args) st Q) : aD P g args st Q :=
 x.args fun hp => by
  have : ∀ (as : List AV) (vs : List Value), c8 hp st as vs → c8 hp st (gN as) vs := by
   intro as
   induction as with
   | nil => intro vs y; exact y
   | cons a as ih =>
    intro vs y
    simp only [c8, gN] at y ⊢
    obtain ⟨v, r, rfl, y1, y2⟩ := y
    exact ⟨v, r, rfl, y1.soft, ih r y2⟩
  exact fun vs _ => this args vs
mutual
def AV.fits : AV → Prop
 | .str s => s.size ≤ 9223372036854775807
 | .agg cs => eD cs
 | .tup vs => eD vs
 | .slice es => es.length ≤ 9223372036854775807 ∧ eD es
 | .fslice es => es.length ≤ 9223372036854775807 ∧ eD es
 | .mslice _ _ n _ => n ≤ 9223372036854775807
 | .pptr e => e.fits
 | _ => True
def eD : List AV → Prop
 | [] => True
 | a :: as => a.fits ∧ eD as
end
section
variable {h : bH} {st : aB}
mutual
theorem VC.fits : ∀ (a : AV) (cs : List Value), VC h st a cs → a.fits
 | .str s, cs, x => by simp only [VC, maxLen] at x; exact x.2
 | .agg as, cs, x => by simp only [VC, AV.fits] at x ⊢; exact a7.fits as cs x
 | .tup as, cs, x => by
  simp only [VC, AV.fits] at x ⊢
  obtain ⟨vs, e, r⟩ := x
  exact dO.fits as vs r
 | .slice es, cs, x => by
  simp only [VC, AV.fits] at x ⊢
  rcases x with ⟨⟨p0, _⟩, rfl⟩ | ⟨b, off, cap, _, l1, l2, _, _, _, r⟩
  · exact ⟨by simp, trivial⟩
  · exact ⟨nB l1 l2, dH.fits es off r⟩
 | .fslice es, cs, x => by
  simp only [VC, AV.fits] at x ⊢
  rcases x with ⟨⟨p0, _⟩, rfl⟩ | ⟨b, off, _, l1, _, _, _, r⟩
  · exact ⟨by simp, trivial⟩
  · exact ⟨l1, dH.fits es off r⟩
 | .mslice _ _ n _, cs, x => by
  simp only [VC, AV.fits] at x ⊢
  obtain ⟨cap, _, l1, l2, _⟩ := x
  exact nB l1 l2
 | .pptr e, cs, x => by
  simp only [VC, AV.fits] at x ⊢
  obtain ⟨b, off, _, _, _, vs, _, _, y⟩ := x
  exact VC.fits e vs y
 | .junk, cs, x => trivial
 | .undef, cs, x => trivial
 | .int _ _, cs, x => trivial
 | .bool _, cs, x => trivial
 | .nilptr, cs, x => trivial
 | .ptr _ _, cs, x => trivial
 | .nilmap, cs, x => trivial
 | .map _, cs, x => trivial
 | .func _ _, cs, x => trivial
 | .raw _, cs, x => trivial
 | .eslice, cs, x => trivial
theorem a7.fits : ∀ (as : List AV) (cs : List Value), a7 h st as cs → eD as
 | [], _, x => trivial
 | a :: as, cs, x => by
  simp only [a7] at x
  obtain ⟨c, r, e, x1, x2⟩ := x
  exact ⟨VC.fits a [c] x1, a7.fits as r x2⟩
theorem dO.fits : ∀ (as : List AV) (cs : List Value), dO h st as cs → eD as
 | [], _, x => trivial
 | a :: as, cs, x => by
  simp only [dO] at x
  obtain ⟨v, r, e, x1, x2⟩ := x
  exact ⟨VC.fits a _ x1.2, dO.fits as r x2⟩
theorem dH.fits {b : Nat} : ∀ (as : List AV) (off : Nat), dH h st b off as → eD as
 | [], _, x => trivial
 | a :: as, off, x => by
  simp only [dH] at x
  obtain ⟨⟨cs, _, _, x3⟩, x4⟩ := x
  exact ⟨VC.fits a cs x3, dH.fits as _ x4⟩
end
theorem aR.fits {a : AV} {v : Value} (x : aR h st a v) : a.fits := by
 cases a <;> first | trivial | exact VC.fits _ _ x.2
theorem c8.fits : ∀ {as : List AV} {vs : List Value}, c8 h st as vs → eD as
 | [], _, _ => trivial
 | a :: as, vs, x => by
  simp only [c8] at x
  obtain ⟨v, r, _, x1, x2⟩ := x
  exact ⟨x1.fits, c8.fits x2⟩
end
theorem zw6 {P : Program} {g : FuncId} {fn : Func} {c : Code} {args : List AV} {st : aB} {N : Nat} {rs : List ResultVar} {K : AV → aB → Prop} (mt : List Nat) (hf : P.funcs[g]? = some fn) (hN : fn.ntmps = N) (hr : fn.results = rs.toArray) (hb : fn.body = some c) (hn : (fn.name == "runtime.NumGoroutine") = false)
 (hok : codeOk N c = true) (qB : args.length ≤ N) (e : eD args → fT P N mt c (E8 P rs.toArray K) (sJ 0 args) st) : aD P g args st K := by
 subst hN
 rw [← hr] at e
 exact ⟨⟨fn, hf, by simp [hb], hn⟩, fun w vs S V => (aWW mt hf hb hn hok qB (e V.fits)).2 w vs S V⟩
def jW : List (Nat × AV) → AF
 | [] => AF.bot
 | (d, v) :: l => (jW l).aC d v
def xV (φ : AF) : List (Nat × AV) → Prop
 | [] => True
 | (d, v) :: l => φ d = v ∧ xV φ l
theorem fK.jW {φ : AF} {st : aB} : ∀ {l : List (Nat × AV)}, xV φ l → fK φ st (jW l) st
 | [], _ => fK.bot φ st
 | (d, v) :: l, h => (fK.jW h.2).aC h.1
theorem YE {φ : AF} : xV φ [] = True := rfl
theorem R9 {φ : AF} {d : Nat} {v : AV} {l : List (Nat × AV)} : xV φ ((d, v) :: l) = (φ d = v ∧ xV φ l) := rfl
theorem aD.to {P : Program} {g : FuncId} {args : List AV} {st : aB} {r : AV} {K : AV → aB → Prop} (x : aD P g args st (fun r' st' => r' = r ∧ st' = st)) (h : K r st) : aD P g args st K :=
 x.mono fun _ _ ⟨e1, e2⟩ => by rw [e1, e2]; exact h
theorem D8 {P : Program} {N : Nat} (mt : List Nat) {c : Code} {Q : Exit → AF → aB → Prop} {φ : AF} {st : aB} (hok : codeOk N c = true) (e : fT P N mt c Q φ st) : gH P N c Q φ st := x8 c Q φ st hok e
def tZ (l : List (Nat × AV)) : AF := jW l
theorem aK0 : tZ [] = AF.bot := rfl
theorem aFZ {d : Nat} {v : AV} {l : List (Nat × AV)} : tZ ((d, v) :: l) = (tZ l).aC d v := rfl
def aO (φ : AF) (st : aB) (l : List (Nat × AV)) (st' : aB) : Prop := fK φ st (jW l) st'
theorem aO.mk {φ : AF} {st : aB} {l : List (Nat × AV)} (h : xV φ l) : aO φ st l st := fK.jW h
theorem aO.drop {φ : AF} {st st' : aB} {l : List (Nat × AV)} (d : aM st st') (h : xV φ l) : aO φ st l st' := (fK.drop d).trans (fK.jW h)
theorem uH {P : Program} {N : Nat} {c : Code} {Q : Exit → AF → aB → Prop} {φ : AF} {st : aB} {α : Type} (mt : List Nat) (inv : α → Prop) (fl : α → List (Nat × AV)) (so : α → aB) (μ : α → Nat) (hok : codeOk N c = true)
 (h0 : ∃ s, inv s ∧ aO φ st (fl s) (so s))
 (h1 : ∀ s, inv s → fT P N mt c (n6 (fun φ' st' => ∃ s', μ s' < μ s ∧ inv s' ∧ aO φ' st' (fl s') (so s')) Q) (tZ (fl s)) (so s)) : gH P N (.loop c) Q φ st :=
 PY inv (fun s => jW (fl s)) so μ h0 fun s hs => D8 mt hok (h1 s hs)
theorem cS {P : Program} {mt : List Nat} {ops : Array Oper} {o : Oper} {l : List Oper} {K : AF → aB → Prop} {φ : AF} {st : aB} {c want : Bool}
 (h1 : c = want → t8 P mt ops o l K φ st (some true)) (h2 : c = (!want) → t8 P mt ops o l K φ st (some false)) : t8 P mt ops o l K φ st (some (c == want)) := by
 cases c <;> cases want <;> first | exact h1 rfl | exact h2 rfl
def j4 (o : Oper) : Bool := match o.op with
 | .call { callee := .value _, .. } => false
 | .call { callee := .builtin .append, .. } => false
 | .call { callee := .builtin .delete, .. } => false
 | .alloc _ => false
 | .store _ _ _ => false
 | .makeMap _ none => false
 | .makeSlice _ _ _ => false
 | .mapUpdate _ _ _ _ => false
 | _ => true
theorem r0 {P : Program} {φ : AF} {st : aB} {o : Oper} {K : AV → aB → Prop} (h : j4 o = true) : eX P [] φ st o K = match kG P φ st o with | some r => K r st | none => False := by
 obtain ⟨dst, op, type, pos, after, guard⟩ := o
 unfold eX
 split
 case h_4 t x e =>
  simp only at e
  subst e
  simp only [zO, List.contains_nil, kG]
  cases dst <;> rfl
 case h_10 => rfl
 all_goals (rename_i e; simp only at e; subst e; simp [j4] at h)
def eQ (P : Program) (ops : Array Oper) (st : aB) : List Oper → (AF → Prop) → AF → Prop
 | [], K, φ => K φ
 | o :: rest, K, φ => if j4 o = true then bB P [] ops [o] (fun φ' _ => eQ P ops st rest K φ') φ st else
  match o.guard, o.op with
  | none, .call { callee := .value f, args, .. } => ∃ r, q9 P (φ.eval f) (args.toList.map φ.eval) st (fun r' st' => r' = r ∧ st' = st) ∧ eQ P ops st rest K (φ.put o.dst r)
  | _, _ => False
theorem EJ {P : Program} {ops : Array Oper} {st : aB} {K : AF → Prop} : ∀ (l : List Oper) (φ : AF), eQ P ops st l K φ → pK P st ops l K φ
 | [], _, h => h
 | o :: rest, φ, h => by
  simp only [eQ] at h
  split at h
  · rename_i hp
    simp only [bB] at h
    simp only [pK]
    split at h
    · rename_i hg
      rw [r0 hp] at h
      rw [hg]
      simp only
      split at h
      · rename_i r hr
        exact ⟨r, by rw [r0 hp, hr]; exact ⟨rfl, rfl⟩, EJ rest _ h⟩
      · cases h
    · rename_i hg
      rw [hg]
      exact EJ rest _ h
    · cases h
  · split at h
    · rename_i f args ats hg ho
      obtain ⟨r, h1, h2⟩ := h
      simp only [pK, jA, hg]
      refine ⟨r, ?_, EJ rest _ h2⟩
      simp only [eX, ho]
      exact h1
    · cases h
theorem aJS {P : Program} {ops : Array Oper} {st : aB} {K : AF → Prop} {φ : AF} : eQ P ops st [] K φ = K φ := rfl
def hK (P : Program) (ops : Array Oper) (st : aB) (rest : List Oper) (K : AF → Prop) (φ : AF) (_ : aB) : Prop := eQ P ops st rest K φ
theorem aAE {P : Program} {ops : Array Oper} {st st' : aB} {K : AF → Prop} {φ : AF} {rest : List Oper} : hK P ops st rest K φ st' = eQ P ops st rest K φ := rfl
theorem kL {P : Program} {ops : Array Oper} {st : aB} {K : AF → Prop} {φ : AF} {o : Oper} {rest : List Oper} (h : j4 o = true) : eQ P ops st (o :: rest) K φ = bB P [] ops [o] (hK P ops st rest K) φ st := by
 simp [eQ, h]
 rfl
def v8 (P : Program) (f : AV) (args : List AV) (st : aB) (K : AV → Prop) : Prop := ∃ r, q9 P f args st (fun r' st' => r' = r ∧ st' = st) ∧ K r
def II (P : Program) (ops : Array Oper) (st : aB) (rest : List Oper) (K : AF → Prop) (φ : AF) (dst : Option Tmp) (r : AV) : Prop := eQ P ops st rest K (φ.put dst r)
theorem aUJ {P : Program} {ops : Array Oper} {st : aB} {K : AF → Prop} {φ : AF} {rest : List Oper} {dst : Option Tmp} {f : Operand} {args : List Operand} {ats : Array TypeId} {type : TypeId} {pos : String} {after : Array Edge} :
 eQ P ops st (⟨dst, .call { callee := .value f, args := args.toArray, argTypes := ats }, type, pos, after, none⟩ :: rest) K φ = v8 P (φ.eval f) (args.map φ.eval) st (II P ops st rest K φ dst) := by
 simp [eQ, j4, v8, II]
section
variable {P : Program} {ops : Array Oper} {st : aB} {K : AF → Prop} {φ : AF} {rest : List Oper} {dst : Option Tmp} {type : TypeId} {pos : String} {after : Array Edge} {g : Option (Nat × Bool)}
theorem WD {f : Operand} {args : List Operand} {ats : Array TypeId} :
 eQ P ops st (⟨dst, .call { callee := .value f, args := args.toArray, argTypes := ats }, type, pos, after, none⟩ :: rest) K φ = v8 P (φ.eval f) (args.map φ.eval) st (II P ops st rest K φ dst) := aUJ
theorem UD {x : Operand} : eQ P ops st (⟨dst, .move x, type, pos, after, g⟩ :: rest) K φ = bB P [] ops [⟨dst, .move x, type, pos, after, g⟩] (hK P ops st rest K) φ st := kL rfl
theorem aE4 {x : Operand} : eQ P ops st (⟨dst, .assign x, type, pos, after, g⟩ :: rest) K φ = bB P [] ops [⟨dst, .assign x, type, pos, after, g⟩] (hK P ops st rest K) φ st := kL rfl
theorem ZA {c x y : Operand} : eQ P ops st (⟨dst, .pick c x y, type, pos, after, g⟩ :: rest) K φ = bB P [] ops [⟨dst, .pick c x y, type, pos, after, g⟩] (hK P ops st rest K) φ st := kL rfl
theorem aEP {op : BinOp} {t t' : TypeId} {x y : Operand} : eQ P ops st (⟨dst, .binOp op t x y t', type, pos, after, g⟩ :: rest) K φ = bB P [] ops [⟨dst, .binOp op t x y t', type, pos, after, g⟩] (hK P ops st rest K) φ st := kL rfl
theorem aK2 {op : UnOp} {t : TypeId} {x : Operand} : eQ P ops st (⟨dst, .unOp op t x, type, pos, after, g⟩ :: rest) K φ = bB P [] ops [⟨dst, .unOp op t x, type, pos, after, g⟩] (hK P ops st rest K) φ st := kL rfl
theorem aGB {x : Operand} : eQ P ops st (⟨dst, .nilCheck x, type, pos, after, g⟩ :: rest) K φ = bB P [] ops [⟨dst, .nilCheck x, type, pos, after, g⟩] (hK P ops st rest K) φ st := kL rfl
theorem SN {t f : Nat} {x : Operand} : eQ P ops st (⟨dst, .fieldAddr t x f, type, pos, after, g⟩ :: rest) K φ = bB P [] ops [⟨dst, .fieldAddr t x f, type, pos, after, g⟩] (hK P ops st rest K) φ st := kL rfl
theorem aAX {t : TypeId} {x : Operand} : eQ P ops st (⟨dst, .load t x, type, pos, after, g⟩ :: rest) K φ = bB P [] ops [⟨dst, .load t x, type, pos, after, g⟩] (hK P ops st rest K) φ st := kL rfl
theorem TV {t f : Nat} {x : Operand} : eQ P ops st (⟨dst, .field t x f, type, pos, after, g⟩ :: rest) K φ = bB P [] ops [⟨dst, .field t x f, type, pos, after, g⟩] (hK P ops st rest K) φ st := kL rfl
theorem aD8 {t : TypeId} {x i : Operand} : eQ P ops st (⟨dst, .indexAddr t x i, type, pos, after, g⟩ :: rest) K φ = bB P [] ops [⟨dst, .indexAddr t x i, type, pos, after, g⟩] (hK P ops st rest K) φ st := kL rfl
theorem aIU {t : TypeId} {x i : Operand} : eQ P ops st (⟨dst, .index t x i, type, pos, after, g⟩ :: rest) K φ = bB P [] ops [⟨dst, .index t x i, type, pos, after, g⟩] (hK P ops st rest K) φ st := kL rfl
theorem aKB {t : TypeId} {x : Operand} {lo hi mx : Option Operand} : eQ P ops st (⟨dst, .slice t x lo hi mx, type, pos, after, g⟩ :: rest) K φ = bB P [] ops [⟨dst, .slice t x lo hi mx, type, pos, after, g⟩] (hK P ops st rest K) φ st := kL rfl
theorem Y9 {x : Operand} {i : Nat} : eQ P ops st (⟨dst, .extract x i, type, pos, after, g⟩ :: rest) K φ = bB P [] ops [⟨dst, .extract x i, type, pos, after, g⟩] (hK P ops st rest K) φ st := kL rfl
theorem UE {t : TypeId} {ps : Array (Nat × Operand)} : eQ P ops st (⟨dst, .build t ps, type, pos, after, g⟩ :: rest) K φ = bB P [] ops [⟨dst, .build t ps, type, pos, after, g⟩] (hK P ops st rest K) φ st := kL rfl
theorem aJ4 {t : TypeId} {n : Nat} {ps : Array (Nat × Operand)} : eQ P ops st (⟨dst, .buildSlice t n ps, type, pos, after, g⟩ :: rest) K φ = bB P [] ops [⟨dst, .buildSlice t n ps, type, pos, after, g⟩] (hK P ops st rest K) φ st := kL rfl
theorem Y2 {t u : TypeId} {x : Operand} : eQ P ops st (⟨dst, .convert t u x, type, pos, after, g⟩ :: rest) K φ = bB P [] ops [⟨dst, .convert t u x, type, pos, after, g⟩] (hK P ops st rest K) φ st := kL rfl
theorem aDQ {t : TypeId} {x i : Operand} {ok : Bool} : eQ P ops st (⟨dst, .lookup t x i ok, type, pos, after, g⟩ :: rest) K φ = bB P [] ops [⟨dst, .lookup t x i ok, type, pos, after, g⟩] (hK P ops st rest K) φ st := kL rfl
theorem aGU {x : Operand} {t : TypeId} : eQ P ops st (⟨dst, .call { callee := .builtin .len, args := #[x], argTypes := #[t] }, type, pos, after, g⟩ :: rest) K φ = bB P [] ops [⟨dst, .call { callee := .builtin .len, args := #[x], argTypes := #[t] }, type, pos, after, g⟩] (hK P ops st rest K) φ st := kL rfl
theorem aC4 {x y : Operand} {ts : Array TypeId} : eQ P ops st (⟨dst, .call { callee := .builtin .max, args := #[x, y], argTypes := ts }, type, pos, after, g⟩ :: rest) K φ = bB P [] ops [⟨dst, .call { callee := .builtin .max, args := #[x, y], argTypes := ts }, type, pos, after, g⟩] (hK P ops st rest K) φ st := kL rfl
theorem aEK {x y : Operand} {ts : Array TypeId} : eQ P ops st (⟨dst, .call { callee := .builtin .min, args := #[x, y], argTypes := ts }, type, pos, after, g⟩ :: rest) K φ = bB P [] ops [⟨dst, .call { callee := .builtin .min, args := #[x, y], argTypes := ts }, type, pos, after, g⟩] (hK P ops st rest K) φ st := kL rfl
end
theorem ZL {P : Program} {ops : Array Oper} {st : aB} {K : AF → Prop} {φ : AF} {rest : List Oper} {dst : Option Tmp} {r : AV} : II P ops st rest K φ dst r = eQ P ops st rest K (φ.put dst r) := rfl
theorem i8 {P : Program} {g : FuncId} {args : List AV} {st : aB} {r : AV} {K : AV → Prop} (x : aD P g args st (fun r' st' => r' = r ∧ st' = st)) (h : K r) : v8 P (.func g []) args st K := ⟨r, by show aD P g (args ++ []) st _; rw [iA]; exact x, h⟩
@[congr] theorem a2G {P : Program} {ops : Array Oper} {l : List Oper} {K : AF → Prop} {φ φ' : AF} {st st' : aB} (h1 : φ = φ') (h2 : st = st') : eQ P ops st l K φ = eQ P ops st' l K φ' := by rw [h1, h2]
@[congr] theorem a1B {P : Program} {f f' : AV} {args args' : List AV} {st st' : aB} {K : AV → Prop} (h0 : f = f') (h1 : args = args') (h2 : st = st') : v8 P f args st K = v8 P f' args' st' K := by rw [h0, h1, h2]
def OH (ops : Array Oper) : Nat := (ops.toList.findIdx fun o => !j4 o)
theorem aN6 {P : Program} {st : aB} {N : Nat} {id : Nat} {ops : Array Oper} {Q : Exit → AF → aB → Prop} {φ : AF} (hm : P.follows .mixedOrders = true) (hok : pJ N ops = true) (hB : Region.lexTailB .any ops (OH ops) = true)
 (h : bB P [] ops ops.toList (Q .normal) φ st) : gH P N (.region id ops true) Q φ st := by
 refine aQY (OH ops) hm hok hB (EJ _ _ ?_)
 have key : ∀ (l1 l2 : List Oper) (φ : AF), (∀ o ∈ l1, j4 o = true) → bB P [] ops (l1 ++ l2) (Q .normal) φ st → eQ P ops st l1 (fun φ' => bB P [] ops l2 (Q .normal) φ' st) φ := by
  intro l1
  induction l1 with
  | nil => intro l2 φ _ h; exact h
  | cons o l1 ih =>
   intro l2 φ hp h
   have ho := hp o (by simp)
   have hr : ∀ o ∈ l1, j4 o = true := fun o h => hp o (by simp [h])
   simp only [eQ, ho, f9, bB]
   simp only [fF, bB] at h
   split at h
   · rename_i hg
     rw [r0 ho] at h
     rw [r0 ho]
     split at h
     · rename_i hr2
       first | rw [hr2] | skip
       exact ih l2 _ hr h
     · cases h
   · exact ih l2 _ hr h
   · cases h
 refine key _ _ φ (fun o ho => ?_) (by rw [sG]; exact h)
 obtain ⟨i, hi, rfl⟩ := List.getElem_of_mem ho
 rw [d5] at hi
 have h2 := List.not_of_lt_findIdx (p := fun o => !j4 o) (xs := ops.toList) (i := i) (by have : OH ops = ops.toList.findIdx (fun o => !j4 o) := rfl; omega)
 simpa using h2
def CK (P : Program) (ops : Array Oper) (st : aB) (K : AF → aB → Prop) : Nat → List Oper → AF → Prop
 | 0, l, φ => bB P [] ops l K φ st
 | _ + 1, [], _ => False
 | n + 1, o :: rest, φ => eQ P ops st [o] (CK P ops st K n rest) φ
theorem aFA {P : Program} {ops : Array Oper} {st : aB} {K : AF → aB → Prop} {l : List Oper} {φ : AF} : CK P ops st K 0 l φ = bB P [] ops l K φ st := rfl
theorem aHL {P : Program} {ops : Array Oper} {st : aB} {K : AF → aB → Prop} {n : Nat} {o : Oper} {l : List Oper} {φ : AF} : CK P ops st K (n + 1) (o :: l) φ = eQ P ops st [o] (CK P ops st K n l) φ := rfl
theorem X8 {P : Program} {mt : List Nat} {l : List Oper} {st : aB} {K : AF → aB → Prop} {φ : AF} : bB P mt l.toArray l.toArray.toList K φ st = bB P mt l.toArray l K φ st := rfl
theorem aI5 {P : Program} {l : List Oper} {st : aB} {K : AF → Prop} {φ : AF} : eQ P l.toArray st l.toArray.toList K φ = eQ P l.toArray st l K φ := rfl
theorem aDW {P : Program} {n : Nat} {l : List Oper} {st : aB} {K : AF → aB → Prop} {φ : AF} : CK P l.toArray st K n l.toArray.toList φ = CK P l.toArray st K n l φ := rfl
def ZM (Q : Exit → AF → aB → Prop) (st : aB) (φ : AF) : Prop := Q .normal φ st
theorem YI {Q : Exit → AF → aB → Prop} {st : aB} {φ : AF} : ZM Q st φ = Q .normal φ st := rfl
theorem G2 {P : Program} {st : aB} {N : Nat} {id : Nat} {ops : Array Oper} {Q : Exit → AF → aB → Prop} {φ : AF} (hm : P.follows .mixedOrders = true) (hok : pJ N ops = true) (hB : Region.lexB .any ops = true)
 (h : eQ P ops st ops.toList (ZM Q st) φ) : gH P N (.region id ops true) Q φ st :=
 aT6 hm hok hB (EJ _ _ h)
theorem aLP : AV.junk.isAgg = false := rfl
theorem aH0 : AV.junk.width = 1 := rfl
theorem WL : AV.junk.cC = true := rfl
theorem aDZ : AV.junk.cells = [AV.junk] := rfl
theorem aJQ : AV.junk.storable = false := rfl
theorem UZ : AV.undef.isAgg = false := rfl
theorem aAL : AV.undef.width = 1 := rfl
theorem aJV : AV.undef.cC = false := rfl
theorem RW : AV.undef.cells = [AV.undef] := rfl
theorem aB6 : AV.undef.storable = false := rfl
theorem aBT {k : IntKind} {n : Int} : (AV.int k n).isAgg = false := rfl
theorem U3 {k : IntKind} {n : Int} : (AV.int k n).width = 1 := rfl
theorem aBC {k : IntKind} {n : Int} : (AV.int k n).cC = false := rfl
theorem X4 {k : IntKind} {n : Int} : (AV.int k n).cells = [(AV.int k n)] := rfl
theorem aAW {k : IntKind} {n : Int} : (AV.int k n).storable = true := rfl
theorem aGA {b : Bool} : (AV.bool b).isAgg = false := rfl
theorem WC {b : Bool} : (AV.bool b).width = 1 := rfl
theorem ZO {b : Bool} : (AV.bool b).cC = false := rfl
theorem aKM {b : Bool} : (AV.bool b).cells = [(AV.bool b)] := rfl
theorem aCK {b : Bool} : (AV.bool b).storable = true := rfl
theorem aIV {s : ByteArray} : (AV.str s).isAgg = false := rfl
theorem aHK {s : ByteArray} : (AV.str s).width = 1 := rfl
theorem TH {s : ByteArray} : (AV.str s).cC = false := rfl
theorem ZF {s : ByteArray} : (AV.str s).cells = [(AV.str s)] := rfl
theorem T9 {s : ByteArray} : (AV.str s).storable = true := rfl
theorem aF0 {vs : List AV} : (AV.tup vs).isAgg = false := rfl
theorem aKO {vs : List AV} : (AV.tup vs).width = 1 := rfl
theorem aJE {vs : List AV} : (AV.tup vs).cC = false := rfl
theorem aJU {vs : List AV} : (AV.tup vs).cells = [(AV.tup vs)] := rfl
theorem Y0 {vs : List AV} : (AV.tup vs).storable = false := rfl
theorem XR {es : List AV} : (AV.slice es).isAgg = false := rfl
theorem aAD {es : List AV} : (AV.slice es).width = 1 := rfl
theorem aKN {es : List AV} : (AV.slice es).cC = false := rfl
theorem VZ {es : List AV} : (AV.slice es).cells = [(AV.slice es)] := rfl
theorem YY {es : List AV} : (AV.slice es).storable = true := rfl
theorem aIO {es : List AV} : (AV.fslice es).isAgg = false := rfl
theorem Z0 {es : List AV} : (AV.fslice es).width = 1 := rfl
theorem aBQ {es : List AV} : (AV.fslice es).cC = false := rfl
theorem ZH {es : List AV} : (AV.fslice es).cells = [(AV.fslice es)] := rfl
theorem SQ {es : List AV} : (AV.fslice es).storable = true := rfl
theorem ZB {b : Nat} {o : Nat} {l : Nat} {m : Nat} : (AV.mslice b o l m).isAgg = false := rfl
theorem aDE {b : Nat} {o : Nat} {l : Nat} {m : Nat} : (AV.mslice b o l m).width = 1 := rfl
theorem YG {b : Nat} {o : Nat} {l : Nat} {m : Nat} : (AV.mslice b o l m).cC = false := rfl
theorem XH {b : Nat} {o : Nat} {l : Nat} {m : Nat} : (AV.mslice b o l m).cells = [(AV.mslice b o l m)] := rfl
theorem VD {b : Nat} {o : Nat} {l : Nat} {m : Nat} : (AV.mslice b o l m).storable = true := rfl
theorem aJJ : AV.nilptr.isAgg = false := rfl
theorem WJ : AV.nilptr.width = 1 := rfl
theorem aAK : AV.nilptr.cC = false := rfl
theorem V9 : AV.nilptr.cells = [AV.nilptr] := rfl
theorem aK8 : AV.nilptr.storable = true := rfl
theorem aBZ {b : Nat} {o : Nat} : (AV.ptr b o).isAgg = false := rfl
theorem aFN {b : Nat} {o : Nat} : (AV.ptr b o).width = 1 := rfl
theorem ZC {b : Nat} {o : Nat} : (AV.ptr b o).cC = false := rfl
theorem aHZ {b : Nat} {o : Nat} : (AV.ptr b o).cells = [(AV.ptr b o)] := rfl
theorem SM {b : Nat} {o : Nat} : (AV.ptr b o).storable = true := rfl
theorem aFT {e : AV} : (AV.pptr e).isAgg = false := rfl
theorem U8 {e : AV} : (AV.pptr e).width = 1 := rfl
theorem aJF {e : AV} : (AV.pptr e).cC = false := rfl
theorem aCJ {e : AV} : (AV.pptr e).cells = [(AV.pptr e)] := rfl
theorem aKP {e : AV} : (AV.pptr e).storable = true := rfl
theorem aD6 : AV.nilmap.isAgg = false := rfl
theorem aBB : AV.nilmap.width = 1 := rfl
theorem XO : AV.nilmap.cC = false := rfl
theorem WI : AV.nilmap.cells = [AV.nilmap] := rfl
theorem XM : AV.nilmap.storable = true := rfl
theorem aJB {b : Nat} : (AV.map b).isAgg = false := rfl
theorem UP {b : Nat} : (AV.map b).width = 1 := rfl
theorem YH {b : Nat} : (AV.map b).cC = false := rfl
theorem XP {b : Nat} : (AV.map b).cells = [(AV.map b)] := rfl
theorem aI1 {b : Nat} : (AV.map b).storable = true := rfl
theorem UU {f : FuncId} {cs : List AV} : (AV.func f cs).isAgg = false := rfl
theorem aCP {f : FuncId} {cs : List AV} : (AV.func f cs).width = 1 := rfl
theorem aIB {f : FuncId} {cs : List AV} : (AV.func f cs).cC = false := rfl
theorem YV {f : FuncId} {cs : List AV} : (AV.func f cs).cells = [(AV.func f cs)] := rfl
theorem Z1 {f : FuncId} {cs : List AV} : (AV.func f cs).storable = true := rfl
theorem ST {v : Value} : (AV.raw v).isAgg = false := rfl
theorem UT {v : Value} : (AV.raw v).width = 1 := rfl
theorem aAC {v : Value} : (AV.raw v).cC = false := rfl
theorem aKS {v : Value} : (AV.raw v).cells = [(AV.raw v)] := rfl
theorem aLV {cs : List AV} : (AV.agg cs).isAgg = true := rfl
theorem VS {cs : List AV} : (AV.agg cs).width = cs.length := rfl
theorem aDO {cs : List AV} : (AV.agg cs).cC = false := rfl
theorem TL {cs : List AV} : (AV.agg cs).cells = cs := rfl
theorem aF7 : ((0 : Nat) : Int) = 0 := rfl
theorem aHW {n : Nat} : ((n + 1 : Nat) : Int) = (n : Int) + 1 := rfl
theorem tL {st : aB} {b x : Nat} {o : AO} : (st.aC b o) x = if x = b then some o else st x := rfl
theorem wrap64 {n : Int} (h1 : -9223372036854775808 ≤ n) (h2 : n ≤ 9223372036854775807) : IntKind.wrap .i64 n = n := by
 rw [IntKind.wrap_i64]; omega
end Go.AW
