/- Smaller stores, frozen slices, sizes, frames as lists, regions that draw. -/
import Derived.Test.YtpficjlageaebaaGreatDoorSfad
set_option linter.unusedSimpArgs false
set_option linter.unusedVariables false
set_option maxRecDepth 100000
namespace Go.AW
def aL (st st' : aB) : Prop := ∀ b, (st b = none → st' b = none) ∧ ∀ o, st' b = some o → st b = some o
theorem aL.refl (st : aB) : aL st st := fun _ => ⟨id, fun _ => id⟩
theorem aL.trans {a b c : aB} (x : aL a b) (y : aL b c) : aL a c := fun i => ⟨fun h => (y i).1 ((x i).1 h), fun o h => (x i).2 o ((y i).2 o h)⟩
theorem aL.aC {st st' : aB} (x : aL st st') {b : Nat} {o : AO} (h : st' b = none) : aL (st.aC b o) st' := fun i => by
 simp only [aB.aC]
 split
 · rename_i e; subst e; exact ⟨fun _ => h, fun o' h' => by rw [h] at h'; cases h'⟩
 · exact x i
theorem jH (st : aB) (b : Nat) : aL st (st.erase b) := fun i => by
 simp only [aB.erase]
 split
 · exact ⟨fun _ => rfl, fun o' h' => by cases h'⟩
 · exact ⟨id, fun _ => id⟩
theorem aL.step {st st' : aB} (x : aL st st') (h : bH) : cC h st h st' := ⟨c7 _, fun b _ e => ⟨rfl, (x b).1 e⟩, fun _ c _ _ e => ⟨c, e, rfl⟩⟩
theorem aL.B1 {st st' : aB} (x : aL st st') {h : bH} (S : cS h st) : cS h st' := fun b o e => by
 obtain ⟨h1, h2⟩ := S b o ((x b).2 o e)
 refine ⟨h1, ?_⟩
 cases o with
 | cells as =>
  obtain ⟨c, t, e1, e2, vs, e3, e4⟩ := h2
  exact ⟨c, t, e1, e2, vs, e3, aY.mono (x.step h) _ _ e4⟩
 | map f =>
  obtain ⟨es, clock, e1, e2, e3, e4⟩ := h2
  refine ⟨es, clock, e1, e2, e3, fun n => ?_⟩
  have := e4 n
  cases hf : f n with
  | none => rw [hf] at this; exact this
  | some a =>
   rw [hf] at this
   obtain ⟨e, m, k, v⟩ := this
   exact ⟨e, m, k, v.mono (x.step h)⟩
theorem aL.sR {st st' : aB} (x : aL st st') : yD st st' := fun h S => ⟨x.B1 S, x.step h⟩
theorem aL.m7 {st st' : aB} (x : aL st st') (r : AV) : qA st r st' r := fun h _ _ y => y.mono (x.step h)
theorem aD.drop {P : Program} {g : FuncId} {args : List AV} {st : aB} {Q : AV → Prop} (x : aD P g args st (fun r st' => aL st' st ∧ Q r)) : aD P g args st (fun r st' => Q r ∧ st' = st) :=
 x.m7 fun r st' ⟨h1, h2⟩ => ⟨r, st, h1.sR, h1.m7 r, h2, rfl⟩
mutual
def AV.fz (b : Nat) (es : List AV) : AV → AV
 | .mslice b' 0 n sz => if b' = b ∧ n = es.length then .slice es else .mslice b' 0 n sz
 | .agg cs => .agg (kL b es cs)
 | .tup vs => .tup (kL b es vs)
 | a => a
def kL (b : Nat) (es : List AV) : List AV → List AV
 | [] => []
 | a :: as => AV.fz b es a :: kL b es as
end
theorem T9 (b : Nat) (es : List AV) (a : AV) : (a.fz b es).isAgg = a.isAgg := by
 cases a <;> try rfl
 case mslice b' off n sz =>
  cases off with
  | zero => simp only [AV.fz]; split <;> rfl
  | succ k => rfl
section
variable {h : bH} {st : aB} {b : Nat} {es : List AV}
theorem frozen (S : cS h st) (hb : st b = some (.cells (es.flatMap AV.cells))) (hj : ∀ e ∈ es, e.cB = false) : b < h.size ∧ cX h (st.erase b) b 0 es := by
 obtain ⟨h1, c, t, e1, e2, vs, e3, e4⟩ := S b _ hb
 exact ⟨h1, cX.mono ((jH st b).step h) b rfl _ _ (JH hj e3 e4)⟩
theorem VC.aY4 {b' off n sz : Nat} {cs : List Value} (S : cS h st) (hb : st b = some (.cells (es.flatMap AV.cells))) (hj : ∀ e ∈ es, e.cB = false) (hE : gX es) (x : VC h st (.mslice b' off n sz) cs) : VC h (st.erase b) ((AV.mslice b' off n sz).fz b es) cs := by
 have x0 : VC h (st.erase b) (.mslice b' off n sz) cs := VC.mono ((jH st b).step h) _ _ x
 cases off with
 | succ k => exact x0
 | zero =>
  simp only [AV.fz]
  split
  · rename_i e
    obtain ⟨rfl, rfl⟩ := e
    simp only [VC] at x
    obtain ⟨cap, e1, l1, l2, c, t, _, _⟩ := x
    obtain ⟨hs, hE'⟩ := frozen S hb hj
    unfold VC
    exact .inr ⟨b', 0, cap, e1, l1, l2, aB.aC6 _ _, hs, hE, hE'⟩
  · exact x0
mutual
theorem VC.fz (S : cS h st) (hb : st b = some (.cells (es.flatMap AV.cells))) (hj : ∀ e ∈ es, e.cB = false) (hE : gX es) : ∀ (a : AV) (cs : List Value), VC h st a cs → VC h (st.erase b) (a.fz b es) cs
 | .mslice b' off n sz, cs, x => VC.aY4 S hb hj hE x
 | .agg as, cs, x => by simp only [VC, AV.fz] at x ⊢; exact aY.fz S hb hj hE as cs x
 | .tup as, cs, x => by
  simp only [VC, AV.fz] at x ⊢
  obtain ⟨vs, e, r⟩ := x
  exact ⟨vs, e, dO.fz S hb hj hE as vs r⟩
 | .junk, cs, x => VC.mono ((jH st b).step h) _ _ x
 | .undef, cs, x => VC.mono ((jH st b).step h) _ _ x
 | .int _ _, cs, x => VC.mono ((jH st b).step h) _ _ x
 | .bool _, cs, x => VC.mono ((jH st b).step h) _ _ x
 | .str _, cs, x => VC.mono ((jH st b).step h) _ _ x
 | .slice _, cs, x => VC.mono ((jH st b).step h) _ _ x
 | .fslice _, cs, x => VC.mono ((jH st b).step h) _ _ x
 | .nilptr, cs, x => VC.mono ((jH st b).step h) _ _ x
 | .ptr _ _, cs, x => VC.mono ((jH st b).step h) _ _ x
 | .pptr _, cs, x => VC.mono ((jH st b).step h) _ _ x
 | .nilmap, cs, x => VC.mono ((jH st b).step h) _ _ x
 | .map _, cs, x => VC.mono ((jH st b).step h) _ _ x
 | .func _ _, cs, x => VC.mono ((jH st b).step h) _ _ x
 | .raw _, cs, x => VC.mono ((jH st b).step h) _ _ x
 | .eslice, cs, x => VC.mono ((jH st b).step h) _ _ x
theorem aY.fz (S : cS h st) (hb : st b = some (.cells (es.flatMap AV.cells))) (hj : ∀ e ∈ es, e.cB = false) (hE : gX es) : ∀ (as : List AV) (cs : List Value), aY h st as cs → aY h (st.erase b) (kL b es as) cs
 | [], _, x => x
 | a :: as, cs, x => by
  simp only [aY, kL] at x ⊢
  obtain ⟨c, r, e, x1, x2⟩ := x
  exact ⟨c, r, e, VC.fz S hb hj hE a [c] x1, aY.fz S hb hj hE as r x2⟩
theorem dO.fz (S : cS h st) (hb : st b = some (.cells (es.flatMap AV.cells))) (hj : ∀ e ∈ es, e.cB = false) (hE : gX es) : ∀ (as : List AV) (cs : List Value), dO h st as cs → dO h (st.erase b) (kL b es as) cs
 | [], _, x => x
 | a :: as, cs, x => by
  simp only [dO, kL] at x ⊢
  obtain ⟨v, r, e, x1, x2⟩ := x
  exact ⟨v, r, e, ⟨(T9 b es a).trans x1.1, VC.fz S hb hj hE a _ x1.2⟩, dO.fz S hb hj hE as r x2⟩
end
theorem aR.fz {a : AV} {v : Value} (S : cS h st) (hb : st b = some (.cells (es.flatMap AV.cells))) (hj : ∀ e ∈ es, e.cB = false) (hE : gX es) (x : aR h st a v) : aR h (st.erase b) (a.fz b es) v := by
 have key : a.isAgg = k6 v ∧ VC h st a v.cells.toList → aR h (st.erase b) (a.fz b es) v := fun x => by
  have y : (a.fz b es).isAgg = k6 v ∧ VC h (st.erase b) (a.fz b es) v.cells.toList := ⟨(T9 b es a).trans x.1, VC.fz S hb hj hE a _ x.2⟩
  cases hq : a.fz b es <;> rw [hq] at y <;> first | trivial | exact y
 cases a <;> first | trivial | exact key x
end
theorem fL.freeze {φ : AF} {st : aB} {b : Nat} {es : List AV} (h1 : st b = some (.cells (es.flatMap AV.cells))) (h2 : ∀ e ∈ es, e.cB = false) (h3 : gX es) : fL φ st (fun d => (φ d).fz b es) (st.erase b) :=
 fun h _ S F => ⟨(jH st b).B1 S, (jH st b).step h, fun d => (F d).fz S h1 h2 h3⟩
theorem fL.drop {φ : AF} {st st' : aB} (x : aL st st') : fL φ st φ st' := fun h _ S F => ⟨x.B1 S, x.step h, fun d => (F d).mono (x.step h)⟩
mutual
def AV.soft : AV → AV
 | .fslice es => .slice es
 | .agg cs => .agg (gO cs)
 | .tup vs => .tup (gO vs)
 | a => a
def gO : List AV → List AV
 | [] => []
 | a :: as => a.soft :: gO as
end
theorem aXG (a : AV) : a.soft.isAgg = a.isAgg := by cases a <;> rfl
section
variable {h : bH} {st : aB}
mutual
theorem VC.soft : ∀ (a : AV) (cs : List Value), VC h st a cs → VC h st a.soft cs
 | .fslice es, cs, x => by
  simp only [AV.soft]
  unfold VC at x ⊢
  rcases x with x | ⟨b, off, e, l, r⟩
  · exact .inl x
  · exact .inr ⟨b, off, es.length, e, c7 _, l, r⟩
 | .agg as, cs, x => by simp only [VC, AV.soft] at x ⊢; exact aY.soft as cs x
 | .tup as, cs, x => by
  simp only [VC, AV.soft] at x ⊢
  obtain ⟨vs, e, r⟩ := x
  exact ⟨vs, e, dO.soft as vs r⟩
 | .mslice _ _ _ _, cs, x => x
 | .junk, cs, x => x
 | .undef, cs, x => x
 | .int _ _, cs, x => x
 | .bool _, cs, x => x
 | .str _, cs, x => x
 | .slice _, cs, x => x
 | .nilptr, cs, x => x
 | .ptr _ _, cs, x => x
 | .pptr _, cs, x => x
 | .nilmap, cs, x => x
 | .map _, cs, x => x
 | .func _ _, cs, x => x
 | .raw _, cs, x => x
 | .eslice, cs, x => x
theorem aY.soft : ∀ (as : List AV) (cs : List Value), aY h st as cs → aY h st (gO as) cs
 | [], _, x => x
 | a :: as, cs, x => by
  simp only [aY, gO] at x ⊢
  obtain ⟨c, r, e, x1, x2⟩ := x
  exact ⟨c, r, e, VC.soft a [c] x1, aY.soft as r x2⟩
theorem dO.soft : ∀ (as : List AV) (cs : List Value), dO h st as cs → dO h st (gO as) cs
 | [], _, x => x
 | a :: as, cs, x => by
  simp only [dO, gO] at x ⊢
  obtain ⟨v, r, e, x1, x2⟩ := x
  exact ⟨v, r, e, ⟨(aXG a).trans x1.1, VC.soft a _ x1.2⟩, dO.soft as r x2⟩
end
theorem aR.soft {a : AV} {v : Value} (x : aR h st a v) : aR h st a.soft v := by
 cases a
 case fslice => exact x.FZ
 case agg => exact ⟨x.1, VC.soft _ _ x.2⟩
 case tup => exact ⟨x.1, VC.soft _ _ x.2⟩
 all_goals exact x
end
theorem aD.soft {P : Program} {g : FuncId} {args : List AV} {st : aB} {Q : AV → aB → Prop} (x : aD P g args st (fun r st' => Q r.soft st')) : aD P g args st Q :=
 x.m7 fun r st' h => ⟨r.soft, st', (aL.refl st').sR, fun _ _ _ y => y.soft, h⟩
theorem aD.n7 {P : Program} {g : FuncId} {args : List AV} {st : aB} {Q : AV → aB → Prop} (x : aD P g (gO args) st Q) : aD P g args st Q :=
 x.args fun hp => by
  have : ∀ (as : List AV) (vs : List Value), cZ hp st as vs → cZ hp st (gO as) vs := by
   intro as
   induction as with
   | nil => intro vs y; exact y
   | cons a as ih =>
    intro vs y
    simp only [cZ, gO] at y ⊢
    obtain ⟨v, r, rfl, y1, y2⟩ := y
    exact ⟨v, r, rfl, y1.soft, ih r y2⟩
  exact fun vs _ => this args vs
mutual
def AV.fits : AV → Prop
 | .str s => s.size ≤ 9223372036854775807
 | .agg cs => eG cs
 | .tup vs => eG vs
 | .slice es => es.length ≤ 9223372036854775807 ∧ eG es
 | .fslice es => es.length ≤ 9223372036854775807 ∧ eG es
 | .mslice _ _ n _ => n ≤ 9223372036854775807
 | .pptr e => e.fits
 | _ => True
def eG : List AV → Prop
 | [] => True
 | a :: as => a.fits ∧ eG as
end
section
variable {h : bH} {st : aB}
mutual
theorem VC.fits : ∀ (a : AV) (cs : List Value), VC h st a cs → a.fits
 | .str s, cs, x => by simp only [VC, maxLen] at x; exact x.2
 | .agg as, cs, x => by simp only [VC, AV.fits] at x ⊢; exact aY.fits as cs x
 | .tup as, cs, x => by
  simp only [VC, AV.fits] at x ⊢
  obtain ⟨vs, e, r⟩ := x
  exact dO.fits as vs r
 | .slice es, cs, x => by
  simp only [VC, AV.fits] at x ⊢
  rcases x with ⟨⟨p0, _⟩, rfl⟩ | ⟨b, off, cap, _, l1, l2, _, _, _, r⟩
  · exact ⟨by simp, trivial⟩
  · exact ⟨nF l1 l2, cX.fits es off r⟩
 | .fslice es, cs, x => by
  simp only [VC, AV.fits] at x ⊢
  rcases x with ⟨⟨p0, _⟩, rfl⟩ | ⟨b, off, _, l1, _, _, _, r⟩
  · exact ⟨by simp, trivial⟩
  · exact ⟨l1, cX.fits es off r⟩
 | .mslice _ _ n _, cs, x => by
  simp only [VC, AV.fits] at x ⊢
  obtain ⟨cap, _, l1, l2, _⟩ := x
  exact nF l1 l2
 | .pptr e, cs, x => by
  simp only [VC, AV.fits] at x ⊢
  obtain ⟨b, off, _, _, _, vs, _, _, y⟩ := x
  exact VC.fits e vs y
 | .junk, cs, x => trivial
 | .undef, cs, x => trivial
 | .int _ _, cs, x => trivial
 | .bool _, cs, x => trivial
 | .nilptr, cs, x => trivial
 | .ptr _ _, cs, x => trivial
 | .nilmap, cs, x => trivial
 | .map _, cs, x => trivial
 | .func _ _, cs, x => trivial
 | .raw _, cs, x => trivial
 | .eslice, cs, x => trivial
theorem aY.fits : ∀ (as : List AV) (cs : List Value), aY h st as cs → eG as
 | [], _, x => trivial
 | a :: as, cs, x => by
  simp only [aY] at x
  obtain ⟨c, r, e, x1, x2⟩ := x
  exact ⟨VC.fits a [c] x1, aY.fits as r x2⟩
theorem dO.fits : ∀ (as : List AV) (cs : List Value), dO h st as cs → eG as
 | [], _, x => trivial
 | a :: as, cs, x => by
  simp only [dO] at x
  obtain ⟨v, r, e, x1, x2⟩ := x
  exact ⟨VC.fits a _ x1.2, dO.fits as r x2⟩
theorem cX.fits {b : Nat} : ∀ (as : List AV) (off : Nat), cX h st b off as → eG as
 | [], _, x => trivial
 | a :: as, off, x => by
  simp only [cX] at x
  obtain ⟨⟨cs, _, _, x3⟩, x4⟩ := x
  exact ⟨VC.fits a cs x3, cX.fits as _ x4⟩
end
theorem aR.fits {a : AV} {v : Value} (x : aR h st a v) : a.fits := by
 cases a <;> first | trivial | exact VC.fits _ _ x.2
theorem cZ.fits : ∀ {as : List AV} {vs : List Value}, cZ h st as vs → eG as
 | [], _, _ => trivial
 | a :: as, vs, x => by
  simp only [cZ] at x
  obtain ⟨v, r, _, x1, x2⟩ := x
  exact ⟨x1.fits, cZ.fits x2⟩
end
theorem zw6 {P : Program} {g : FuncId} {fn : Func} {c : Code} {args : List AV} {st : aB} {N : Nat} {rs : List ResultVar} {K : AV → aB → Prop} (mt : List Nat) (hf : P.funcs[g]? = some fn) (hN : fn.ntmps = N) (hr : fn.results = rs.toArray) (hb : fn.body = some c) (hn : (fn.name == "runtime.NumGoroutine") = false)
 (hok : codeOk N c = true) (qC : args.length ≤ N) (e : eG args → fV P N mt c (EN P rs.toArray K) (tG 0 args) st) : aD P g args st K := by
 subst hN
 rw [← hr] at e
 exact ⟨⟨fn, hf, by simp [hb], hn⟩, fun w vs S V => (aWL mt hf hb hn hok qC (e V.fits)).2 w vs S V⟩
def j7 : List (Nat × AV) → AF
 | [] => AF.bot
 | (d, v) :: l => (j7 l).aC d v
def x6 (φ : AF) : List (Nat × AV) → Prop
 | [] => True
 | (d, v) :: l => φ d = v ∧ x6 φ l
theorem fL.j7 {φ : AF} {st : aB} : ∀ {l : List (Nat × AV)}, x6 φ l → fL φ st (j7 l) st
 | [], _ => fL.bot φ st
 | (d, v) :: l, h => (fL.j7 h.2).aC h.1
theorem aLV {φ : AF} : x6 φ [] = True := rfl
theorem aAP {φ : AF} {d : Nat} {v : AV} {l : List (Nat × AV)} : x6 φ ((d, v) :: l) = (φ d = v ∧ x6 φ l) := rfl
theorem aD.to {P : Program} {g : FuncId} {args : List AV} {st : aB} {r : AV} {K : AV → aB → Prop} (x : aD P g args st (fun r' st' => r' = r ∧ st' = st)) (h : K r st) : aD P g args st K :=
 x.mono fun _ _ ⟨e1, e2⟩ => by rw [e1, e2]; exact h
theorem EX {P : Program} {N : Nat} (mt : List Nat) {c : Code} {Q : Exit → AF → aB → Prop} {φ : AF} {st : aB} (hok : codeOk N c = true) (e : fV P N mt c Q φ st) : gH P N c Q φ st := zY c Q φ st hok e
def uY (l : List (Nat × AV)) : AF := j7 l
theorem WP : uY [] = AF.bot := rfl
theorem aD8 {d : Nat} {v : AV} {l : List (Nat × AV)} : uY ((d, v) :: l) = (uY l).aC d v := rfl
def aO (φ : AF) (st : aB) (l : List (Nat × AV)) (st' : aB) : Prop := fL φ st (j7 l) st'
theorem aO.mk {φ : AF} {st : aB} {l : List (Nat × AV)} (h : x6 φ l) : aO φ st l st := fL.j7 h
theorem aO.drop {φ : AF} {st st' : aB} {l : List (Nat × AV)} (d : aL st st') (h : x6 φ l) : aO φ st l st' := (fL.drop d).trans (fL.j7 h)
theorem uU {P : Program} {N : Nat} {c : Code} {Q : Exit → AF → aB → Prop} {φ : AF} {st : aB} {α : Type} (mt : List Nat) (inv : α → Prop) (fl : α → List (Nat × AV)) (so : α → aB) (μ : α → Nat) (hok : codeOk N c = true)
 (h0 : ∃ s, inv s ∧ aO φ st (fl s) (so s))
 (h1 : ∀ s, inv s → fV P N mt c (oP (fun φ' st' => ∃ s', μ s' < μ s ∧ inv s' ∧ aO φ' st' (fl s') (so s')) Q) (uY (fl s)) (so s)) : gH P N (.loop c) Q φ st :=
 MG inv (fun s => j7 (fl s)) so μ h0 fun s hs => EX mt hok (h1 s hs)
theorem cT {P : Program} {mt : List Nat} {ops : Array Oper} {o : Oper} {l : List Oper} {K : AF → aB → Prop} {φ : AF} {st : aB} {c want : Bool}
 (h1 : c = want → uE P mt ops o l K φ st (some true)) (h2 : c = (!want) → uE P mt ops o l K φ st (some false)) : uE P mt ops o l K φ st (some (c == want)) := by
 cases c <;> cases want <;> first | exact h1 rfl | exact h2 rfl
def j4 (o : Oper) : Bool := match o.op with
 | .call { callee := .value _, .. } => false
 | .call { callee := .builtin .append, .. } => false
 | .call { callee := .builtin .delete, .. } => false
 | .alloc _ => false
 | .store _ _ _ => false
 | .makeMap _ none => false
 | .makeSlice _ _ _ => false
 | .mapUpdate _ _ _ _ => false
 | _ => true
theorem rM {P : Program} {φ : AF} {st : aB} {o : Oper} {K : AV → aB → Prop} (h : j4 o = true) : eX P [] φ st o K = match kO P φ st o with | some r => K r st | none => False := by
 obtain ⟨dst, op, type, pos, after, guard⟩ := o
 unfold eX
 split
 case h_4 t x e =>
  simp only at e
  subst e
  simp only [z6, List.contains_nil, kO]
  cases dst <;> rfl
 case h_10 => rfl
 all_goals (rename_i e; simp only at e; subst e; simp [j4] at h)
def eQ (P : Program) (ops : Array Oper) (st : aB) : List Oper → (AF → Prop) → AF → Prop
 | [], K, φ => K φ
 | o :: rest, K, φ => if j4 o = true then bB P [] ops [o] (fun φ' _ => eQ P ops st rest K φ') φ st else
  match o.guard, o.op with
  | none, .call { callee := .value f, args, .. } => ∃ r, rN P (φ.eval f) (args.toList.map φ.eval) st (fun r' st' => r' = r ∧ st' = st) ∧ eQ P ops st rest K (φ.put o.dst r)
  | _, _ => False
theorem GP {P : Program} {ops : Array Oper} {st : aB} {K : AF → Prop} : ∀ (l : List Oper) (φ : AF), eQ P ops st l K φ → pA P st ops l K φ
 | [], _, h => h
 | o :: rest, φ, h => by
  simp only [eQ] at h
  split at h
  · rename_i hp
    simp only [bB] at h
    simp only [pA]
    split at h
    · rename_i hg
      rw [rM hp] at h
      rw [hg]
      simp only
      split at h
      · rename_i r hr
        exact ⟨r, by rw [rM hp, hr]; exact ⟨rfl, rfl⟩, GP rest _ h⟩
      · cases h
    · rename_i hg
      rw [hg]
      exact GP rest _ h
    · cases h
  · split at h
    · rename_i f args ats hg ho
      obtain ⟨r, h1, h2⟩ := h
      simp only [pA, jB, hg]
      refine ⟨r, ?_, GP rest _ h2⟩
      simp only [eX, ho]
      exact h1
    · cases h
theorem aEZ {P : Program} {ops : Array Oper} {st : aB} {K : AF → Prop} {φ : AF} : eQ P ops st [] K φ = K φ := rfl
def hK (P : Program) (ops : Array Oper) (st : aB) (rest : List Oper) (K : AF → Prop) (φ : AF) (_ : aB) : Prop := eQ P ops st rest K φ
theorem aAY {P : Program} {ops : Array Oper} {st st' : aB} {K : AF → Prop} {φ : AF} {rest : List Oper} : hK P ops st rest K φ st' = eQ P ops st rest K φ := rfl
theorem kQ {P : Program} {ops : Array Oper} {st : aB} {K : AF → Prop} {φ : AF} {o : Oper} {rest : List Oper} (h : j4 o = true) : eQ P ops st (o :: rest) K φ = bB P [] ops [o] (hK P ops st rest K) φ st := by
 simp [eQ, h]
 rfl
def wO (P : Program) (f : AV) (args : List AV) (st : aB) (K : AV → Prop) : Prop := ∃ r, rN P f args st (fun r' st' => r' = r ∧ st' = st) ∧ K r
def IT (P : Program) (ops : Array Oper) (st : aB) (rest : List Oper) (K : AF → Prop) (φ : AF) (dst : Option Tmp) (r : AV) : Prop := eQ P ops st rest K (φ.put dst r)
theorem aTC {P : Program} {ops : Array Oper} {st : aB} {K : AF → Prop} {φ : AF} {rest : List Oper} {dst : Option Tmp} {f : Operand} {args : List Operand} {ats : Array TypeId} {type : TypeId} {pos : String} {after : Array Edge} :
 eQ P ops st (⟨dst, .call { callee := .value f, args := args.toArray, argTypes := ats }, type, pos, after, none⟩ :: rest) K φ = wO P (φ.eval f) (args.map φ.eval) st (IT P ops st rest K φ dst) := by
 simp [eQ, j4, wO, IT]
section
variable {P : Program} {ops : Array Oper} {st : aB} {K : AF → Prop} {φ : AF} {rest : List Oper} {dst : Option Tmp} {type : TypeId} {pos : String} {after : Array Edge} {g : Option (Nat × Bool)}
theorem aET {f : Operand} {args : List Operand} {ats : Array TypeId} :
 eQ P ops st (⟨dst, .call { callee := .value f, args := args.toArray, argTypes := ats }, type, pos, after, none⟩ :: rest) K φ = wO P (φ.eval f) (args.map φ.eval) st (IT P ops st rest K φ dst) := aTC
theorem WI {x : Operand} : eQ P ops st (⟨dst, .move x, type, pos, after, g⟩ :: rest) K φ = bB P [] ops [⟨dst, .move x, type, pos, after, g⟩] (hK P ops st rest K) φ st := kQ rfl
theorem aC4 {x : Operand} : eQ P ops st (⟨dst, .assign x, type, pos, after, g⟩ :: rest) K φ = bB P [] ops [⟨dst, .assign x, type, pos, after, g⟩] (hK P ops st rest K) φ st := kQ rfl
theorem X9 {c x y : Operand} : eQ P ops st (⟨dst, .pick c x y, type, pos, after, g⟩ :: rest) K φ = bB P [] ops [⟨dst, .pick c x y, type, pos, after, g⟩] (hK P ops st rest K) φ st := kQ rfl
theorem YW {op : BinOp} {t t' : TypeId} {x y : Operand} : eQ P ops st (⟨dst, .binOp op t x y t', type, pos, after, g⟩ :: rest) K φ = bB P [] ops [⟨dst, .binOp op t x y t', type, pos, after, g⟩] (hK P ops st rest K) φ st := kQ rfl
theorem TY {op : UnOp} {t : TypeId} {x : Operand} : eQ P ops st (⟨dst, .unOp op t x, type, pos, after, g⟩ :: rest) K φ = bB P [] ops [⟨dst, .unOp op t x, type, pos, after, g⟩] (hK P ops st rest K) φ st := kQ rfl
theorem aDH {x : Operand} : eQ P ops st (⟨dst, .nilCheck x, type, pos, after, g⟩ :: rest) K φ = bB P [] ops [⟨dst, .nilCheck x, type, pos, after, g⟩] (hK P ops st rest K) φ st := kQ rfl
theorem UL {t f : Nat} {x : Operand} : eQ P ops st (⟨dst, .fieldAddr t x f, type, pos, after, g⟩ :: rest) K φ = bB P [] ops [⟨dst, .fieldAddr t x f, type, pos, after, g⟩] (hK P ops st rest K) φ st := kQ rfl
theorem aD5 {t : TypeId} {x : Operand} : eQ P ops st (⟨dst, .load t x, type, pos, after, g⟩ :: rest) K φ = bB P [] ops [⟨dst, .load t x, type, pos, after, g⟩] (hK P ops st rest K) φ st := kQ rfl
theorem TK {t f : Nat} {x : Operand} : eQ P ops st (⟨dst, .field t x f, type, pos, after, g⟩ :: rest) K φ = bB P [] ops [⟨dst, .field t x f, type, pos, after, g⟩] (hK P ops st rest K) φ st := kQ rfl
theorem TZ {t : TypeId} {x i : Operand} : eQ P ops st (⟨dst, .indexAddr t x i, type, pos, after, g⟩ :: rest) K φ = bB P [] ops [⟨dst, .indexAddr t x i, type, pos, after, g⟩] (hK P ops st rest K) φ st := kQ rfl
theorem T7 {t : TypeId} {x i : Operand} : eQ P ops st (⟨dst, .index t x i, type, pos, after, g⟩ :: rest) K φ = bB P [] ops [⟨dst, .index t x i, type, pos, after, g⟩] (hK P ops st rest K) φ st := kQ rfl
theorem aCE {t : TypeId} {x : Operand} {lo hi mx : Option Operand} : eQ P ops st (⟨dst, .slice t x lo hi mx, type, pos, after, g⟩ :: rest) K φ = bB P [] ops [⟨dst, .slice t x lo hi mx, type, pos, after, g⟩] (hK P ops st rest K) φ st := kQ rfl
theorem aJT {x : Operand} {i : Nat} : eQ P ops st (⟨dst, .extract x i, type, pos, after, g⟩ :: rest) K φ = bB P [] ops [⟨dst, .extract x i, type, pos, after, g⟩] (hK P ops st rest K) φ st := kQ rfl
theorem aBE {t : TypeId} {ps : Array (Nat × Operand)} : eQ P ops st (⟨dst, .build t ps, type, pos, after, g⟩ :: rest) K φ = bB P [] ops [⟨dst, .build t ps, type, pos, after, g⟩] (hK P ops st rest K) φ st := kQ rfl
theorem YY {t : TypeId} {n : Nat} {ps : Array (Nat × Operand)} : eQ P ops st (⟨dst, .buildSlice t n ps, type, pos, after, g⟩ :: rest) K φ = bB P [] ops [⟨dst, .buildSlice t n ps, type, pos, after, g⟩] (hK P ops st rest K) φ st := kQ rfl
theorem aLC {t u : TypeId} {x : Operand} : eQ P ops st (⟨dst, .convert t u x, type, pos, after, g⟩ :: rest) K φ = bB P [] ops [⟨dst, .convert t u x, type, pos, after, g⟩] (hK P ops st rest K) φ st := kQ rfl
theorem YM {t : TypeId} {x i : Operand} {ok : Bool} : eQ P ops st (⟨dst, .lookup t x i ok, type, pos, after, g⟩ :: rest) K φ = bB P [] ops [⟨dst, .lookup t x i ok, type, pos, after, g⟩] (hK P ops st rest K) φ st := kQ rfl
theorem aD1 {x : Operand} {t : TypeId} : eQ P ops st (⟨dst, .call { callee := .builtin .len, args := #[x], argTypes := #[t] }, type, pos, after, g⟩ :: rest) K φ = bB P [] ops [⟨dst, .call { callee := .builtin .len, args := #[x], argTypes := #[t] }, type, pos, after, g⟩] (hK P ops st rest K) φ st := kQ rfl
theorem UP {x y : Operand} {ts : Array TypeId} : eQ P ops st (⟨dst, .call { callee := .builtin .max, args := #[x, y], argTypes := ts }, type, pos, after, g⟩ :: rest) K φ = bB P [] ops [⟨dst, .call { callee := .builtin .max, args := #[x, y], argTypes := ts }, type, pos, after, g⟩] (hK P ops st rest K) φ st := kQ rfl
theorem aAV {x y : Operand} {ts : Array TypeId} : eQ P ops st (⟨dst, .call { callee := .builtin .min, args := #[x, y], argTypes := ts }, type, pos, after, g⟩ :: rest) K φ = bB P [] ops [⟨dst, .call { callee := .builtin .min, args := #[x, y], argTypes := ts }, type, pos, after, g⟩] (hK P ops st rest K) φ st := kQ rfl
end
theorem aEI {P : Program} {ops : Array Oper} {st : aB} {K : AF → Prop} {φ : AF} {rest : List Oper} {dst : Option Tmp} {r : AV} : IT P ops st rest K φ dst r = eQ P ops st rest K (φ.put dst r) := rfl
theorem jC {P : Program} {g : FuncId} {args : List AV} {st : aB} {r : AV} {K : AV → Prop} (x : aD P g args st (fun r' st' => r' = r ∧ st' = st)) (h : K r) : wO P (.func g []) args st K := ⟨r, by show aD P g (args ++ []) st _; rw [iC]; exact x, h⟩
@[congr] theorem a2K {P : Program} {ops : Array Oper} {l : List Oper} {K : AF → Prop} {φ φ' : AF} {st st' : aB} (h1 : φ = φ') (h2 : st = st') : eQ P ops st l K φ = eQ P ops st' l K φ' := by rw [h1, h2]
@[congr] theorem a1M {P : Program} {f f' : AV} {args args' : List AV} {st st' : aB} {K : AV → Prop} (h0 : f = f') (h1 : args = args') (h2 : st = st') : wO P f args st K = wO P f' args' st' K := by rw [h0, h1, h2]
def PU (ops : Array Oper) : Nat := (ops.toList.findIdx fun o => !j4 o)
theorem aYY {P : Program} {st : aB} {N : Nat} {id : Nat} {ops : Array Oper} {Q : Exit → AF → aB → Prop} {φ : AF} (hm : P.follows .mixedOrders = true) (hok : pJ N ops = true) (hB : Region.lexTailB .any ops (PU ops) = true)
 (h : bB P [] ops ops.toList (Q .normal) φ st) : gH P N (.region id ops true) Q φ st := by
 refine aRN (PU ops) hm hok hB (GP _ _ ?_)
 have key : ∀ (l1 l2 : List Oper) (φ : AF), (∀ o ∈ l1, j4 o = true) → bB P [] ops (l1 ++ l2) (Q .normal) φ st → eQ P ops st l1 (fun φ' => bB P [] ops l2 (Q .normal) φ' st) φ := by
  intro l1
  induction l1 with
  | nil => intro l2 φ _ h; exact h
  | cons o l1 ih =>
   intro l2 φ hp h
   have ho := hp o (by simp)
   have hr : ∀ o ∈ l1, j4 o = true := fun o h => hp o (by simp [h])
   simp only [eQ, ho, fZ, bB]
   simp only [fF, bB] at h
   split at h
   · rename_i hg
     rw [rM ho] at h
     rw [rM ho]
     split at h
     · rename_i hr2
       first | rw [hr2] | skip
       exact ih l2 _ hr h
     · cases h
   · exact ih l2 _ hr h
   · cases h
 refine key _ _ φ (fun o ho => ?_) (by rw [sO]; exact h)
 obtain ⟨i, hi, rfl⟩ := List.getElem_of_mem ho
 rw [d7] at hi
 have h2 := List.not_of_lt_findIdx (p := fun o => !j4 o) (xs := ops.toList) (i := i) (by have : PU ops = ops.toList.findIdx (fun o => !j4 o) := rfl; omega)
 simpa using h2
def B0 (P : Program) (ops : Array Oper) (st : aB) (K : AF → aB → Prop) : Nat → List Oper → AF → Prop
 | 0, l, φ => bB P [] ops l K φ st
 | _ + 1, [], _ => False
 | n + 1, o :: rest, φ => eQ P ops st [o] (B0 P ops st K n rest) φ
theorem aCZ {P : Program} {ops : Array Oper} {st : aB} {K : AF → aB → Prop} {l : List Oper} {φ : AF} : B0 P ops st K 0 l φ = bB P [] ops l K φ st := rfl
theorem TP {P : Program} {ops : Array Oper} {st : aB} {K : AF → aB → Prop} {n : Nat} {o : Oper} {l : List Oper} {φ : AF} : B0 P ops st K (n + 1) (o :: l) φ = eQ P ops st [o] (B0 P ops st K n l) φ := rfl
theorem aH9 {P : Program} {mt : List Nat} {l : List Oper} {st : aB} {K : AF → aB → Prop} {φ : AF} : bB P mt l.toArray l.toArray.toList K φ st = bB P mt l.toArray l K φ st := rfl
theorem U4 {P : Program} {l : List Oper} {st : aB} {K : AF → Prop} {φ : AF} : eQ P l.toArray st l.toArray.toList K φ = eQ P l.toArray st l K φ := rfl
theorem aL0 {P : Program} {n : Nat} {l : List Oper} {st : aB} {K : AF → aB → Prop} {φ : AF} : B0 P l.toArray st K n l.toArray.toList φ = B0 P l.toArray st K n l φ := rfl
def aDP (Q : Exit → AF → aB → Prop) (st : aB) (φ : AF) : Prop := Q .normal φ st
theorem aF2 {Q : Exit → AF → aB → Prop} {st : aB} {φ : AF} : aDP Q st φ = Q .normal φ st := rfl
theorem HA {P : Program} {st : aB} {N : Nat} {id : Nat} {ops : Array Oper} {Q : Exit → AF → aB → Prop} {φ : AF} (hm : P.follows .mixedOrders = true) (hok : pJ N ops = true) (hB : Region.lexB .any ops = true)
 (h : eQ P ops st ops.toList (aDP Q st) φ) : gH P N (.region id ops true) Q φ st :=
 aUM hm hok hB (GP _ _ h)
theorem aEJ : AV.junk.isAgg = false := rfl
theorem aEQ : AV.junk.width = 1 := rfl
theorem aCU : AV.junk.cB = true := rfl
theorem XL : AV.junk.cells = [AV.junk] := rfl
theorem aF8 : AV.junk.storable = false := rfl
theorem aDB : AV.undef.isAgg = false := rfl
theorem aDJ : AV.undef.width = 1 := rfl
theorem aJM : AV.undef.cB = false := rfl
theorem aGY : AV.undef.cells = [AV.undef] := rfl
theorem YB : AV.undef.storable = false := rfl
theorem aLA {k : IntKind} {n : Int} : (AV.int k n).isAgg = false := rfl
theorem aCX {k : IntKind} {n : Int} : (AV.int k n).width = 1 := rfl
theorem aGK {k : IntKind} {n : Int} : (AV.int k n).cB = false := rfl
theorem YG {k : IntKind} {n : Int} : (AV.int k n).cells = [(AV.int k n)] := rfl
theorem UI {k : IntKind} {n : Int} : (AV.int k n).storable = true := rfl
theorem aCY {b : Bool} : (AV.bool b).isAgg = false := rfl
theorem aJG {b : Bool} : (AV.bool b).width = 1 := rfl
theorem aHQ {b : Bool} : (AV.bool b).cB = false := rfl
theorem Z4 {b : Bool} : (AV.bool b).cells = [(AV.bool b)] := rfl
theorem XH {b : Bool} : (AV.bool b).storable = true := rfl
theorem aER {s : ByteArray} : (AV.str s).isAgg = false := rfl
theorem aB8 {s : ByteArray} : (AV.str s).width = 1 := rfl
theorem aKC {s : ByteArray} : (AV.str s).cB = false := rfl
theorem Y5 {s : ByteArray} : (AV.str s).cells = [(AV.str s)] := rfl
theorem SJ {s : ByteArray} : (AV.str s).storable = true := rfl
theorem Z6 {vs : List AV} : (AV.tup vs).isAgg = false := rfl
theorem aAS {vs : List AV} : (AV.tup vs).width = 1 := rfl
theorem aAW {vs : List AV} : (AV.tup vs).cB = false := rfl
theorem YD {vs : List AV} : (AV.tup vs).cells = [(AV.tup vs)] := rfl
theorem aBV {vs : List AV} : (AV.tup vs).storable = false := rfl
theorem RR {es : List AV} : (AV.slice es).isAgg = false := rfl
theorem XZ {es : List AV} : (AV.slice es).width = 1 := rfl
theorem aFW {es : List AV} : (AV.slice es).cB = false := rfl
theorem TR {es : List AV} : (AV.slice es).cells = [(AV.slice es)] := rfl
theorem ZZ {es : List AV} : (AV.slice es).storable = true := rfl
theorem aCN {es : List AV} : (AV.fslice es).isAgg = false := rfl
theorem SX {es : List AV} : (AV.fslice es).width = 1 := rfl
theorem RW {es : List AV} : (AV.fslice es).cB = false := rfl
theorem aFC {es : List AV} : (AV.fslice es).cells = [(AV.fslice es)] := rfl
theorem aGN {es : List AV} : (AV.fslice es).storable = true := rfl
theorem ZA {b : Nat} {o : Nat} {l : Nat} {m : Nat} : (AV.mslice b o l m).isAgg = false := rfl
theorem WD {b : Nat} {o : Nat} {l : Nat} {m : Nat} : (AV.mslice b o l m).width = 1 := rfl
theorem aGF {b : Nat} {o : Nat} {l : Nat} {m : Nat} : (AV.mslice b o l m).cB = false := rfl
theorem aF6 {b : Nat} {o : Nat} {l : Nat} {m : Nat} : (AV.mslice b o l m).cells = [(AV.mslice b o l m)] := rfl
theorem aFB {b : Nat} {o : Nat} {l : Nat} {m : Nat} : (AV.mslice b o l m).storable = true := rfl
theorem aIT : AV.nilptr.isAgg = false := rfl
theorem aD2 : AV.nilptr.width = 1 := rfl
theorem WW : AV.nilptr.cB = false := rfl
theorem aKN : AV.nilptr.cells = [AV.nilptr] := rfl
theorem U8 : AV.nilptr.storable = true := rfl
theorem aH6 {b : Nat} {o : Nat} : (AV.ptr b o).isAgg = false := rfl
theorem aB3 {b : Nat} {o : Nat} : (AV.ptr b o).width = 1 := rfl
theorem S5 {b : Nat} {o : Nat} : (AV.ptr b o).cB = false := rfl
theorem WJ {b : Nat} {o : Nat} : (AV.ptr b o).cells = [(AV.ptr b o)] := rfl
theorem YP {b : Nat} {o : Nat} : (AV.ptr b o).storable = true := rfl
theorem aK0 {e : AV} : (AV.pptr e).isAgg = false := rfl
theorem aGA {e : AV} : (AV.pptr e).width = 1 := rfl
theorem UK {e : AV} : (AV.pptr e).cB = false := rfl
theorem UV {e : AV} : (AV.pptr e).cells = [(AV.pptr e)] := rfl
theorem aF5 {e : AV} : (AV.pptr e).storable = true := rfl
theorem aF7 : AV.nilmap.isAgg = false := rfl
theorem aLR : AV.nilmap.width = 1 := rfl
theorem YL : AV.nilmap.cB = false := rfl
theorem aHE : AV.nilmap.cells = [AV.nilmap] := rfl
theorem VA : AV.nilmap.storable = true := rfl
theorem aHI {b : Nat} : (AV.map b).isAgg = false := rfl
theorem YQ {b : Nat} : (AV.map b).width = 1 := rfl
theorem aAB {b : Nat} : (AV.map b).cB = false := rfl
theorem SH {b : Nat} : (AV.map b).cells = [(AV.map b)] := rfl
theorem aL2 {b : Nat} : (AV.map b).storable = true := rfl
theorem aGO {f : FuncId} {cs : List AV} : (AV.func f cs).isAgg = false := rfl
theorem Z0 {f : FuncId} {cs : List AV} : (AV.func f cs).width = 1 := rfl
theorem aC1 {f : FuncId} {cs : List AV} : (AV.func f cs).cB = false := rfl
theorem aJ1 {f : FuncId} {cs : List AV} : (AV.func f cs).cells = [(AV.func f cs)] := rfl
theorem aC0 {f : FuncId} {cs : List AV} : (AV.func f cs).storable = true := rfl
theorem aDD {v : Value} : (AV.raw v).isAgg = false := rfl
theorem SP {v : Value} : (AV.raw v).width = 1 := rfl
theorem ZW {v : Value} : (AV.raw v).cB = false := rfl
theorem aI8 {v : Value} : (AV.raw v).cells = [(AV.raw v)] := rfl
theorem aI0 {cs : List AV} : (AV.agg cs).isAgg = true := rfl
theorem aH8 {cs : List AV} : (AV.agg cs).width = cs.length := rfl
theorem aEB {cs : List AV} : (AV.agg cs).cB = false := rfl
theorem aGE {cs : List AV} : (AV.agg cs).cells = cs := rfl
theorem aLH : ((0 : Nat) : Int) = 0 := rfl
theorem aD0 {n : Nat} : ((n + 1 : Nat) : Int) = (n : Int) + 1 := rfl
theorem tP {st : aB} {b x : Nat} {o : AO} : (st.aC b o) x = if x = b then some o else st x := rfl
theorem wrap64 {n : Int} (h1 : -9223372036854775808 ≤ n) (h2 : n ≤ 9223372036854775807) : IntKind.wrap .i64 n = n := by
 rw [IntKind.wrap_i64]; omega
end Go.AW
