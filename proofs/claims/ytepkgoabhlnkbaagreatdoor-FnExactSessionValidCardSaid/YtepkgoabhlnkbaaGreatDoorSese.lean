/- Smaller stores, frozen slices, sizes, frames as lists, regions that draw. -/
import Derived.Test.YtepkgoabhlnkbaaGreatDoorSesd
set_option linter.unusedSimpArgs false
set_option linter.unusedVariables false
set_option maxRecDepth 100000
namespace Go.AW
def Drops (st st' : zy7) : Prop := ∀ b, (st b = none → st' b = none) ∧ ∀ o, st' b = some o → st b = some o
theorem Drops.refl (st : zy7) : Drops st st := fun _ => ⟨id, fun _ => id⟩
theorem Drops.trans {a b c : zy7} (x : Drops a b) (y : Drops b c) : Drops a c := fun i => ⟨fun h => (y i).1 ((x i).1 h), fun o h => (x i).2 o ((y i).2 o h)⟩
theorem Drops.upd {st st' : zy7} (x : Drops st st') {b : Nat} {o : AO} (h : st' b = none) : Drops (st.upd b o) st' := fun i => by
 simp only [zy7.upd]
 split
 · rename_i e; subst e; exact ⟨fun _ => h, fun o' h' => by rw [h] at h'; cases h'⟩
 · exact x i
theorem Drops.erase' (st : zy7) (b : Nat) : Drops st (st.erase b) := fun i => by
 simp only [zy7.erase]
 split
 · exact ⟨fun _ => rfl, fun o' h' => by cases h'⟩
 · exact ⟨id, fun _ => id⟩
theorem Drops.step {st st' : zy7} (x : Drops st st') (h : Heap) : StepH h st h st' := ⟨Nat.le_refl _, fun b _ e => ⟨rfl, (x b).1 e⟩, fun _ c _ _ e => ⟨c, e, rfl⟩⟩
theorem Drops.srel {st st' : zy7} (x : Drops st st') {h : Heap} (S : SRel h st) : SRel h st' := fun b o e => by
 obtain ⟨h1, h2⟩ := S b o ((x b).2 o e)
 refine ⟨h1, ?_⟩
 cases o with
 | cells as =>
  obtain ⟨c, t, e1, e2, vs, e3, e4⟩ := h2
  exact ⟨c, t, e1, e2, vs, e3, VCs.mono (x.step h) _ _ e4⟩
 | map f =>
  obtain ⟨es, clock, e1, e2, e3, e4⟩ := h2
  refine ⟨es, clock, e1, e2, e3, fun n => ?_⟩
  have := e4 n
  cases hf : f n with
  | none => rw [hf] at this; exact this
  | some a =>
   rw [hf] at this
   obtain ⟨e, m, k, v⟩ := this
   exact ⟨e, m, k, v.mono (x.step h)⟩
theorem Drops.weakS {st st' : zy7} (x : Drops st st') : WeakS st st' := fun h S => ⟨x.srel S, x.step h⟩
theorem Drops.weak {st st' : zy7} (x : Drops st st') (r : AV) : Weak st r st' r := fun h _ _ y => y.mono (x.step h)
theorem zq7.drop {P : Program} {g : FuncId} {args : List AV} {st : zy7} {Q : AV → Prop} (x : zq7 P g args st (fun r st' => Drops st' st ∧ Q r)) : zq7 P g args st (fun r st' => Q r ∧ st' = st) :=
 x.weak fun r st' ⟨h1, h2⟩ => ⟨r, st, h1.weakS, h1.weak r, h2, rfl⟩
mutual
def AV.fz (b : Nat) (es : List AV) : AV → AV
 | .mslice b' 0 n sz => if b' = b ∧ n = es.length then .slice es else .mslice b' 0 n sz
 | .agg cs => .agg (fzL b es cs)
 | .tup vs => .tup (fzL b es vs)
 | a => a
def fzL (b : Nat) (es : List AV) : List AV → List AV
 | [] => []
 | a :: as => AV.fz b es a :: fzL b es as
end
theorem fz_isAgg (b : Nat) (es : List AV) (a : AV) : (a.fz b es).isAgg = a.isAgg := by
 cases a <;> try rfl
 case mslice b' off n sz =>
  cases off with
  | zero => simp only [AV.fz]; split <;> rfl
  | succ k => rfl
section
variable {h : Heap} {st : zy7} {b : Nat} {es : List AV}
theorem frozen (S : SRel h st) (hb : st b = some (.cells (es.flatMap AV.cells))) (hj : ∀ e ∈ es, e.isJunk = false) : b < h.size ∧ VEs h (st.erase b) b 0 es := by
 obtain ⟨h1, c, t, e1, e2, vs, e3, e4⟩ := S b _ hb
 exact ⟨h1, VEs.mono ((Drops.erase' st b).step h) b rfl _ _ (VEs_of_flat hj e3 e4)⟩
theorem VC.fz_one {b' off n sz : Nat} {cs : List Value} (S : SRel h st) (hb : st b = some (.cells (es.flatMap AV.cells))) (hj : ∀ e ∈ es, e.isJunk = false) (hE : Even es) (x : VC h st (.mslice b' off n sz) cs) : VC h (st.erase b) ((AV.mslice b' off n sz).fz b es) cs := by
 have x0 : VC h (st.erase b) (.mslice b' off n sz) cs := VC.mono ((Drops.erase' st b).step h) _ _ x
 cases off with
 | succ k => exact x0
 | zero =>
  simp only [AV.fz]
  split
  · rename_i e
    obtain ⟨rfl, rfl⟩ := e
    simp only [VC] at x
    obtain ⟨cap, e1, l1, l2, c, t, _, _⟩ := x
    obtain ⟨hs, hE'⟩ := frozen S hb hj
    unfold VC
    exact .inr ⟨b', 0, cap, e1, l1, l2, zy7.erase_same _ _, hs, hE, hE'⟩
  · exact x0
mutual
theorem VC.fz (S : SRel h st) (hb : st b = some (.cells (es.flatMap AV.cells))) (hj : ∀ e ∈ es, e.isJunk = false) (hE : Even es) : ∀ (a : AV) (cs : List Value), VC h st a cs → VC h (st.erase b) (a.fz b es) cs
 | .mslice b' off n sz, cs, x => VC.fz_one S hb hj hE x
 | .agg as, cs, x => by simp only [VC, AV.fz] at x ⊢; exact VCs.fz S hb hj hE as cs x
 | .tup as, cs, x => by
  simp only [VC, AV.fz] at x ⊢
  obtain ⟨vs, e, r⟩ := x
  exact ⟨vs, e, VTs.fz S hb hj hE as vs r⟩
 | .junk, cs, x => VC.mono ((Drops.erase' st b).step h) _ _ x
 | .undef, cs, x => VC.mono ((Drops.erase' st b).step h) _ _ x
 | .int _ _, cs, x => VC.mono ((Drops.erase' st b).step h) _ _ x
 | .bool _, cs, x => VC.mono ((Drops.erase' st b).step h) _ _ x
 | .str _, cs, x => VC.mono ((Drops.erase' st b).step h) _ _ x
 | .slice _, cs, x => VC.mono ((Drops.erase' st b).step h) _ _ x
 | .fslice _, cs, x => VC.mono ((Drops.erase' st b).step h) _ _ x
 | .nilptr, cs, x => VC.mono ((Drops.erase' st b).step h) _ _ x
 | .ptr _ _, cs, x => VC.mono ((Drops.erase' st b).step h) _ _ x
 | .pptr _, cs, x => VC.mono ((Drops.erase' st b).step h) _ _ x
 | .nilmap, cs, x => VC.mono ((Drops.erase' st b).step h) _ _ x
 | .map _, cs, x => VC.mono ((Drops.erase' st b).step h) _ _ x
 | .func _ _, cs, x => VC.mono ((Drops.erase' st b).step h) _ _ x
 | .raw _, cs, x => VC.mono ((Drops.erase' st b).step h) _ _ x
 | .eslice, cs, x => VC.mono ((Drops.erase' st b).step h) _ _ x
theorem VCs.fz (S : SRel h st) (hb : st b = some (.cells (es.flatMap AV.cells))) (hj : ∀ e ∈ es, e.isJunk = false) (hE : Even es) : ∀ (as : List AV) (cs : List Value), VCs h st as cs → VCs h (st.erase b) (fzL b es as) cs
 | [], _, x => x
 | a :: as, cs, x => by
  simp only [VCs, fzL] at x ⊢
  obtain ⟨c, r, e, x1, x2⟩ := x
  exact ⟨c, r, e, VC.fz S hb hj hE a [c] x1, VCs.fz S hb hj hE as r x2⟩
theorem VTs.fz (S : SRel h st) (hb : st b = some (.cells (es.flatMap AV.cells))) (hj : ∀ e ∈ es, e.isJunk = false) (hE : Even es) : ∀ (as : List AV) (cs : List Value), VTs h st as cs → VTs h (st.erase b) (fzL b es as) cs
 | [], _, x => x
 | a :: as, cs, x => by
  simp only [VTs, fzL] at x ⊢
  obtain ⟨v, r, e, x1, x2⟩ := x
  exact ⟨v, r, e, ⟨(fz_isAgg b es a).trans x1.1, VC.fz S hb hj hE a _ x1.2⟩, VTs.fz S hb hj hE as r x2⟩
end
theorem VRel.fz {a : AV} {v : Value} (S : SRel h st) (hb : st b = some (.cells (es.flatMap AV.cells))) (hj : ∀ e ∈ es, e.isJunk = false) (hE : Even es) (x : VRel h st a v) : VRel h (st.erase b) (a.fz b es) v := by
 have key : a.isAgg = vIsAgg v ∧ VC h st a v.cells.toList → VRel h (st.erase b) (a.fz b es) v := fun x => by
  have y : (a.fz b es).isAgg = vIsAgg v ∧ VC h (st.erase b) (a.fz b es) v.cells.toList := ⟨(fz_isAgg b es a).trans x.1, VC.fz S hb hj hE a _ x.2⟩
  cases hq : a.fz b es <;> rw [hq] at y <;> first | trivial | exact y
 cases a <;> first | trivial | exact key x
end
theorem Less.freeze {φ : AF} {st : zy7} {b : Nat} {es : List AV} (h1 : st b = some (.cells (es.flatMap AV.cells))) (h2 : ∀ e ∈ es, e.isJunk = false) (h3 : Even es) : Less φ st (fun d => (φ d).fz b es) (st.erase b) :=
 fun h _ S F => ⟨(Drops.erase' st b).srel S, (Drops.erase' st b).step h, fun d => (F d).fz S h1 h2 h3⟩
theorem Less.drop {φ : AF} {st st' : zy7} (x : Drops st st') : Less φ st φ st' := fun h _ S F => ⟨x.srel S, x.step h, fun d => (F d).mono (x.step h)⟩
mutual
def AV.soft : AV → AV
 | .fslice es => .slice es
 | .agg cs => .agg (softL cs)
 | .tup vs => .tup (softL vs)
 | a => a
def softL : List AV → List AV
 | [] => []
 | a :: as => a.soft :: softL as
end
theorem soft_isAgg (a : AV) : a.soft.isAgg = a.isAgg := by cases a <;> rfl
section
variable {h : Heap} {st : zy7}
mutual
theorem VC.soft : ∀ (a : AV) (cs : List Value), VC h st a cs → VC h st a.soft cs
 | .fslice es, cs, x => by
  simp only [AV.soft]
  unfold VC at x ⊢
  rcases x with x | ⟨b, off, e, l, r⟩
  · exact .inl x
  · exact .inr ⟨b, off, es.length, e, Nat.le_refl _, l, r⟩
 | .agg as, cs, x => by simp only [VC, AV.soft] at x ⊢; exact VCs.soft as cs x
 | .tup as, cs, x => by
  simp only [VC, AV.soft] at x ⊢
  obtain ⟨vs, e, r⟩ := x
  exact ⟨vs, e, VTs.soft as vs r⟩
 | .mslice _ _ _ _, cs, x => x
 | .junk, cs, x => x
 | .undef, cs, x => x
 | .int _ _, cs, x => x
 | .bool _, cs, x => x
 | .str _, cs, x => x
 | .slice _, cs, x => x
 | .nilptr, cs, x => x
 | .ptr _ _, cs, x => x
 | .pptr _, cs, x => x
 | .nilmap, cs, x => x
 | .map _, cs, x => x
 | .func _ _, cs, x => x
 | .raw _, cs, x => x
 | .eslice, cs, x => x
theorem VCs.soft : ∀ (as : List AV) (cs : List Value), VCs h st as cs → VCs h st (softL as) cs
 | [], _, x => x
 | a :: as, cs, x => by
  simp only [VCs, softL] at x ⊢
  obtain ⟨c, r, e, x1, x2⟩ := x
  exact ⟨c, r, e, VC.soft a [c] x1, VCs.soft as r x2⟩
theorem VTs.soft : ∀ (as : List AV) (cs : List Value), VTs h st as cs → VTs h st (softL as) cs
 | [], _, x => x
 | a :: as, cs, x => by
  simp only [VTs, softL] at x ⊢
  obtain ⟨v, r, e, x1, x2⟩ := x
  exact ⟨v, r, e, ⟨(soft_isAgg a).trans x1.1, VC.soft a _ x1.2⟩, VTs.soft as r x2⟩
end
theorem VRel.soft {a : AV} {v : Value} (x : VRel h st a v) : VRel h st a.soft v := by
 cases a
 case fslice => exact x.fslice_slice
 case agg => exact ⟨x.1, VC.soft _ _ x.2⟩
 case tup => exact ⟨x.1, VC.soft _ _ x.2⟩
 all_goals exact x
end
theorem zq7.soft {P : Program} {g : FuncId} {args : List AV} {st : zy7} {Q : AV → zy7 → Prop} (x : zq7 P g args st (fun r st' => Q r.soft st')) : zq7 P g args st Q :=
 x.weak fun r st' h => ⟨r.soft, st', (Drops.refl st').weakS, fun _ _ _ y => y.soft, h⟩
theorem zq7.softArgs {P : Program} {g : FuncId} {args : List AV} {st : zy7} {Q : AV → zy7 → Prop} (x : zq7 P g (softL args) st Q) : zq7 P g args st Q :=
 x.args fun hp => by
  have : ∀ (as : List AV) (vs : List Value), VRelL hp st as vs → VRelL hp st (softL as) vs := by
   intro as
   induction as with
   | nil => intro vs y; exact y
   | cons a as ih =>
    intro vs y
    simp only [VRelL, softL] at y ⊢
    obtain ⟨v, r, rfl, y1, y2⟩ := y
    exact ⟨v, r, rfl, y1.soft, ih r y2⟩
  exact fun vs _ => this args vs
mutual
def AV.fits : AV → Prop
 | .str s => s.size ≤ 9223372036854775807
 | .agg cs => fitsL cs
 | .tup vs => fitsL vs
 | .slice es => es.length ≤ 9223372036854775807 ∧ fitsL es
 | .fslice es => es.length ≤ 9223372036854775807 ∧ fitsL es
 | .mslice _ _ n _ => n ≤ 9223372036854775807
 | .pptr e => e.fits
 | _ => True
def fitsL : List AV → Prop
 | [] => True
 | a :: as => a.fits ∧ fitsL as
end
section
variable {h : Heap} {st : zy7}
mutual
theorem VC.fits : ∀ (a : AV) (cs : List Value), VC h st a cs → a.fits
 | .str s, cs, x => by simp only [VC, maxLen] at x; exact x.2
 | .agg as, cs, x => by simp only [VC, AV.fits] at x ⊢; exact VCs.fits as cs x
 | .tup as, cs, x => by
  simp only [VC, AV.fits] at x ⊢
  obtain ⟨vs, e, r⟩ := x
  exact VTs.fits as vs r
 | .slice es, cs, x => by
  simp only [VC, AV.fits] at x ⊢
  rcases x with ⟨⟨p0, _⟩, rfl⟩ | ⟨b, off, cap, _, l1, l2, _, _, _, r⟩
  · exact ⟨by simp, trivial⟩
  · exact ⟨Nat.le_trans l1 l2, VEs.fits es off r⟩
 | .fslice es, cs, x => by
  simp only [VC, AV.fits] at x ⊢
  rcases x with ⟨⟨p0, _⟩, rfl⟩ | ⟨b, off, _, l1, _, _, _, r⟩
  · exact ⟨by simp, trivial⟩
  · exact ⟨l1, VEs.fits es off r⟩
 | .mslice _ _ n _, cs, x => by
  simp only [VC, AV.fits] at x ⊢
  obtain ⟨cap, _, l1, l2, _⟩ := x
  exact Nat.le_trans l1 l2
 | .pptr e, cs, x => by
  simp only [VC, AV.fits] at x ⊢
  obtain ⟨b, off, _, _, _, vs, _, _, y⟩ := x
  exact VC.fits e vs y
 | .junk, cs, x => trivial
 | .undef, cs, x => trivial
 | .int _ _, cs, x => trivial
 | .bool _, cs, x => trivial
 | .nilptr, cs, x => trivial
 | .ptr _ _, cs, x => trivial
 | .nilmap, cs, x => trivial
 | .map _, cs, x => trivial
 | .func _ _, cs, x => trivial
 | .raw _, cs, x => trivial
 | .eslice, cs, x => trivial
theorem VCs.fits : ∀ (as : List AV) (cs : List Value), VCs h st as cs → fitsL as
 | [], _, x => trivial
 | a :: as, cs, x => by
  simp only [VCs] at x
  obtain ⟨c, r, e, x1, x2⟩ := x
  exact ⟨VC.fits a [c] x1, VCs.fits as r x2⟩
theorem VTs.fits : ∀ (as : List AV) (cs : List Value), VTs h st as cs → fitsL as
 | [], _, x => trivial
 | a :: as, cs, x => by
  simp only [VTs] at x
  obtain ⟨v, r, e, x1, x2⟩ := x
  exact ⟨VC.fits a _ x1.2, VTs.fits as r x2⟩
theorem VEs.fits {b : Nat} : ∀ (as : List AV) (off : Nat), VEs h st b off as → fitsL as
 | [], _, x => trivial
 | a :: as, off, x => by
  simp only [VEs] at x
  obtain ⟨⟨cs, _, _, x3⟩, x4⟩ := x
  exact ⟨VC.fits a cs x3, VEs.fits as _ x4⟩
end
theorem VRel.fits {a : AV} {v : Value} (x : VRel h st a v) : a.fits := by
 cases a <;> first | trivial | exact VC.fits _ _ x.2
theorem VRelL.fits : ∀ {as : List AV} {vs : List Value}, VRelL h st as vs → fitsL as
 | [], _, _ => trivial
 | a :: as, vs, x => by
  simp only [VRelL] at x
  obtain ⟨v, r, _, x1, x2⟩ := x
  exact ⟨x1.fits, VRelL.fits x2⟩
end
theorem zw6 {P : Program} {g : FuncId} {fn : Func} {c : Code} {args : List AV} {st : zy7} {N : Nat} {rs : List ResultVar} {K : AV → zy7 → Prop} (mt : List Nat) (hf : P.funcs[g]? = some fn) (hN : fn.ntmps = N) (hr : fn.results = rs.toArray) (hb : fn.body = some c) (hn : (fn.name == "runtime.NumGoroutine") = false)
 (hok : codeOk N c = true) (hargs : args.length ≤ N) (e : fitsL args → aCode P N mt c (retQ P rs.toArray K) (argF 0 args) st) : zq7 P g args st K := by
 subst hN
 rw [← hr] at e
 exact ⟨⟨fn, hf, by simp [hb], hn⟩, fun w vs S V => (acalls_of mt hf hb hn hok hargs (e V.fits)).2 w vs S V⟩
def frL : List (Nat × AV) → AF
 | [] => AF.bot
 | (d, v) :: l => (frL l).upd d v
def hasL (φ : AF) : List (Nat × AV) → Prop
 | [] => True
 | (d, v) :: l => φ d = v ∧ hasL φ l
theorem Less.frL {φ : AF} {st : zy7} : ∀ {l : List (Nat × AV)}, hasL φ l → Less φ st (frL l) st
 | [], _ => Less.bot φ st
 | (d, v) :: l, h => (Less.frL h.2).upd h.1
theorem ev_hasL0 {φ : AF} : hasL φ [] = True := rfl
theorem ev_hasL1 {φ : AF} {d : Nat} {v : AV} {l : List (Nat × AV)} : hasL φ ((d, v) :: l) = (φ d = v ∧ hasL φ l) := rfl
theorem zq7.to {P : Program} {g : FuncId} {args : List AV} {st : zy7} {r : AV} {K : AV → zy7 → Prop} (x : zq7 P g args st (fun r' st' => r' = r ∧ st' = st)) (h : K r st) : zq7 P g args st K :=
 x.mono fun _ _ ⟨e1, e2⟩ => by rw [e1, e2]; exact h
theorem arun_code {P : Program} {N : Nat} (mt : List Nat) {c : Code} {Q : Exit → AF → zy7 → Prop} {φ : AF} {st : zy7} (hok : codeOk N c = true) (e : aCode P N mt c Q φ st) : ARun P N c Q φ st := aCode_ok c Q φ st hok e
def frU (l : List (Nat × AV)) : AF := frL l
theorem ev_frU0 : frU [] = AF.bot := rfl
theorem ev_frU {d : Nat} {v : AV} {l : List (Nat × AV)} : frU ((d, v) :: l) = (frU l).upd d v := rfl
def zx7 (φ : AF) (st : zy7) (l : List (Nat × AV)) (st' : zy7) : Prop := Less φ st (frL l) st'
theorem zx7.mk {φ : AF} {st : zy7} {l : List (Nat × AV)} (h : hasL φ l) : zx7 φ st l st := Less.frL h
theorem zx7.drop {φ : AF} {st st' : zy7} {l : List (Nat × AV)} (d : Drops st st') (h : hasL φ l) : zx7 φ st l st' := (Less.drop d).trans (Less.frL h)
theorem zy6 {P : Program} {N : Nat} {c : Code} {Q : Exit → AF → zy7 → Prop} {φ : AF} {st : zy7} {α : Type} (mt : List Nat) (inv : α → Prop) (fl : α → List (Nat × AV)) (so : α → zy7) (μ : α → Nat) (hok : codeOk N c = true)
 (h0 : ∃ s, inv s ∧ zx7 φ st (fl s) (so s))
 (h1 : ∀ s, inv s → aCode P N mt c (loopQ (fun φ' st' => ∃ s', μ s' < μ s ∧ inv s' ∧ zx7 φ' st' (fl s') (so s')) Q) (frU (fl s)) (so s)) : ARun P N (.loop c) Q φ st :=
 arun_loop inv (fun s => frL (fl s)) so μ h0 fun s hs => arun_code mt hok (h1 s hs)
theorem zx4 {P : Program} {mt : List Nat} {ops : Array Oper} {o : Oper} {l : List Oper} {K : AF → zy7 → Prop} {φ : AF} {st : zy7} {c want : Bool}
 (h1 : c = want → opsG P mt ops o l K φ st (some true)) (h2 : c = (!want) → opsG P mt ops o l K φ st (some false)) : opsG P mt ops o l K φ st (some (c == want)) := by
 cases c <;> cases want <;> first | exact h1 rfl | exact h2 rfl
def zw0 (o : Oper) : Bool := match o.op with
 | .call { callee := .value _, .. } => false
 | .call { callee := .builtin .append, .. } => false
 | .call { callee := .builtin .delete, .. } => false
 | .alloc _ => false
 | .store _ _ _ => false
 | .makeMap _ none => false
 | .makeSlice _ _ _ => false
 | .mapUpdate _ _ _ _ => false
 | _ => true
theorem aStep_plain {P : Program} {φ : AF} {st : zy7} {o : Oper} {K : AV → zy7 → Prop} (h : zw0 o = true) : aStep P [] φ st o K = match aVal P φ st o with | some r => K r st | none => False := by
 obtain ⟨dst, op, type, pos, after, guard⟩ := o
 unfold aStep
 split
 case h_4 t x e =>
  simp only at e
  subst e
  simp only [zy2, List.contains_nil, aVal]
  cases dst <;> rfl
 case h_10 => rfl
 all_goals (rename_i e; simp only at e; subst e; simp [zw0] at h)
def aOpsH (P : Program) (ops : Array Oper) (st : zy7) : List Oper → (AF → Prop) → AF → Prop
 | [], K, φ => K φ
 | o :: rest, K, φ => if zw0 o = true then aOps P [] ops [o] (fun φ' _ => aOpsH P ops st rest K φ') φ st else
  match o.guard, o.op with
  | none, .call { callee := .value f, args, .. } => ∃ r, callV P (φ.eval f) (args.toList.map φ.eval) st (fun r' st' => r' = r ∧ st' = st) ∧ aOpsH P ops st rest K (φ.put o.dst r)
  | _, _ => False
theorem aOpsH_head {P : Program} {ops : Array Oper} {st : zy7} {K : AF → Prop} : ∀ (l : List Oper) (φ : AF), aOpsH P ops st l K φ → aHead P st ops l K φ
 | [], _, h => h
 | o :: rest, φ, h => by
  simp only [aOpsH] at h
  split at h
  · rename_i hp
    simp only [aOps] at h
    simp only [aHead]
    split at h
    · rename_i hg
      rw [aStep_plain hp] at h
      rw [hg]
      simp only
      split at h
      · rename_i r hr
        exact ⟨r, by rw [aStep_plain hp, hr]; exact ⟨rfl, rfl⟩, aOpsH_head rest _ h⟩
      · cases h
    · rename_i hg
      rw [hg]
      exact aOpsH_head rest _ h
    · cases h
  · split at h
    · rename_i f args ats hg ho
      obtain ⟨r, h1, h2⟩ := h
      simp only [aHead, aGuard, hg]
      refine ⟨r, ?_, aOpsH_head rest _ h2⟩
      simp only [aStep, ho]
      exact h1
    · cases h
theorem ev_H0 {P : Program} {ops : Array Oper} {st : zy7} {K : AF → Prop} {φ : AF} : aOpsH P ops st [] K φ = K φ := rfl
def hK (P : Program) (ops : Array Oper) (st : zy7) (rest : List Oper) (K : AF → Prop) (φ : AF) (_ : zy7) : Prop := aOpsH P ops st rest K φ
theorem ev_hK {P : Program} {ops : Array Oper} {st st' : zy7} {K : AF → Prop} {φ : AF} {rest : List Oper} : hK P ops st rest K φ st' = aOpsH P ops st rest K φ := rfl
theorem Hp_eq {P : Program} {ops : Array Oper} {st : zy7} {K : AF → Prop} {φ : AF} {o : Oper} {rest : List Oper} (h : zw0 o = true) : aOpsH P ops st (o :: rest) K φ = aOps P [] ops [o] (hK P ops st rest K) φ st := by
 simp [aOpsH, h]
 rfl
def callH (P : Program) (f : AV) (args : List AV) (st : zy7) (K : AV → Prop) : Prop := ∃ r, callV P f args st (fun r' st' => r' = r ∧ st' = st) ∧ K r
def headC (P : Program) (ops : Array Oper) (st : zy7) (rest : List Oper) (K : AF → Prop) (φ : AF) (dst : Option Tmp) (r : AV) : Prop := aOpsH P ops st rest K (φ.put dst r)
theorem Hc_eq {P : Program} {ops : Array Oper} {st : zy7} {K : AF → Prop} {φ : AF} {rest : List Oper} {dst : Option Tmp} {f : Operand} {args : List Operand} {ats : Array TypeId} {type : TypeId} {pos : String} {after : Array Edge} :
 aOpsH P ops st (⟨dst, .call { callee := .value f, args := args.toArray, argTypes := ats }, type, pos, after, none⟩ :: rest) K φ = callH P (φ.eval f) (args.map φ.eval) st (headC P ops st rest K φ dst) := by
 simp [aOpsH, zw0, callH, headC]
section
variable {P : Program} {ops : Array Oper} {st : zy7} {K : AF → Prop} {φ : AF} {rest : List Oper} {dst : Option Tmp} {type : TypeId} {pos : String} {after : Array Edge} {g : Option (Nat × Bool)}
theorem ev_Hc {f : Operand} {args : List Operand} {ats : Array TypeId} :
 aOpsH P ops st (⟨dst, .call { callee := .value f, args := args.toArray, argTypes := ats }, type, pos, after, none⟩ :: rest) K φ = callH P (φ.eval f) (args.map φ.eval) st (headC P ops st rest K φ dst) := Hc_eq
theorem ev_H1 {x : Operand} : aOpsH P ops st (⟨dst, .move x, type, pos, after, g⟩ :: rest) K φ = aOps P [] ops [⟨dst, .move x, type, pos, after, g⟩] (hK P ops st rest K) φ st := Hp_eq rfl
theorem ev_H2 {x : Operand} : aOpsH P ops st (⟨dst, .assign x, type, pos, after, g⟩ :: rest) K φ = aOps P [] ops [⟨dst, .assign x, type, pos, after, g⟩] (hK P ops st rest K) φ st := Hp_eq rfl
theorem ev_H3 {c x y : Operand} : aOpsH P ops st (⟨dst, .pick c x y, type, pos, after, g⟩ :: rest) K φ = aOps P [] ops [⟨dst, .pick c x y, type, pos, after, g⟩] (hK P ops st rest K) φ st := Hp_eq rfl
theorem ev_H4 {op : BinOp} {t t' : TypeId} {x y : Operand} : aOpsH P ops st (⟨dst, .binOp op t x y t', type, pos, after, g⟩ :: rest) K φ = aOps P [] ops [⟨dst, .binOp op t x y t', type, pos, after, g⟩] (hK P ops st rest K) φ st := Hp_eq rfl
theorem ev_H5 {op : UnOp} {t : TypeId} {x : Operand} : aOpsH P ops st (⟨dst, .unOp op t x, type, pos, after, g⟩ :: rest) K φ = aOps P [] ops [⟨dst, .unOp op t x, type, pos, after, g⟩] (hK P ops st rest K) φ st := Hp_eq rfl
theorem ev_H6 {x : Operand} : aOpsH P ops st (⟨dst, .nilCheck x, type, pos, after, g⟩ :: rest) K φ = aOps P [] ops [⟨dst, .nilCheck x, type, pos, after, g⟩] (hK P ops st rest K) φ st := Hp_eq rfl
theorem ev_H7 {t f : Nat} {x : Operand} : aOpsH P ops st (⟨dst, .fieldAddr t x f, type, pos, after, g⟩ :: rest) K φ = aOps P [] ops [⟨dst, .fieldAddr t x f, type, pos, after, g⟩] (hK P ops st rest K) φ st := Hp_eq rfl
theorem ev_H8 {t : TypeId} {x : Operand} : aOpsH P ops st (⟨dst, .load t x, type, pos, after, g⟩ :: rest) K φ = aOps P [] ops [⟨dst, .load t x, type, pos, after, g⟩] (hK P ops st rest K) φ st := Hp_eq rfl
theorem ev_H9 {t f : Nat} {x : Operand} : aOpsH P ops st (⟨dst, .field t x f, type, pos, after, g⟩ :: rest) K φ = aOps P [] ops [⟨dst, .field t x f, type, pos, after, g⟩] (hK P ops st rest K) φ st := Hp_eq rfl
theorem ev_H10 {t : TypeId} {x i : Operand} : aOpsH P ops st (⟨dst, .indexAddr t x i, type, pos, after, g⟩ :: rest) K φ = aOps P [] ops [⟨dst, .indexAddr t x i, type, pos, after, g⟩] (hK P ops st rest K) φ st := Hp_eq rfl
theorem ev_H11 {t : TypeId} {x i : Operand} : aOpsH P ops st (⟨dst, .index t x i, type, pos, after, g⟩ :: rest) K φ = aOps P [] ops [⟨dst, .index t x i, type, pos, after, g⟩] (hK P ops st rest K) φ st := Hp_eq rfl
theorem ev_H12 {t : TypeId} {x : Operand} {lo hi mx : Option Operand} : aOpsH P ops st (⟨dst, .slice t x lo hi mx, type, pos, after, g⟩ :: rest) K φ = aOps P [] ops [⟨dst, .slice t x lo hi mx, type, pos, after, g⟩] (hK P ops st rest K) φ st := Hp_eq rfl
theorem ev_H13 {x : Operand} {i : Nat} : aOpsH P ops st (⟨dst, .extract x i, type, pos, after, g⟩ :: rest) K φ = aOps P [] ops [⟨dst, .extract x i, type, pos, after, g⟩] (hK P ops st rest K) φ st := Hp_eq rfl
theorem ev_H14 {t : TypeId} {ps : Array (Nat × Operand)} : aOpsH P ops st (⟨dst, .build t ps, type, pos, after, g⟩ :: rest) K φ = aOps P [] ops [⟨dst, .build t ps, type, pos, after, g⟩] (hK P ops st rest K) φ st := Hp_eq rfl
theorem ev_H15 {t : TypeId} {n : Nat} {ps : Array (Nat × Operand)} : aOpsH P ops st (⟨dst, .buildSlice t n ps, type, pos, after, g⟩ :: rest) K φ = aOps P [] ops [⟨dst, .buildSlice t n ps, type, pos, after, g⟩] (hK P ops st rest K) φ st := Hp_eq rfl
theorem ev_H16 {t u : TypeId} {x : Operand} : aOpsH P ops st (⟨dst, .convert t u x, type, pos, after, g⟩ :: rest) K φ = aOps P [] ops [⟨dst, .convert t u x, type, pos, after, g⟩] (hK P ops st rest K) φ st := Hp_eq rfl
theorem ev_H17 {t : TypeId} {x i : Operand} {ok : Bool} : aOpsH P ops st (⟨dst, .lookup t x i ok, type, pos, after, g⟩ :: rest) K φ = aOps P [] ops [⟨dst, .lookup t x i ok, type, pos, after, g⟩] (hK P ops st rest K) φ st := Hp_eq rfl
theorem ev_H18 {x : Operand} {t : TypeId} : aOpsH P ops st (⟨dst, .call { callee := .builtin .len, args := #[x], argTypes := #[t] }, type, pos, after, g⟩ :: rest) K φ = aOps P [] ops [⟨dst, .call { callee := .builtin .len, args := #[x], argTypes := #[t] }, type, pos, after, g⟩] (hK P ops st rest K) φ st := Hp_eq rfl
theorem ev_H19 {x y : Operand} {ts : Array TypeId} : aOpsH P ops st (⟨dst, .call { callee := .builtin .max, args := #[x, y], argTypes := ts }, type, pos, after, g⟩ :: rest) K φ = aOps P [] ops [⟨dst, .call { callee := .builtin .max, args := #[x, y], argTypes := ts }, type, pos, after, g⟩] (hK P ops st rest K) φ st := Hp_eq rfl
end
theorem ev_HC {P : Program} {ops : Array Oper} {st : zy7} {K : AF → Prop} {φ : AF} {rest : List Oper} {dst : Option Tmp} {r : AV} : headC P ops st rest K φ dst r = aOpsH P ops st rest K (φ.put dst r) := rfl
theorem zw4 {P : Program} {g : FuncId} {args : List AV} {st : zy7} {r : AV} {K : AV → Prop} (x : zq7 P g args st (fun r' st' => r' = r ∧ st' = st)) (h : K r) : callH P (.func g []) args st K := ⟨r, by show zq7 P g (args ++ []) st _; rw [List.append_nil]; exact x, h⟩
@[congr] theorem cg_aOpsH {P : Program} {ops : Array Oper} {l : List Oper} {K : AF → Prop} {φ φ' : AF} {st st' : zy7} (h1 : φ = φ') (h2 : st = st') : aOpsH P ops st l K φ = aOpsH P ops st' l K φ' := by rw [h1, h2]
@[congr] theorem cg_callH {P : Program} {f f' : AV} {args args' : List AV} {st st' : zy7} {K : AV → Prop} (h0 : f = f') (h1 : args = args') (h2 : st = st') : callH P f args st K = callH P f' args' st' K := by rw [h0, h1, h2]
def headN (ops : Array Oper) : Nat := (ops.toList.findIdx fun o => !zw0 o)
theorem arun_drawP {P : Program} {st : zy7} {N : Nat} {id : Nat} {ops : Array Oper} {Q : Exit → AF → zy7 → Prop} {φ : AF} (hm : P.follows .mixedOrders = true) (hok : opsOk N ops = true) (hB : Region.lexTailB .any ops (headN ops) = true)
 (h : aOps P [] ops ops.toList (Q .normal) φ st) : ARun P N (.region id ops true) Q φ st := by
 refine arun_draw (headN ops) hm hok hB (aOpsH_head _ _ ?_)
 have key : ∀ (l1 l2 : List Oper) (φ : AF), (∀ o ∈ l1, zw0 o = true) → aOps P [] ops (l1 ++ l2) (Q .normal) φ st → aOpsH P ops st l1 (fun φ' => aOps P [] ops l2 (Q .normal) φ' st) φ := by
  intro l1
  induction l1 with
  | nil => intro l2 φ _ h; exact h
  | cons o l1 ih =>
   intro l2 φ hp h
   have ho := hp o (by simp)
   have hr : ∀ o ∈ l1, zw0 o = true := fun o h => hp o (by simp [h])
   simp only [aOpsH, ho, if_true, aOps]
   simp only [List.cons_append, aOps] at h
   split at h
   · rename_i hg
     rw [aStep_plain ho] at h
     rw [aStep_plain ho]
     split at h
     · rename_i hr2
       first | rw [hr2] | skip
       exact ih l2 _ hr h
     · cases h
   · exact ih l2 _ hr h
   · cases h
 refine key _ _ φ (fun o ho => ?_) (by rw [List.take_append_drop]; exact h)
 obtain ⟨i, hi, rfl⟩ := List.getElem_of_mem ho
 rw [List.length_take] at hi
 have h2 := List.not_of_lt_findIdx (p := fun o => !zw0 o) (xs := ops.toList) (i := i) (by have : headN ops = ops.toList.findIdx (fun o => !zw0 o) := rfl; omega)
 simpa using h2
def aOpsN (P : Program) (ops : Array Oper) (st : zy7) (K : AF → zy7 → Prop) : Nat → List Oper → AF → Prop
 | 0, l, φ => aOps P [] ops l K φ st
 | _ + 1, [], _ => False
 | n + 1, o :: rest, φ => aOpsH P ops st [o] (aOpsN P ops st K n rest) φ
theorem ev_N0 {P : Program} {ops : Array Oper} {st : zy7} {K : AF → zy7 → Prop} {l : List Oper} {φ : AF} : aOpsN P ops st K 0 l φ = aOps P [] ops l K φ st := rfl
theorem ev_N1 {P : Program} {ops : Array Oper} {st : zy7} {K : AF → zy7 → Prop} {n : Nat} {o : Oper} {l : List Oper} {φ : AF} : aOpsN P ops st K (n + 1) (o :: l) φ = aOpsH P ops st [o] (aOpsN P ops st K n l) φ := rfl
theorem ev_tl {P : Program} {mt : List Nat} {l : List Oper} {st : zy7} {K : AF → zy7 → Prop} {φ : AF} : aOps P mt l.toArray l.toArray.toList K φ st = aOps P mt l.toArray l K φ st := rfl
theorem ev_tlH {P : Program} {l : List Oper} {st : zy7} {K : AF → Prop} {φ : AF} : aOpsH P l.toArray st l.toArray.toList K φ = aOpsH P l.toArray st l K φ := rfl
theorem ev_tlN {P : Program} {n : Nat} {l : List Oper} {st : zy7} {K : AF → zy7 → Prop} {φ : AF} : aOpsN P l.toArray st K n l.toArray.toList φ = aOpsN P l.toArray st K n l φ := rfl
def endK (Q : Exit → AF → zy7 → Prop) (st : zy7) (φ : AF) : Prop := Q .normal φ st
theorem ev_endK {Q : Exit → AF → zy7 → Prop} {st : zy7} {φ : AF} : endK Q st φ = Q .normal φ st := rfl
theorem arun_drawA {P : Program} {st : zy7} {N : Nat} {id : Nat} {ops : Array Oper} {Q : Exit → AF → zy7 → Prop} {φ : AF} (hm : P.follows .mixedOrders = true) (hok : opsOk N ops = true) (hB : Region.lexB .any ops = true)
 (h : aOpsH P ops st ops.toList (endK Q st) φ) : ARun P N (.region id ops true) Q φ st :=
 arun_drawAll hm hok hB (aOpsH_head _ _ h)
theorem ev_ia_junk : AV.junk.isAgg = false := rfl
theorem ev_wd_junk : AV.junk.width = 1 := rfl
theorem ev_ij_junk : AV.junk.isJunk = true := rfl
theorem ev_cl_junk : AV.junk.cells = [AV.junk] := rfl
theorem ev_sb_junk : AV.junk.storable = false := rfl
theorem ev_ia_undef : AV.undef.isAgg = false := rfl
theorem ev_wd_undef : AV.undef.width = 1 := rfl
theorem ev_ij_undef : AV.undef.isJunk = false := rfl
theorem ev_cl_undef : AV.undef.cells = [AV.undef] := rfl
theorem ev_sb_undef : AV.undef.storable = false := rfl
theorem ev_ia_int {k : IntKind} {n : Int} : (AV.int k n).isAgg = false := rfl
theorem ev_wd_int {k : IntKind} {n : Int} : (AV.int k n).width = 1 := rfl
theorem ev_ij_int {k : IntKind} {n : Int} : (AV.int k n).isJunk = false := rfl
theorem ev_cl_int {k : IntKind} {n : Int} : (AV.int k n).cells = [(AV.int k n)] := rfl
theorem ev_sb_int {k : IntKind} {n : Int} : (AV.int k n).storable = true := rfl
theorem ev_ia_bool {b : Bool} : (AV.bool b).isAgg = false := rfl
theorem ev_wd_bool {b : Bool} : (AV.bool b).width = 1 := rfl
theorem ev_ij_bool {b : Bool} : (AV.bool b).isJunk = false := rfl
theorem ev_cl_bool {b : Bool} : (AV.bool b).cells = [(AV.bool b)] := rfl
theorem ev_sb_bool {b : Bool} : (AV.bool b).storable = true := rfl
theorem ev_ia_str {s : ByteArray} : (AV.str s).isAgg = false := rfl
theorem ev_wd_str {s : ByteArray} : (AV.str s).width = 1 := rfl
theorem ev_ij_str {s : ByteArray} : (AV.str s).isJunk = false := rfl
theorem ev_cl_str {s : ByteArray} : (AV.str s).cells = [(AV.str s)] := rfl
theorem ev_sb_str {s : ByteArray} : (AV.str s).storable = true := rfl
theorem ev_ia_tup {vs : List AV} : (AV.tup vs).isAgg = false := rfl
theorem ev_wd_tup {vs : List AV} : (AV.tup vs).width = 1 := rfl
theorem ev_ij_tup {vs : List AV} : (AV.tup vs).isJunk = false := rfl
theorem ev_cl_tup {vs : List AV} : (AV.tup vs).cells = [(AV.tup vs)] := rfl
theorem ev_sb_tup {vs : List AV} : (AV.tup vs).storable = false := rfl
theorem ev_ia_slice {es : List AV} : (AV.slice es).isAgg = false := rfl
theorem ev_wd_slice {es : List AV} : (AV.slice es).width = 1 := rfl
theorem ev_ij_slice {es : List AV} : (AV.slice es).isJunk = false := rfl
theorem ev_cl_slice {es : List AV} : (AV.slice es).cells = [(AV.slice es)] := rfl
theorem ev_sb_slice {es : List AV} : (AV.slice es).storable = true := rfl
theorem ev_ia_fslice {es : List AV} : (AV.fslice es).isAgg = false := rfl
theorem ev_wd_fslice {es : List AV} : (AV.fslice es).width = 1 := rfl
theorem ev_ij_fslice {es : List AV} : (AV.fslice es).isJunk = false := rfl
theorem ev_cl_fslice {es : List AV} : (AV.fslice es).cells = [(AV.fslice es)] := rfl
theorem ev_sb_fslice {es : List AV} : (AV.fslice es).storable = true := rfl
theorem ev_ia_mslice {b : Nat} {o : Nat} {l : Nat} {m : Nat} : (AV.mslice b o l m).isAgg = false := rfl
theorem ev_wd_mslice {b : Nat} {o : Nat} {l : Nat} {m : Nat} : (AV.mslice b o l m).width = 1 := rfl
theorem ev_ij_mslice {b : Nat} {o : Nat} {l : Nat} {m : Nat} : (AV.mslice b o l m).isJunk = false := rfl
theorem ev_cl_mslice {b : Nat} {o : Nat} {l : Nat} {m : Nat} : (AV.mslice b o l m).cells = [(AV.mslice b o l m)] := rfl
theorem ev_sb_mslice {b : Nat} {o : Nat} {l : Nat} {m : Nat} : (AV.mslice b o l m).storable = true := rfl
theorem ev_ia_nilptr : AV.nilptr.isAgg = false := rfl
theorem ev_wd_nilptr : AV.nilptr.width = 1 := rfl
theorem ev_ij_nilptr : AV.nilptr.isJunk = false := rfl
theorem ev_cl_nilptr : AV.nilptr.cells = [AV.nilptr] := rfl
theorem ev_sb_nilptr : AV.nilptr.storable = true := rfl
theorem ev_ia_ptr {b : Nat} {o : Nat} : (AV.ptr b o).isAgg = false := rfl
theorem ev_wd_ptr {b : Nat} {o : Nat} : (AV.ptr b o).width = 1 := rfl
theorem ev_ij_ptr {b : Nat} {o : Nat} : (AV.ptr b o).isJunk = false := rfl
theorem ev_cl_ptr {b : Nat} {o : Nat} : (AV.ptr b o).cells = [(AV.ptr b o)] := rfl
theorem ev_sb_ptr {b : Nat} {o : Nat} : (AV.ptr b o).storable = true := rfl
theorem ev_ia_pptr {e : AV} : (AV.pptr e).isAgg = false := rfl
theorem ev_wd_pptr {e : AV} : (AV.pptr e).width = 1 := rfl
theorem ev_ij_pptr {e : AV} : (AV.pptr e).isJunk = false := rfl
theorem ev_cl_pptr {e : AV} : (AV.pptr e).cells = [(AV.pptr e)] := rfl
theorem ev_sb_pptr {e : AV} : (AV.pptr e).storable = true := rfl
theorem ev_ia_nilmap : AV.nilmap.isAgg = false := rfl
theorem ev_wd_nilmap : AV.nilmap.width = 1 := rfl
theorem ev_ij_nilmap : AV.nilmap.isJunk = false := rfl
theorem ev_cl_nilmap : AV.nilmap.cells = [AV.nilmap] := rfl
theorem ev_sb_nilmap : AV.nilmap.storable = true := rfl
theorem ev_ia_map {b : Nat} : (AV.map b).isAgg = false := rfl
theorem ev_wd_map {b : Nat} : (AV.map b).width = 1 := rfl
theorem ev_ij_map {b : Nat} : (AV.map b).isJunk = false := rfl
theorem ev_cl_map {b : Nat} : (AV.map b).cells = [(AV.map b)] := rfl
theorem ev_sb_map {b : Nat} : (AV.map b).storable = true := rfl
theorem ev_ia_func {f : FuncId} {cs : List AV} : (AV.func f cs).isAgg = false := rfl
theorem ev_wd_func {f : FuncId} {cs : List AV} : (AV.func f cs).width = 1 := rfl
theorem ev_ij_func {f : FuncId} {cs : List AV} : (AV.func f cs).isJunk = false := rfl
theorem ev_cl_func {f : FuncId} {cs : List AV} : (AV.func f cs).cells = [(AV.func f cs)] := rfl
theorem ev_sb_func {f : FuncId} {cs : List AV} : (AV.func f cs).storable = true := rfl
theorem ev_ia_raw {v : Value} : (AV.raw v).isAgg = false := rfl
theorem ev_wd_raw {v : Value} : (AV.raw v).width = 1 := rfl
theorem ev_ij_raw {v : Value} : (AV.raw v).isJunk = false := rfl
theorem ev_cl_raw {v : Value} : (AV.raw v).cells = [(AV.raw v)] := rfl
theorem ev_ia_agg {cs : List AV} : (AV.agg cs).isAgg = true := rfl
theorem ev_wd_agg {cs : List AV} : (AV.agg cs).width = cs.length := rfl
theorem ev_ij_agg {cs : List AV} : (AV.agg cs).isJunk = false := rfl
theorem ev_cl_agg {cs : List AV} : (AV.agg cs).cells = cs := rfl
theorem ev_cast0 : ((0 : Nat) : Int) = 0 := rfl
theorem ev_cast1 {n : Nat} : ((n + 1 : Nat) : Int) = (n : Int) + 1 := rfl
theorem su_eq {st : zy7} {b x : Nat} {o : AO} : (st.upd b o) x = if x = b then some o else st x := rfl
theorem wrap64 {n : Int} (h1 : -9223372036854775808 ≤ n) (h2 : n ≤ 9223372036854775807) : IntKind.wrap .i64 n = n := by
 rw [IntKind.wrap_i64]; omega
end Go.AW
