/- Smaller stores, frozen slices, sizes, frames as lists, regions that draw. -/
import Derived.Test.YtaifeijnedoboaaCbFinc
namespace Go.AW
set_option linter.unusedSimpArgs false
set_option linter.unusedVariables false

/-! ### Smaller stores -/
def Drops (st st' : Store) : Prop := ∀ b, (st b = none → st' b = none) ∧ ∀ o, st' b = some o → st b = some o

theorem Drops.refl (st : Store) : Drops st st := fun _ => ⟨id, fun _ => id⟩
theorem Drops.trans {a b c : Store} (x : Drops a b) (y : Drops b c) : Drops a c := fun i => ⟨fun h => (y i).1 ((x i).1 h), fun o h => (x i).2 o ((y i).2 o h)⟩
theorem Drops.upd {st st' : Store} (x : Drops st st') {b : Nat} {o : AO} (h : st' b = none) : Drops (st.upd b o) st' := fun i => by
  simp only [Store.upd]
  split
  · rename_i e; subst e; exact ⟨fun _ => h, fun o' h' => by rw [h] at h'; cases h'⟩
  · exact x i
theorem Drops.erase {st st' : Store} (x : Drops st st') {b : Nat} (h : st' b = none) : Drops (st.erase b) st' := fun i => by
  simp only [Store.erase]
  split
  · rename_i e; subst e; exact ⟨fun _ => h, fun o' h' => by rw [h] at h'; cases h'⟩
  · exact x i
theorem Drops.erase' (st : Store) (b : Nat) : Drops st (st.erase b) := fun i => by
  simp only [Store.erase]
  split
  · exact ⟨fun _ => rfl, fun o' h' => by cases h'⟩
  · exact ⟨id, fun _ => id⟩

theorem Drops.step {st st' : Store} (x : Drops st st') (h : Heap) : StepH h st h st' := ⟨Nat.le_refl _, fun b _ e => ⟨rfl, (x b).1 e⟩, fun _ c _ _ e => ⟨c, e, rfl⟩⟩

theorem Drops.srel {st st' : Store} (x : Drops st st') {h : Heap} (S : SRel h st) : SRel h st' := fun b o e => by
  obtain ⟨h1, h2⟩ := S b o ((x b).2 o e)
  refine ⟨h1, ?_⟩
  cases o with
  | cells as =>
    obtain ⟨c, t, e1, e2, vs, e3, e4⟩ := h2
    exact ⟨c, t, e1, e2, vs, e3, VCs.mono (x.step h) _ _ e4⟩
  | map f =>
    obtain ⟨es, clock, e1, e2, e3, e4⟩ := h2
    refine ⟨es, clock, e1, e2, e3, fun n => ?_⟩
    have := e4 n
    cases hf : f n with
    | none => rw [hf] at this; exact this
    | some a =>
      rw [hf] at this
      obtain ⟨e, m, k, v⟩ := this
      exact ⟨e, m, k, v.mono (x.step h)⟩

theorem Drops.weakS {st st' : Store} (x : Drops st st') : WeakS st st' := fun h S => ⟨x.srel S, x.step h⟩
theorem Drops.weak {st st' : Store} (x : Drops st st') (r : AV) : Weak st r st' r := fun h _ _ y => y.mono (x.step h)

/-- What was allocated and is not held any more is forgotten. -/
theorem ACalls.drop {P : Program} {g : FuncId} {args : List AV} {st : Store} {Q : AV → Prop} (x : ACalls P g args st (fun r st' => Drops st' st ∧ Q r)) : ACalls P g args st (fun r st' => Q r ∧ st' = st) :=
  x.weak fun r st' ⟨h1, h2⟩ => ⟨r, st, h1.weakS, h1.weak r, h2, rfl⟩

/-! ### What was owned is never written again -/
mutual
def AV.fz (b : Nat) (es : List AV) : AV → AV
  | .mslice b' 0 n sz => if b' = b ∧ n = es.length then .slice es else .mslice b' 0 n sz
  | .agg cs => .agg (fzL b es cs)
  | .tup vs => .tup (fzL b es vs)
  | a => a
def fzL (b : Nat) (es : List AV) : List AV → List AV
  | [] => []
  | a :: as => AV.fz b es a :: fzL b es as
end

theorem fz_isAgg (b : Nat) (es : List AV) (a : AV) : (a.fz b es).isAgg = a.isAgg := by
  cases a <;> try rfl
  case mslice b' off n sz =>
    cases off with
    | zero => simp only [AV.fz]; split <;> rfl
    | succ k => rfl

section
variable {h : Heap} {st : Store} {b : Nat} {es : List AV}
theorem frozen (S : SRel h st) (hb : st b = some (.cells (es.flatMap AV.cells))) (hj : ∀ e ∈ es, e.isJunk = false) : b < h.size ∧ VEs h (st.erase b) b 0 es := by
  obtain ⟨h1, c, t, e1, e2, vs, e3, e4⟩ := S b _ hb
  exact ⟨h1, VEs.mono ((Drops.erase' st b).step h) b rfl _ _ (VEs_of_flat hj e3 e4)⟩

theorem VC.fz_one {b' off n sz : Nat} {cs : List Value} (S : SRel h st) (hb : st b = some (.cells (es.flatMap AV.cells))) (hj : ∀ e ∈ es, e.isJunk = false) (hE : Even es) (x : VC h st (.mslice b' off n sz) cs) : VC h (st.erase b) ((AV.mslice b' off n sz).fz b es) cs := by
  have x0 : VC h (st.erase b) (.mslice b' off n sz) cs := VC.mono ((Drops.erase' st b).step h) _ _ x
  cases off with
  | succ k => exact x0
  | zero =>
    simp only [AV.fz]
    split
    · rename_i e
      obtain ⟨rfl, rfl⟩ := e
      simp only [VC] at x
      obtain ⟨cap, e1, l1, l2, c, t, _, _⟩ := x
      obtain ⟨hs, hE'⟩ := frozen S hb hj
      unfold VC
      exact .inr ⟨b', 0, cap, e1, l1, l2, Store.erase_same _ _, hs, hE, hE'⟩
    · exact x0

mutual
theorem VC.fz (S : SRel h st) (hb : st b = some (.cells (es.flatMap AV.cells))) (hj : ∀ e ∈ es, e.isJunk = false) (hE : Even es) : ∀ (a : AV) (cs : List Value), VC h st a cs → VC h (st.erase b) (a.fz b es) cs
  | .mslice b' off n sz, cs, x => VC.fz_one S hb hj hE x
  | .agg as, cs, x => by simp only [VC, AV.fz] at x ⊢; exact VCs.fz S hb hj hE as cs x
  | .tup as, cs, x => by
    simp only [VC, AV.fz] at x ⊢
    obtain ⟨vs, e, r⟩ := x
    exact ⟨vs, e, VTs.fz S hb hj hE as vs r⟩
  | .junk, cs, x => VC.mono ((Drops.erase' st b).step h) _ _ x
  | .undef, cs, x => VC.mono ((Drops.erase' st b).step h) _ _ x
  | .int _ _, cs, x => VC.mono ((Drops.erase' st b).step h) _ _ x
  | .bool _, cs, x => VC.mono ((Drops.erase' st b).step h) _ _ x
  | .str _, cs, x => VC.mono ((Drops.erase' st b).step h) _ _ x
  | .slice _, cs, x => VC.mono ((Drops.erase' st b).step h) _ _ x
  | .fslice _, cs, x => VC.mono ((Drops.erase' st b).step h) _ _ x
  | .nilptr, cs, x => VC.mono ((Drops.erase' st b).step h) _ _ x
  | .ptr _ _, cs, x => VC.mono ((Drops.erase' st b).step h) _ _ x
  | .pptr _, cs, x => VC.mono ((Drops.erase' st b).step h) _ _ x
  | .nilmap, cs, x => VC.mono ((Drops.erase' st b).step h) _ _ x
  | .map _, cs, x => VC.mono ((Drops.erase' st b).step h) _ _ x
  | .func _ _, cs, x => VC.mono ((Drops.erase' st b).step h) _ _ x
  | .raw _, cs, x => VC.mono ((Drops.erase' st b).step h) _ _ x
  | .eslice, cs, x => VC.mono ((Drops.erase' st b).step h) _ _ x
theorem VCs.fz (S : SRel h st) (hb : st b = some (.cells (es.flatMap AV.cells))) (hj : ∀ e ∈ es, e.isJunk = false) (hE : Even es) : ∀ (as : List AV) (cs : List Value), VCs h st as cs → VCs h (st.erase b) (fzL b es as) cs
  | [], _, x => x
  | a :: as, cs, x => by
    simp only [VCs, fzL] at x ⊢
    obtain ⟨c, r, e, x1, x2⟩ := x
    exact ⟨c, r, e, VC.fz S hb hj hE a [c] x1, VCs.fz S hb hj hE as r x2⟩
theorem VTs.fz (S : SRel h st) (hb : st b = some (.cells (es.flatMap AV.cells))) (hj : ∀ e ∈ es, e.isJunk = false) (hE : Even es) : ∀ (as : List AV) (cs : List Value), VTs h st as cs → VTs h (st.erase b) (fzL b es as) cs
  | [], _, x => x
  | a :: as, cs, x => by
    simp only [VTs, fzL] at x ⊢
    obtain ⟨v, r, e, x1, x2⟩ := x
    exact ⟨v, r, e, ⟨(fz_isAgg b es a).trans x1.1, VC.fz S hb hj hE a _ x1.2⟩, VTs.fz S hb hj hE as r x2⟩
end

theorem VRel.fz {a : AV} {v : Value} (S : SRel h st) (hb : st b = some (.cells (es.flatMap AV.cells))) (hj : ∀ e ∈ es, e.isJunk = false) (hE : Even es) (x : VRel h st a v) : VRel h (st.erase b) (a.fz b es) v := by
  have key : a.isAgg = vIsAgg v ∧ VC h st a v.cells.toList → VRel h (st.erase b) (a.fz b es) v := fun x => by
    have y : (a.fz b es).isAgg = vIsAgg v ∧ VC h (st.erase b) (a.fz b es) v.cells.toList := ⟨(fz_isAgg b es a).trans x.1, VC.fz S hb hj hE a _ x.2⟩
    cases hq : a.fz b es <;> rw [hq] at y <;> first | trivial | exact y
  cases a <;> first | trivial | exact key x
end

theorem ACalls.freeze {P : Program} {g : FuncId} {args : List AV} {st : Store} {Q : AV → Store → Prop}
    (x : ACalls P g args st (fun r st' => ∃ b es, st' b = some (.cells (es.flatMap AV.cells)) ∧ (∀ e ∈ es, e.isJunk = false) ∧ Even es ∧ Q (r.fz b es) (st'.erase b))) : ACalls P g args st Q :=
  x.weak fun r st' ⟨b, es, h1, h2, h3, h4⟩ => ⟨r.fz b es, st'.erase b, (Drops.erase' st' b).weakS, fun _ _ S y => y.fz S h1 h2 h3, h4⟩

theorem Less.freeze {φ : AF} {st : Store} {b : Nat} {es : List AV} (h1 : st b = some (.cells (es.flatMap AV.cells))) (h2 : ∀ e ∈ es, e.isJunk = false) (h3 : Even es) : Less φ st (fun d => (φ d).fz b es) (st.erase b) :=
  fun h _ S F => ⟨(Drops.erase' st b).srel S, (Drops.erase' st b).step h, fun d => (F d).fz S h1 h2 h3⟩
theorem Less.drop {φ : AF} {st st' : Store} (x : Drops st st') : Less φ st φ st' := fun h _ S F => ⟨x.srel S, x.step h, fun d => (F d).mono (x.step h)⟩

/-! ### Literals as slices -/
mutual
def AV.soft : AV → AV
  | .fslice es => .slice es
  | .agg cs => .agg (softL cs)
  | .tup vs => .tup (softL vs)
  | a => a
def softL : List AV → List AV
  | [] => []
  | a :: as => a.soft :: softL as
end
theorem soft_isAgg (a : AV) : a.soft.isAgg = a.isAgg := by cases a <;> rfl
section
variable {h : Heap} {st : Store}
mutual
theorem VC.soft : ∀ (a : AV) (cs : List Value), VC h st a cs → VC h st a.soft cs
  | .fslice es, cs, x => by
    simp only [AV.soft]
    unfold VC at x ⊢
    rcases x with x | ⟨b, off, e, l, r⟩
    · exact .inl x
    · exact .inr ⟨b, off, es.length, e, Nat.le_refl _, l, r⟩
  | .agg as, cs, x => by simp only [VC, AV.soft] at x ⊢; exact VCs.soft as cs x
  | .tup as, cs, x => by
    simp only [VC, AV.soft] at x ⊢
    obtain ⟨vs, e, r⟩ := x
    exact ⟨vs, e, VTs.soft as vs r⟩
  | .mslice _ _ _ _, cs, x => x
  | .junk, cs, x => x
  | .undef, cs, x => x
  | .int _ _, cs, x => x
  | .bool _, cs, x => x
  | .str _, cs, x => x
  | .slice _, cs, x => x
  | .nilptr, cs, x => x
  | .ptr _ _, cs, x => x
  | .pptr _, cs, x => x
  | .nilmap, cs, x => x
  | .map _, cs, x => x
  | .func _ _, cs, x => x
  | .raw _, cs, x => x
  | .eslice, cs, x => x
theorem VCs.soft : ∀ (as : List AV) (cs : List Value), VCs h st as cs → VCs h st (softL as) cs
  | [], _, x => x
  | a :: as, cs, x => by
    simp only [VCs, softL] at x ⊢
    obtain ⟨c, r, e, x1, x2⟩ := x
    exact ⟨c, r, e, VC.soft a [c] x1, VCs.soft as r x2⟩
theorem VTs.soft : ∀ (as : List AV) (cs : List Value), VTs h st as cs → VTs h st (softL as) cs
  | [], _, x => x
  | a :: as, cs, x => by
    simp only [VTs, softL] at x ⊢
    obtain ⟨v, r, e, x1, x2⟩ := x
    exact ⟨v, r, e, ⟨(soft_isAgg a).trans x1.1, VC.soft a _ x1.2⟩, VTs.soft as r x2⟩
end
theorem VRel.soft {a : AV} {v : Value} (x : VRel h st a v) : VRel h st a.soft v := by
  cases a
  case fslice => exact x.fslice_slice
  case agg => exact ⟨x.1, VC.soft _ _ x.2⟩
  case tup => exact ⟨x.1, VC.soft _ _ x.2⟩
  all_goals exact x
end
theorem ACalls.soft {P : Program} {g : FuncId} {args : List AV} {st : Store} {Q : AV → Store → Prop} (x : ACalls P g args st (fun r st' => Q r.soft st')) : ACalls P g args st Q :=
  x.weak fun r st' h => ⟨r.soft, st', (Drops.refl st').weakS, fun _ _ _ y => y.soft, h⟩
/-! ### Sizes that a held value keeps -/
mutual
def AV.fits : AV → Prop
  | .str s => s.size ≤ 9223372036854775807
  | .agg cs => fitsL cs
  | .tup vs => fitsL vs
  | .slice es => es.length ≤ 9223372036854775807 ∧ fitsL es
  | .fslice es => es.length ≤ 9223372036854775807 ∧ fitsL es
  | .mslice _ _ n _ => n ≤ 9223372036854775807
  | .pptr e => e.fits
  | _ => True
def fitsL : List AV → Prop
  | [] => True
  | a :: as => a.fits ∧ fitsL as
end
section
variable {h : Heap} {st : Store}
mutual
theorem VC.fits : ∀ (a : AV) (cs : List Value), VC h st a cs → a.fits
  | .str s, cs, x => by simp only [VC, maxLen] at x; exact x.2
  | .agg as, cs, x => by simp only [VC, AV.fits] at x ⊢; exact VCs.fits as cs x
  | .tup as, cs, x => by
    simp only [VC, AV.fits] at x ⊢
    obtain ⟨vs, e, r⟩ := x
    exact VTs.fits as vs r
  | .slice es, cs, x => by
    simp only [VC, AV.fits] at x ⊢
    rcases x with ⟨⟨p0, _⟩, rfl⟩ | ⟨b, off, cap, _, l1, l2, _, _, _, r⟩
    · exact ⟨by simp, trivial⟩
    · exact ⟨Nat.le_trans l1 l2, VEs.fits es off r⟩
  | .fslice es, cs, x => by
    simp only [VC, AV.fits] at x ⊢
    rcases x with ⟨⟨p0, _⟩, rfl⟩ | ⟨b, off, _, l1, _, _, _, r⟩
    · exact ⟨by simp, trivial⟩
    · exact ⟨l1, VEs.fits es off r⟩
  | .mslice _ _ n _, cs, x => by
    simp only [VC, AV.fits] at x ⊢
    obtain ⟨cap, _, l1, l2, _⟩ := x
    exact Nat.le_trans l1 l2
  | .pptr e, cs, x => by
    simp only [VC, AV.fits] at x ⊢
    obtain ⟨b, off, _, _, _, vs, _, _, y⟩ := x
    exact VC.fits e vs y
  | .junk, cs, x => trivial
  | .undef, cs, x => trivial
  | .int _ _, cs, x => trivial
  | .bool _, cs, x => trivial
  | .nilptr, cs, x => trivial
  | .ptr _ _, cs, x => trivial
  | .nilmap, cs, x => trivial
  | .map _, cs, x => trivial
  | .func _ _, cs, x => trivial
  | .raw _, cs, x => trivial
  | .eslice, cs, x => trivial
theorem VCs.fits : ∀ (as : List AV) (cs : List Value), VCs h st as cs → fitsL as
  | [], _, x => trivial
  | a :: as, cs, x => by
    simp only [VCs] at x
    obtain ⟨c, r, e, x1, x2⟩ := x
    exact ⟨VC.fits a [c] x1, VCs.fits as r x2⟩
theorem VTs.fits : ∀ (as : List AV) (cs : List Value), VTs h st as cs → fitsL as
  | [], _, x => trivial
  | a :: as, cs, x => by
    simp only [VTs] at x
    obtain ⟨v, r, e, x1, x2⟩ := x
    exact ⟨VC.fits a _ x1.2, VTs.fits as r x2⟩
theorem VEs.fits {b : Nat} : ∀ (as : List AV) (off : Nat), VEs h st b off as → fitsL as
  | [], _, x => trivial
  | a :: as, off, x => by
    simp only [VEs] at x
    obtain ⟨⟨cs, _, _, x3⟩, x4⟩ := x
    exact ⟨VC.fits a cs x3, VEs.fits as _ x4⟩
end
theorem VRel.fits {a : AV} {v : Value} (x : VRel h st a v) : a.fits := by
  cases a <;> first | trivial | exact VC.fits _ _ x.2
theorem VRelL.fits : ∀ {as : List AV} {vs : List Value}, VRelL h st as vs → fitsL as
  | [], _, _ => trivial
  | a :: as, vs, x => by
    simp only [VRelL] at x
    obtain ⟨v, r, _, x1, x2⟩ := x
    exact ⟨x1.fits, VRelL.fits x2⟩
end

/-! ### Frames as lists -/
def frL : List (Nat × AV) → AF
  | [] => AF.bot
  | (d, v) :: l => (frL l).upd d v
def hasL (φ : AF) : List (Nat × AV) → Prop
  | [] => True
  | (d, v) :: l => φ d = v ∧ hasL φ l
theorem Less.frL {φ : AF} {st : Store} : ∀ {l : List (Nat × AV)}, hasL φ l → Less φ st (frL l) st
  | [], _ => Less.bot φ st
  | (d, v) :: l, h => (Less.frL h.2).upd h.1
/-- A function that leaves the store as it is. -/
theorem ACalls.to {P : Program} {g : FuncId} {args : List AV} {st : Store} {r : AV} {K : AV → Store → Prop} (x : ACalls P g args st (fun r' st' => r' = r ∧ st' = st)) (h : K r st) : ACalls P g args st K :=
  x.mono fun _ _ ⟨e1, e2⟩ => by rw [e1, e2]; exact h

def frU (l : List (Nat × AV)) : AF := frL l
def LessL (φ : AF) (st : Store) (l : List (Nat × AV)) (st' : Store) : Prop := Less φ st (frL l) st'
theorem LessL.mk {φ : AF} {st : Store} {l : List (Nat × AV)} (h : hasL φ l) : LessL φ st l st := Less.frL h
theorem LessL.drop {φ : AF} {st st' : Store} {l : List (Nat × AV)} (d : Drops st st') (h : hasL φ l) : LessL φ st l st' := (Less.drop d).trans (Less.frL h)
theorem LessL.freeze {φ : AF} {st st' : Store} {l : List (Nat × AV)} (b : Nat) (es : List AV) (h1 : st b = some (.cells (es.flatMap AV.cells))) (h2 : ∀ e ∈ es, e.isJunk = false) (h3 : Even es) (d : Drops (st.erase b) st') (h : hasL (fun d => (φ d).fz b es) l) : LessL φ st l st' := ((Less.freeze h1 h2 h3).trans (Less.drop d)).trans (Less.frL h)

/-! ### Two ways at a guard -/
/-! ### Regions that draw -/
def plainOp (o : Oper) : Bool := match o.op with
  | .call { callee := .value _, .. } => false
  | .call { callee := .builtin .append, .. } => false
  | .call { callee := .builtin .delete, .. } => false
  | .alloc _ => false
  | .store _ _ _ => false
  | .makeMap _ none => false
  | .makeSlice _ _ _ => false
  | .mapUpdate _ _ _ _ => false
  | _ => true

def aOpsH (P : Program) (ops : Array Oper) (st : Store) : List Oper → (AF → Prop) → AF → Prop
  | [], K, φ => K φ
  | o :: rest, K, φ => if plainOp o = true then aOps P [] ops [o] (fun φ' _ => aOpsH P ops st rest K φ') φ st else
    match o.guard, o.op with
    | none, .call { callee := .value f, args, .. } => ∃ r, callV P (φ.eval f) (args.toList.map φ.eval) st (fun r' st' => r' = r ∧ st' = st) ∧ aOpsH P ops st rest K (φ.put o.dst r)
    | _, _ => False

/-- What comes behind a plain operation of a head. -/
def hK (P : Program) (ops : Array Oper) (st : Store) (rest : List Oper) (K : AF → Prop) (φ : AF) (_ : Store) : Prop := aOpsH P ops st rest K φ
/-- What comes behind a call in a head. -/
def callH (P : Program) (f : AV) (args : List AV) (st : Store) (K : AV → Prop) : Prop := ∃ r, callV P f args st (fun r' st' => r' = r ∧ st' = st) ∧ K r
def headC (P : Program) (ops : Array Oper) (st : Store) (rest : List Oper) (K : AF → Prop) (φ : AF) (dst : Option Tmp) (r : AV) : Prop := aOpsH P ops st rest K (φ.put dst r)
@[congr] theorem cg_hK {P : Program} {ops : Array Oper} {l : List Oper} {K : AF → Prop} {φ φ' : AF} {st st' st2 : Store} (h1 : φ = φ') (h2 : st = st') : hK P ops st l K φ st2 = hK P ops st' l K φ' st2 := by rw [h1, h2]
section
variable {P : Program} {ops : Array Oper} {st : Store} {K : AF → Prop} {φ : AF} {rest : List Oper} {dst : Option Tmp} {type : TypeId} {pos : String} {after : Array Edge} {g : Option (Nat × Bool)}
end
@[congr] theorem cg_aOpsH {P : Program} {ops : Array Oper} {l : List Oper} {K : AF → Prop} {φ φ' : AF} {st st' : Store} (h1 : φ = φ') (h2 : st = st') : aOpsH P ops st l K φ = aOpsH P ops st' l K φ' := by rw [h1, h2]
@[congr] theorem cg_callH {P : Program} {f f' : AV} {args args' : List AV} {st st' : Store} {K : AV → Prop} (h0 : f = f') (h1 : args = args') (h2 : st = st') : callH P f args st K = callH P f' args' st' K := by rw [h0, h1, h2]
@[congr] theorem cg_headC {P : Program} {ops : Array Oper} {l : List Oper} {K : AF → Prop} {φ : AF} {st : Store} {dst : Option Tmp} {r r' : AV} (h1 : r = r') : headC P ops st l K φ dst r = headC P ops st l K φ dst r' := by rw [h1]

/-- How many operations come in any order. -/
def headN (ops : Array Oper) : Nat := (ops.toList.findIdx fun o => !plainOp o)

/-- The first n in any order, those behind one after the other. -/
def aOpsN (P : Program) (ops : Array Oper) (st : Store) (K : AF → Store → Prop) : Nat → List Oper → AF → Prop
  | 0, l, φ => aOps P [] ops l K φ st
  | _ + 1, [], _ => False
  | n + 1, o :: rest, φ => aOpsH P ops st [o] (aOpsN P ops st K n rest) φ
@[congr] theorem cg_aOpsN {P : Program} {ops : Array Oper} {st st' : Store} {K : AF → Store → Prop} {n : Nat} {l : List Oper} {φ φ' : AF} (h1 : φ = φ') (h2 : st = st') : aOpsN P ops st K n l φ = aOpsN P ops st' K n l φ' := by rw [h1, h2]
/-- Behind all. -/
def endK (Q : Exit → AF → Store → Prop) (st : Store) (φ : AF) : Prop := Q .normal φ st
/-! ### Shapes of values, constructor by constructor -/
/-! ### Numbers -/
end Go.AW
