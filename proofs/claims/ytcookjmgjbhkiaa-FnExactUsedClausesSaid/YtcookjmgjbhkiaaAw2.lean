/- Abstract frames; what the operations that leave the owned store alone come to, and that they come to it. -/
import Derived.Test.YtcookjmgjbhkiaaAw1
namespace Go.AW

abbrev AF := Nat → AV
def AF.bot : AF := fun _ => .junk
def AF.upd (f : AF) (d : Nat) (v : AV) : AF := fun x => if x = d then v else f x
theorem AF.upd_same (f : AF) (d : Nat) (v : AV) : f.upd d v d = v := by simp [AF.upd]
theorem AF.upd_ne (f : AF) {d x : Nat} (v : AV) (h : x ≠ d) : f.upd d v x = f x := by simp [AF.upd, h]
theorem AF.upd_comm (f : AF) {d e : Nat} (v u : AV) (h : d ≠ e) : (f.upd d v).upd e u = (f.upd e u).upd d v := by
  funext x; simp only [AF.upd]; split <;> split <;> simp_all
def AF.put (f : AF) (dst : Option Tmp) (v : AV) : AF := match dst with | some d => f.upd d v | none => f

def ofConst : Value → AV
  | .int k n => .int k n
  | .bool b => .bool b
  | .string s => if s.size ≤ maxLen then .str s else .junk
  | .slice none 0 0 => .fslice []
  | .pointer none => .nilptr
  | .map none => .nilmap
  | .nilIface => .raw .nilIface
  | .nilFunc => .raw .nilFunc
  | .iface t v => .raw (.iface t v)
  | _ => .junk

def AF.eval (f : AF) : Operand → AV
  | .tmp t => f t
  | .const v => ofConst v
  | .global g => .raw (.pointer (some ⟨g, 0, none⟩))
  | .func g => .func g []

def FRel (h : Heap) (st : Store) (tmps : Array Value) (f : AF) : Prop := ∀ d, VRel h st (f d) (tmps.getD d undef)

theorem FRel.mono {h h' : Heap} {st st' : Store} {tmps : Array Value} {f : AF} (S : StepH h st h' st') (x : FRel h st tmps f) : FRel h' st' tmps f := fun d => (x d).mono S

theorem FRel.set {h : Heap} {st : Store} {tmps : Array Value} {f : AF} (x : FRel h st tmps f) {d : Nat} (hd : d < tmps.size) {a : AV} {v : Value} (y : VRel h st a v) : FRel h st (tmps.setIfInBounds d v) (f.upd d a) := by
  intro e
  simp only [AF.upd]
  split
  · rename_i e1; subst e1; simpa [hd] using y
  · rename_i e1
    have := x e
    simpa [Array.getElem?_setIfInBounds_ne (Ne.symm e1)] using this

theorem VRel.const (h : Heap) (st : Store) (v : Value) : VRel h st (ofConst v) v := by
  unfold ofConst
  split <;> try trivial
  case h_3 => split <;> first | trivial | exact ⟨rfl, rfl, by assumption⟩
  all_goals first | exact ⟨rfl, rfl⟩ | exact ⟨rfl, .inl ⟨⟨_, rfl⟩, rfl⟩⟩ | exact ⟨rfl, rfl, rfl⟩

theorem VRel.eval {h : Heap} {st : Store} {a : Act} {f : AF} (x : FRel h st a.tmps f) (o : Operand) : VRel h st (f.eval o) (a.eval o) := by
  cases o with
  | tmp t => exact x t
  | const v => exact VRel.const h st v
  | global g => exact ⟨rfl, rfl, rfl⟩
  | func g => exact ⟨rfl, [], rfl, rfl⟩

/-- One cell, not a struct: the value itself. -/
theorem VRel.of_single {h : Heap} {st : Store} {e : AV} {c : Value} (ha : e.isAgg = false) (x : VC h st e [c]) : VRel h st e c := by
  have key : ∀ {e : AV}, e.isAgg = vIsAgg c → VC h st e [c] → vIsAgg c = false → VRel h st e c := by
    intro e h1 h2 h3
    have hc : c.cells.toList = [c] := by cases c <;> first | rfl | (simp [vIsAgg] at h3)
    cases e <;> first | trivial | exact ⟨h1, by rw [hc]; exact h2⟩
  cases e <;> simp only [VC] at x
  case junk => trivial
  case undef => cases x; exact key rfl (by simp [VC]) rfl
  case int => cases x; exact key rfl (by simp [VC]) rfl
  case bool => cases x; exact key rfl (by simp [VC]) rfl
  case str => obtain ⟨x1, x2⟩ := x; cases x1; exact key rfl (by simp [VC, x2]) rfl
  case agg => simp [AV.isAgg] at ha
  case tup => obtain ⟨vs, x1, x2⟩ := x; cases x1; exact key rfl (by simp only [VC]; exact ⟨vs, rfl, x2⟩) rfl
  case slice es =>
    have x' := x
    rcases x with ⟨⟨p, x1⟩, x2⟩ | ⟨b, off, cap, x1, x2⟩ <;> cases x1 <;> exact key rfl (by unfold VC; exact x') rfl
  case fslice es =>
    have x' := x
    rcases x with ⟨⟨p, x1⟩, x2⟩ | ⟨b, off, x1, x2⟩ <;> cases x1 <;> exact key rfl (by unfold VC; exact x') rfl
  case mslice => have x' := x; obtain ⟨cap, x1, x2⟩ := x; cases x1; exact key rfl (by unfold VC; exact x') rfl
  case nilptr => cases x; exact key rfl (by simp [VC]) rfl
  case ptr => cases x; exact key rfl (by simp [VC]) rfl
  case pptr => have x' := x; obtain ⟨b, off, x1, x2⟩ := x; cases x1; exact key rfl (by unfold VC; exact x') rfl
  case nilmap => cases x; exact key rfl (by simp [VC]) rfl
  case map => cases x; exact key rfl (by simp [VC]) rfl
  case func => have x' := x; obtain ⟨vs, x1, x2⟩ := x; cases x1; exact key rfl (by unfold VC; exact x') rfl
  case raw => obtain ⟨x1, x2⟩ := x; cases x1; exact key (by simp [AV.isAgg, x2]) (by simp [VC, x2]) x2

theorem VC.one {h : Heap} {st : Store} {e : AV} {cs : List Value} (ha : e.isAgg = false) (x : VC h st e cs) : ∃ c, cs = [c] := by
  cases e <;> simp only [VC] at x
  case junk => match cs, x with | [c], _ => exact ⟨c, rfl⟩
  case undef => exact ⟨_, x⟩
  case int => exact ⟨_, x⟩
  case bool => exact ⟨_, x⟩
  case str => exact ⟨_, x.1⟩
  case agg => simp [AV.isAgg] at ha
  case tup => obtain ⟨vs, x1, _⟩ := x; exact ⟨_, x1⟩
  case slice => rcases x with ⟨⟨p, x1⟩, _⟩ | ⟨b, off, cap, x1, _⟩ <;> exact ⟨_, x1⟩
  case fslice => rcases x with ⟨⟨p, x1⟩, _⟩ | ⟨b, off, x1, _⟩ <;> exact ⟨_, x1⟩
  case mslice => obtain ⟨cap, x1, _⟩ := x; exact ⟨_, x1⟩
  case nilptr => exact ⟨_, x⟩
  case ptr => exact ⟨_, x⟩
  case pptr => obtain ⟨b, off, x1, _⟩ := x; exact ⟨_, x1⟩
  case nilmap => exact ⟨_, x⟩
  case map => exact ⟨_, x⟩
  case func => obtain ⟨vs, x1, _⟩ := x; exact ⟨_, x1⟩
  case raw => exact ⟨_, x.1⟩

theorem cells_one {v : Value} (h : vIsAgg v = false) : v.cells.toList = [v] := by cases v <;> first | rfl | (simp [vIsAgg] at h)

theorem VRel.single {h : Heap} {st : Store} {a : AV} {v : Value} (x : VRel h st a v) (ha : a.isAgg = false) (hj : a ≠ .junk) : VC h st a [v] := by
  have key : a.isAgg = vIsAgg v ∧ VC h st a v.cells.toList := by cases a <;> first | exact absurd rfl hj | exact x
  rw [cells_one (key.1.symm.trans ha)] at key
  exact key.2

theorem VRel.int_of {h : Heap} {st : Store} {k : IntKind} {n : Int} {v : Value} (x : VRel h st (.int k n) v) : v = .int k n := by
  have := x.single rfl (by simp); simpa [VC] using this
theorem VRel.bool_of {h : Heap} {st : Store} {b : Bool} {v : Value} (x : VRel h st (.bool b) v) : v = .bool b := by
  have := x.single rfl (by simp); simpa [VC] using this
theorem VRel.str_of {h : Heap} {st : Store} {s : ByteArray} {v : Value} (x : VRel h st (.str s) v) : v = .string s ∧ s.size ≤ maxLen := by
  have := x.single rfl (by simp); simpa [VC] using this
theorem VRel.undef_of {h : Heap} {st : Store} {v : Value} (x : VRel h st .undef v) : v = Go.undef := by
  have := x.single rfl (by simp); simpa [VC] using this
theorem VRel.ptr_of {h : Heap} {st : Store} {b off : Nat} {v : Value} (x : VRel h st (.ptr b off) v) : v = .pointer (some ⟨b, off, none⟩) := by
  have := x.single rfl (by simp); simpa [VC] using this
theorem VRel.nilptr_of {h : Heap} {st : Store} {v : Value} (x : VRel h st .nilptr v) : v = .pointer none := by
  have := x.single rfl (by simp); simpa [VC] using this
theorem VRel.map_of {h : Heap} {st : Store} {b : Nat} {v : Value} (x : VRel h st (.map b) v) : v = .map (some b) := by
  have := x.single rfl (by simp); simpa [VC] using this
theorem VRel.nilmap_of {h : Heap} {st : Store} {v : Value} (x : VRel h st .nilmap v) : v = .map none := by
  have := x.single rfl (by simp); simpa [VC] using this
theorem VRel.raw_of {h : Heap} {st : Store} {u v : Value} (x : VRel h st (.raw u) v) (hu : vIsAgg u = false) : v = u := by
  have := x.single rfl (by simp)
  simp only [VC, hu, and_true] at this
  simpa using this
theorem VRel.pptr_of {h : Heap} {st : Store} {e : AV} {v : Value} (x : VRel h st (.pptr e) v) :
    ∃ b off, v = .pointer (some ⟨b, off, none⟩) ∧ st b = none ∧ b < h.size ∧ ∃ vs, cellsAt h b off vs ∧ vs.length = e.width ∧ VC h st e vs := by
  have := x.single rfl (by simp); simpa [VC] using this
theorem VRel.slice_of {h : Heap} {st : Store} {es : List AV} {v : Value} (x : VRel h st (.slice es) v) :
    ((∃ p, v = .slice p 0 0) ∧ es = []) ∨ ∃ b off cap, v = .slice (some ⟨b, off, none⟩) es.length cap ∧ es.length ≤ cap ∧ cap ≤ maxLen ∧ st b = none ∧ b < h.size ∧ Even es ∧ VEs h st b off es := by
  have := x.single rfl (by simp); simpa [VC] using this
theorem VRel.fslice_of {h : Heap} {st : Store} {es : List AV} {v : Value} (x : VRel h st (.fslice es) v) :
    ((∃ p, v = .slice p 0 0) ∧ es = []) ∨ ∃ b off, v = .slice (some ⟨b, off, none⟩) es.length es.length ∧ es.length ≤ maxLen ∧ st b = none ∧ b < h.size ∧ Even es ∧ VEs h st b off es := by
  have := x.single rfl (by simp); simpa [VC] using this
theorem VRel.fslice_slice {h : Heap} {st : Store} {es : List AV} {v : Value} (x : VRel h st (.fslice es) v) : VRel h st (.slice es) v := by
  rcases x.fslice_of with ⟨⟨p, rfl⟩, rfl⟩ | ⟨b, off, rfl, r1, r2⟩
  · exact ⟨rfl, .inl ⟨⟨p, rfl⟩, rfl⟩⟩
  · exact ⟨rfl, .inr ⟨b, off, es.length, rfl, Nat.le_refl _, r1, r2⟩⟩
theorem VRel.mslice_of {h : Heap} {st : Store} {b off len n : Nat} {v : Value} (x : VRel h st (.mslice b off len n) v) :
    ∃ cap, v = .slice (some ⟨b, off, none⟩) len cap ∧ len ≤ cap ∧ cap ≤ maxLen ∧ ∃ c t, h[b]? = some (.cells c t (0, 0)) ∧ off + cap * n ≤ c.size := by
  have := x.single rfl (by simp); simpa [VC] using this
theorem VRel.tup_of {h : Heap} {st : Store} {as : List AV} {v : Value} (x : VRel h st (.tup as) v) : ∃ vs : List Value, v = .tuple vs.toArray ∧ VTs h st as vs := by
  have := x.single rfl (by simp); simpa [VC] using this
theorem VRel.func_of {h : Heap} {st : Store} {g : FuncId} {as : List AV} {v : Value} (x : VRel h st (.func g as) v) : ∃ vs : List Value, v = .func (.func g) #[] vs.toArray ∧ VTs h st as vs := by
  have := x.single rfl (by simp); simpa [VC] using this

theorem VRel.agg_mk {h : Heap} {st : Store} {as : List AV} {vs : List Value} (x : VCs h st as vs) : VRel h st (.agg as) (.agg vs.toArray) :=
  ⟨rfl, by simpa [Value.cells, VC] using x⟩

theorem VRel.agg_of {h : Heap} {st : Store} {as : List AV} {v : Value} (x : VRel h st (.agg as) v) : ∃ vs : List Value, v = .agg vs.toArray ∧ VCs h st as vs := by
  obtain ⟨x1, x2⟩ := x
  cases v <;> simp [AV.isAgg, vIsAgg] at x1
  case agg cs => exact ⟨cs.toList, by simp, by simpa [Value.cells, VC] using x2⟩

theorem VCs.length {h : Heap} {st : Store} : ∀ {as : List AV} {vs : List Value}, VCs h st as vs → vs.length = as.length
  | [], vs, x => by simp only [VCs] at x; simp [x]
  | a :: as, vs, x => by
    simp only [VCs] at x
    obtain ⟨c, r, rfl, _, x2⟩ := x
    simp [VCs.length x2]

theorem VCs.drop {h : Heap} {st : Store} : ∀ {as : List AV} {vs : List Value} (n : Nat), VCs h st as vs → VCs h st (as.drop n) (vs.drop n)
  | as, vs, 0, x => by simpa using x
  | [], vs, n + 1, x => by simp only [VCs] at x; simp [x, VCs]
  | a :: as, vs, n + 1, x => by
    simp only [VCs] at x
    obtain ⟨c, r, rfl, _, x2⟩ := x
    simpa using VCs.drop n x2

theorem VCs.take {h : Heap} {st : Store} : ∀ {as : List AV} {vs : List Value} (n : Nat), VCs h st as vs → VCs h st (as.take n) (vs.take n)
  | as, vs, 0, x => by simp [VCs]
  | [], vs, n + 1, x => by simp only [VCs] at x; simp [x, VCs]
  | a :: as, vs, n + 1, x => by
    simp only [VCs] at x
    obtain ⟨c, r, rfl, x1, x2⟩ := x
    simp only [List.take_succ_cons, VCs]
    exact ⟨c, r.take n, rfl, x1, VCs.take n x2⟩

theorem VCs.get {h : Heap} {st : Store} : ∀ {as : List AV} {vs : List Value} (n : Nat) {a : AV}, VCs h st as vs → as[n]? = some a → ∃ v, vs[n]? = some v ∧ VC h st a [v]
  | [], _, n, a, _, e => by simp at e
  | a' :: as, vs, 0, a, x, e => by
    simp only [VCs] at x
    obtain ⟨c, r, rfl, x1, x2⟩ := x
    simp at e; subst e
    exact ⟨c, rfl, x1⟩
  | a' :: as, vs, n + 1, a, x, e => by
    simp only [VCs] at x
    obtain ⟨c, r, rfl, x1, x2⟩ := x
    simpa using VCs.get n x2 (by simpa using e)

theorem cellsAt.drop {h : Heap} {b : Nat} : ∀ {vs : List Value} {off : Nat} (n : Nat), cellsAt h b off vs → cellsAt h b (off + n) (vs.drop n)
  | vs, off, 0, x => by simpa using x
  | [], off, n + 1, x => by simp [cellsAt]
  | v :: vs, off, n + 1, x => by
    have := cellsAt.drop n x.2
    simpa [Nat.add_assoc, Nat.add_comm 1 n] using this

theorem cellsAt.take {h : Heap} {b : Nat} : ∀ {vs : List Value} {off : Nat} (n : Nat), cellsAt h b off vs → cellsAt h b off (vs.take n)
  | vs, off, 0, x => by simp [cellsAt]
  | [], off, n + 1, x => by simp [cellsAt]
  | v :: vs, off, n + 1, x => ⟨x.1, cellsAt.take n x.2⟩

theorem cellsAt.get {h : Heap} {b : Nat} : ∀ {vs : List Value} {off : Nat} (n : Nat) {v : Value}, cellsAt h b off vs → vs[n]? = some v → cellAt h b (off + n) = some v
  | [], off, n, v, _, e => by simp at e
  | w :: vs, off, 0, v, x, e => by simp at e; subst e; exact x.1
  | w :: vs, off, n + 1, v, x, e => by
    have := cellsAt.get n x.2 (by simpa using e)
    simpa [Nat.add_assoc, Nat.add_comm 1 n] using this

/-- A part of a row of cells: a struct of sz cells, or one cell. -/
theorem VEs.get {h : Heap} {st : Store} {b : Nat} {n : Nat} : ∀ {es : List AV} {off : Nat} (i : Nat) {e : AV}, (∀ x ∈ es, x.width = n) → VEs h st b off es → es[i]? = some e → VE h st b (off + i * n) e
  | [], off, i, e, _, _, g => by simp at g
  | a :: as, off, 0, e, _, x, g => by simp only [VEs] at x; simp at g; subst g; simpa [VE] using x.1
  | a :: as, off, i + 1, e, u, x, g => by
    simp only [VEs] at x
    have := VEs.get (n := n) i (fun x hx => u x (by simp [hx])) x.2 (by simpa using g)
    rw [u a (by simp)] at this
    rwa [show off + (i + 1) * n = off + n + i * n by rw [Nat.succ_mul]; omega]

theorem VEs.drop {h : Heap} {st : Store} {b : Nat} {n : Nat} : ∀ {es : List AV} {off : Nat} (i : Nat), (∀ x ∈ es, x.width = n) → VEs h st b off es → VEs h st b (off + i * n) (es.drop i)
  | es, off, 0, _, x => by simpa using x
  | [], off, i + 1, _, _ => by simp [VEs]
  | a :: as, off, i + 1, u, x => by
    simp only [VEs] at x
    have := VEs.drop (n := n) i (fun x hx => u x (by simp [hx])) x.2
    rw [u a (by simp)] at this
    rw [show off + (i + 1) * n = off + n + i * n by rw [Nat.succ_mul]; omega]
    simpa using this

theorem VEs.take {h : Heap} {st : Store} {b : Nat} : ∀ {es : List AV} {off : Nat} (i : Nat), VEs h st b off es → VEs h st b off (es.take i)
  | es, off, 0, x => by simp [VEs]
  | [], off, i + 1, _ => by simp [VEs]
  | a :: as, off, i + 1, x => by
    simp only [VEs] at x
    simp only [List.take_succ_cons, VEs]
    exact ⟨x.1, VEs.take i x.2⟩

def sub (ag : Bool) (cs : List AV) (off sz : Nat) : Option AV :=
  if ag then (if off + sz ≤ cs.length then some (.agg ((cs.drop off).take sz)) else none)
  else match cs[off]? with
    | some a => if a.isAgg then none else some a
    | none => none

end Go.AW
