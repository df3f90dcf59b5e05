/- The abstract values and the relation between them and a heap: no function of the program is mentioned here. -/
import Derived.WalkKit
import Derived.StillTail
namespace Go.AW

/-- Abstract values. 'eslice': a slice without elements, its capacity unknown; 'slice': what is never written again, as a list; 'fslice': the same, and the capacity is the length (nil included); 'mslice': a window into a block that is owned; 'ptr': into a block that is owned; 'pptr': to memory that is never written again. -/
inductive AV where
  | junk
  | undef
  | int (k : IntKind) (n : Int)
  | bool (b : Bool)
  | str (s : ByteArray)
  | agg (cs : List AV)
  | tup (vs : List AV)
  | slice (es : List AV)
  | fslice (es : List AV)
  | mslice (b off len st : Nat)
  | nilptr
  | ptr (b off : Nat)
  | pptr (e : AV)
  | nilmap
  | map (b : Nat)
  | func (f : FuncId) (caps : List AV)
  | raw (v : Value)
  | eslice
  deriving Inhabited

def AV.isAgg : AV → Bool
  | .agg _ => true
  | _ => false

def AV.width : AV → Nat
  | .agg cs => cs.length
  | _ => 1

def AV.cells : AV → List AV
  | .agg cs => cs
  | a => [a]

/-- All elements are of one width. -/
def Even (es : List AV) : Prop := ∃ n, ∀ e ∈ es, e.width = n

def vIsAgg : Value → Bool
  | .agg _ => true
  | _ => false

/-- What a block that is owned holds. -/
inductive AO where
  | cells (cs : List AV)
  | map (f : Int → Option AV)

abbrev Store := Nat → Option AO

def Store.upd (st : Store) (b : Nat) (o : AO) : Store := fun x => if x = b then some o else st x
def Store.erase (st : Store) (b : Nat) : Store := fun x => if x = b then none else st x

theorem Store.upd_same (st : Store) (b : Nat) (o : AO) : st.upd b o b = some o := by simp [Store.upd]
theorem Store.upd_ne (st : Store) {b x : Nat} (o : AO) (h : x ≠ b) : st.upd b o x = st x := by simp [Store.upd, h]
theorem Store.erase_upd (st : Store) (b : Nat) (o : AO) (h : st b = none) : (st.upd b o).erase b = st := by
  funext x; simp only [Store.upd, Store.erase]; split
  · rename_i e; rw [e, h]
  · rfl
theorem Store.erase_same (st : Store) (b : Nat) : st.erase b b = none := by simp [Store.erase]
theorem Store.upd_comm (st : Store) {b c : Nat} (o p : AO) (h : b ≠ c) : (st.upd b o).upd c p = (st.upd c p).upd b o := by
  funext x; simp only [Store.upd]; split <;> split <;> simp_all

abbrev Heap := Array Obj

def cellAt (h : Heap) (b off : Nat) : Option Value :=
  match h[b]? with
  | some (.cells c _ _) => c[off]?
  | _ => none

def cellsAt (h : Heap) (b : Nat) : Nat → List Value → Prop
  | _, [] => True
  | off, v :: vs => cellAt h b off = some v ∧ cellsAt h b (off + 1) vs

mutual
/-- The abstract value is held by these cells. -/
def VC (h : Heap) (st : Store) : AV → List Value → Prop
  | .junk, cs => cs.length = 1
  | .undef, cs => cs = [undef]
  | .int k n, cs => cs = [.int k n]
  | .bool b, cs => cs = [.bool b]
  | .str s, cs => cs = [.string s] ∧ s.size ≤ maxLen
  | .agg as, cs => VCs h st as cs
  | .tup as, cs => ∃ vs : List Value, cs = [.tuple vs.toArray] ∧ VTs h st as vs
  | .slice es, cs => ((∃ p, cs = [.slice p 0 0]) ∧ es = []) ∨ ∃ b off cap, cs = [.slice (some ⟨b, off, none⟩) es.length cap] ∧ es.length ≤ cap ∧ cap ≤ maxLen ∧ st b = none ∧ b < h.size ∧ Even es ∧ VEs h st b off es
  | .fslice es, cs => ((∃ p, cs = [.slice p 0 0]) ∧ es = []) ∨ ∃ b off, cs = [.slice (some ⟨b, off, none⟩) es.length es.length] ∧ es.length ≤ maxLen ∧ st b = none ∧ b < h.size ∧ Even es ∧ VEs h st b off es
  | .mslice b off len n, cs => ∃ cap, cs = [.slice (some ⟨b, off, none⟩) len cap] ∧ len ≤ cap ∧ cap ≤ maxLen ∧ ∃ c t, h[b]? = some (.cells c t (0, 0)) ∧ off + cap * n ≤ c.size
  | .nilptr, cs => cs = [.pointer none]
  | .ptr b off, cs => cs = [.pointer (some ⟨b, off, none⟩)]
  | .pptr e, cs => ∃ b off, cs = [.pointer (some ⟨b, off, none⟩)] ∧ st b = none ∧ b < h.size ∧ ∃ vs, cellsAt h b off vs ∧ vs.length = e.width ∧ VC h st e vs
  | .nilmap, cs => cs = [.map none]
  | .map b, cs => cs = [.map (some b)]
  | .func f as, cs => ∃ vs : List Value, cs = [.func (.func f) #[] vs.toArray] ∧ VTs h st as vs
  | .raw v, cs => cs = [v] ∧ vIsAgg v = false
  | .eslice, cs => ∃ p c, cs = [.slice p 0 c]
/-- Cell by cell. -/
def VCs (h : Heap) (st : Store) : List AV → List Value → Prop
  | [], cs => cs = []
  | a :: as, cs => ∃ c r, cs = c :: r ∧ VC h st a [c] ∧ VCs h st as r
/-- Value by value. -/
def VTs (h : Heap) (st : Store) : List AV → List Value → Prop
  | [], vs => vs = []
  | a :: as, vs => ∃ v r, vs = v :: r ∧ (a.isAgg = vIsAgg v ∧ VC h st a v.cells.toList) ∧ VTs h st as r
/-- Element behind element in a block. -/
def VEs (h : Heap) (st : Store) (b : Nat) : Nat → List AV → Prop
  | _, [] => True
  | off, a :: as => (∃ cs, cellsAt h b off cs ∧ cs.length = a.width ∧ VC h st a cs) ∧ VEs h st b (off + a.width) as
end

def VE (h : Heap) (st : Store) (b off : Nat) (a : AV) : Prop := ∃ cs, cellsAt h b off cs ∧ cs.length = a.width ∧ VC h st a cs

/-- A value of the machine is what the abstract value says. -/
def VRel (h : Heap) (st : Store) : AV → Value → Prop
  | .junk, _ => True
  | a, v => a.isAgg = vIsAgg v ∧ VC h st a v.cells.toList

/-- From one heap to a later one: what is not owned is as it was, and stays not owned; every block of cells keeps its shape. -/
structure StepH (h : Heap) (st : Store) (h' : Heap) (st' : Store) : Prop where
  size : h.size ≤ h'.size
  keep : ∀ b, b < h.size → st b = none → h'[b]? = h[b]? ∧ st' b = none
  shape : ∀ (b : Nat) c t fr, h[b]? = some (.cells c t fr) → ∃ c', h'[b]? = some (.cells c' t fr) ∧ c'.size = c.size

theorem StepH.refl (h : Heap) (st : Store) : StepH h st h st := ⟨Nat.le_refl _, fun _ _ e => ⟨rfl, e⟩, fun _ c _ _ e => ⟨c, e, rfl⟩⟩

theorem StepH.trans {h h' h'' : Heap} {st st' st'' : Store} (x : StepH h st h' st') (y : StepH h' st' h'' st'') : StepH h st h'' st'' :=
  ⟨Nat.le_trans x.size y.size,
   fun b hb e => let ⟨e1, e2⟩ := x.keep b hb e; let ⟨e3, e4⟩ := y.keep b (Nat.lt_of_lt_of_le hb x.size) e2; ⟨e3.trans e1, e4⟩,
   fun b c t fr e => let ⟨c1, e1, s1⟩ := x.shape b c t fr e; let ⟨c2, e2, s2⟩ := y.shape b c1 t fr e1; ⟨c2, e2, s2.trans s1⟩⟩

theorem cellAt_eq {h h' : Heap} {b : Nat} (e : h'[b]? = h[b]?) (off : Nat) : cellAt h' b off = cellAt h b off := by simp [cellAt, e]

theorem cellsAt_eq {h h' : Heap} {b : Nat} (e : h'[b]? = h[b]?) : ∀ (vs : List Value) (off : Nat), cellsAt h b off vs → cellsAt h' b off vs
  | [], _, _ => trivial
  | _ :: vs, off, x => ⟨(cellAt_eq e off).trans x.1, cellsAt_eq e vs (off + 1) x.2⟩

section
variable {h h' : Heap} {st st' : Store}
mutual
theorem VC.mono (S : StepH h st h' st') : ∀ (a : AV) (cs : List Value), VC h st a cs → VC h' st' a cs
  | .junk, _, x => x
  | .undef, _, x => x
  | .int _ _, _, x => x
  | .bool _, _, x => x
  | .str _, _, x => x
  | .agg as, cs, x => by simp only [VC] at x ⊢; exact VCs.mono S as cs x
  | .tup as, cs, x => by
    simp only [VC] at x ⊢
    obtain ⟨vs, e, r⟩ := x
    exact ⟨vs, e, VTs.mono S as vs r⟩
  | .slice es, cs, x => by
    simp only [VC] at x ⊢
    rcases x with x | ⟨b, off, cap, e, l1, l2, n, l3, ev, r⟩
    · exact .inl x
    · obtain ⟨k1, k2⟩ := S.keep b l3 n
      exact .inr ⟨b, off, cap, e, l1, l2, k2, Nat.lt_of_lt_of_le l3 S.size, ev, VEs.mono S b k1 es off r⟩
  | .fslice es, cs, x => by
    simp only [VC] at x ⊢
    rcases x with x | ⟨b, off, e, l1, n, l3, ev, r⟩
    · exact .inl x
    · obtain ⟨k1, k2⟩ := S.keep b l3 n
      exact .inr ⟨b, off, e, l1, k2, Nat.lt_of_lt_of_le l3 S.size, ev, VEs.mono S b k1 es off r⟩
  | .mslice b off len n, cs, x => by
    simp only [VC] at x ⊢
    obtain ⟨cap, e, l1, l2, c, t, hb, l3⟩ := x
    obtain ⟨c', e', s'⟩ := S.shape b c t _ hb
    exact ⟨cap, e, l1, l2, c', t, e', by omega⟩
  | .nilptr, _, x => x
  | .ptr _ _, _, x => x
  | .pptr e, cs, x => by
    simp only [VC] at x ⊢
    obtain ⟨b, off, e1, n, l, vs, r1, r2, r3⟩ := x
    obtain ⟨k1, k2⟩ := S.keep b l n
    exact ⟨b, off, e1, k2, Nat.lt_of_lt_of_le l S.size, vs, cellsAt_eq k1 vs off r1, r2, VC.mono S e vs r3⟩
  | .nilmap, _, x => x
  | .map _, _, x => x
  | .func _ as, cs, x => by
    simp only [VC] at x ⊢
    obtain ⟨vs, e, r⟩ := x
    exact ⟨vs, e, VTs.mono S as vs r⟩
  | .raw _, _, x => x
  | .eslice, _, x => x
theorem VCs.mono (S : StepH h st h' st') : ∀ (as : List AV) (cs : List Value), VCs h st as cs → VCs h' st' as cs
  | [], _, x => x
  | a :: as, cs, x => by
    simp only [VCs] at x ⊢
    obtain ⟨c, r, e, x1, x2⟩ := x
    exact ⟨c, r, e, VC.mono S a [c] x1, VCs.mono S as r x2⟩
theorem VTs.mono (S : StepH h st h' st') : ∀ (as : List AV) (cs : List Value), VTs h st as cs → VTs h' st' as cs
  | [], _, x => x
  | a :: as, cs, x => by
    simp only [VTs] at x ⊢
    obtain ⟨c, r, e, x1, x2⟩ := x
    exact ⟨c, r, e, ⟨x1.1, VC.mono S a _ x1.2⟩, VTs.mono S as r x2⟩
theorem VEs.mono (S : StepH h st h' st') (b : Nat) (k : h'[b]? = h[b]?) : ∀ (es : List AV) (off : Nat), VEs h st b off es → VEs h' st' b off es
  | [], _, x => x
  | a :: as, off, x => by
    simp only [VEs] at x ⊢
    obtain ⟨⟨cs, x1, x2, x3⟩, x4⟩ := x
    exact ⟨⟨cs, cellsAt_eq k cs off x1, x2, VC.mono S a cs x3⟩, VEs.mono S b k as (off + a.width) x4⟩
end
end

theorem VRel.mono {h h' : Heap} {st st' : Store} (S : StepH h st h' st') {a : AV} {v : Value} (x : VRel h st a v) : VRel h' st' a v := by
  cases a <;> first | trivial | exact ⟨x.1, VC.mono S _ _ x.2⟩

/-- What the store says of one block. -/
def ORel (h : Heap) (st : Store) (b : Nat) : AO → Prop
  | .cells as => ∃ c t, h[b]? = some (.cells c t (0, 0)) ∧ as.length ≤ c.size ∧ ∃ vs, cellsAt h b 0 vs ∧ VCs h st as vs
  | .map f => ∃ es clock, h[b]? = some (.map es clock) ∧ (∀ e ∈ es.toList, ∃ n, e.key = .int .i64 n) ∧ (es.toList.map (·.key)).Nodup ∧
      ∀ n, (match f n with
        | some a => ∃ e ∈ es.toList, e.key = .int .i64 n ∧ VRel h st a e.val
        | none => ∀ e ∈ es.toList, e.key ≠ .int .i64 n)

def SRel (h : Heap) (st : Store) : Prop := ∀ b o, st b = some o → b < h.size ∧ ORel h st b o

end Go.AW

/- Abstract frames; what the operations that leave the owned store alone come to, and that they come to it. -/
namespace Go.AW

abbrev AF := Nat → AV
def AF.bot : AF := fun _ => .junk
def AF.upd (f : AF) (d : Nat) (v : AV) : AF := fun x => if x = d then v else f x
theorem AF.upd_same (f : AF) (d : Nat) (v : AV) : f.upd d v d = v := by simp [AF.upd]
theorem AF.upd_ne (f : AF) {d x : Nat} (v : AV) (h : x ≠ d) : f.upd d v x = f x := by simp [AF.upd, h]
theorem AF.upd_comm (f : AF) {d e : Nat} (v u : AV) (h : d ≠ e) : (f.upd d v).upd e u = (f.upd e u).upd d v := by
  funext x; simp only [AF.upd]; split <;> split <;> simp_all
def AF.put (f : AF) (dst : Option Tmp) (v : AV) : AF := match dst with | some d => f.upd d v | none => f

def ofConst : Value → AV
  | .int k n => .int k n
  | .bool b => .bool b
  | .string s => if s.size ≤ maxLen then .str s else .junk
  | .slice none 0 0 => .fslice []
  | .pointer none => .nilptr
  | .map none => .nilmap
  | .nilIface => .raw .nilIface
  | .nilFunc => .raw .nilFunc
  | .iface t v => .raw (.iface t v)
  | _ => .junk

def AF.eval (f : AF) : Operand → AV
  | .tmp t => f t
  | .const v => ofConst v
  | .global g => .raw (.pointer (some ⟨g, 0, none⟩))
  | .func g => .func g []

def FRel (h : Heap) (st : Store) (tmps : Array Value) (f : AF) : Prop := ∀ d, VRel h st (f d) (tmps.getD d undef)

theorem FRel.mono {h h' : Heap} {st st' : Store} {tmps : Array Value} {f : AF} (S : StepH h st h' st') (x : FRel h st tmps f) : FRel h' st' tmps f := fun d => (x d).mono S

theorem FRel.set {h : Heap} {st : Store} {tmps : Array Value} {f : AF} (x : FRel h st tmps f) {d : Nat} (hd : d < tmps.size) {a : AV} {v : Value} (y : VRel h st a v) : FRel h st (tmps.setIfInBounds d v) (f.upd d a) := by
  intro e
  simp only [AF.upd]
  split
  · rename_i e1; subst e1; simpa [hd] using y
  · rename_i e1
    have := x e
    simpa [Array.getElem?_setIfInBounds_ne (Ne.symm e1)] using this

theorem VRel.const (h : Heap) (st : Store) (v : Value) : VRel h st (ofConst v) v := by
  unfold ofConst
  split <;> try trivial
  case h_3 => split <;> first | trivial | exact ⟨rfl, rfl, by assumption⟩
  all_goals first | exact ⟨rfl, rfl⟩ | exact ⟨rfl, .inl ⟨⟨_, rfl⟩, rfl⟩⟩ | exact ⟨rfl, rfl, rfl⟩

theorem VRel.eval {h : Heap} {st : Store} {a : Act} {f : AF} (x : FRel h st a.tmps f) (o : Operand) : VRel h st (f.eval o) (a.eval o) := by
  cases o with
  | tmp t => exact x t
  | const v => exact VRel.const h st v
  | global g => exact ⟨rfl, rfl, rfl⟩
  | func g => exact ⟨rfl, [], rfl, rfl⟩

theorem VC.one {h : Heap} {st : Store} {e : AV} {cs : List Value} (ha : e.isAgg = false) (x : VC h st e cs) : ∃ c, cs = [c] := by
  cases e <;> simp only [VC] at x
  case junk => match cs, x with | [c], _ => exact ⟨c, rfl⟩
  case undef => exact ⟨_, x⟩
  case int => exact ⟨_, x⟩
  case bool => exact ⟨_, x⟩
  case str => exact ⟨_, x.1⟩
  case agg => simp [AV.isAgg] at ha
  case tup => obtain ⟨vs, x1, _⟩ := x; exact ⟨_, x1⟩
  case slice => rcases x with ⟨⟨p, x1⟩, _⟩ | ⟨b, off, cap, x1, _⟩ <;> exact ⟨_, x1⟩
  case fslice => rcases x with ⟨⟨p, x1⟩, _⟩ | ⟨b, off, x1, _⟩ <;> exact ⟨_, x1⟩
  case mslice => obtain ⟨cap, x1, _⟩ := x; exact ⟨_, x1⟩
  case nilptr => exact ⟨_, x⟩
  case ptr => exact ⟨_, x⟩
  case pptr => obtain ⟨b, off, x1, _⟩ := x; exact ⟨_, x1⟩
  case nilmap => exact ⟨_, x⟩
  case map => exact ⟨_, x⟩
  case func => obtain ⟨vs, x1, _⟩ := x; exact ⟨_, x1⟩
  case raw => exact ⟨_, x.1⟩
  case eslice => obtain ⟨p, c, x1⟩ := x; exact ⟨_, x1⟩

theorem cells_one {v : Value} (h : vIsAgg v = false) : v.cells.toList = [v] := by cases v <;> first | rfl | (simp [vIsAgg] at h)

theorem VRel.single {h : Heap} {st : Store} {a : AV} {v : Value} (x : VRel h st a v) (ha : a.isAgg = false) (hj : a ≠ .junk) : VC h st a [v] := by
  have key : a.isAgg = vIsAgg v ∧ VC h st a v.cells.toList := by cases a <;> first | exact absurd rfl hj | exact x
  rw [cells_one (key.1.symm.trans ha)] at key
  exact key.2

theorem VRel.fslice_of {h : Heap} {st : Store} {es : List AV} {v : Value} (x : VRel h st (.fslice es) v) :
    ((∃ p, v = .slice p 0 0) ∧ es = []) ∨ ∃ b off, v = .slice (some ⟨b, off, none⟩) es.length es.length ∧ es.length ≤ maxLen ∧ st b = none ∧ b < h.size ∧ Even es ∧ VEs h st b off es := by
  have := x.single rfl (by simp); simpa [VC] using this
theorem VRel.fslice_slice {h : Heap} {st : Store} {es : List AV} {v : Value} (x : VRel h st (.fslice es) v) : VRel h st (.slice es) v := by
  rcases x.fslice_of with ⟨⟨p, rfl⟩, rfl⟩ | ⟨b, off, rfl, r1, r2⟩
  · exact ⟨rfl, .inl ⟨⟨p, rfl⟩, rfl⟩⟩
  · exact ⟨rfl, .inr ⟨b, off, es.length, rfl, Nat.le_refl _, r1, r2⟩⟩
theorem VRel.agg_of {h : Heap} {st : Store} {as : List AV} {v : Value} (x : VRel h st (.agg as) v) : ∃ vs : List Value, v = .agg vs.toArray ∧ VCs h st as vs := by
  obtain ⟨x1, x2⟩ := x
  cases v <;> simp [AV.isAgg, vIsAgg] at x1
  case agg cs => exact ⟨cs.toList, by simp, by simpa [Value.cells, VC] using x2⟩

theorem VCs.length {h : Heap} {st : Store} : ∀ {as : List AV} {vs : List Value}, VCs h st as vs → vs.length = as.length
  | [], vs, x => by simp only [VCs] at x; simp [x]
  | a :: as, vs, x => by
    simp only [VCs] at x
    obtain ⟨c, r, rfl, _, x2⟩ := x
    simp [VCs.length x2]

theorem VCs.drop {h : Heap} {st : Store} : ∀ {as : List AV} {vs : List Value} (n : Nat), VCs h st as vs → VCs h st (as.drop n) (vs.drop n)
  | as, vs, 0, x => by simpa using x
  | [], vs, n + 1, x => by simp only [VCs] at x; simp [x, VCs]
  | a :: as, vs, n + 1, x => by
    simp only [VCs] at x
    obtain ⟨c, r, rfl, _, x2⟩ := x
    simpa using VCs.drop n x2

theorem VCs.take {h : Heap} {st : Store} : ∀ {as : List AV} {vs : List Value} (n : Nat), VCs h st as vs → VCs h st (as.take n) (vs.take n)
  | as, vs, 0, x => by simp [VCs]
  | [], vs, n + 1, x => by simp only [VCs] at x; simp [x, VCs]
  | a :: as, vs, n + 1, x => by
    simp only [VCs] at x
    obtain ⟨c, r, rfl, x1, x2⟩ := x
    simp only [List.take_succ_cons, VCs]
    exact ⟨c, r.take n, rfl, x1, VCs.take n x2⟩

theorem VCs.get {h : Heap} {st : Store} : ∀ {as : List AV} {vs : List Value} (n : Nat) {a : AV}, VCs h st as vs → as[n]? = some a → ∃ v, vs[n]? = some v ∧ VC h st a [v]
  | [], _, n, a, _, e => by simp at e
  | a' :: as, vs, 0, a, x, e => by
    simp only [VCs] at x
    obtain ⟨c, r, rfl, x1, x2⟩ := x
    simp at e; subst e
    exact ⟨c, rfl, x1⟩
  | a' :: as, vs, n + 1, a, x, e => by
    simp only [VCs] at x
    obtain ⟨c, r, rfl, x1, x2⟩ := x
    simpa using VCs.get n x2 (by simpa using e)

theorem cellsAt.drop {h : Heap} {b : Nat} : ∀ {vs : List Value} {off : Nat} (n : Nat), cellsAt h b off vs → cellsAt h b (off + n) (vs.drop n)
  | vs, off, 0, x => by simpa using x
  | [], off, n + 1, x => by simp [cellsAt]
  | v :: vs, off, n + 1, x => by
    have := cellsAt.drop n x.2
    simpa [Nat.add_assoc, Nat.add_comm 1 n] using this

theorem cellsAt.take {h : Heap} {b : Nat} : ∀ {vs : List Value} {off : Nat} (n : Nat), cellsAt h b off vs → cellsAt h b off (vs.take n)
  | vs, off, 0, x => by simp [cellsAt]
  | [], off, n + 1, x => by simp [cellsAt]
  | v :: vs, off, n + 1, x => ⟨x.1, cellsAt.take n x.2⟩

theorem cellsAt.get {h : Heap} {b : Nat} : ∀ {vs : List Value} {off : Nat} (n : Nat) {v : Value}, cellsAt h b off vs → vs[n]? = some v → cellAt h b (off + n) = some v
  | [], off, n, v, _, e => by simp at e
  | w :: vs, off, 0, v, x, e => by simp at e; subst e; exact x.1
  | w :: vs, off, n + 1, v, x, e => by
    have := cellsAt.get n x.2 (by simpa using e)
    simpa [Nat.add_assoc, Nat.add_comm 1 n] using this

/-- A part of a row of cells: a struct of sz cells, or one cell. -/
theorem VEs.get {h : Heap} {st : Store} {b : Nat} {n : Nat} : ∀ {es : List AV} {off : Nat} (i : Nat) {e : AV}, (∀ x ∈ es, x.width = n) → VEs h st b off es → es[i]? = some e → VE h st b (off + i * n) e
  | [], off, i, e, _, _, g => by simp at g
  | a :: as, off, 0, e, _, x, g => by simp only [VEs] at x; simp at g; subst g; simpa [VE] using x.1
  | a :: as, off, i + 1, e, u, x, g => by
    simp only [VEs] at x
    have := VEs.get (n := n) i (fun x hx => u x (by simp [hx])) x.2 (by simpa using g)
    rw [u a (by simp)] at this
    rwa [show off + (i + 1) * n = off + n + i * n by rw [Nat.succ_mul]; omega]

theorem VEs.drop {h : Heap} {st : Store} {b : Nat} {n : Nat} : ∀ {es : List AV} {off : Nat} (i : Nat), (∀ x ∈ es, x.width = n) → VEs h st b off es → VEs h st b (off + i * n) (es.drop i)
  | es, off, 0, _, x => by simpa using x
  | [], off, i + 1, _, _ => by simp [VEs]
  | a :: as, off, i + 1, u, x => by
    simp only [VEs] at x
    have := VEs.drop (n := n) i (fun x hx => u x (by simp [hx])) x.2
    rw [u a (by simp)] at this
    rw [show off + (i + 1) * n = off + n + i * n by rw [Nat.succ_mul]; omega]
    simpa using this

theorem VEs.take {h : Heap} {st : Store} {b : Nat} : ∀ {es : List AV} {off : Nat} (i : Nat), VEs h st b off es → VEs h st b off (es.take i)
  | es, off, 0, x => by simp [VEs]
  | [], off, i + 1, _ => by simp [VEs]
  | a :: as, off, i + 1, x => by
    simp only [VEs] at x
    simp only [List.take_succ_cons, VEs]
    exact ⟨x.1, VEs.take i x.2⟩

def sub (ag : Bool) (cs : List AV) (off sz : Nat) : Option AV :=
  if ag then (if off + sz ≤ cs.length then some (.agg ((cs.drop off).take sz)) else none)
  else match cs[off]? with
    | some a => if a.isAgg then none else some a
    | none => none

end Go.AW

/- The operations that leave the owned store alone: what each comes to. -/
namespace Go.AW

/-- The rest of the world. -/
def Same (w w' : World) : Prop := w'.os = w.os ∧ w'.tape = w.tape ∧ w'.output = w.output
theorem Same.refl (w : World) : Same w w := ⟨rfl, rfl, rfl⟩
theorem Same.trans {a b c : World} (x : Same a b) (y : Same b c) : Same a c := ⟨y.1.trans x.1, y.2.1.trans x.2.1, y.2.2.trans x.2.2⟩

structure Ext (h h' : Heap) : Prop where
  size : h.size ≤ h'.size
  keep : ∀ b, b < h.size → h'[b]? = h[b]?
theorem Ext.refl (h : Heap) : Ext h h := ⟨Nat.le_refl _, fun _ _ => rfl⟩
theorem Ext.push (h : Heap) (o : Obj) : Ext h (h.push o) := ⟨by simp, fun b hb => by rw [Array.getElem?_push, if_neg (by omega)]⟩
theorem Ext.step {h h' : Heap} (x : Ext h h') (st : Store) : StepH h st h' st :=
  ⟨x.size, fun b hb e => ⟨x.keep b hb, e⟩, fun b c t fr e => ⟨c, by
    have hb : b < h.size := by
      rcases Nat.lt_or_ge b h.size with h' | h'
      · exact h'
      · simp [Array.getElem?_eq_none h'] at e
    rw [x.keep b hb]; exact e, rfl⟩⟩

theorem ORel.mono {h h' : Heap} {st st' : Store} (S : StepH h st h' st') {b : Nat} (k : h'[b]? = h[b]?) : ∀ {o : AO}, ORel h st b o → ORel h' st' b o
  | .cells as, x => by
    obtain ⟨c, t, e, l, vs, x1, x2⟩ := x
    exact ⟨c, t, k.trans e, l, vs, cellsAt_eq k vs 0 x1, VCs.mono S as vs x2⟩
  | .map f, x => by
    obtain ⟨es, cl, e, x1, x2, x3⟩ := x
    refine ⟨es, cl, k.trans e, x1, x2, fun n => ?_⟩
    have := x3 n
    split
    · rename_i a ha
      rw [ha] at this
      obtain ⟨e, he, hk, hv⟩ := this
      exact ⟨e, he, hk, hv.mono S⟩
    · rename_i ha
      rw [ha] at this
      exact this

/-- The operation yields a value that the abstract value says, and nothing that was there turns. -/
def Yld (st : Store) (w : World) (r : AV) (x : Result Next) : Prop :=
  ∃ v w', x = .ok (.value v) w' ∧ VRel w'.heap st r v ∧ Ext w.heap w'.heap ∧ Same w w'

theorem Yld.same {st : Store} {w : World} {r : AV} {x : Result Next} {v : Value} (e : x = .ok (.value v) w) (y : VRel w.heap st r v) : Yld st w r x :=
  ⟨v, w, e, y, Ext.refl _, Same.refl _⟩

def dAgg : TypeDesc → Bool
  | .struct _ => true
  | .array _ _ => true
  | _ => false
/-- Is the type a struct or an array; how many cells. -/
def tI (P : Program) (t : TypeId) : Option (Bool × Nat) :=
  match P.underlying t, P.info? t with
  | some d, some i => some (dAgg d, i.size)
  | _, _ => none
def fI (P : Program) (t : TypeId) (f : Nat) : Option (Nat × Bool × Nat) :=
  match P.underlying t with
  | some (.struct fs) =>
    match fs[f]? with
    | some fd => match tI P fd.type with
      | some (ag, sz) => if sz = 0 then none else some (fd.offset, ag, sz)
      | none => none
    | none => none
  | _ => none
def eI (P : Program) (t : TypeId) : Option (Bool × Nat) :=
  match P.underlying t with
  | some (.slice e) => tI P e
  | _ => none
def aI (P : Program) (t : TypeId) : Option (Nat × Bool × Nat) :=
  match P.underlying t with
  | some (.array n e) => (tI P e).map fun x => (n, x)
  | _ => none

/-! ### The reckoning -/
def aXor (k : IntKind) (a b : Int) : Int := k.wrap ((BitVec.ofInt k.bits a ^^^ BitVec.ofInt k.bits b).toNat)
def aAnd (k : IntKind) (a b : Int) : Int := k.wrap ((BitVec.ofInt k.bits a &&& BitVec.ofInt k.bits b).toNat)
def aOr (k : IntKind) (a b : Int) : Int := k.wrap ((BitVec.ofInt k.bits a ||| BitVec.ofInt k.bits b).toNat)
def aBin (op : BinOp) : AV → AV → Option AV
  | .int k a, .int k' b =>
    if k ≠ k' then none else match op with
    | .add => some (.int k (k.wrap (a + b)))
    | .sub => some (.int k (k.wrap (a - b)))
    | .mul => some (.int k (k.wrap (a * b)))
    | .quo => if b = 0 then none else some (.int k (k.wrap (a.tdiv b)))
    | .rem => if b = 0 then none else some (.int k (a.tmod b))
    | .eql => some (.bool (decide (a = b)))
    | .neq => some (.bool (!decide (a = b)))
    | .lss => some (.bool (decide (a < b)))
    | .leq => some (.bool (decide (a ≤ b)))
    | .gtr => some (.bool (decide (b < a)))
    | .geq => some (.bool (decide (b ≤ a)))
    | .xor => some (.int k (aXor k a b))
    | .and => some (.int k (aAnd k a b))
    | .or => some (.int k (aOr k a b))
    | _ => none
  | .str a, .str b => match op with
    | .eql => some (.bool (decide (a = b)))
    | .neq => some (.bool (!decide (a = b)))
    | .lss => some (.bool (Op.bytesLess a.toList b.toList))
    | .gtr => some (.bool (!(Op.bytesLess a.toList b.toList || decide (a = b))))
    | .add => if a.size + b.size ≤ maxLen then some (.str (a ++ b)) else none
    | _ => none
  | _, _ => none

def aUn (op : UnOp) : AV → Option AV
  | .bool b => match op with | .not => some (.bool (!b)) | _ => none
  | .int k n => match op with | .neg => some (.int k (k.wrap (0 - n))) | _ => none
  | _ => none

def aBnd (φ : AF) (x : Option Operand) (dflt most : Nat) : Option Nat :=
  match x with
  | none => some dflt
  | some y => match φ.eval y with
    | .int _ n => if 0 ≤ n ∧ n ≤ most then some n.toNat else none
    | _ => none

def aField (P : Program) (t f : Nat) : AV → Option AV
  | .ptr b o => (fI P t f).map fun x => .ptr b (o + x.1)
  | .pptr (.agg cs) => match fI P t f with
    | some (off, ag, sz) => (sub ag cs off sz).map .pptr
    | none => none
  | _ => none

def aLoad (P : Program) (st : Store) (t : TypeId) : AV → Option AV
  | .pptr e => match tI P t with
    | some (ag, sz) => if e.isAgg = ag ∧ e.width = sz then some e else none
    | none => none
  | .ptr b o => match tI P t, st b with
    | some (ag, sz), some (.cells cs) => if ag = false ∧ sz ≠ 1 then none else sub ag cs o sz
    | _, _ => none
  | _ => none

def aIndexAddr (P : Program) (t : TypeId) : AV → AV → Option AV
  | .slice es, .int _ n | .fslice es, .int _ n => match eI P t with
    | some (_, sz) => if 0 ≤ n then (match es[n.toNat]? with
      | some e => if e.width = sz then some (.pptr e) else none
      | none => none) else none
    | none => none
  | .mslice b off len m, .int _ n => match eI P t with
    | some (_, sz) => if 0 ≤ n ∧ n < len ∧ m = sz then some (.ptr b (off + n.toNat * sz)) else none
    | none => none
  | .ptr b off, .int _ n => match aI P t with
    | some (len, _, sz) => if 0 ≤ n ∧ n < len then some (.ptr b (off + n.toNat * sz)) else none
    | none => none
  | _, _ => none

def aIndex (P : Program) (t : TypeId) : AV → AV → Option AV
  | .str s, .int _ n => match P.underlying t with
    | some .string => if 0 ≤ n then (match s[n.toNat]? with | some b => some (.int .u8 b.toNat) | none => none) else none
    | _ => none
  | .agg cs, .int _ n => match aI P t with
    | some (len, ag, sz) => if 0 ≤ n ∧ n < len then sub ag cs (n.toNat * sz) sz else none
    | none => none
  | _, _ => none

section
variable {P : Program} {st : Store} {w : World} {a : Act} {φ : AF}

end
end Go.AW

/- More of the operations that leave the owned store alone: slices, composites, conversions, lookups. -/
namespace Go.AW

def aBound (φ : AF) (x : Option Operand) (dflt most : Nat) : Option Nat :=
  match x with
  | none => some dflt
  | some y => match φ.eval y with
    | .int _ n => if 0 ≤ n ∧ n ≤ most then some n.toNat else none
    | _ => none

def widthOk (es : List AV) (l sz : Nat) : Bool := match es[l]? with | some e => e.width == sz | none => true

def isF0 : AV → Bool
  | .fslice [] => true
  | _ => false

/-- 'x[lo:hi:mx]' -/
def aSlice0 (P : Program) (φ : AF) (t : TypeId) (x : AV) (lo hi mx : Option Operand) : Option AV :=
  match x with
  | .str s => match P.underlying t, mx with
    | some .string, none => match aBound φ hi s.size s.size with
      | some h => match aBound φ lo 0 h with
        | some l => some (.str (s.extract l h))
        | none => none
      | none => none
    | _, _ => none
  | .slice es | .fslice es => match eI P t with
    | some (_, sz) => if mx.isSome ∧ hi.isNone then none else match aBound φ mx es.length es.length with
      | some m => match aBound φ hi es.length m with
        | some h => match aBound φ lo 0 h with
          | some l => if l = 0 ∨ widthOk es l sz = true then
              some (if mx.isSome ∧ m = h then .fslice ((es.take h).drop l) else .slice ((es.take h).drop l)) else none
          | none => none
        | none => none
      | none => none
    | none => none
  | .mslice b off len n => match eI P t, mx with
    | some (_, sz), none => match aBound φ hi len len with
      | some h => match aBound φ lo 0 h with
        | some l => if n = sz then (if l = 0 then some (.mslice b off h n) else if l < h then some (.mslice b (off + l * n) (h - l) n) else some .eslice) else none
        | none => none
      | none => none
    | _, _ => none
  | _ => none

def aSlice (P : Program) (φ : AF) (t : TypeId) (x : AV) (lo hi mx : Option Operand) : Option AV :=
  if isF0 x = true ∧ mx.isNone = true then match eI P t with
    | some _ => match aBound φ hi 0 0 with
      | some h => match aBound φ lo 0 h with
        | some _ => some (.fslice [])
        | none => none
      | none => none
    | none => none
  else aSlice0 P φ t x lo hi mx

section
variable {P : Program} {st : Store} {w : World} {a : Act} {φ : AF}

end
end Go.AW

/- More of the operations that leave the owned store alone: composites, boxes, tuples, lengths; all of them under one name. -/
namespace Go.AW

/-! ### Composites -/
def bI (P : Program) (t : TypeId) : Option (List (Nat × Nat)) :=
  match P.underlying t with
  | some (.struct fs) => fs.toList.mapM fun f => (P.info? f.type).map fun i => (f.offset, i.size)
  | _ => none
def zI (P : Program) (t : TypeId) : Option (List AV) :=
  match P.info? t with
  | some i => match i.zero with
    | some z => some (z.cells.toList.map ofConst)
    | none => none
  | none => none

def AV.isJunk : AV → Bool
  | .junk => true
  | _ => false

def PRel (h : Heap) (st : Store) : List (Nat × AV) → List (Nat × Value) → Prop
  | [], qs => qs = []
  | p :: ps, qs => ∃ q r, qs = q :: r ∧ (p.1 = q.1 ∧ VRel h st p.2 q.2) ∧ PRel h st ps r

def aFill (place : Nat → Option (Nat × Nat)) (cells : List AV) : List (Nat × AV) → Option (List AV)
  | [] => some cells
  | (i, v) :: rest =>
    match place i with
    | none => none
    | some (off, size) =>
      if v.cells.length ≠ size ∨ off + size > cells.length ∨ v.isJunk = true then none
      else aFill place (cells.take off ++ v.cells ++ cells.drop (off + size)) rest

theorem VCs.append {h : Heap} {st : Store} : ∀ {as bs : List AV} {vs us : List Value}, VCs h st as vs → VCs h st bs us → VCs h st (as ++ bs) (vs ++ us)
  | [], _, vs, us, x, y => by simp only [VCs] at x; subst x; simpa using y
  | a :: as, _, vs, us, x, y => by
    simp only [VCs] at x
    obtain ⟨c, r, rfl, x1, x2⟩ := x
    simp only [List.cons_append, VCs]
    exact ⟨c, r ++ us, rfl, x1, VCs.append x2 y⟩

theorem VRel.cells {h : Heap} {st : Store} {a : AV} {v : Value} (x : VRel h st a v) (hj : a ≠ .junk) : VCs h st a.cells v.cells.toList := by
  by_cases ha : a.isAgg = true
  · cases a <;> simp [AV.isAgg] at ha
    obtain ⟨vs, rfl, hc⟩ := x.agg_of
    simpa [AV.cells, Value.cells] using hc
  · have ha' : a.isAgg = false := by simpa using ha
    have h1 := x.single ha' hj
    have h2 : a.isAgg = vIsAgg v := by cases a <;> first | exact absurd rfl hj | exact x.1
    rw [cells_one (h2.symm.trans ha')]
    have h3 : a.cells = [a] := by cases a <;> first | rfl | (simp [AV.isAgg] at ha')
    rw [h3]
    simp only [VCs]
    exact ⟨v, [], rfl, h1, rfl⟩

theorem VC.const (h : Heap) (st : Store) (c : Value) : VC h st (ofConst c) [c] := by
  have x := VRel.const h st c
  have ha : (ofConst c).isAgg = false := by unfold ofConst; split <;> first | rfl | (split <;> rfl)
  by_cases hj : ofConst c = .junk
  · rw [hj]; simp [VC]
  · exact x.single ha hj

def aParts (φ : AF) (parts : Array (Nat × Operand)) : List (Nat × AV) := parts.toList.map fun p => (p.1, φ.eval p.2)

theorem PRel.parts {h : Heap} {st : Store} {a : Act} {φ : AF} (F : FRel h st a.tmps φ) : ∀ (l : List (Nat × Operand)), PRel h st (l.map fun p => (p.1, φ.eval p.2)) (l.map fun p => (p.1, a.eval p.2))
  | [] => by simp [PRel]
  | p :: l => by simp only [List.map_cons, PRel]; exact ⟨_, _, rfl, ⟨rfl, VRel.eval F p.2⟩, PRel.parts F l⟩

def aBuild (P : Program) (φ : AF) (t : TypeId) (parts : Array (Nat × Operand)) : Option AV :=
  match bI P t, zI P t with
  | some places, some zs => (aFill (fun i => places[i]?) zs (aParts φ parts)).map .agg
  | _, _ => none

theorem VEs_of_flat {h : Heap} {st : Store} {b : Nat} : ∀ {es : List AV} {off : Nat} {vs : List Value}, (∀ e ∈ es, e.isJunk = false) → cellsAt h b off vs → VCs h st (es.flatMap AV.cells) vs → VEs h st b off es
  | [], _, _, _, _, _ => by simp [VEs]
  | e :: es, off, vs, hj, x, y => by
    have hl := y.length
    have hc : e.cells.length = e.width := by cases e <;> rfl
    have y1 := y.take e.width
    have y2 := y.drop e.width
    rw [List.flatMap_cons, List.take_append_of_le_length (by omega), List.take_of_length_le (by omega)] at y1
    rw [List.flatMap_cons, List.drop_append_of_le_length (by omega), List.drop_eq_nil_of_le (by omega), List.nil_append] at y2
    simp only [VEs]
    refine ⟨⟨vs.take e.width, x.take e.width, ?_, ?_⟩, VEs_of_flat (fun q hq => hj q (by simp [hq])) (x.drop e.width) y2⟩
    · rw [y1.length, hc]
    · cases e
      case agg cs => simpa [VC, AV.cells] using y1
      case junk => have := hj .junk (by simp); simp [AV.isJunk] at this
      all_goals
        simp only [AV.cells, VCs] at y1
        obtain ⟨c, r, e1, e2, e3⟩ := y1
        rw [e1, e3]
        exact e2

theorem VCs.junk (h : Heap) (st : Store) : ∀ (vs : List Value), VCs h st (List.replicate vs.length .junk) vs
  | [] => by simp [VCs]
  | v :: vs => by simp only [List.length_cons, List.replicate_succ, VCs]; exact ⟨v, vs, rfl, by simp [VC], VCs.junk h st vs⟩

def seqParts (ps : List (Nat × AV)) : Bool := ps.map (·.1) == List.range' 0 ps.length
def fitAll (ps : List AV) (ag : Bool) (sz : Nat) : Bool := ps.all fun p => p.width == sz && p.isAgg == ag && !p.isJunk

def eZ (P : Program) (t : TypeId) : Option (List AV) :=
  match P.underlying t with
  | some (.slice e) => zI P e
  | _ => none

def aBuildSlice (P : Program) (φ : AF) (t : TypeId) (len : Nat) (parts : Array (Nat × Operand)) : Option AV :=
  match eI P t with
  | some (ag, sz) =>
    if seqParts (aParts φ parts) = true ∧ fitAll ((aParts φ parts).map (·.2)) ag sz = true ∧ len = parts.size ∧ len * sz ≤ 16777216 ∧ len ≤ 16777216 ∧ (eZ P t).isSome = true then some (.fslice ((aParts φ parts).map (·.2))) else none
  | none => none

end Go.AW

/- The last of the operations that leave the owned store alone; all of them under one name. -/
namespace Go.AW

theorem VRel.of_pair {h : Heap} {st : Store} {a : AV} {v : Value} (x : a.isAgg = vIsAgg v ∧ VC h st a v.cells.toList) : VRel h st a v := by
  cases a <;> first | trivial | exact x

theorem VTs.get {h : Heap} {st : Store} : ∀ {as : List AV} {vs : List Value} (n : Nat) {a : AV}, VTs h st as vs → as[n]? = some a → ∃ v, vs[n]? = some v ∧ VRel h st a v
  | [], _, n, a, _, e => by simp at e
  | a' :: as, vs, 0, a, x, e => by
    simp only [VTs] at x
    obtain ⟨c, r, rfl, x1, x2⟩ := x
    simp at e; subst e
    exact ⟨c, rfl, VRel.of_pair x1⟩
  | a' :: as, vs, n + 1, a, x, e => by
    simp only [VTs] at x
    obtain ⟨c, r, rfl, x1, x2⟩ := x
    simpa using VTs.get n x2 (by simpa using e)

theorem VRel.pair {h : Heap} {st : Store} {a : AV} {v : Value} (x : VRel h st a v) (hj : a.isJunk = false) : a.isAgg = vIsAgg v ∧ VC h st a v.cells.toList := by
  cases a <;> first | exact x | (simp [AV.isJunk] at hj)

def noJunk (as : List AV) : Bool := as.all fun a => !a.isJunk

theorem VTs.mk {h : Heap} {st : Store} {a : Act} {φ : AF} (F : FRel h st a.tmps φ) : ∀ (l : List Operand), noJunk (l.map φ.eval) = true → VTs h st (l.map φ.eval) (l.map a.eval)
  | [], _ => by simp [VTs]
  | o :: l, hj => by
    simp [noJunk] at hj
    simp only [List.map_cons, VTs]
    exact ⟨_, _, rfl, (VRel.eval F o).pair hj.1, VTs.mk F l (by simp [noJunk]; exact hj.2)⟩

/-- The box of a value that is never written again. -/
def aBox (P : Program) (t : TypeId) (x : AV) : Option AV :=
  match tI P t with
  | some (_, _) => if x.isJunk then none else some (.pptr x)
  | none => none

def aLen (P : Program) (t : TypeId) : AV → Option AV
  | .str s => match P.underlying t with | some .string => some (.int .i64 s.size) | _ => none
  | .slice es | .fslice es => match P.underlying t with | some (.slice _) => some (.int .i64 es.length) | _ => none
  | .mslice _ _ len _ => match P.underlying t with | some (.slice _) => some (.int .i64 len) | _ => none
  | .eslice => match P.underlying t with | some (.slice _) => some (.int .i64 ((0 : Nat) : Int)) | _ => none
  | _ => none

def bytesOf : List AV → Option (List UInt8)
  | [] => some []
  | .int .u8 n :: r => (bytesOf r).map (UInt8.ofNat n.toNat :: ·)
  | _ => none

def aConvert (P : Program) (src dst : TypeId) : AV → Option AV
  | .int _ n => match P.underlying src, P.underlying dst with
    | some _, some (.int k) => some (.int k (k.wrap n))
    | _, _ => none
  | .slice es | .fslice es => match P.underlying src, P.underlying dst with
    | some (.slice e), some .string => match P.underlying e with
      | some (.int .u8) => match bytesOf es with
        | some bs => some (.str ⟨bs.toArray⟩)
        | none => none
      | _ => none
    | _, _ => none
  | _ => none

def ofConstV : Value → AV
  | .agg cs => .agg (cs.toList.map ofConst)
  | v => ofConst v
def zV (P : Program) (t : TypeId) : Option AV :=
  match P.info? t with
  | some i => i.zero.map ofConstV
  | none => none

def aLookup (P : Program) (st : Store) (t : TypeId) (ok : Bool) : AV → AV → Option AV
  | .map b, .int .i64 n => match st b, P.underlying t with
    | some (.map f), some (.map k e) => match P.underlying k, f n with
      | some (.int .i64), some v => if v.isJunk then none else some (if ok then .tup [v, .bool true] else v)
      | some (.int .i64), none => match zV P e with
        | some z => if z.isJunk then none else some (if ok then .tup [z, .bool false] else z)
        | none => none
      | _, _ => none
    | _, _ => none
  | _, _ => none

section
variable {P : Program} {st : Store} {w : World} {a : Act} {φ : AF}

end

/-- A comparison of Booleans, or what 'aBin' says. -/
def aBinT (P : Program) (op : BinOp) (t : TypeId) (x y : AV) : Option AV :=
  match x, y with
  | .bool a, .bool b => match P.underlying t, op with
    | some .bool, .eql => some (.bool (a == b))
    | some .bool, .neq => some (.bool (!(a == b)))
    | _, _ => none
  | x, y => aBin op x y
/-- What an operation that leaves the owned store alone comes to. -/
def aVal (P : Program) (φ : AF) (st : Store) (o : Oper) : Option AV :=
  match o.op with
  | .move x => some (φ.eval x)
  | .assign x => some (φ.eval x)
  | .pick c x y => match φ.eval c with | .bool b => some (if b then φ.eval x else φ.eval y) | _ => none
  | .binOp op t x y _ => aBinT P op t (φ.eval x) (φ.eval y)
  | .unOp op _ x => aUn op (φ.eval x)
  | .nilCheck x => match φ.eval x with | .ptr b q => some (.ptr b q) | .pptr e => some (.pptr e) | _ => none
  | .fieldAddr t x f => aField P t f (φ.eval x)
  | .load t x => aLoad P st t (φ.eval x)
  | .field t x f => match fI P t f, φ.eval x with | some (off, ag, sz), .agg cs => sub ag cs off sz | _, _ => none
  | .indexAddr t x i => aIndexAddr P t (φ.eval x) (φ.eval i)
  | .index t x i => aIndex P t (φ.eval x) (φ.eval i)
  | .slice t x lo hi mx => aSlice P φ t (φ.eval x) lo hi mx
  | .extract x i => match φ.eval x with | .tup vs => vs[i]? | _ => none
  | .makeFunc (.func g) first caps => if first.size = 0 ∧ noJunk (caps.toList.map φ.eval) = true then some (.func g (caps.toList.map φ.eval)) else none
  | .build t parts => aBuild P φ t parts
  | .buildSlice t len parts => aBuildSlice P φ t len parts
  | .convert src dst x => aConvert P src dst (φ.eval x)
  | .box t x => aBox P t (φ.eval x)
  | .lookup t x i ok => aLookup P st t ok (φ.eval x) (φ.eval i)
  | .call { callee := .builtin .len, args, argTypes } => match args.toList, argTypes.toList with | [x], [t] => aLen P t (φ.eval x) | _, _ => none
  | _ => none

end Go.AW

/- Calls, stores, new objects: what each operation comes to with the owned store; lists of operations; code. -/
namespace Go.AW

/-! ### Writing and allocating -/
theorem StepH.of_write {h h' : Heap} {st : Store} {b : Nat} {o : AO} (hb : st b ≠ none) (hs : h.size ≤ h'.size) (k : ∀ x, x < h.size → x ≠ b → h'[x]? = h[x]?)
    (sh : ∀ c t fr, h[b]? = some (.cells c t fr) → ∃ c', h'[b]? = some (.cells c' t fr) ∧ c'.size = c.size) : StepH h st h' (st.upd b o) := by
  refine ⟨hs, fun x hx e => ?_, fun x c t fr e => ?_⟩
  · have hne : x ≠ b := fun q => hb (q ▸ e)
    exact ⟨k x hx hne, by rw [Store.upd_ne _ _ hne]; exact e⟩
  · by_cases hne : x = b
    · subst hne; exact sh c t fr e
    · have hx : x < h.size := by
        rcases Nat.lt_or_ge x h.size with h1 | h1
        · exact h1
        · simp [Array.getElem?_eq_none h1] at e
      exact ⟨c, by rw [k x hx hne]; exact e, rfl⟩

theorem SRel.of_write {h h' : Heap} {st : Store} {b : Nat} {o : AO} (S : SRel h st) (T : StepH h st h' (st.upd b o)) (hb : b < h'.size) (k : ∀ x, x < h.size → x ≠ b → h'[x]? = h[x]?) (ho : ORel h' (st.upd b o) b o) :
    SRel h' (st.upd b o) := by
  intro x p e
  by_cases hne : x = b
  · subst hne
    rw [Store.upd_same] at e; cases e
    exact ⟨hb, ho⟩
  · rw [Store.upd_ne _ _ hne] at e
    obtain ⟨l, r⟩ := S x p e
    exact ⟨Nat.lt_of_lt_of_le l T.size, ORel.mono T (k x l hne) r⟩

theorem StepH.of_alloc (h : Heap) (st : Store) (o : Obj) (p : AO) : StepH h st (h.push o) (st.upd h.size p) := by
  have E := Ext.push h o
  refine ⟨E.size, fun x hx e => ⟨E.keep x hx, by rw [Store.upd_ne _ _ (by omega)]; exact e⟩, (E.step st).shape⟩

theorem SRel.fresh {h : Heap} {st : Store} (S : SRel h st) : st h.size = none := by
  cases e : st h.size with
  | none => rfl
  | some o => exact absurd (S _ _ e).1 (Nat.lt_irrefl _)

theorem SRel.of_alloc {h : Heap} {st : Store} {o : Obj} {p : AO} (S : SRel h st) (ho : ORel (h.push o) (st.upd h.size p) h.size p) : SRel (h.push o) (st.upd h.size p) :=
  S.of_write (StepH.of_alloc h st o p) (by simp) (fun x hx _ => (Ext.push h o).keep x hx) ho

/-! ### Calls -/
/-- The program has this function, with a body. -/
def Enters (P : Program) (g : FuncId) : Prop := ∃ fn, P.funcs[g]? = some fn ∧ fn.body.isSome = true ∧ (fn.name == "runtime.NumGoroutine") = false

def VRelL (h : Heap) (st : Store) : List AV → List Value → Prop
  | [], vs => vs = []
  | a :: as, vs => ∃ v r, vs = v :: r ∧ VRel h st a v ∧ VRelL h st as r

theorem VRelL.eval {h : Heap} {st : Store} {a : Act} {φ : AF} (F : FRel h st a.tmps φ) : ∀ (l : List Operand), VRelL h st (l.map φ.eval) (l.map a.eval)
  | [] => by simp [VRelL]
  | o :: l => by simp only [List.map_cons, VRelL]; exact ⟨_, _, rfl, VRel.eval F o, VRelL.eval F l⟩

theorem VRelL.append {h : Heap} {st : Store} : ∀ {as bs : List AV} {vs us : List Value}, VRelL h st as vs → VRelL h st bs us → VRelL h st (as ++ bs) (vs ++ us)
  | [], _, vs, us, x, y => by simp only [VRelL] at x; subst x; simpa using y
  | a :: as, _, vs, us, x, y => by
    simp only [VRelL] at x
    obtain ⟨c, r, rfl, x1, x2⟩ := x
    simp only [List.cons_append, VRelL]
    exact ⟨c, r ++ us, rfl, x1, VRelL.append x2 y⟩

/-- **The contract**: called with what the abstract values say, over a heap that holds the store, the function returns; Q says of the result and of the store behind the call. -/
def ACalls (P : Program) (g : FuncId) (args : List AV) (st : Store) (Q : AV → Store → Prop) : Prop :=
  Enters P g ∧ ∀ (w : World) (vs : List Value), SRel w.heap st → VRelL w.heap st args vs →
    Calls P g vs.toArray w fun e w' => ∃ v r st', e = .returned v ∧ VRel w'.heap st' r v ∧ SRel w'.heap st' ∧ StepH w.heap st w'.heap st' ∧ Same w w' ∧ Q r st'

theorem ACalls.mono {P : Program} {g : FuncId} {args : List AV} {st : Store} {Q Q' : AV → Store → Prop} (x : ACalls P g args st Q) (h : ∀ r st', Q r st' → Q' r st') : ACalls P g args st Q' :=
  ⟨x.1, fun w vs S V => (x.2 w vs S V).mono fun _ _ ⟨v, r, st', e, a, b, c, d, q⟩ => ⟨v, r, st', e, a, b, c, d, h r st' q⟩⟩

/-- What one operation leaves. -/
def Took (st : Store) (w : World) (K : AV → Store → Prop) (v : Value) (w' : World) : Prop :=
  ∃ r st', VRel w'.heap st' r v ∧ SRel w'.heap st' ∧ StepH w.heap st w'.heap st' ∧ Same w w' ∧ K r st'

def AV.storable : AV → Bool
  | .int _ _ | .bool _ | .str _ | .slice _ | .fslice _ | .mslice _ _ _ _ | .nilptr | .ptr _ _ | .pptr _ | .nilmap | .map _ | .func _ _ => true
  | .raw v => v.oneCell'
  | _ => false

theorem VC.oneCell {h : Heap} {st : Store} {a : AV} {v : Value} (x : VC h st a [v]) (hs : a.storable = true) : v.oneCell' = true := by
  cases a <;> simp [AV.storable] at hs <;> simp only [VC] at x
  case int => cases x; rfl
  case bool => cases x; rfl
  case str => obtain ⟨x, _⟩ := x; cases x; rfl
  case slice => rcases x with ⟨⟨_, x⟩, _⟩ | ⟨_, _, _, x, _⟩ <;> cases x <;> rfl
  case fslice => rcases x with ⟨⟨_, x⟩, _⟩ | ⟨_, _, x, _⟩ <;> cases x <;> rfl
  case mslice => obtain ⟨_, x, _⟩ := x; cases x; rfl
  case nilptr => cases x; rfl
  case ptr => cases x; rfl
  case pptr => obtain ⟨_, _, x, _⟩ := x; cases x; rfl
  case nilmap => cases x; rfl
  case map => cases x; rfl
  case func => obtain ⟨_, x, _⟩ := x; cases x; rfl
  case raw => obtain ⟨x, _⟩ := x; cases x; exact hs

theorem VCs.oneCell {h : Heap} {st : Store} : ∀ {as : List AV} {vs : List Value}, VCs h st as vs → as.all AV.storable = true → ∀ v ∈ vs, v.oneCell' = true
  | [], vs, x, _, v, hv => by simp only [VCs] at x; subst x; simp at hv
  | a :: as, vs, x, hs, v, hv => by
    simp only [VCs] at x
    obtain ⟨c, r, rfl, x1, x2⟩ := x
    simp at hs
    rcases List.mem_cons.1 hv with rfl | hv
    · exact x1.oneCell hs.1
    · exact VCs.oneCell x2 (by simpa using hs.2) v hv

def setCells (cs : List AV) (o : Nat) (x : List AV) : List AV := cs.take o ++ x ++ cs.drop (o + x.length)

end Go.AW

/- append: what it comes to with the owned store. -/
namespace Go.AW

theorem cellsAt.append {h : Heap} {b : Nat} : ∀ {vs us : List Value} {off : Nat}, cellsAt h b off vs → cellsAt h b (off + vs.length) us → cellsAt h b off (vs ++ us)
  | [], us, off, _, y => by simpa using y
  | v :: vs, us, off, x, y => ⟨x.1, cellsAt.append x.2 (by rw [show off + 1 + vs.length = off + (v :: vs).length by simp; omega]; exact y)⟩

theorem VC.cellsOf {h : Heap} {st : Store} {a : AV} {vs : List Value} (x : VC h st a vs) : VCs h st a.cells vs := by
  by_cases ha : a.isAgg = true
  · cases a <;> simp [AV.isAgg] at ha
    simpa [AV.cells, VC] using x
  · have ha' : a.isAgg = false := by simpa using ha
    obtain ⟨c, rfl⟩ := x.one ha'
    have h3 : a.cells = [a] := by cases a <;> first | rfl | (simp [AV.isAgg] at ha')
    rw [h3]
    simp only [VCs]
    exact ⟨c, [], rfl, x, rfl⟩

/-- The elements of a slice, cell by cell. -/
theorem VEs.flat {h : Heap} {st : Store} {b : Nat} : ∀ {es : List AV} {off : Nat}, VEs h st b off es → ∃ vs, cellsAt h b off vs ∧ VCs h st (es.flatMap AV.cells) vs
  | [], off, _ => ⟨[], trivial, by simp [VCs]⟩
  | e :: es, off, x => by
    simp only [VEs] at x
    obtain ⟨⟨cs, c1, c2, c3⟩, x2⟩ := x
    obtain ⟨vs, v1, v2⟩ := VEs.flat x2
    exact ⟨cs ++ vs, c1.append (by rw [c2]; exact v1), by simpa using c3.cellsOf.append v2⟩

theorem cells_width (a : AV) : a.cells.length = a.width := by cases a <;> rfl

theorem flat_length {n : Nat} : ∀ {es : List AV}, (∀ e ∈ es, e.width = n) → (es.flatMap AV.cells).length = es.length * n
  | [], _ => by simp
  | e :: es, h => by
    have := flat_length (es := es) (n := n) (fun x hx => h x (by simp [hx]))
    simp [cells_width, h e (by simp), this, Nat.succ_mul]
    omega

/-- The elements of the second operand. -/
def aElems : AV → Option (List AV)
  | .slice es | .fslice es => some es
  | _ => none

/-- Bytes of an element. -/
def eB (P : Program) (t : TypeId) : Option Nat :=
  match P.underlying t with
  | some (.slice e) => (P.info? e).map (·.bytes)
  | _ => none

def appFit (sz : Nat) (xs : List AV) : Prop := ∀ e ∈ xs, e.width = sz ∧ e.cells.all AV.storable = true

def aAppend (P : Program) (t : TypeId) (st : Store) (s x : AV) (K : AV → Store → Prop) : Prop :=
  match eI P t, eB P t, eZ P t, aElems x with
  | some (_, sz), some bytes, some zs, some xs => zs.length = sz ∧ appFit sz xs ∧
    match s with
    | .fslice es => (es.length + xs.length) * bytes ≤ 140737488355328 ∧ es.length + xs.length ≤ 9223372036854775807 ∧ (∀ e ∈ es, e.width = sz) ∧
      (xs = [] → K (.fslice es) st) ∧ (xs ≠ [] → ∀ b, st b = none → K (.mslice b 0 (es.length + xs.length) sz) (st.upd b (.cells ((es ++ xs).flatMap AV.cells))))
    | .mslice b 0 len n => n = sz ∧ (len + xs.length) * bytes ≤ 140737488355328 ∧ len + xs.length ≤ 9223372036854775807 ∧
      (match st b with
        | some (.cells cs) => len * sz ≤ cs.length ∧ K (.mslice b 0 (len + xs.length) sz) (st.upd b (.cells (cs.take (len * sz) ++ xs.flatMap AV.cells))) ∧
          ∀ b', st b' = none → K (.mslice b' 0 (len + xs.length) sz) ((st.erase b).upd b' (.cells (cs.take (len * sz) ++ xs.flatMap AV.cells)))
        | _ => False)
    | _ => False
  | _, _, _, _ => False

section
variable {P : Program} {st : Store} {w : World}

end
end Go.AW

/- Maps and make: what they come to with the owned store. -/
namespace Go.AW

section
variable {P : Program} {st : Store} {w : World}

/-- 'make([]T, n)' -/
def madeAV (zs : List AV) (n : Nat) : List AV := (List.range (n * zs.length)).map fun i => zs.getD (i % zs.length) .junk

theorem VCs.of_get {h : Heap} {st : Store} : ∀ {as : List AV} {vs : List Value}, as.length = vs.length → (∀ (i : Nat) a v, as[i]? = some a → vs[i]? = some v → VC h st a [v]) → VCs h st as vs
  | [], [], _, _ => by simp [VCs]
  | a :: as, v :: vs, hl, h => by
    simp only [VCs]
    exact ⟨v, vs, rfl, h 0 a v rfl rfl, VCs.of_get (by simpa using hl) fun i a' v' e1 e2 => h (i + 1) a' v' (by simpa using e1) (by simpa using e2)⟩
  | [], _ :: _, hl, _ => by simp at hl
  | _ :: _, [], hl, _ => by simp at hl

theorem VCs.made {h : Heap} {st : Store} {zs : List AV} {z : Array Value} (x : VCs h st zs z.toList) (n : Nat) : VCs h st (madeAV zs n) (((Array.range (n * z.size)).map (fun i => z[i % z.size]!)).toList) := by
  have hl := x.length
  have hl' : z.size = zs.length := by simpa using hl
  refine VCs.of_get (by simp [madeAV, hl']) fun i a v e1 e2 => ?_
  obtain ⟨hi, e1'⟩ := List.getElem?_eq_some_iff.1 e1
  obtain ⟨hi2, e2'⟩ := List.getElem?_eq_some_iff.1 e2
  simp [madeAV] at hi e1' e2'
  have hpos : 0 < zs.length := by rcases Nat.eq_zero_or_pos zs.length with h0 | h0; (rw [h0] at hi; simp at hi); exact h0
  have hmod : i % zs.length < zs.length := Nat.mod_lt _ hpos
  rw [hl'] at e2'
  obtain ⟨v', hv', hvc⟩ := x.get (i % zs.length) (a := zs[i % zs.length]) (by simp [hmod])
  have ea : a = zs[i % zs.length] := by rw [← e1']; simp [hmod]
  have hz : i % zs.length < z.size := by omega
  have ev : v = v' := by
    rw [← e2', getElem!_pos z _ hz]
    simp [hz] at hv'
    exact hv'
  rw [ea, ev]; exact hvc

def aMakeSlice (P : Program) (t : TypeId) (st : Store) (n c : AV) (K : AV → Store → Prop) : Prop :=
  match n, c, eI P t, eB P t, eZ P t with
  | .int .i64 n, .int .i64 m, some (_, sz), some bytes, some zs => n = m ∧ 0 ≤ n ∧ n ≤ 9223372036854775807 ∧ n * bytes ≤ 281474976710656 ∧ zs.length = sz ∧ sz ≠ 0 ∧
    ∀ b, st b = none → K (.mslice b 0 n.toNat sz) (st.upd b (.cells (madeAV zs n.toNat)))
  | _, _, _, _, _ => False

/-! ### Writing into a map -/
def mapSet (f : Int → Option AV) (n : Int) (x : Option AV) : Int → Option AV := fun m => if m = n then x else f m

def aMapUpdate (P : Program) (t : TypeId) (st : Store) (m k v : AV) (K : AV → Store → Prop) : Prop :=
  match m, k, P.underlying t with
  | .map b, .int .i64 n, some (.map kt _) => match st b, P.underlying kt with
    | some (.map f), some (.int .i64) => v.isJunk = false ∧ K .undef (st.upd b (.map (mapSet f n (some v))))
    | _, _ => False
  | _, _, _ => False

/-! ### Taking out of a map -/
def aDelete (P : Program) (t : TypeId) (st : Store) (m k : AV) (K : AV → Store → Prop) : Prop :=
  match m, k, P.underlying t with
  | .map b, .int .i64 n, some (.map kt _) => match st b, P.underlying kt with
    | some (.map f), some (.int .i64) => K (.tup []) (st.upd b (.map (mapSet f n none)))
    | _, _ => False
  | _, _, _ => False

end
end Go.AW

/- Lists of operations, regions, code. -/
namespace Go.AW

def isMut (mt : List Nat) : Option Tmp → Bool
  | some d => mt.contains d
  | none => false

/-- One operation, with the owned store. 'mt': the boxes that are owned. -/
def aStep (P : Program) (mt : List Nat) (φ : AF) (st : Store) (o : Oper) (K : AV → Store → Prop) : Prop :=
  match o.op with
  | .call { callee := .value f, args, .. } => match φ.eval f with
    | .func g caps => ACalls P g (args.toList.map φ.eval ++ caps) st K
    | _ => False
  | .call { callee := .builtin .append, args, argTypes } => match args.toList, argTypes.toList with
    | [s, x], [t, t'] => t = t' ∧ aAppend P t st (φ.eval s) (φ.eval x) K
    | _, _ => False
  | .call { callee := .builtin .delete, args, argTypes } => match args.toList, argTypes.toList with
    | [m, k], [t, _] => aDelete P t st (φ.eval m) (φ.eval k) K
    | _, _ => False
  | .box t x => if isMut mt o.dst = true then
      (φ.eval x).isJunk = false ∧ ∀ b, st b = none → K (.ptr b 0) (st.upd b (.cells (φ.eval x).cells))
    else match aBox P t (φ.eval x) with | some r => K r st | none => False
  | .alloc t => match zI P t with
    | some zs => ∀ b, st b = none → K (.ptr b 0) (st.upd b (.cells zs))
    | none => False
  | .store t p x => match φ.eval p with
    | .ptr b q => match st b, tI P t with
      | some (.cells cs), some (_, sz) => (φ.eval x).cells.length = sz ∧ q + sz ≤ cs.length ∧ (φ.eval x).cells.all AV.storable = true ∧ K .undef (st.upd b (.cells (setCells cs q (φ.eval x).cells)))
      | _, _ => False
    | _ => False
  | .makeMap _ none => ∀ b, st b = none → K (.map b) (st.upd b (.map fun _ => none))
  | .makeSlice t n c => aMakeSlice P t st (φ.eval n) (φ.eval c) K
  | .mapUpdate t m k x => aMapUpdate P t st (φ.eval m) (φ.eval k) (φ.eval x) K
  | _ => match aVal P φ st o with | some r => K r st | none => False

/-- Is the operation wanted, as far as the frame tells. -/
def aGuard (ops : Array Oper) (φ : AF) (o : Oper) : Option Bool :=
  match o.guard with
  | none => some true
  | some (j, want) => match (ops[j]?).bind (·.dst) with
    | none => some false
    | some d => match φ d with
      | .bool b => some (b == want)
      | .undef => some false
      | _ => none

structure Rel (N : Nat) (a : Act) (w : World) (φ : AF) (st : Store) : Prop where
  size : a.tmps.size = N
  defers : a.defers = []
  frame : FRel w.heap st a.tmps φ
  store : SRel w.heap st

def dstOk (N : Nat) (o : Oper) : Bool := match o.dst with | some d => decide (d < N) | none => true

theorem Rel.put {N : Nat} {a : Act} {w w' : World} {φ : AF} {st st' : Store} {o : Oper} {r : AV} {v : Value} (R : Rel N a w φ st) (hd : dstOk N o = true) (T : StepH w.heap st w'.heap st') (S : SRel w'.heap st') (y : VRel w'.heap st' r v) :
    Rel N (a.put o.dst v) w' (φ.put o.dst r) st' := by
  unfold dstOk at hd
  cases ho : o.dst with
  | none => exact ⟨R.size, R.defers, R.frame.mono T, S⟩
  | some d =>
    rw [ho] at hd
    have hlt : d < a.tmps.size := by rw [R.size]; simpa using hd
    exact ⟨by simp [Act.put, R.size], R.defers, FRel.set (R.frame.mono T) hlt y, S⟩

/-- Operation after operation. -/
def aOps (P : Program) (mt : List Nat) (ops : Array Oper) : List Oper → (AF → Store → Prop) → AF → Store → Prop
  | [], K, φ, st => K φ st
  | o :: rest, K, φ, st => match aGuard ops φ o with
    | some true => aStep P mt φ st o (fun r st' => aOps P mt ops rest K (φ.put o.dst r) st')
    | some false => aOps P mt ops rest K (φ.put o.dst .undef) st
    | none => False

/-- The concrete form of what is to hold at an exit. -/
def Lift (N : Nat) (w : World) (st : Store) (Q : Exit → AF → Store → Prop) : Exit → Act → World → Prop :=
  fun e a' w' => ∃ φ' st', Rel N a' w' φ' st' ∧ StepH w.heap st w'.heap st' ∧ Same w w' ∧ Q e φ' st'

/-- A variable that is written once, where it is made, and never again: it is seen as memory that is not written. -/
def aFuse (P : Program) (t : TypeId) (x : AV) (K : AV → Prop) : Prop :=
  match zI P t, tI P t with
  | some zs, some (_, sz) => zs.length = sz ∧ x.cells.length = sz ∧ x.cells.all AV.storable = true ∧ x.isJunk = false ∧ K (.pptr x)
  | _, _ => False
def isT (x : Operand) (d : Nat) : Bool := match x with | .tmp e => e == d | _ => false

def aOpsZ (P : Program) (mt : List Nat) (ops : Array Oper) : List Oper → (AF → Store → Prop) → AF → Store → Prop
  | [], K, φ, st => K φ st
  | ⟨some d, .alloc t, ty, pos, aft, none⟩ :: ⟨none, .store t' (.tmp d') x, ty', pos', aft', none⟩ :: rest, K, φ, st =>
    if d = d' ∧ t = t' ∧ (mt.contains d || isT x d) = false then aFuse P t (φ.eval x) (fun r => aOpsZ P mt ops rest K (φ.upd d r) st)
    else aOps P mt ops [⟨some d, .alloc t, ty, pos, aft, none⟩] (aOps P mt ops [⟨none, .store t' (.tmp d') x, ty', pos', aft', none⟩] (fun φ' st' => aOpsZ P mt ops rest K φ' st')) φ st
  | ⟨some d, .alloc t, ty, pos, aft, none⟩ :: ⟨some e, .assign y, ty2, pos2, aft2, none⟩ :: ⟨none, .store t' (.tmp d') x, ty', pos', aft', none⟩ :: rest, K, φ, st =>
    if d = d' ∧ t = t' ∧ (mt.contains d || isT x d || isT y d || d == e) = false then aFuse P t ((φ.upd e (φ.eval y)).eval x) (fun r => aOpsZ P mt ops rest K ((φ.upd e (φ.eval y)).upd d r) st)
    else aOps P mt ops [⟨some d, .alloc t, ty, pos, aft, none⟩] (aOps P mt ops [⟨some e, .assign y, ty2, pos2, aft2, none⟩] (aOps P mt ops [⟨none, .store t' (.tmp d') x, ty', pos', aft', none⟩] (fun φ' st' => aOpsZ P mt ops rest K φ' st'))) φ st
  | o :: rest, K, φ, st => aOps P mt ops [o] (fun φ' st' => aOpsZ P mt ops rest K φ' st') φ st

theorem StepH.forget {h : Heap} {st : Store} {b : Nat} {o : AO} (hb : st b = none) : StepH h (st.upd b o) h st :=
  ⟨Nat.le_refl _, fun x _ e => ⟨rfl, by
    by_cases hx : x = b
    · rw [hx]; exact hb
    · rwa [Store.upd_ne _ _ hx] at e⟩, fun _ c _ _ e => ⟨c, e, rfl⟩⟩
theorem SRel.forget {h : Heap} {st : Store} {b : Nat} {o : AO} (hb : st b = none) (S : SRel h (st.upd b o)) : SRel h st := fun x p e => by
  have hx : x ≠ b := by rintro rfl; rw [hb] at e; cases e
  obtain ⟨h1, h2⟩ := S x p (by rw [Store.upd_ne _ _ hx]; exact e)
  exact ⟨h1, h2.mono (StepH.forget hb) rfl⟩
/-! ### Code -/
/-- What a draw, or a loop, or anything else asks of the machine. -/
def ARun (P : Program) (N : Nat) (c : Code) (Q : Exit → AF → Store → Prop) (φ : AF) (st : Store) : Prop :=
  ∀ a w, Rel N a w φ st → c.wp P (Lift N w st Q) a w

def thenQ (k : AF → Store → Prop) (Q : Exit → AF → Store → Prop) : Exit → AF → Store → Prop
  | .normal, φ, st => k φ st
  | e, φ, st => Q e φ st
def blockQ (id : Nat) (Q : Exit → AF → Store → Prop) : Exit → AF → Store → Prop
  | .exit i, φ, st => if i = id then Q .normal φ st else Q (.exit i) φ st
  | e, φ, st => Q e φ st

/-- Two ways. -/
def aCond (c : AV) (k₁ k₂ : AF → Store → Prop) (φ : AF) (st : Store) : Prop :=
  match c with
  | .bool b => (b = true → k₁ φ st) ∧ (b = false → k₂ φ st)
  | _ => False

def aCode (P : Program) (N : Nat) (mt : List Nat) : Code → (Exit → AF → Store → Prop) → AF → Store → Prop
  | .skip, Q, φ, st => Q .normal φ st
  | .region id ops draw, Q, φ, st => if draw then ARun P N (.region id ops true) Q φ st else if mt.contains 1000000 = true then aOpsZ P mt ops ops.toList (Q .normal) φ st else aOps P mt ops ops.toList (Q .normal) φ st
  | .seq x y, Q, φ, st => aCode P N mt x (thenQ (aCode P N mt y Q) Q) φ st
  | .cond c x y, Q, φ, st => aCond (φ.eval c) (aCode P N mt x Q) (aCode P N mt y Q) φ st
  | .block id x, Q, φ, st => aCode P N mt x (blockQ id Q) φ st
  | .loop x, Q, φ, st => ARun P N (.loop x) Q φ st
  | .exit id, Q, φ, st => Q (.exit id) φ st
  | .ret, Q, φ, st => Q .ret φ st
  | c, Q, φ, st => ARun P N c Q φ st

def opsOk (N : Nat) (ops : Array Oper) : Bool := ops.all (dstOk N)
def codeOk (N : Nat) : Code → Bool
  | .region _ ops _ => opsOk N ops
  | .seq x y => codeOk N x && codeOk N y
  | .cond _ x y => codeOk N x && codeOk N y
  | .block _ x => codeOk N x
  | .loop x => codeOk N x
  | _ => true

theorem Lift.mono {N : Nat} {w w' : World} {st st' : Store} {Q : Exit → AF → Store → Prop} (T : StepH w.heap st w'.heap st') (s : Same w w') {e : Exit} {a : Act} {w2 : World} (x : Lift N w' st' Q e a w2) : Lift N w st Q e a w2 := by
  obtain ⟨φ', st2, R, T2, s2, q⟩ := x
  exact ⟨φ', st2, R, T.trans T2, s.trans s2, q⟩

end Go.AW

/- Functions, loops, weaker frames. -/
namespace Go.AW

/-! ### The results -/
def aRes (P : Program) (φ : AF) (st : Store) : ResultVar → Option AV
  | .tmp t => some (φ t)
  | .cell p t => aLoad P st t (φ p)
def aResults (P : Program) (φ : AF) (st : Store) : List ResultVar → Option (List AV)
  | [] => some []
  | r :: rs => match aRes P φ st r, aResults P φ st rs with
    | some x, some xs => some (x :: xs)
    | _, _ => none
def tupOf (K : AV → Store → Prop) (st : Store) : List AV → Prop
  | [r] => K r st
  | rs => noJunk rs = true ∧ K (.tup rs) st
def retQ (P : Program) (rs : Array ResultVar) (K : AV → Store → Prop) : Exit → AF → Store → Prop
  | .normal, φ, st | .ret, φ, st => match aResults P φ st rs.toList with
    | some xs => tupOf K st xs
    | none => False
  | _, _, _ => False

/-! ### A function -/
def argF : Nat → List AV → AF
  | _, [] => AF.bot
  | i, a :: as => (argF (i + 1) as).upd i a

theorem VRelL.length {h : Heap} {st : Store} : ∀ {as : List AV} {vs : List Value}, VRelL h st as vs → vs.length = as.length
  | [], vs, x => by simp only [VRelL] at x; simp [x]
  | a :: as, vs, x => by
    simp only [VRelL] at x
    obtain ⟨v, r, rfl, _, x2⟩ := x
    simp [VRelL.length x2]

/-- Told with less: values that say less, a smaller store. -/
def Weak (st : Store) (r : AV) (st' : Store) (r' : AV) : Prop := ∀ (h : Heap) (v : Value), SRel h st → VRel h st r v → VRel h st' r' v
def WeakS (st st' : Store) : Prop := ∀ (h : Heap), SRel h st → SRel h st' ∧ StepH h st h st'

theorem ACalls.weak {P : Program} {g : FuncId} {args : List AV} {st : Store} {Q Q' : AV → Store → Prop} (x : ACalls P g args st Q) (h : ∀ r st', Q r st' → ∃ r2 st2, WeakS st' st2 ∧ Weak st' r st2 r2 ∧ Q' r2 st2) : ACalls P g args st Q' :=
  ⟨x.1, fun w vs S V => (x.2 w vs S V).mono fun _ _ ⟨v, r, st', e, a, b, c, d, q⟩ =>
    let ⟨r2, st2, h1, h2, h3⟩ := h r st' q
    ⟨v, r2, st2, e, h2 _ v b a, (h1 _ b).1, c.trans (h1 _ b).2, d, h3⟩⟩

/-- Called with values that say more. -/
theorem ACalls.args {P : Program} {g : FuncId} {args args' : List AV} {st : Store} {Q : AV → Store → Prop} (x : ACalls P g args' st Q) (h : ∀ (hp : Heap) (vs : List Value), SRel hp st → VRelL hp st args vs → VRelL hp st args' vs) : ACalls P g args st Q :=
  ⟨x.1, fun w vs S V => x.2 w vs S (h _ vs S V)⟩

/-! ### Weaker frames -/
def Less (φ : AF) (st : Store) (φ' : AF) (st' : Store) : Prop := ∀ (h : Heap) (tmps : Array Value), SRel h st → FRel h st tmps φ → SRel h st' ∧ StepH h st h st' ∧ FRel h st' tmps φ'

theorem Less.refl (φ : AF) (st : Store) : Less φ st φ st := fun _ _ S F => ⟨S, StepH.refl _ _, F⟩
theorem Less.trans {φ φ' φ'' : AF} {st st' st'' : Store} (x : Less φ st φ' st') (y : Less φ' st' φ'' st'') : Less φ st φ'' st'' := fun h t S F =>
  let ⟨a, b, c⟩ := x h t S F
  let ⟨a', b', c'⟩ := y h t a c
  ⟨a', b.trans b', c'⟩
theorem Less.bot (φ : AF) (st : Store) : Less φ st AF.bot st := fun _ _ S _ => ⟨S, StepH.refl _ _, fun _ => trivial⟩
/-- The frame on the right knows one slot more. -/
theorem Less.upd {φ φ' : AF} {st : Store} (x : Less φ st φ' st) {d : Nat} {v : AV} (e : φ d = v) : Less φ st (φ'.upd d v) st := fun h t S F => by
  obtain ⟨a, b, c⟩ := x h t S F
  refine ⟨a, b, fun y => ?_⟩
  simp only [AF.upd]
  split
  · rename_i hy; subst hy; rw [← e]; exact F y
  · exact c y
/-! ### Loops -/
/-- What a round is to come to. -/
def loopQ (k : AF → Store → Prop) (Q : Exit → AF → Store → Prop) : Exit → AF → Store → Prop
  | .normal, φ, st => k φ st
  | e, φ, st => Q e φ st

end Go.AW
