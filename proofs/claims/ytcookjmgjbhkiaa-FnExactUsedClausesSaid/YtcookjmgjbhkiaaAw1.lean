/- The abstract values and the relation between them and a heap: no function of the program is mentioned here. -/
import Derived.WalkKit
namespace Go.AW

/-- Abstract values. 'slice': what is never written again, as a list; 'fslice': the same, and the capacity is the length (nil included); 'mslice': a window into a block that is owned; 'ptr': into a block that is owned; 'pptr': to memory that is never written again. -/
inductive AV where
  | junk
  | undef
  | int (k : IntKind) (n : Int)
  | bool (b : Bool)
  | str (s : ByteArray)
  | agg (cs : List AV)
  | tup (vs : List AV)
  | slice (es : List AV)
  | fslice (es : List AV)
  | mslice (b off len st : Nat)
  | nilptr
  | ptr (b off : Nat)
  | pptr (e : AV)
  | nilmap
  | map (b : Nat)
  | func (f : FuncId) (caps : List AV)
  | raw (v : Value)
  deriving Inhabited

def AV.isAgg : AV → Bool
  | .agg _ => true
  | _ => false

def AV.width : AV → Nat
  | .agg cs => cs.length
  | _ => 1

def AV.cells : AV → List AV
  | .agg cs => cs
  | a => [a]

/-- All elements are of one width. -/
def Even (es : List AV) : Prop := ∃ n, ∀ e ∈ es, e.width = n

def vIsAgg : Value → Bool
  | .agg _ => true
  | _ => false

/-- What a block that is owned holds. -/
inductive AO where
  | cells (cs : List AV)
  | map (f : Int → Option AV)

abbrev Store := Nat → Option AO

def Store.upd (st : Store) (b : Nat) (o : AO) : Store := fun x => if x = b then some o else st x
def Store.erase (st : Store) (b : Nat) : Store := fun x => if x = b then none else st x

theorem Store.upd_same (st : Store) (b : Nat) (o : AO) : st.upd b o b = some o := by simp [Store.upd]
theorem Store.upd_ne (st : Store) {b x : Nat} (o : AO) (h : x ≠ b) : st.upd b o x = st x := by simp [Store.upd, h]
theorem Store.upd_upd (st : Store) (b : Nat) (o o' : AO) : (st.upd b o).upd b o' = st.upd b o' := by
  funext x; simp only [Store.upd]; split <;> rfl
theorem Store.erase_upd (st : Store) (b : Nat) (o : AO) (h : st b = none) : (st.upd b o).erase b = st := by
  funext x; simp only [Store.upd, Store.erase]; split
  · rename_i e; rw [e, h]
  · rfl
theorem Store.erase_same (st : Store) (b : Nat) : st.erase b b = none := by simp [Store.erase]
theorem Store.erase_none (st : Store) {b x : Nat} (h : st x = none) : st.erase b x = none := by simp [Store.erase, h]
theorem Store.upd_comm (st : Store) {b c : Nat} (o p : AO) (h : b ≠ c) : (st.upd b o).upd c p = (st.upd c p).upd b o := by
  funext x; simp only [Store.upd]; split <;> split <;> simp_all

abbrev Heap := Array Obj

def cellAt (h : Heap) (b off : Nat) : Option Value :=
  match h[b]? with
  | some (.cells c _ _) => c[off]?
  | _ => none

def cellsAt (h : Heap) (b : Nat) : Nat → List Value → Prop
  | _, [] => True
  | off, v :: vs => cellAt h b off = some v ∧ cellsAt h b (off + 1) vs

mutual
/-- The abstract value is held by these cells. -/
def VC (h : Heap) (st : Store) : AV → List Value → Prop
  | .junk, cs => cs.length = 1
  | .undef, cs => cs = [undef]
  | .int k n, cs => cs = [.int k n]
  | .bool b, cs => cs = [.bool b]
  | .str s, cs => cs = [.string s] ∧ s.size ≤ maxLen
  | .agg as, cs => VCs h st as cs
  | .tup as, cs => ∃ vs : List Value, cs = [.tuple vs.toArray] ∧ VTs h st as vs
  | .slice es, cs => ((∃ p, cs = [.slice p 0 0]) ∧ es = []) ∨ ∃ b off cap, cs = [.slice (some ⟨b, off, none⟩) es.length cap] ∧ es.length ≤ cap ∧ cap ≤ maxLen ∧ st b = none ∧ b < h.size ∧ Even es ∧ VEs h st b off es
  | .fslice es, cs => ((∃ p, cs = [.slice p 0 0]) ∧ es = []) ∨ ∃ b off, cs = [.slice (some ⟨b, off, none⟩) es.length es.length] ∧ es.length ≤ maxLen ∧ st b = none ∧ b < h.size ∧ Even es ∧ VEs h st b off es
  | .mslice b off len n, cs => ∃ cap, cs = [.slice (some ⟨b, off, none⟩) len cap] ∧ len ≤ cap ∧ cap ≤ maxLen ∧ ∃ c t, h[b]? = some (.cells c t (0, 0)) ∧ off + cap * n ≤ c.size
  | .nilptr, cs => cs = [.pointer none]
  | .ptr b off, cs => cs = [.pointer (some ⟨b, off, none⟩)]
  | .pptr e, cs => ∃ b off, cs = [.pointer (some ⟨b, off, none⟩)] ∧ st b = none ∧ b < h.size ∧ ∃ vs, cellsAt h b off vs ∧ vs.length = e.width ∧ VC h st e vs
  | .nilmap, cs => cs = [.map none]
  | .map b, cs => cs = [.map (some b)]
  | .func f as, cs => ∃ vs : List Value, cs = [.func (.func f) #[] vs.toArray] ∧ VTs h st as vs
  | .raw v, cs => cs = [v] ∧ vIsAgg v = false
/-- Cell by cell. -/
def VCs (h : Heap) (st : Store) : List AV → List Value → Prop
  | [], cs => cs = []
  | a :: as, cs => ∃ c r, cs = c :: r ∧ VC h st a [c] ∧ VCs h st as r
/-- Value by value. -/
def VTs (h : Heap) (st : Store) : List AV → List Value → Prop
  | [], vs => vs = []
  | a :: as, vs => ∃ v r, vs = v :: r ∧ (a.isAgg = vIsAgg v ∧ VC h st a v.cells.toList) ∧ VTs h st as r
/-- Element behind element in a block. -/
def VEs (h : Heap) (st : Store) (b : Nat) : Nat → List AV → Prop
  | _, [] => True
  | off, a :: as => (∃ cs, cellsAt h b off cs ∧ cs.length = a.width ∧ VC h st a cs) ∧ VEs h st b (off + a.width) as
end

def VE (h : Heap) (st : Store) (b off : Nat) (a : AV) : Prop := ∃ cs, cellsAt h b off cs ∧ cs.length = a.width ∧ VC h st a cs

/-- A value of the machine is what the abstract value says. -/
def VRel (h : Heap) (st : Store) : AV → Value → Prop
  | .junk, _ => True
  | a, v => a.isAgg = vIsAgg v ∧ VC h st a v.cells.toList

/-- From one heap to a later one: what is not owned is as it was, and stays not owned; every block of cells keeps its shape. -/
structure StepH (h : Heap) (st : Store) (h' : Heap) (st' : Store) : Prop where
  size : h.size ≤ h'.size
  keep : ∀ b, b < h.size → st b = none → h'[b]? = h[b]? ∧ st' b = none
  shape : ∀ (b : Nat) c t fr, h[b]? = some (.cells c t fr) → ∃ c', h'[b]? = some (.cells c' t fr) ∧ c'.size = c.size

theorem StepH.refl (h : Heap) (st : Store) : StepH h st h st := ⟨Nat.le_refl _, fun _ _ e => ⟨rfl, e⟩, fun _ c _ _ e => ⟨c, e, rfl⟩⟩

theorem StepH.trans {h h' h'' : Heap} {st st' st'' : Store} (x : StepH h st h' st') (y : StepH h' st' h'' st'') : StepH h st h'' st'' :=
  ⟨Nat.le_trans x.size y.size,
   fun b hb e => let ⟨e1, e2⟩ := x.keep b hb e; let ⟨e3, e4⟩ := y.keep b (Nat.lt_of_lt_of_le hb x.size) e2; ⟨e3.trans e1, e4⟩,
   fun b c t fr e => let ⟨c1, e1, s1⟩ := x.shape b c t fr e; let ⟨c2, e2, s2⟩ := y.shape b c1 t fr e1; ⟨c2, e2, s2.trans s1⟩⟩

theorem cellAt_eq {h h' : Heap} {b : Nat} (e : h'[b]? = h[b]?) (off : Nat) : cellAt h' b off = cellAt h b off := by simp [cellAt, e]

theorem cellsAt_eq {h h' : Heap} {b : Nat} (e : h'[b]? = h[b]?) : ∀ (vs : List Value) (off : Nat), cellsAt h b off vs → cellsAt h' b off vs
  | [], _, _ => trivial
  | _ :: vs, off, x => ⟨(cellAt_eq e off).trans x.1, cellsAt_eq e vs (off + 1) x.2⟩

section
variable {h h' : Heap} {st st' : Store}
mutual
theorem VC.mono (S : StepH h st h' st') : ∀ (a : AV) (cs : List Value), VC h st a cs → VC h' st' a cs
  | .junk, _, x => x
  | .undef, _, x => x
  | .int _ _, _, x => x
  | .bool _, _, x => x
  | .str _, _, x => x
  | .agg as, cs, x => by simp only [VC] at x ⊢; exact VCs.mono S as cs x
  | .tup as, cs, x => by
    simp only [VC] at x ⊢
    obtain ⟨vs, e, r⟩ := x
    exact ⟨vs, e, VTs.mono S as vs r⟩
  | .slice es, cs, x => by
    simp only [VC] at x ⊢
    rcases x with x | ⟨b, off, cap, e, l1, l2, n, l3, ev, r⟩
    · exact .inl x
    · obtain ⟨k1, k2⟩ := S.keep b l3 n
      exact .inr ⟨b, off, cap, e, l1, l2, k2, Nat.lt_of_lt_of_le l3 S.size, ev, VEs.mono S b k1 es off r⟩
  | .fslice es, cs, x => by
    simp only [VC] at x ⊢
    rcases x with x | ⟨b, off, e, l1, n, l3, ev, r⟩
    · exact .inl x
    · obtain ⟨k1, k2⟩ := S.keep b l3 n
      exact .inr ⟨b, off, e, l1, k2, Nat.lt_of_lt_of_le l3 S.size, ev, VEs.mono S b k1 es off r⟩
  | .mslice b off len n, cs, x => by
    simp only [VC] at x ⊢
    obtain ⟨cap, e, l1, l2, c, t, hb, l3⟩ := x
    obtain ⟨c', e', s'⟩ := S.shape b c t _ hb
    exact ⟨cap, e, l1, l2, c', t, e', by omega⟩
  | .nilptr, _, x => x
  | .ptr _ _, _, x => x
  | .pptr e, cs, x => by
    simp only [VC] at x ⊢
    obtain ⟨b, off, e1, n, l, vs, r1, r2, r3⟩ := x
    obtain ⟨k1, k2⟩ := S.keep b l n
    exact ⟨b, off, e1, k2, Nat.lt_of_lt_of_le l S.size, vs, cellsAt_eq k1 vs off r1, r2, VC.mono S e vs r3⟩
  | .nilmap, _, x => x
  | .map _, _, x => x
  | .func _ as, cs, x => by
    simp only [VC] at x ⊢
    obtain ⟨vs, e, r⟩ := x
    exact ⟨vs, e, VTs.mono S as vs r⟩
  | .raw _, _, x => x
theorem VCs.mono (S : StepH h st h' st') : ∀ (as : List AV) (cs : List Value), VCs h st as cs → VCs h' st' as cs
  | [], _, x => x
  | a :: as, cs, x => by
    simp only [VCs] at x ⊢
    obtain ⟨c, r, e, x1, x2⟩ := x
    exact ⟨c, r, e, VC.mono S a [c] x1, VCs.mono S as r x2⟩
theorem VTs.mono (S : StepH h st h' st') : ∀ (as : List AV) (cs : List Value), VTs h st as cs → VTs h' st' as cs
  | [], _, x => x
  | a :: as, cs, x => by
    simp only [VTs] at x ⊢
    obtain ⟨c, r, e, x1, x2⟩ := x
    exact ⟨c, r, e, ⟨x1.1, VC.mono S a _ x1.2⟩, VTs.mono S as r x2⟩
theorem VEs.mono (S : StepH h st h' st') (b : Nat) (k : h'[b]? = h[b]?) : ∀ (es : List AV) (off : Nat), VEs h st b off es → VEs h' st' b off es
  | [], _, x => x
  | a :: as, off, x => by
    simp only [VEs] at x ⊢
    obtain ⟨⟨cs, x1, x2, x3⟩, x4⟩ := x
    exact ⟨⟨cs, cellsAt_eq k cs off x1, x2, VC.mono S a cs x3⟩, VEs.mono S b k as (off + a.width) x4⟩
end
end

theorem VRel.mono {h h' : Heap} {st st' : Store} (S : StepH h st h' st') {a : AV} {v : Value} (x : VRel h st a v) : VRel h' st' a v := by
  cases a <;> first | trivial | exact ⟨x.1, VC.mono S _ _ x.2⟩

/-- What the store says of one block. -/
def ORel (h : Heap) (st : Store) (b : Nat) : AO → Prop
  | .cells as => ∃ c t, h[b]? = some (.cells c t (0, 0)) ∧ as.length ≤ c.size ∧ ∃ vs, cellsAt h b 0 vs ∧ VCs h st as vs
  | .map f => ∃ es clock, h[b]? = some (.map es clock) ∧ (∀ e ∈ es.toList, ∃ n, e.key = .int .i64 n) ∧ (es.toList.map (·.key)).Nodup ∧
      ∀ n, (match f n with
        | some a => ∃ e ∈ es.toList, e.key = .int .i64 n ∧ VRel h st a e.val
        | none => ∀ e ∈ es.toList, e.key ≠ .int .i64 n)

def SRel (h : Heap) (st : Store) : Prop := ∀ b o, st b = some o → b < h.size ∧ ORel h st b o

end Go.AW
