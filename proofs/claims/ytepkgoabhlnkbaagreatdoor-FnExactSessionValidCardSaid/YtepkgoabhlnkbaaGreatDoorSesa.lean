/- The abstract values and the relation between them and a heap: no function of the program is mentioned here. -/
import Derived.WalkKit
set_option linter.unusedSimpArgs false
set_option linter.unusedVariables false
set_option maxRecDepth 100000
namespace Go.AW
inductive AV where
 | junk
 | undef
 | int (k : IntKind) (n : Int)
 | bool (b : Bool)
 | str (s : ByteArray)
 | agg (cs : List AV)
 | tup (vs : List AV)
 | slice (es : List AV)
 | fslice (es : List AV)
 | mslice (b off len st : Nat)
 | nilptr
 | ptr (b off : Nat)
 | pptr (e : AV)
 | nilmap
 | map (b : Nat)
 | func (f : FuncId) (caps : List AV)
 | raw (v : Value)
 | eslice
 deriving Inhabited
def AV.isAgg : AV → Bool
 | .agg _ => true
 | _ => false
def AV.width : AV → Nat
 | .agg cs => cs.length
 | _ => 1
def AV.cells : AV → List AV
 | .agg cs => cs
 | a => [a]
def Even (es : List AV) : Prop := ∃ n, ∀ e ∈ es, e.width = n
def vIsAgg : Value → Bool
 | .agg _ => true
 | _ => false
inductive AO where
 | cells (cs : List AV)
 | map (f : Int → Option AV)
abbrev zy7 := Nat → Option AO
def zy7.upd (st : zy7) (b : Nat) (o : AO) : zy7 := fun x => if x = b then some o else st x
def zy7.erase (st : zy7) (b : Nat) : zy7 := fun x => if x = b then none else st x
theorem zy7.upd_same (st : zy7) (b : Nat) (o : AO) : st.upd b o b = some o := by simp [zy7.upd]
theorem zy7.upd_ne (st : zy7) {b x : Nat} (o : AO) (h : x ≠ b) : st.upd b o x = st x := by simp [zy7.upd, h]
theorem zy7.upd_upd (st : zy7) (b : Nat) (o o' : AO) : (st.upd b o).upd b o' = st.upd b o' := by
 funext x; simp only [zy7.upd]; split <;> rfl
theorem zy7.erase_upd (st : zy7) (b : Nat) (o : AO) (h : st b = none) : (st.upd b o).erase b = st := by
 funext x; simp only [zy7.upd, zy7.erase]; split
 · rename_i e; rw [e, h]
 · rfl
theorem zy7.erase_same (st : zy7) (b : Nat) : st.erase b b = none := by simp [zy7.erase]
theorem zy7.erase_none (st : zy7) {b x : Nat} (h : st x = none) : st.erase b x = none := by simp [zy7.erase, h]
theorem zy7.upd_comm (st : zy7) {b c : Nat} (o p : AO) (h : b ≠ c) : (st.upd b o).upd c p = (st.upd c p).upd b o := by
 funext x; simp only [zy7.upd]; split <;> split <;> simp_all
abbrev Heap := Array Obj
def cellAt (h : Heap) (b off : Nat) : Option Value :=
 match h[b]? with
 | some (.cells c _ _) => c[off]?
 | _ => none
def cellsAt (h : Heap) (b : Nat) : Nat → List Value → Prop
 | _, [] => True
 | off, v :: vs => cellAt h b off = some v ∧ cellsAt h b (off + 1) vs
mutual
def VC (h : Heap) (st : zy7) : AV → List Value → Prop
 | .junk, cs => cs.length = 1
 | .undef, cs => cs = [undef]
 | .int k n, cs => cs = [.int k n]
 | .bool b, cs => cs = [.bool b]
 | .str s, cs => cs = [.string s] ∧ s.size ≤ maxLen
 | .agg as, cs => VCs h st as cs
 | .tup as, cs => ∃ vs : List Value, cs = [.tuple vs.toArray] ∧ VTs h st as vs
 | .slice es, cs => ((∃ p, cs = [.slice p 0 0]) ∧ es = []) ∨ ∃ b off cap, cs = [.slice (some ⟨b, off, none⟩) es.length cap] ∧ es.length ≤ cap ∧ cap ≤ maxLen ∧ st b = none ∧ b < h.size ∧ Even es ∧ VEs h st b off es
 | .fslice es, cs => ((∃ p, cs = [.slice p 0 0]) ∧ es = []) ∨ ∃ b off, cs = [.slice (some ⟨b, off, none⟩) es.length es.length] ∧ es.length ≤ maxLen ∧ st b = none ∧ b < h.size ∧ Even es ∧ VEs h st b off es
 | .mslice b off len n, cs => ∃ cap, cs = [.slice (some ⟨b, off, none⟩) len cap] ∧ len ≤ cap ∧ cap ≤ maxLen ∧ ∃ c t, h[b]? = some (.cells c t (0, 0)) ∧ off + cap * n ≤ c.size
 | .nilptr, cs => cs = [.pointer none]
 | .ptr b off, cs => cs = [.pointer (some ⟨b, off, none⟩)]
 | .pptr e, cs => ∃ b off, cs = [.pointer (some ⟨b, off, none⟩)] ∧ st b = none ∧ b < h.size ∧ ∃ vs, cellsAt h b off vs ∧ vs.length = e.width ∧ VC h st e vs
 | .nilmap, cs => cs = [.map none]
 | .map b, cs => cs = [.map (some b)]
 | .func f as, cs => ∃ vs : List Value, cs = [.func (.func f) #[] vs.toArray] ∧ VTs h st as vs
 | .raw v, cs => cs = [v] ∧ vIsAgg v = false
 | .eslice, cs => ∃ p c, cs = [.slice p 0 c]
def VCs (h : Heap) (st : zy7) : List AV → List Value → Prop
 | [], cs => cs = []
 | a :: as, cs => ∃ c r, cs = c :: r ∧ VC h st a [c] ∧ VCs h st as r
def VTs (h : Heap) (st : zy7) : List AV → List Value → Prop
 | [], vs => vs = []
 | a :: as, vs => ∃ v r, vs = v :: r ∧ (a.isAgg = vIsAgg v ∧ VC h st a v.cells.toList) ∧ VTs h st as r
def VEs (h : Heap) (st : zy7) (b : Nat) : Nat → List AV → Prop
 | _, [] => True
 | off, a :: as => (∃ cs, cellsAt h b off cs ∧ cs.length = a.width ∧ VC h st a cs) ∧ VEs h st b (off + a.width) as
end
def VE (h : Heap) (st : zy7) (b off : Nat) (a : AV) : Prop := ∃ cs, cellsAt h b off cs ∧ cs.length = a.width ∧ VC h st a cs
def VRel (h : Heap) (st : zy7) : AV → Value → Prop
 | .junk, _ => True
 | a, v => a.isAgg = vIsAgg v ∧ VC h st a v.cells.toList
structure StepH (h : Heap) (st : zy7) (h' : Heap) (st' : zy7) : Prop where
 size : h.size ≤ h'.size
 keep : ∀ b, b < h.size → st b = none → h'[b]? = h[b]? ∧ st' b = none
 shape : ∀ (b : Nat) c t fr, h[b]? = some (.cells c t fr) → ∃ c', h'[b]? = some (.cells c' t fr) ∧ c'.size = c.size
theorem StepH.refl (h : Heap) (st : zy7) : StepH h st h st := ⟨Nat.le_refl _, fun _ _ e => ⟨rfl, e⟩, fun _ c _ _ e => ⟨c, e, rfl⟩⟩
theorem StepH.trans {h h' h'' : Heap} {st st' st'' : zy7} (x : StepH h st h' st') (y : StepH h' st' h'' st'') : StepH h st h'' st'' :=
 ⟨Nat.le_trans x.size y.size,
  fun b hb e => let ⟨e1, e2⟩ := x.keep b hb e; let ⟨e3, e4⟩ := y.keep b (Nat.lt_of_lt_of_le hb x.size) e2; ⟨e3.trans e1, e4⟩,
  fun b c t fr e => let ⟨c1, e1, s1⟩ := x.shape b c t fr e; let ⟨c2, e2, s2⟩ := y.shape b c1 t fr e1; ⟨c2, e2, s2.trans s1⟩⟩
theorem cellAt_eq {h h' : Heap} {b : Nat} (e : h'[b]? = h[b]?) (off : Nat) : cellAt h' b off = cellAt h b off := by simp [cellAt, e]
theorem cellsAt_eq {h h' : Heap} {b : Nat} (e : h'[b]? = h[b]?) : ∀ (vs : List Value) (off : Nat), cellsAt h b off vs → cellsAt h' b off vs
 | [], _, _ => trivial
 | _ :: vs, off, x => ⟨(cellAt_eq e off).trans x.1, cellsAt_eq e vs (off + 1) x.2⟩
section
variable {h h' : Heap} {st st' : zy7}
mutual
theorem VC.mono (S : StepH h st h' st') : ∀ (a : AV) (cs : List Value), VC h st a cs → VC h' st' a cs
 | .junk, _, x => x
 | .undef, _, x => x
 | .int _ _, _, x => x
 | .bool _, _, x => x
 | .str _, _, x => x
 | .agg as, cs, x => by simp only [VC] at x ⊢; exact VCs.mono S as cs x
 | .tup as, cs, x => by
  simp only [VC] at x ⊢
  obtain ⟨vs, e, r⟩ := x
  exact ⟨vs, e, VTs.mono S as vs r⟩
 | .slice es, cs, x => by
  simp only [VC] at x ⊢
  rcases x with x | ⟨b, off, cap, e, l1, l2, n, l3, ev, r⟩
  · exact .inl x
  · obtain ⟨k1, k2⟩ := S.keep b l3 n
    exact .inr ⟨b, off, cap, e, l1, l2, k2, Nat.lt_of_lt_of_le l3 S.size, ev, VEs.mono S b k1 es off r⟩
 | .fslice es, cs, x => by
  simp only [VC] at x ⊢
  rcases x with x | ⟨b, off, e, l1, n, l3, ev, r⟩
  · exact .inl x
  · obtain ⟨k1, k2⟩ := S.keep b l3 n
    exact .inr ⟨b, off, e, l1, k2, Nat.lt_of_lt_of_le l3 S.size, ev, VEs.mono S b k1 es off r⟩
 | .mslice b off len n, cs, x => by
  simp only [VC] at x ⊢
  obtain ⟨cap, e, l1, l2, c, t, hb, l3⟩ := x
  obtain ⟨c', e', s'⟩ := S.shape b c t _ hb
  exact ⟨cap, e, l1, l2, c', t, e', by omega⟩
 | .nilptr, _, x => x
 | .ptr _ _, _, x => x
 | .pptr e, cs, x => by
  simp only [VC] at x ⊢
  obtain ⟨b, off, e1, n, l, vs, r1, r2, r3⟩ := x
  obtain ⟨k1, k2⟩ := S.keep b l n
  exact ⟨b, off, e1, k2, Nat.lt_of_lt_of_le l S.size, vs, cellsAt_eq k1 vs off r1, r2, VC.mono S e vs r3⟩
 | .nilmap, _, x => x
 | .map _, _, x => x
 | .func _ as, cs, x => by
  simp only [VC] at x ⊢
  obtain ⟨vs, e, r⟩ := x
  exact ⟨vs, e, VTs.mono S as vs r⟩
 | .raw _, _, x => x
 | .eslice, _, x => x
theorem VCs.mono (S : StepH h st h' st') : ∀ (as : List AV) (cs : List Value), VCs h st as cs → VCs h' st' as cs
 | [], _, x => x
 | a :: as, cs, x => by
  simp only [VCs] at x ⊢
  obtain ⟨c, r, e, x1, x2⟩ := x
  exact ⟨c, r, e, VC.mono S a [c] x1, VCs.mono S as r x2⟩
theorem VTs.mono (S : StepH h st h' st') : ∀ (as : List AV) (cs : List Value), VTs h st as cs → VTs h' st' as cs
 | [], _, x => x
 | a :: as, cs, x => by
  simp only [VTs] at x ⊢
  obtain ⟨c, r, e, x1, x2⟩ := x
  exact ⟨c, r, e, ⟨x1.1, VC.mono S a _ x1.2⟩, VTs.mono S as r x2⟩
theorem VEs.mono (S : StepH h st h' st') (b : Nat) (k : h'[b]? = h[b]?) : ∀ (es : List AV) (off : Nat), VEs h st b off es → VEs h' st' b off es
 | [], _, x => x
 | a :: as, off, x => by
  simp only [VEs] at x ⊢
  obtain ⟨⟨cs, x1, x2, x3⟩, x4⟩ := x
  exact ⟨⟨cs, cellsAt_eq k cs off x1, x2, VC.mono S a cs x3⟩, VEs.mono S b k as (off + a.width) x4⟩
end
end
theorem VRel.mono {h h' : Heap} {st st' : zy7} (S : StepH h st h' st') {a : AV} {v : Value} (x : VRel h st a v) : VRel h' st' a v := by
 cases a <;> first | trivial | exact ⟨x.1, VC.mono S _ _ x.2⟩
def ORel (h : Heap) (st : zy7) (b : Nat) : AO → Prop
 | .cells as => ∃ c t, h[b]? = some (.cells c t (0, 0)) ∧ as.length ≤ c.size ∧ ∃ vs, cellsAt h b 0 vs ∧ VCs h st as vs
 | .map f => ∃ es clock, h[b]? = some (.map es clock) ∧ (∀ e ∈ es.toList, ∃ n, e.key = .int .i64 n) ∧ (es.toList.map (·.key)).Nodup ∧
  ∀ n, (match f n with
   | some a => ∃ e ∈ es.toList, e.key = .int .i64 n ∧ VRel h st a e.val
   | none => ∀ e ∈ es.toList, e.key ≠ .int .i64 n)
def SRel (h : Heap) (st : zy7) : Prop := ∀ b o, st b = some o → b < h.size ∧ ORel h st b o
abbrev AF := Nat → AV
def AF.bot : AF := fun _ => .junk
def AF.upd (f : AF) (d : Nat) (v : AV) : AF := fun x => if x = d then v else f x
theorem AF.upd_same (f : AF) (d : Nat) (v : AV) : f.upd d v d = v := by simp [AF.upd]
theorem AF.upd_ne (f : AF) {d x : Nat} (v : AV) (h : x ≠ d) : f.upd d v x = f x := by simp [AF.upd, h]
theorem AF.upd_comm (f : AF) {d e : Nat} (v u : AV) (h : d ≠ e) : (f.upd d v).upd e u = (f.upd e u).upd d v := by
 funext x; simp only [AF.upd]; split <;> split <;> simp_all
def AF.put (f : AF) (dst : Option Tmp) (v : AV) : AF := match dst with | some d => f.upd d v | none => f
def ofConst : Value → AV
 | .int k n => .int k n
 | .bool b => .bool b
 | .string s => if s.size ≤ maxLen then .str s else .junk
 | .slice none 0 0 => .fslice []
 | .pointer none => .nilptr
 | .map none => .nilmap
 | .nilIface => .raw .nilIface
 | .nilFunc => .raw .nilFunc
 | .iface t v => .raw (.iface t v)
 | _ => .junk
def AF.eval (f : AF) : Operand → AV
 | .tmp t => f t
 | .const v => ofConst v
 | .global g => .raw (.pointer (some ⟨g, 0, none⟩))
 | .func g => .func g []
def FRel (h : Heap) (st : zy7) (tmps : Array Value) (f : AF) : Prop := ∀ d, VRel h st (f d) (tmps.getD d undef)
theorem FRel.mono {h h' : Heap} {st st' : zy7} {tmps : Array Value} {f : AF} (S : StepH h st h' st') (x : FRel h st tmps f) : FRel h' st' tmps f := fun d => (x d).mono S
theorem FRel.set {h : Heap} {st : zy7} {tmps : Array Value} {f : AF} (x : FRel h st tmps f) {d : Nat} (hd : d < tmps.size) {a : AV} {v : Value} (y : VRel h st a v) : FRel h st (tmps.setIfInBounds d v) (f.upd d a) := by
 intro e
 simp only [AF.upd]
 split
 · rename_i e1; subst e1; simpa [hd] using y
 · rename_i e1
   have := x e
   simpa [Array.getElem?_setIfInBounds_ne (Ne.symm e1)] using this
theorem VRel.const (h : Heap) (st : zy7) (v : Value) : VRel h st (ofConst v) v := by
 unfold ofConst
 split <;> try trivial
 case h_3 => split <;> first | trivial | exact ⟨rfl, rfl, by assumption⟩
 all_goals first | exact ⟨rfl, rfl⟩ | exact ⟨rfl, .inl ⟨⟨_, rfl⟩, rfl⟩⟩ | exact ⟨rfl, rfl, rfl⟩
theorem VRel.eval {h : Heap} {st : zy7} {a : Act} {f : AF} (x : FRel h st a.tmps f) (o : Operand) : VRel h st (f.eval o) (a.eval o) := by
 cases o with
 | tmp t => exact x t
 | const v => exact VRel.const h st v
 | global g => exact ⟨rfl, rfl, rfl⟩
 | func g => exact ⟨rfl, [], rfl, rfl⟩
theorem VRel.of_single {h : Heap} {st : zy7} {e : AV} {c : Value} (ha : e.isAgg = false) (x : VC h st e [c]) : VRel h st e c := by
 have key : ∀ {e : AV}, e.isAgg = vIsAgg c → VC h st e [c] → vIsAgg c = false → VRel h st e c := by
  intro e h1 h2 h3
  have hc : c.cells.toList = [c] := by cases c <;> first | rfl | (simp [vIsAgg] at h3)
  cases e <;> first | trivial | exact ⟨h1, by rw [hc]; exact h2⟩
 cases e <;> simp only [VC] at x
 case junk => trivial
 case undef => cases x; exact key rfl (by simp [VC]) rfl
 case int => cases x; exact key rfl (by simp [VC]) rfl
 case bool => cases x; exact key rfl (by simp [VC]) rfl
 case str => obtain ⟨x1, x2⟩ := x; cases x1; exact key rfl (by simp [VC, x2]) rfl
 case agg => simp [AV.isAgg] at ha
 case tup => obtain ⟨vs, x1, x2⟩ := x; cases x1; exact key rfl (by simp only [VC]; exact ⟨vs, rfl, x2⟩) rfl
 case slice es =>
  have x' := x
  rcases x with ⟨⟨p, x1⟩, x2⟩ | ⟨b, off, cap, x1, x2⟩ <;> cases x1 <;> exact key rfl (by unfold VC; exact x') rfl
 case fslice es =>
  have x' := x
  rcases x with ⟨⟨p, x1⟩, x2⟩ | ⟨b, off, x1, x2⟩ <;> cases x1 <;> exact key rfl (by unfold VC; exact x') rfl
 case mslice => have x' := x; obtain ⟨cap, x1, x2⟩ := x; cases x1; exact key rfl (by unfold VC; exact x') rfl
 case nilptr => cases x; exact key rfl (by simp [VC]) rfl
 case ptr => cases x; exact key rfl (by simp [VC]) rfl
 case pptr => have x' := x; obtain ⟨b, off, x1, x2⟩ := x; cases x1; exact key rfl (by unfold VC; exact x') rfl
 case nilmap => cases x; exact key rfl (by simp [VC]) rfl
 case map => cases x; exact key rfl (by simp [VC]) rfl
 case func => have x' := x; obtain ⟨vs, x1, x2⟩ := x; cases x1; exact key rfl (by unfold VC; exact x') rfl
 case raw => obtain ⟨x1, x2⟩ := x; cases x1; exact key (by simp [AV.isAgg, x2]) (by simp [VC, x2]) x2
 case eslice => have x' := x; obtain ⟨p, c, x1⟩ := x; cases x1; exact key rfl (by unfold VC; exact x') rfl
theorem VC.one {h : Heap} {st : zy7} {e : AV} {cs : List Value} (ha : e.isAgg = false) (x : VC h st e cs) : ∃ c, cs = [c] := by
 cases e <;> simp only [VC] at x
 case junk => match cs, x with | [c], _ => exact ⟨c, rfl⟩
 case undef => exact ⟨_, x⟩
 case int => exact ⟨_, x⟩
 case bool => exact ⟨_, x⟩
 case str => exact ⟨_, x.1⟩
 case agg => simp [AV.isAgg] at ha
 case tup => obtain ⟨vs, x1, _⟩ := x; exact ⟨_, x1⟩
 case slice => rcases x with ⟨⟨p, x1⟩, _⟩ | ⟨b, off, cap, x1, _⟩ <;> exact ⟨_, x1⟩
 case fslice => rcases x with ⟨⟨p, x1⟩, _⟩ | ⟨b, off, x1, _⟩ <;> exact ⟨_, x1⟩
 case mslice => obtain ⟨cap, x1, _⟩ := x; exact ⟨_, x1⟩
 case nilptr => exact ⟨_, x⟩
 case ptr => exact ⟨_, x⟩
 case pptr => obtain ⟨b, off, x1, _⟩ := x; exact ⟨_, x1⟩
 case nilmap => exact ⟨_, x⟩
 case map => exact ⟨_, x⟩
 case func => obtain ⟨vs, x1, _⟩ := x; exact ⟨_, x1⟩
 case raw => exact ⟨_, x.1⟩
 case eslice => obtain ⟨p, c, x1⟩ := x; exact ⟨_, x1⟩
theorem cells_one {v : Value} (h : vIsAgg v = false) : v.cells.toList = [v] := by cases v <;> first | rfl | (simp [vIsAgg] at h)
theorem VRel.single {h : Heap} {st : zy7} {a : AV} {v : Value} (x : VRel h st a v) (ha : a.isAgg = false) (hj : a ≠ .junk) : VC h st a [v] := by
 have key : a.isAgg = vIsAgg v ∧ VC h st a v.cells.toList := by cases a <;> first | exact absurd rfl hj | exact x
 rw [cells_one (key.1.symm.trans ha)] at key
 exact key.2
theorem VRel.int_of {h : Heap} {st : zy7} {k : IntKind} {n : Int} {v : Value} (x : VRel h st (.int k n) v) : v = .int k n := by
 have := x.single rfl (by simp); simpa [VC] using this
theorem VRel.bool_of {h : Heap} {st : zy7} {b : Bool} {v : Value} (x : VRel h st (.bool b) v) : v = .bool b := by
 have := x.single rfl (by simp); simpa [VC] using this
theorem VRel.str_of {h : Heap} {st : zy7} {s : ByteArray} {v : Value} (x : VRel h st (.str s) v) : v = .string s ∧ s.size ≤ maxLen := by
 have := x.single rfl (by simp); simpa [VC] using this
theorem VRel.undef_of {h : Heap} {st : zy7} {v : Value} (x : VRel h st .undef v) : v = Go.undef := by
 have := x.single rfl (by simp); simpa [VC] using this
theorem VRel.ptr_of {h : Heap} {st : zy7} {b off : Nat} {v : Value} (x : VRel h st (.ptr b off) v) : v = .pointer (some ⟨b, off, none⟩) := by
 have := x.single rfl (by simp); simpa [VC] using this
theorem VRel.nilptr_of {h : Heap} {st : zy7} {v : Value} (x : VRel h st .nilptr v) : v = .pointer none := by
 have := x.single rfl (by simp); simpa [VC] using this
theorem VRel.map_of {h : Heap} {st : zy7} {b : Nat} {v : Value} (x : VRel h st (.map b) v) : v = .map (some b) := by
 have := x.single rfl (by simp); simpa [VC] using this
theorem VRel.pptr_of {h : Heap} {st : zy7} {e : AV} {v : Value} (x : VRel h st (.pptr e) v) :
 ∃ b off, v = .pointer (some ⟨b, off, none⟩) ∧ st b = none ∧ b < h.size ∧ ∃ vs, cellsAt h b off vs ∧ vs.length = e.width ∧ VC h st e vs := by
 have := x.single rfl (by simp); simpa [VC] using this
theorem VRel.slice_of {h : Heap} {st : zy7} {es : List AV} {v : Value} (x : VRel h st (.slice es) v) :
 ((∃ p, v = .slice p 0 0) ∧ es = []) ∨ ∃ b off cap, v = .slice (some ⟨b, off, none⟩) es.length cap ∧ es.length ≤ cap ∧ cap ≤ maxLen ∧ st b = none ∧ b < h.size ∧ Even es ∧ VEs h st b off es := by
 have := x.single rfl (by simp); simpa [VC] using this
theorem VRel.fslice_of {h : Heap} {st : zy7} {es : List AV} {v : Value} (x : VRel h st (.fslice es) v) :
 ((∃ p, v = .slice p 0 0) ∧ es = []) ∨ ∃ b off, v = .slice (some ⟨b, off, none⟩) es.length es.length ∧ es.length ≤ maxLen ∧ st b = none ∧ b < h.size ∧ Even es ∧ VEs h st b off es := by
 have := x.single rfl (by simp); simpa [VC] using this
theorem VRel.fslice_slice {h : Heap} {st : zy7} {es : List AV} {v : Value} (x : VRel h st (.fslice es) v) : VRel h st (.slice es) v := by
 rcases x.fslice_of with ⟨⟨p, rfl⟩, rfl⟩ | ⟨b, off, rfl, r1, r2⟩
 · exact ⟨rfl, .inl ⟨⟨p, rfl⟩, rfl⟩⟩
 · exact ⟨rfl, .inr ⟨b, off, es.length, rfl, Nat.le_refl _, r1, r2⟩⟩
theorem VRel.mslice_of {h : Heap} {st : zy7} {b off len n : Nat} {v : Value} (x : VRel h st (.mslice b off len n) v) :
 ∃ cap, v = .slice (some ⟨b, off, none⟩) len cap ∧ len ≤ cap ∧ cap ≤ maxLen ∧ ∃ c t, h[b]? = some (.cells c t (0, 0)) ∧ off + cap * n ≤ c.size := by
 have := x.single rfl (by simp); simpa [VC] using this
theorem VRel.eslice_of {h : Heap} {st : zy7} {v : Value} (x : VRel h st .eslice v) : ∃ p c, v = .slice p 0 c := by
 have := x.single rfl (by simp); simpa [VC] using this
theorem VRel.tup_of {h : Heap} {st : zy7} {as : List AV} {v : Value} (x : VRel h st (.tup as) v) : ∃ vs : List Value, v = .tuple vs.toArray ∧ VTs h st as vs := by
 have := x.single rfl (by simp); simpa [VC] using this
theorem VRel.func_of {h : Heap} {st : zy7} {g : FuncId} {as : List AV} {v : Value} (x : VRel h st (.func g as) v) : ∃ vs : List Value, v = .func (.func g) #[] vs.toArray ∧ VTs h st as vs := by
 have := x.single rfl (by simp); simpa [VC] using this
theorem VRel.agg_mk {h : Heap} {st : zy7} {as : List AV} {vs : List Value} (x : VCs h st as vs) : VRel h st (.agg as) (.agg vs.toArray) :=
 ⟨rfl, by simpa [Value.cells, VC] using x⟩
theorem VRel.agg_of {h : Heap} {st : zy7} {as : List AV} {v : Value} (x : VRel h st (.agg as) v) : ∃ vs : List Value, v = .agg vs.toArray ∧ VCs h st as vs := by
 obtain ⟨x1, x2⟩ := x
 cases v <;> simp [AV.isAgg, vIsAgg] at x1
 case agg cs => exact ⟨cs.toList, by simp, by simpa [Value.cells, VC] using x2⟩
theorem VCs.length {h : Heap} {st : zy7} : ∀ {as : List AV} {vs : List Value}, VCs h st as vs → vs.length = as.length
 | [], vs, x => by simp only [VCs] at x; simp [x]
 | a :: as, vs, x => by
  simp only [VCs] at x
  obtain ⟨c, r, rfl, _, x2⟩ := x
  simp [VCs.length x2]
theorem VCs.drop {h : Heap} {st : zy7} : ∀ {as : List AV} {vs : List Value} (n : Nat), VCs h st as vs → VCs h st (as.drop n) (vs.drop n)
 | as, vs, 0, x => by simpa using x
 | [], vs, n + 1, x => by simp only [VCs] at x; simp [x, VCs]
 | a :: as, vs, n + 1, x => by
  simp only [VCs] at x
  obtain ⟨c, r, rfl, _, x2⟩ := x
  simpa using VCs.drop n x2
theorem VCs.take {h : Heap} {st : zy7} : ∀ {as : List AV} {vs : List Value} (n : Nat), VCs h st as vs → VCs h st (as.take n) (vs.take n)
 | as, vs, 0, x => by simp [VCs]
 | [], vs, n + 1, x => by simp only [VCs] at x; simp [x, VCs]
 | a :: as, vs, n + 1, x => by
  simp only [VCs] at x
  obtain ⟨c, r, rfl, x1, x2⟩ := x
  simp only [List.take_succ_cons, VCs]
  exact ⟨c, r.take n, rfl, x1, VCs.take n x2⟩
theorem VCs.get {h : Heap} {st : zy7} : ∀ {as : List AV} {vs : List Value} (n : Nat) {a : AV}, VCs h st as vs → as[n]? = some a → ∃ v, vs[n]? = some v ∧ VC h st a [v]
 | [], _, n, a, _, e => by simp at e
 | a' :: as, vs, 0, a, x, e => by
  simp only [VCs] at x
  obtain ⟨c, r, rfl, x1, x2⟩ := x
  simp at e; subst e
  exact ⟨c, rfl, x1⟩
 | a' :: as, vs, n + 1, a, x, e => by
  simp only [VCs] at x
  obtain ⟨c, r, rfl, x1, x2⟩ := x
  simpa using VCs.get n x2 (by simpa using e)
theorem cellsAt.drop {h : Heap} {b : Nat} : ∀ {vs : List Value} {off : Nat} (n : Nat), cellsAt h b off vs → cellsAt h b (off + n) (vs.drop n)
 | vs, off, 0, x => by simpa using x
 | [], off, n + 1, x => by simp [cellsAt]
 | v :: vs, off, n + 1, x => by
  have := cellsAt.drop n x.2
  simpa [Nat.add_assoc, Nat.add_comm 1 n] using this
theorem cellsAt.take {h : Heap} {b : Nat} : ∀ {vs : List Value} {off : Nat} (n : Nat), cellsAt h b off vs → cellsAt h b off (vs.take n)
 | vs, off, 0, x => by simp [cellsAt]
 | [], off, n + 1, x => by simp [cellsAt]
 | v :: vs, off, n + 1, x => ⟨x.1, cellsAt.take n x.2⟩
theorem cellsAt.get {h : Heap} {b : Nat} : ∀ {vs : List Value} {off : Nat} (n : Nat) {v : Value}, cellsAt h b off vs → vs[n]? = some v → cellAt h b (off + n) = some v
 | [], off, n, v, _, e => by simp at e
 | w :: vs, off, 0, v, x, e => by simp at e; subst e; exact x.1
 | w :: vs, off, n + 1, v, x, e => by
  have := cellsAt.get n x.2 (by simpa using e)
  simpa [Nat.add_assoc, Nat.add_comm 1 n] using this
theorem VEs.get {h : Heap} {st : zy7} {b : Nat} {n : Nat} : ∀ {es : List AV} {off : Nat} (i : Nat) {e : AV}, (∀ x ∈ es, x.width = n) → VEs h st b off es → es[i]? = some e → VE h st b (off + i * n) e
 | [], off, i, e, _, _, g => by simp at g
 | a :: as, off, 0, e, _, x, g => by simp only [VEs] at x; simp at g; subst g; simpa [VE] using x.1
 | a :: as, off, i + 1, e, u, x, g => by
  simp only [VEs] at x
  have := VEs.get (n := n) i (fun x hx => u x (by simp [hx])) x.2 (by simpa using g)
  rw [u a (by simp)] at this
  rwa [show off + (i + 1) * n = off + n + i * n by rw [Nat.succ_mul]; omega]
theorem VEs.drop {h : Heap} {st : zy7} {b : Nat} {n : Nat} : ∀ {es : List AV} {off : Nat} (i : Nat), (∀ x ∈ es, x.width = n) → VEs h st b off es → VEs h st b (off + i * n) (es.drop i)
 | es, off, 0, _, x => by simpa using x
 | [], off, i + 1, _, _ => by simp [VEs]
 | a :: as, off, i + 1, u, x => by
  simp only [VEs] at x
  have := VEs.drop (n := n) i (fun x hx => u x (by simp [hx])) x.2
  rw [u a (by simp)] at this
  rw [show off + (i + 1) * n = off + n + i * n by rw [Nat.succ_mul]; omega]
  simpa using this
theorem VEs.take {h : Heap} {st : zy7} {b : Nat} : ∀ {es : List AV} {off : Nat} (i : Nat), VEs h st b off es → VEs h st b off (es.take i)
 | es, off, 0, x => by simp [VEs]
 | [], off, i + 1, _ => by simp [VEs]
 | a :: as, off, i + 1, x => by
  simp only [VEs] at x
  simp only [List.take_succ_cons, VEs]
  exact ⟨x.1, VEs.take i x.2⟩
def sub (ag : Bool) (cs : List AV) (off sz : Nat) : Option AV :=
 if ag then (if off + sz ≤ cs.length then some (.agg ((cs.drop off).take sz)) else none)
 else match cs[off]? with
  | some a => if a.isAgg then none else some a
  | none => none
def Same (w w' : World) : Prop := w'.os = w.os ∧ w'.tape = w.tape ∧ w'.output = w.output
theorem Same.refl (w : World) : Same w w := ⟨rfl, rfl, rfl⟩
theorem Same.trans {a b c : World} (x : Same a b) (y : Same b c) : Same a c := ⟨y.1.trans x.1, y.2.1.trans x.2.1, y.2.2.trans x.2.2⟩
structure Ext (h h' : Heap) : Prop where
 size : h.size ≤ h'.size
 keep : ∀ b, b < h.size → h'[b]? = h[b]?
theorem Ext.refl (h : Heap) : Ext h h := ⟨Nat.le_refl _, fun _ _ => rfl⟩
theorem Ext.push (h : Heap) (o : Obj) : Ext h (h.push o) := ⟨by simp, fun b hb => by rw [Array.getElem?_push, if_neg (by omega)]⟩
theorem Ext.step {h h' : Heap} (x : Ext h h') (st : zy7) : StepH h st h' st :=
 ⟨x.size, fun b hb e => ⟨x.keep b hb, e⟩, fun b c t fr e => ⟨c, by
  have hb : b < h.size := by
   rcases Nat.lt_or_ge b h.size with h' | h'
   · exact h'
   · simp [Array.getElem?_eq_none h'] at e
  rw [x.keep b hb]; exact e, rfl⟩⟩
theorem ORel.mono {h h' : Heap} {st st' : zy7} (S : StepH h st h' st') {b : Nat} (k : h'[b]? = h[b]?) : ∀ {o : AO}, ORel h st b o → ORel h' st' b o
 | .cells as, x => by
  obtain ⟨c, t, e, l, vs, x1, x2⟩ := x
  exact ⟨c, t, k.trans e, l, vs, cellsAt_eq k vs 0 x1, VCs.mono S as vs x2⟩
 | .map f, x => by
  obtain ⟨es, cl, e, x1, x2, x3⟩ := x
  refine ⟨es, cl, k.trans e, x1, x2, fun n => ?_⟩
  have := x3 n
  split
  · rename_i a ha
    rw [ha] at this
    obtain ⟨e, he, hk, hv⟩ := this
    exact ⟨e, he, hk, hv.mono S⟩
  · rename_i ha
    rw [ha] at this
    exact this
theorem SRel.ext {h h' : Heap} {st : zy7} (x : Ext h h') (s : SRel h st) : SRel h' st := fun b o e =>
 let ⟨l, r⟩ := s b o e
 ⟨Nat.lt_of_lt_of_le l x.size, ORel.mono (x.step st) (x.keep b l) r⟩
def Yld (st : zy7) (w : World) (r : AV) (x : Result Next) : Prop :=
 ∃ v w', x = .ok (.value v) w' ∧ VRel w'.heap st r v ∧ Ext w.heap w'.heap ∧ Same w w'
theorem Yld.same {st : zy7} {w : World} {r : AV} {x : Result Next} {v : Value} (e : x = .ok (.value v) w) (y : VRel w.heap st r v) : Yld st w r x :=
 ⟨v, w, e, y, Ext.refl _, Same.refl _⟩
def dAgg : TypeDesc → Bool
 | .struct _ => true
 | .array _ _ => true
 | _ => false
def tI (P : Program) (t : TypeId) : Option (Bool × Nat) :=
 match P.underlying t, P.info? t with
 | some d, some i => some (dAgg d, i.size)
 | _, _ => none
def fI (P : Program) (t : TypeId) (f : Nat) : Option (Nat × Bool × Nat) :=
 match P.underlying t with
 | some (.struct fs) =>
  match fs[f]? with
  | some fd => match tI P fd.type with
   | some (ag, sz) => if sz = 0 then none else some (fd.offset, ag, sz)
   | none => none
  | none => none
 | _ => none
def eI (P : Program) (t : TypeId) : Option (Bool × Nat) :=
 match P.underlying t with
 | some (.slice e) => tI P e
 | _ => none
def aI (P : Program) (t : TypeId) : Option (Nat × Bool × Nat) :=
 match P.underlying t with
 | some (.array n e) => (tI P e).map fun x => (n, x)
 | _ => none
theorem tI_run {P : Program} {t : TypeId} {ag : Bool} {sz : Nat} (e : tI P t = some (ag, sz)) (w : World) :
 (isAgg t).run P w = .ok ag w ∧ (sizeOf t).run P w = .ok sz w ∧ ∃ d i, P.underlying t = some d ∧ P.info? t = some i ∧ i.size = sz ∧ dAgg d = ag := by
 unfold tI at e
 split at e
 · rename_i d i hu hi
   cases e
   refine ⟨?_, by simp [sizeOf, typeInfo, hi], _, _, hu, hi, rfl, rfl⟩
   simp only [isAgg, underlying, Sem.run_bind, run_program, Result.andThen_ok, hu]
   cases d <;> rfl
 · cases e
theorem cell?_cellAt (w : World) (b off : Nat) : w.cell? ⟨b, off, none⟩ = cellAt w.heap b off := by
 unfold World.cell? cellAt
 split <;> simp_all
theorem Addr.add_flat (b off n : Nat) : Addr.add ⟨b, off, none⟩ n = ⟨b, off + n, none⟩ := by
 unfold Addr.add
 split
 · rename_i h; rw [h]; rfl
 · rfl
theorem run_loadCells_at {P : Program} {w : World} {b off : Nat} {vs : List Value} (x : cellsAt w.heap b off vs) : (loadCells ⟨b, off, none⟩ vs.length).run P w = .ok vs.toArray w :=
 run_loadCells_list (P := P) w ⟨b, off, none⟩ vs fun j v hj => by rw [Addr.add_flat, cell?_cellAt]; exact x.get j hj
theorem run_loadVar {P : Program} {w : World} {b off : Nat} {t : TypeId} {ag : Bool} {sz : Nat} {vs : List Value} {st : zy7} {e : AV} (hI : tI P t = some (ag, sz))
 (x : cellsAt w.heap b off vs) (hl : vs.length = sz) (ha : e.isAgg = ag) (y : VC w.heap st e vs) :
 ∃ v, (loadVar t ⟨b, off, none⟩).run P w = .ok v w ∧ VRel w.heap st e v := by
 obtain ⟨r1, r2, _⟩ := tI_run hI w
 cases ag with
 | true =>
  refine ⟨.agg vs.toArray, ?_, ?_⟩
  · simp only [loadVar, Sem.run_bind, r1, Result.andThen_ok, if_true, r2, ← hl, run_loadCells_at x, Sem.run_pure]
  · cases e <;> simp [AV.isAgg] at ha
    exact VRel.agg_mk (by simpa [VC] using y)
 | false =>
  obtain ⟨c, rfl⟩ := VC.one ha y
  refine ⟨c, ?_, VRel.of_single ha y⟩
  simp only [loadVar, Sem.run_bind, r1, Result.andThen_ok, Bool.false_eq_true, if_false, run_load, cell?_cellAt, x.1]
def aXor (k : IntKind) (a b : Int) : Int := k.wrap ((BitVec.ofInt k.bits a ^^^ BitVec.ofInt k.bits b).toNat)
def aAnd (k : IntKind) (a b : Int) : Int := k.wrap ((BitVec.ofInt k.bits a &&& BitVec.ofInt k.bits b).toNat)
def aOr (k : IntKind) (a b : Int) : Int := k.wrap ((BitVec.ofInt k.bits a ||| BitVec.ofInt k.bits b).toNat)
def aBin (op : BinOp) : AV → AV → Option AV
 | .int k a, .int k' b =>
  if k ≠ k' then none else match op with
  | .add => some (.int k (k.wrap (a + b)))
  | .sub => some (.int k (k.wrap (a - b)))
  | .mul => some (.int k (k.wrap (a * b)))
  | .quo => if b = 0 then none else some (.int k (k.wrap (a.tdiv b)))
  | .rem => if b = 0 then none else some (.int k (a.tmod b))
  | .eql => some (.bool (decide (a = b)))
  | .neq => some (.bool (!decide (a = b)))
  | .lss => some (.bool (decide (a < b)))
  | .leq => some (.bool (decide (a ≤ b)))
  | .gtr => some (.bool (decide (b < a)))
  | .geq => some (.bool (decide (b ≤ a)))
  | .xor => some (.int k (aXor k a b))
  | .and => some (.int k (aAnd k a b))
  | .or => some (.int k (aOr k a b))
  | _ => none
 | .str a, .str b => match op with
  | .eql => some (.bool (decide (a = b)))
  | .neq => some (.bool (!decide (a = b)))
  | .lss => some (.bool (Op.bytesLess a.toList b.toList))
  | .gtr => some (.bool (!(Op.bytesLess a.toList b.toList || decide (a = b))))
  | .add => if a.size + b.size ≤ maxLen then some (.str (a ++ b)) else none
  | _ => none
 | _, _ => none
def aUn (op : UnOp) : AV → Option AV
 | .bool b => match op with | .not => some (.bool (!b)) | _ => none
 | .int k n => match op with | .neg => some (.int k (k.wrap (0 - n))) | _ => none
 | _ => none
theorem toList_beq (a b : ByteArray) : (a.toList == b.toList) = decide (a = b) := by
 have h : a.toList = b.toList ↔ a = b := ⟨fun h => by
  rw [ByteArray.toList_eq, ByteArray.toList_eq] at h
  cases a; cases b; simp_all, fun h => by rw [h]⟩
 rw [Bool.eq_iff_iff]
 simp [h]
theorem eqGuard_int (op : BinOp) (t : TypeId) (x y : Operand) (k : IntKind) (n : Int) (v : Value) : eqGuard op t x y (.int k n) v = pure () := eqGuard_at_int ..
theorem eqGuard_str (op : BinOp) (t : TypeId) (x y : Operand) (s : ByteArray) (v : Value) : eqGuard op t x y (.string s) v = pure () := eqGuard_at_string ..
theorem VRel.int_mk {h : Heap} {st : zy7} {k : IntKind} {n : Int} : VRel h st (.int k n) (.int k n) := ⟨rfl, rfl⟩
theorem VRel.bool_mk {h : Heap} {st : zy7} {b : Bool} : VRel h st (.bool b) (.bool b) := ⟨rfl, rfl⟩
theorem aBin_run {P : Program} {h : Heap} {st : zy7} {w : World} {op : BinOp} {t : TypeId} {p q r : AV} {u v : Value} (e : aBin op p q = some r) (hp : VRel h st p u) (hq : VRel h st q v) :
 ∃ z, (binOp op t u v).run P w = .ok z w ∧ VRel h st r z ∧ ∀ x y, (eqGuard op t x y u v).run P w = .ok () w := by
 unfold aBin at e
 split at e
 · rename_i k a k' b
   rw [hp.int_of, hq.int_of]
   have hg : ∀ x y, (eqGuard op t x y (.int k a) (.int k' b)).run P w = .ok () w := fun x y => by rw [eqGuard_int]; rfl
   split at e
   · cases e
   · rename_i hk
     have hk' : k = k' := Classical.byContradiction hk
     subst hk'
     cases op <;> simp only [] at e
     case add => cases e; exact ⟨_, by simp only [binOp, ne_eq, not_true, if_false, Op.intArith, Sem.run_pure], VRel.int_mk, hg⟩
     case sub => cases e; exact ⟨_, by simp only [binOp, ne_eq, not_true, if_false, Op.intArith, Sem.run_pure], VRel.int_mk, hg⟩
     case mul => cases e; exact ⟨_, by simp only [binOp, ne_eq, not_true, if_false, Op.intArith, Sem.run_pure], VRel.int_mk, hg⟩
     case quo =>
      split at e
      · cases e
      · rename_i hb; cases e; exact ⟨_, by simp only [binOp, ne_eq, not_true, if_false, Op.intDiv, hb, Sem.run_pure], VRel.int_mk, hg⟩
     case rem =>
      split at e
      · cases e
      · rename_i hb; cases e; exact ⟨_, by simp only [binOp, ne_eq, not_true, if_false, Op.intDiv, hb, Sem.run_pure], VRel.int_mk, hg⟩
     case eql => cases e; exact ⟨.bool (decide (a = b)), by simp [binOp, Op.intCmp, BEq.beq], VRel.bool_mk, hg⟩
     case neq => cases e; exact ⟨.bool (!decide (a = b)), by simp [binOp, Op.intCmp, bne, BEq.beq], VRel.bool_mk, hg⟩
     case lss => cases e; exact ⟨.bool (decide (a < b)), by simp [binOp, Op.intCmp], VRel.bool_mk, hg⟩
     case leq => cases e; exact ⟨.bool (decide (a ≤ b)), by simp [binOp, Op.intCmp], VRel.bool_mk, hg⟩
     case gtr => cases e; exact ⟨.bool (decide (b < a)), by simp [binOp, Op.intCmp], VRel.bool_mk, hg⟩
     case xor => cases e; exact ⟨_, by simp only [binOp, ne_eq, not_true, if_false, Op.intBits, Sem.run_pure, aXor], VRel.int_mk, hg⟩
     case and => cases e; exact ⟨_, by simp only [binOp, ne_eq, not_true, if_false, Op.intBits, Sem.run_pure, aAnd], VRel.int_mk, hg⟩
     case or => cases e; exact ⟨_, by simp only [binOp, ne_eq, not_true, if_false, Op.intBits, Sem.run_pure, aOr], VRel.int_mk, hg⟩
     case geq => cases e; exact ⟨.bool (decide (b ≤ a)), by simp [binOp, Op.intCmp], VRel.bool_mk, hg⟩
     all_goals cases e
 · rename_i a b
   rw [hp.str_of.1, hq.str_of.1]
   have hg : ∀ x y, (eqGuard op t x y (.string a) (.string b)).run P w = .ok () w := fun x y => by rw [eqGuard_str]; rfl
   cases op <;> simp only [] at e
   case eql => cases e; exact ⟨.bool (decide (a = b)), by simp [binOp, Op.stringOp, toList_beq], VRel.bool_mk, hg⟩
   case neq => cases e; exact ⟨.bool (!decide (a = b)), by simp [binOp, Op.stringOp, toList_beq], VRel.bool_mk, hg⟩
   case lss => cases e; exact ⟨.bool (Op.bytesLess a.toList b.toList), by simp [binOp, Op.stringOp], VRel.bool_mk, hg⟩
   case gtr => cases e; exact ⟨.bool (!(Op.bytesLess a.toList b.toList || decide (a = b))), by simp [binOp, Op.stringOp, toList_beq], VRel.bool_mk, hg⟩
   case add =>
    split at e
    · rename_i hs
      cases e
      refine ⟨.string (a ++ b), ?_, ⟨rfl, rfl, by rw [ByteArray.size_append]; exact hs⟩, hg⟩
      unfold maxLen at hs
      have : ¬ ((a.size + b.size : Nat) : Int) > IntKind.i64.max := by simp [IntKind.max, IntKind.signed, IntKind.bits]; omega
      simp only [binOp, Op.stringOp, this, if_false, Sem.run_pure]
    · cases e
   all_goals cases e
 · cases e
theorem fI_run {P : Program} {t : TypeId} {f off sz : Nat} {ag : Bool} (e : fI P t f = some (off, ag, sz)) :
 ∃ fs fd, P.underlying t = some (.struct fs) ∧ fs[f]? = some fd ∧ fd.offset = off ∧ tI P fd.type = some (ag, sz) ∧ sz ≠ 0 := by
 unfold fI at e
 split at e
 · rename_i fs hu
   split at e
   · rename_i fd hfd
     split at e
     · rename_i ag' sz' hI
       split at e
       · cases e
       · rename_i hz; cases e; exact ⟨fs, fd, hu, hfd, rfl, hI, hz⟩
     · cases e
   · cases e
 · cases e
theorem eI_run {P : Program} {t : TypeId} {sz : Nat} {ag : Bool} (e : eI P t = some (ag, sz)) : ∃ e', P.underlying t = some (.slice e') ∧ tI P e' = some (ag, sz) := by
 unfold eI at e
 split at e
 · rename_i e' hu; exact ⟨e', hu, e⟩
 · cases e
theorem aI_run {P : Program} {t : TypeId} {n sz : Nat} {ag : Bool} (e : aI P t = some (n, ag, sz)) : ∃ e', P.underlying t = some (.array n e') ∧ tI P e' = some (ag, sz) := by
 unfold aI at e
 split at e
 · rename_i n' e' hu
   cases h : tI P e' with
   | none => rw [h] at e; cases e
   | some x => rw [h] at e; cases e; exact ⟨e', hu, h⟩
 · cases e
theorem run_underlying' {P : Program} {t : TypeId} {d : TypeDesc} (e : P.underlying t = some d) (w : World) : (underlying t).run P w = .ok d w := by
 simp [underlying, e]
theorem sub_part {P : Program} {h : Heap} {st : zy7} {w : World} {t : TypeId} {ag : Bool} {off sz : Nat} {as : List AV} {vs : List Value} {r : AV} (hI : tI P t = some (ag, sz))
 (e : sub ag as off sz = some r) (x : VCs h st as vs) : ∃ v, (part t vs.toArray off).run P w = .ok v w ∧ VRel h st r v := by
 obtain ⟨r1, r2, _⟩ := tI_run hI w
 unfold sub at e
 cases ag with
 | true =>
  simp only [if_true] at e
  split at e
  · rename_i hl
    cases e
    refine ⟨.agg ((vs.drop off).take sz).toArray, ?_, VRel.agg_mk ((x.drop off).take sz)⟩
    simp only [part, Sem.run_bind, r1, Result.andThen_ok, if_true, r2, Sem.run_pure]
    congr 2
    simp [List.take_drop]
  · cases e
 | false =>
  simp only [Bool.false_eq_true, if_false] at e
  split at e
  · rename_i a ha
    split at e
    · cases e
    · rename_i hag
      cases e
      obtain ⟨v, hv, y⟩ := x.get off ha
      refine ⟨v, ?_, VRel.of_single (by simpa using hag) y⟩
      simp [part, r1, hv]
  · cases e
theorem sub_mem {h : Heap} {st : zy7} {b o off sz : Nat} {ag : Bool} {as : List AV} {vs : List Value} {r : AV} (e : sub ag as off sz = some r) (x : cellsAt h b o vs) (y : VCs h st as vs) :
 ∃ us, cellsAt h b (o + off) us ∧ us.length = r.width ∧ VC h st r us ∧ r.isAgg = ag ∧ (ag = true → r.width = sz) := by
 unfold sub at e
 cases ag with
 | true =>
  simp only [if_true] at e
  split at e
  · rename_i hl
    cases e
    have l := y.length
    refine ⟨(vs.drop off).take sz, (x.drop off).take sz, by simp [AV.width, l], by simpa [VC] using (y.drop off).take sz, rfl, fun _ => by simp [AV.width]; omega⟩
  · cases e
 | false =>
  simp only [Bool.false_eq_true, if_false] at e
  split at e
  · rename_i a ha
    split at e
    · cases e
    · rename_i hag
      cases e
      have hag' : r.isAgg = false := by simpa using hag
      obtain ⟨v, hv, y'⟩ := y.get off ha
      exact ⟨[v], ⟨x.get off hv, trivial⟩, by cases r <;> first | rfl | (simp [AV.isAgg] at hag'), y', hag', by simp⟩
  · cases e
def zy1 (P : Program) (t f : Nat) : AV → Option AV
 | .ptr b o => (fI P t f).map fun x => .ptr b (o + x.1)
 | .pptr (.agg cs) => match fI P t f with
  | some (off, ag, sz) => (sub ag cs off sz).map .pptr
  | none => none
 | _ => none
def zq2 (P : Program) (st : zy7) (t : TypeId) : AV → Option AV
 | .pptr e => match tI P t with
  | some (ag, sz) => if e.isAgg = ag ∧ e.width = sz then some e else none
  | none => none
 | .ptr b o => match tI P t, st b with
  | some (ag, sz), some (.cells cs) => if ag = false ∧ sz ≠ 1 then none else sub ag cs o sz
  | _, _ => none
 | _ => none
def aIndexAddr (P : Program) (t : TypeId) : AV → AV → Option AV
 | .slice es, .int _ n | .fslice es, .int _ n => match eI P t with
  | some (_, sz) => if 0 ≤ n then (match es[n.toNat]? with
   | some e => if e.width = sz then some (.pptr e) else none
   | none => none) else none
  | none => none
 | .mslice b off len m, .int _ n => match eI P t with
  | some (_, sz) => if 0 ≤ n ∧ n < len ∧ m = sz then some (.ptr b (off + n.toNat * sz)) else none
  | none => none
 | .ptr b off, .int _ n => match aI P t with
  | some (len, _, sz) => if 0 ≤ n ∧ n < len then some (.ptr b (off + n.toNat * sz)) else none
  | none => none
 | _, _ => none
def aIndex (P : Program) (t : TypeId) : AV → AV → Option AV
 | .str s, .int _ n => match P.underlying t with
  | some .string => if 0 ≤ n then (match s[n.toNat]? with | some b => some (.int .u8 b.toNat) | none => none) else none
  | _ => none
 | .agg cs, .int _ n => match aI P t with
  | some (len, ag, sz) => if 0 ≤ n ∧ n < len then sub ag cs (n.toNat * sz) sz else none
  | none => none
 | _, _ => none
section
variable {P : Program} {st : zy7} {w : World} {a : Act} {φ : AF}
theorem fieldAddr_ok {t : TypeId} {x : Operand} {f : Nat} {r : AV} {o : Oper} (ho : o.op = .fieldAddr t x f) (F : FRel w.heap st a.tmps φ) (e : zy1 P t f (φ.eval x) = some r) : Yld st w r ((execOp a.eval o).run P w) := by
 have y := VRel.eval F x
 have run : ∀ {off sz : Nat} {ag : Bool} {b q : Nat}, fI P t f = some (off, ag, sz) → a.eval x = .pointer (some ⟨b, q, none⟩) →
  (execOp a.eval o).run P w = .ok (.value (.pointer (some ⟨b, q + off, none⟩))) w := by
  intro off sz ag b q hI hv
  obtain ⟨fs, fd, hu, hfd, hoff, hT, hz⟩ := fI_run hI
  obtain ⟨_, r2, _⟩ := tI_run hT w
  simp only [execOp, ho, hv, Instr.fieldAt, Sem.run_bind, run_underlying' hu, Result.andThen_ok, hfd, Instr.sureAddr, Sem.run_pure, fieldPlace, r2, hz, if_false, Addr.add_flat, hoff]
 unfold zy1 at e
 split at e
 · rename_i b q hx
   rw [hx] at y
   cases hI : fI P t f with
   | none => rw [hI] at e; cases e
   | some z =>
    obtain ⟨off, ag, sz⟩ := z
    rw [hI] at e; cases e
    exact .same (run hI y.ptr_of) ⟨rfl, rfl⟩
 · rename_i cs hx
   rw [hx] at y
   split at e
   · rename_i off ag sz hI
     cases hs : sub ag cs off sz with
     | none => rw [hs] at e; cases e
     | some r' =>
      rw [hs] at e; cases e
      obtain ⟨b, q, hv, e2, e3, vs, e4, e5, e6⟩ := y.pptr_of
      obtain ⟨us, u1, u2, u3, _⟩ := sub_mem hs e4 (by simpa [VC] using e6)
      exact .same (run hI hv) ⟨rfl, b, q + off, rfl, e2, e3, us, u1, u2, u3⟩
   · cases e
 · cases e
theorem aLoad_val {t : TypeId} {x r : AV} {v : Value} (y : VRel w.heap st x v) (S : SRel w.heap st) (e : zq2 P st t x = some r) :
 ∃ b off u, v = .pointer (some ⟨b, off, none⟩) ∧ (loadVar t ⟨b, off, none⟩).run P w = .ok u w ∧ VRel w.heap st r u := by
 unfold zq2 at e
 split at e
 · rename_i e'
   split at e
   · rename_i ag sz hI
     split at e
     · rename_i hc
       cases e
       obtain ⟨b, off, hv, e2, e3, vs, e4, e5, e6⟩ := y.pptr_of
       obtain ⟨u, r1, rv⟩ := run_loadVar hI e4 (by rw [e5, hc.2]) hc.1 e6
       exact ⟨b, off, u, hv, r1, rv⟩
     · cases e
   · cases e
 · rename_i b q
   split at e
   · rename_i ag sz cs hI hs
     split at e
     · cases e
     · rename_i hsz
       obtain ⟨_, c, t', hb, hl, vs, x1, x2⟩ := S b _ hs
       obtain ⟨us, u1, u2, u3, u4, u5⟩ := sub_mem e x1 x2
       rw [Nat.zero_add] at u1
       have hw : us.length = sz := by
        cases ag with
        | true => rw [u2]; exact u5 rfl
        | false => rw [u2]; simp at hsz; rw [hsz]; cases r <;> first | rfl | (simp [AV.isAgg] at u4)
       obtain ⟨u, r1, rv⟩ := run_loadVar hI u1 hw u4 u3
       exact ⟨b, q, u, y.ptr_of, r1, rv⟩
   · cases e
 · cases e
theorem load_ok {t : TypeId} {x : Operand} {r : AV} {o : Oper} (ho : o.op = .load t x) (F : FRel w.heap st a.tmps φ) (S : SRel w.heap st) (e : zq2 P st t (φ.eval x) = some r) : Yld st w r ((execOp a.eval o).run P w) := by
 obtain ⟨b, off, u, hv, r1, rv⟩ := aLoad_val (VRel.eval F x) S e
 exact .same (v := u) (by simp [execOp, ho, Instr.loadAt, Instr.sureAddr, hv, r1]) rv
theorem field_ok {t : TypeId} {x : Operand} {f : Nat} {r : AV} {o : Oper} {off sz : Nat} {ag : Bool} {cs : List AV} (ho : o.op = .field t x f) (F : FRel w.heap st a.tmps φ) (hI : fI P t f = some (off, ag, sz)) (hx : φ.eval x = .agg cs)
 (e : sub ag cs off sz = some r) : Yld st w r ((execOp a.eval o).run P w) := by
 have y := VRel.eval F x
 rw [hx] at y
 obtain ⟨vs, hv, hc⟩ := y.agg_of
 obtain ⟨fs, fd, hu, hfd, hoff, hT, hz⟩ := fI_run hI
 obtain ⟨v, r1, rv⟩ := sub_part (P := P) (w := w) hT e hc
 exact .same (v := v) (by simp only [execOp, ho, hv, Instr.field, Sem.run_bind, run_underlying' hu, Result.andThen_ok, hfd, asAgg, Sem.run_pure, hoff, r1]) rv
theorem indexAddr_ok {t : TypeId} {x i : Operand} {r : AV} {o : Oper} (ho : o.op = .indexAddr t x i) (F : FRel w.heap st a.tmps φ) (e : aIndexAddr P t (φ.eval x) (φ.eval i) = some r) : Yld st w r ((execOp a.eval o).run P w) := by
 have y := VRel.eval F x
 have yi := VRel.eval F i
 have runS : ∀ {b off len cap sz : Nat} {ag : Bool} {k : IntKind} {n : Int}, eI P t = some (ag, sz) → a.eval x = .slice (some ⟨b, off, none⟩) len cap → a.eval i = .int k n → 0 ≤ n → n < len →
  (execOp a.eval o).run P w = .ok (.value (.pointer (some ⟨b, off + n.toNat * sz, none⟩))) w := by
  intro b off len cap sz ag k n hI hv hi h0 h1
  obtain ⟨e', hu, hT⟩ := eI_run hI
  obtain ⟨_, r2, _⟩ := tI_run hT w
  simp only [execOp, ho, hv, hi, Instr.indexAt, asIntOf, Sem.run_bind, run_underlying' hu, Result.andThen_ok, Sem.run_pure, h0, h1, and_self, if_true, r2, Addr.add_flat]
 have imm : ∀ {es : List AV} {k : IntKind} {n : Int} {b off cap : Nat}, φ.eval i = .int k n → a.eval x = .slice (some ⟨b, off, none⟩) es.length cap → st b = none → b < w.heap.size → Even es → VEs w.heap st b off es →
  (match eI P t with
   | some (_, sz) => if 0 ≤ n then (match es[n.toNat]? with
    | some e => if e.width = sz then some (.pptr e) else none
    | none => none) else none
   | none => none) = some r → Yld st w r ((execOp a.eval o).run P w) := by
  intro es k n b off cap hi hv e2 e3 ev e4 e
  rw [hi] at yi
  split at e
  · rename_i ag sz hI
    split at e
    · rename_i h0
      split at e
      · rename_i e' he'
        split at e
        · rename_i hw
          cases e
          obtain ⟨m, hm⟩ := ev
          have hlt : n.toNat < es.length := (List.getElem?_eq_some_iff.1 he').1
          have hms : m = sz := by rw [← hw]; exact (hm e' (List.mem_of_getElem? he')).symm
          obtain ⟨us, u1, u2, u3⟩ := VEs.get n.toNat hm e4 he'
          rw [hms] at u1
          exact .same (runS hI hv yi.int_of h0 (by omega)) ⟨rfl, b, _, rfl, e2, e3, us, u1, u2, u3⟩
        · cases e
      · cases e
    · cases e
  · cases e
 unfold aIndexAddr at e
 split at e
 · rename_i es k n hx hi
   rw [hx] at y
   rcases y.slice_of with ⟨⟨p0, hv⟩, rfl⟩ | ⟨b, off, cap, hv, l1, l2, e2, e3, ev, e4⟩
   · split at e <;> simp at e
   · exact imm hi hv e2 e3 ev e4 e
 · rename_i es k n hx hi
   rw [hx] at y
   rcases y.fslice_of with ⟨⟨p0, hv⟩, rfl⟩ | ⟨b, off, hv, l1, e2, e3, ev, e4⟩
   · split at e <;> simp at e
   · exact imm hi hv e2 e3 ev e4 e
 · rename_i b off len m k n hx hi
   rw [hx] at y
   rw [hi] at yi
   obtain ⟨cap, hv, l1, l2, c, t', hb, l3⟩ := y.mslice_of
   split at e
   · rename_i ag sz hI
     split at e
     · rename_i hc
       cases e
       exact .same (runS hI hv yi.int_of hc.1 hc.2.1) ⟨rfl, rfl⟩
     · cases e
   · cases e
 · rename_i b off k n hx hi
   rw [hx] at y
   rw [hi] at yi
   split at e
   · rename_i len ag sz hI
     split at e
     · rename_i hc
       cases e
       obtain ⟨e', hu, hT⟩ := aI_run hI
       obtain ⟨_, r2, _⟩ := tI_run hT w
       refine .same (v := .pointer (some ⟨b, off + n.toNat * sz, none⟩)) ?_ ⟨rfl, rfl⟩
       simp only [execOp, ho, y.ptr_of, yi.int_of, Instr.indexAt, asIntOf, Sem.run_bind, run_underlying' hu, Result.andThen_ok, Sem.run_pure, Instr.sureAddr, hc.1, hc.2, and_self, if_true, r2, Addr.add_flat]
     · cases e
   · cases e
 · cases e
theorem index_ok {t : TypeId} {x i : Operand} {r : AV} {o : Oper} (ho : o.op = .index t x i) (F : FRel w.heap st a.tmps φ) (e : aIndex P t (φ.eval x) (φ.eval i) = some r) : Yld st w r ((execOp a.eval o).run P w) := by
 have y := VRel.eval F x
 have yi := VRel.eval F i
 unfold aIndex at e
 split at e
 · rename_i s k n hx hi
   rw [hx] at y
   rw [hi] at yi
   split at e
   · rename_i hu
     split at e
     · rename_i h0
       split at e
       · rename_i b hb
         cases e
         refine .same (v := .int .u8 b.toNat) ?_ ⟨rfl, rfl⟩
         simp only [execOp, ho, y.str_of.1, yi.int_of, Instr.index, asIntOf, Sem.run_bind, run_underlying' hu, Result.andThen_ok, Sem.run_pure, h0, if_true, hb]
       · cases e
     · cases e
   · cases e
 · rename_i cs k n hx hi
   rw [hx] at y
   rw [hi] at yi
   obtain ⟨vs, hv, hc⟩ := y.agg_of
   split at e
   · rename_i len ag sz hI
     split at e
     · rename_i hn
       obtain ⟨e', hu, hT⟩ := aI_run hI
       obtain ⟨_, r2, _⟩ := tI_run hT w
       obtain ⟨v, r1, rv⟩ := sub_part (P := P) (w := w) hT e hc
       refine .same (v := v) ?_ rv
       simp only [execOp, ho, hv, yi.int_of, Instr.index, asIntOf, Sem.run_bind, run_underlying' hu, Result.andThen_ok, Sem.run_pure, hn.1, hn.2, and_self, if_true, r2, r1]
     · cases e
   · cases e
 · cases e
end
def aBound (φ : AF) (x : Option Operand) (dflt most : Nat) : Option Nat :=
 match x with
 | none => some dflt
 | some y => match φ.eval y with
  | .int _ n => if 0 ≤ n ∧ n ≤ most then some n.toNat else none
  | _ => none
def widthOk (es : List AV) (l sz : Nat) : Bool := match es[l]? with | some e => e.width == sz | none => true
def isF0 : AV → Bool
 | .fslice [] => true
 | _ => false
def aSlice0 (P : Program) (φ : AF) (t : TypeId) (x : AV) (lo hi mx : Option Operand) : Option AV :=
 match x with
 | .str s => match P.underlying t, mx with
  | some .string, none => match aBound φ hi s.size s.size with
   | some h => match aBound φ lo 0 h with
    | some l => some (.str (s.extract l h))
    | none => none
   | none => none
  | _, _ => none
 | .slice es | .fslice es => match eI P t with
  | some (_, sz) => if mx.isSome ∧ hi.isNone then none else match aBound φ mx es.length es.length with
   | some m => match aBound φ hi es.length m with
    | some h => match aBound φ lo 0 h with
     | some l => if l = 0 ∨ widthOk es l sz = true then
      some (if mx.isSome ∧ m = h then .fslice ((es.take h).drop l) else .slice ((es.take h).drop l)) else none
     | none => none
    | none => none
   | none => none
  | none => none
 | .mslice b off len n => match eI P t, mx with
  | some (_, sz), none => match aBound φ hi len len with
   | some h => match aBound φ lo 0 h with
    | some l => if n = sz then (if l = 0 then some (.mslice b off h n) else if l < h then some (.mslice b (off + l * n) (h - l) n) else some .eslice) else none
    | none => none
   | none => none
  | _, _ => none
 | _ => none
def aSlice (P : Program) (φ : AF) (t : TypeId) (x : AV) (lo hi mx : Option Operand) : Option AV :=
 if isF0 x = true ∧ mx.isNone = true then match eI P t with
  | some _ => match aBound φ hi 0 0 with
   | some h => match aBound φ lo 0 h with
    | some _ => some (.fslice [])
    | none => none
   | none => none
  | none => none
 else aSlice0 P φ t x lo hi mx
section
variable {P : Program} {st : zy7} {w : World} {a : Act} {φ : AF}
theorem bound_ok (F : FRel w.heap st a.tmps φ) {y : Operand} {dflt most most' r : Nat} (code : BoundsCode) (e : aBound φ (some y) dflt most = some r) (hm : most ≤ most') :
 (Instr.sliceBound (a.eval y) most' code).run P w = .ok r w ∧ r ≤ most := by
 simp only [aBound] at e
 have z := VRel.eval F y
 split at e
 · rename_i k n hn
   rw [hn] at z
   split at e
   · rename_i h
     cases e
     rw [z.int_of]
     have h2 : n ≤ (most' : Int) := by omega
     refine ⟨?_, by omega⟩
     simp [Instr.sliceBound, asIntOf, h.1, h2]
   · cases e
 · cases e
theorem bounds2_ok (F : FRel w.heap st a.tmps φ) {lo hi : Option Operand} {isS : Bool} {len len' cap h l : Nat} (eh : aBound φ hi len len' = some h) (el : aBound φ lo 0 h = some l) (hl : len ≤ len') (hc : len' ≤ cap) :
 (Instr.sliceBounds isS len cap (lo.map a.eval) (hi.map a.eval) none).run P w = .ok (l, h, cap) w ∧ l ≤ h ∧ h ≤ len' := by
 have hh : h ≤ len' := by
  cases hi with
  | none => cases eh; exact hl
  | some y => exact (bound_ok (P := P) F .index eh (Nat.le_refl _)).2
 have hll : l ≤ h := by
  cases lo with
  | none => cases el; exact Nat.zero_le _
  | some y => exact (bound_ok (P := P) F .index el (Nat.le_refl _)).2
 refine ⟨?_, hll, hh⟩
 cases hi with
 | none =>
  cases eh
  cases lo with
  | none => cases el; simp [Instr.sliceBounds]
  | some y =>
   have := (bound_ok (P := P) F .sliceB el (Nat.le_refl _)).1
   simp [Instr.sliceBounds, this]
 | some z =>
  have h1 := (bound_ok (P := P) F (if isS then .sliceAcap else .sliceAlen) eh hc).1
  cases lo with
  | none => cases el; simp [Instr.sliceBounds, h1]
  | some y =>
   have := (bound_ok (P := P) F .sliceB el (Nat.le_refl _)).1
   simp [Instr.sliceBounds, h1, this]
theorem bounds3_ok (F : FRel w.heap st a.tmps φ) {lo hi : Option Operand} {x y : Operand} {len cap h l m : Nat} (he : hi = some y) (em : aBound φ (some x) len len = some m) (eh : aBound φ hi len m = some h) (el : aBound φ lo 0 h = some l) (hc : len ≤ cap) :
 (Instr.sliceBounds true len cap (lo.map a.eval) (hi.map a.eval) (some (a.eval x))).run P w = .ok (l, h, m) w ∧ l ≤ h ∧ h ≤ m ∧ m ≤ len := by
 subst he
 have h0 := bound_ok (P := P) F .slice3Acap em hc
 have h1 := bound_ok (P := P) F .slice3B eh (Nat.le_refl _)
 have hll : l ≤ h := by
  cases lo with
  | none => cases el; exact Nat.zero_le _
  | some y => exact (bound_ok (P := P) F .index el (Nat.le_refl _)).2
 refine ⟨?_, hll, h1.2, h0.2⟩
 cases lo with
 | none => cases el; simp [Instr.sliceBounds, h0.1, h1.1]
 | some y =>
  have := (bound_ok (P := P) F .slice3C el (Nat.le_refl _)).1
  simp [Instr.sliceBounds, h0.1, h1.1, this]
theorem slice0_ok {t : TypeId} {x : Operand} {lo hi mx : Option Operand} {r : AV} {o : Oper} (ho : o.op = .slice t x lo hi mx) (F : FRel w.heap st a.tmps φ) (e : aSlice0 P φ t (φ.eval x) lo hi mx = some r) : Yld st w r ((execOp a.eval o).run P w) := by
 have y := VRel.eval F x
 have imm : ∀ {es : List AV}, VRel w.heap st (.slice es) (a.eval x) →
  (match eI P t with
   | some (_, sz) => if mx.isSome ∧ hi.isNone then none else match aBound φ mx es.length es.length with
    | some m => match aBound φ hi es.length m with
     | some h => match aBound φ lo 0 h with
      | some l => if l = 0 ∨ widthOk es l sz = true then
       some (if mx.isSome ∧ m = h then .fslice ((es.take h).drop l) else .slice ((es.take h).drop l)) else none
      | none => none
     | none => none
    | none => none
   | none => none) = some r → Yld st w r ((execOp a.eval o).run P w) := by
  intro es y e
  split at e
  case h_2 => cases e
  rename_i ag sz hI
  obtain ⟨e', hu, hT⟩ := eI_run hI
  obtain ⟨_, r2, _⟩ := tI_run hT w
  split at e
  case isTrue => cases e
  rename_i hno
  split at e
  case h_2 => cases e
  rename_i m hm
  split at e
  case h_2 => cases e
  rename_i h hh
  split at e
  case h_2 => cases e
  rename_i l hl
  split at e
  case isFalse => cases e
  rename_i hw
  cases e
  -- the bounds
  have key : ∀ base cap, a.eval x = .slice base es.length cap → es.length ≤ cap → ∃ M, (execOp a.eval o).run P w = .ok (.value (.slice (if M = l then base else base.map (·.add (l * sz))) (h - l) (M - l))) w ∧ l ≤ h ∧ h ≤ es.length ∧ h ≤ M ∧ M ≤ cap ∧ (mx.isSome ∧ m = h → M = h) := by
   intro base cap hv hc
   cases mx with
   | none =>
    cases hm
    obtain ⟨b1, b2, b3⟩ := bounds2_ok (P := P) (isS := true) F hh hl (Nat.le_refl _) hc
    refine ⟨cap, ?_, b2, b3, by omega, Nat.le_refl _, by simp⟩
    simp only [execOp, ho, Instr.sliceAt, Sem.run_bind, run_underlying' hu, Result.andThen_ok, Instr.slice, hv, Option.map_none, b1, r2, Sem.run_pure]
   | some z =>
    cases hi with
    | none =>
     exact absurd ⟨rfl, rfl⟩ hno
    | some y' =>
     obtain ⟨b1, b2, b3, b4⟩ := bounds3_ok (P := P) F rfl hm hh hl hc
     refine ⟨m, ?_, b2, by omega, b3, by omega, fun q => q.2⟩
     simp only [execOp, ho, Instr.sliceAt, Sem.run_bind, run_underlying' hu, Result.andThen_ok, Instr.slice, hv]
     rw [show (some z).map a.eval = some (a.eval z) from rfl, b1]
     simp only [Result.andThen_ok, r2, Sem.run_pure]
  rcases y.slice_of with ⟨⟨p0, hv⟩, rfl⟩ | ⟨b, off, cap, hv, l1, l2, e2, e3, ev, e4⟩
  · obtain ⟨M, r1, b1, b2, b3, b4, b5⟩ := key p0 0 hv (by simp)
    have hM : M = 0 := by omega
    have hh0 : h = 0 := by omega
    have hl0 : l = 0 := by omega
    subst hM hh0 hl0
    refine .same (v := .slice p0 0 0) (by rw [r1]; simp) ?_
    split
    · exact ⟨rfl, .inl ⟨⟨p0, rfl⟩, by simp⟩⟩
    · exact ⟨rfl, .inl ⟨⟨p0, rfl⟩, by simp⟩⟩
  · obtain ⟨M, r1, b1, b2, b3, b4, b5⟩ := key _ cap hv l1
    have hlen : ((es.take h).drop l).length = h - l := by simp; omega
    obtain ⟨n, hn⟩ := ev
    have hE : ∃ off', VEs w.heap st b off' ((es.take h).drop l) ∧ (if M = l then some (⟨b, off, none⟩ : Addr) else (some (⟨b, off, none⟩ : Addr)).map (·.add (l * sz))) = some ⟨b, off', none⟩ := by
     by_cases hMl : M = l
     · have : (es.take h).drop l = [] := by apply List.eq_nil_of_length_eq_zero; omega
       refine ⟨off, by rw [this]; simp [VEs], by rw [if_pos hMl]⟩
     · refine ⟨off + l * sz, ?_, by rw [if_neg hMl]; simp [Addr.add_flat]⟩
       have base : VEs w.heap st b (off + l * n) ((es.take h).drop l) := VEs.drop l (fun x hx => hn x (List.mem_of_mem_take hx)) (VEs.take h e4)
       rcases hw with hw | hw
       · subst hw; simpa using base
       · unfold widthOk at hw
         split at hw
         · rename_i e'' he''
           have h1 : e''.width = sz := by simpa using hw
           have h2 := hn e'' (List.mem_of_getElem? he'')
           rw [← h1, h2]; exact base
         · rename_i hnone
           have h3 : es.length ≤ l := by simpa using hnone
           have : (es.take h).drop l = [] := by apply List.eq_nil_of_length_eq_zero; omega
           rw [this]; simp [VEs]
    obtain ⟨off', hE1, hE2⟩ := hE
    have hEv : Even ((es.take h).drop l) := ⟨n, fun x hx => hn x (List.mem_of_mem_take (List.mem_of_mem_drop hx))⟩
    refine .same (v := .slice (some ⟨b, off', none⟩) (h - l) (M - l)) (by rw [r1, hE2]) ?_
    split
    · rename_i hc
      have := b5 hc
      subst this
      exact ⟨rfl, .inr ⟨b, off', by rw [hlen]; rfl, by omega, e2, e3, hEv, hE1⟩⟩
    · exact ⟨rfl, .inr ⟨b, off', M - l, by rw [hlen]; rfl, by omega, by omega, e2, e3, hEv, hE1⟩⟩
 unfold aSlice0 at e
 split at e
 · rename_i s hx
   rw [hx] at y
   split at e
   case h_2 => cases e
   rename_i hu
   split at e
   case h_2 => cases e
   rename_i h hh
   split at e
   case h_2 => cases e
   rename_i l hl
   cases e
   obtain ⟨b1, b2, b3⟩ := bounds2_ok (P := P) (isS := false) F hh hl (Nat.le_refl _) (Nat.le_refl s.size)
   refine .same (v := .string (s.extract l h)) ?_ ⟨rfl, rfl, by have h1 := y.str_of.2; rw [ByteArray.size_extract]; omega⟩
   simp only [execOp, ho, Instr.sliceAt, Sem.run_bind, run_underlying' hu, Result.andThen_ok, Instr.slice, y.str_of.1, Option.map_none, Option.isSome_none, Bool.false_eq_true, if_false, b1, Sem.run_pure]
 · rename_i es hx
   rw [hx] at y
   exact imm y e
 · rename_i es hx
   rw [hx] at y
   exact imm y.fslice_slice e
 · rename_i b off len n hx
   rw [hx] at y
   obtain ⟨cap, hv, l1, l2, c, t', hb, l3⟩ := y.mslice_of
   split at e
   case h_2 => cases e
   rename_i ag sz hI
   obtain ⟨e', hu, hT⟩ := eI_run hI
   obtain ⟨_, r2, _⟩ := tI_run hT w
   split at e
   case h_2 => cases e
   rename_i h hh
   split at e
   case h_2 => cases e
   rename_i l hl
   split at e
   case isFalse => cases e
   rename_i hc1
   subst hc1
   obtain ⟨b1, b2, b3⟩ := bounds2_ok (P := P) (isS := true) F hh hl (Nat.le_refl _) l1
   have run : (execOp a.eval o).run P w = .ok (.value (.slice (if cap = l then some ⟨b, off, none⟩ else (some ⟨b, off, none⟩ : Option Addr).map (·.add (l * n))) (h - l) (cap - l))) w := by
    simp only [execOp, ho, Instr.sliceAt, Sem.run_bind, run_underlying' hu, Result.andThen_ok, Instr.slice, hv, Option.map_none, b1, r2, Sem.run_pure]
   split at e
   · rename_i hc2
     cases e
     subst hc2
     refine .same (v := .slice (some ⟨b, off, none⟩) h cap) ?_ ⟨rfl, cap, rfl, by omega, l2, c, t', hb, l3⟩
     rw [run]
     simp [Addr.add]
   · rename_i hc2
     split at e
     · rename_i hc3
       cases e
       have hne : ¬ cap = l := by omega
       refine .same (v := .slice (some ⟨b, off + l * n, none⟩) (h - l) (cap - l)) ?_ ⟨rfl, cap - l, rfl, by omega, by omega, c, t', hb, ?_⟩
       · rw [run, if_neg hne]
         simp [Addr.add_flat]
       · have : l * n + (cap - l) * n = cap * n := by rw [← Nat.add_mul]; congr 1; omega
         omega
     · rename_i hc3
       cases e
       have hz : h - l = 0 := by omega
       rw [hz] at run
       exact .same run ⟨rfl, _, _, rfl⟩
 · cases e
theorem slice_ok {t : TypeId} {x : Operand} {lo hi mx : Option Operand} {r : AV} {o : Oper} (ho : o.op = .slice t x lo hi mx) (F : FRel w.heap st a.tmps φ) (e : aSlice P φ t (φ.eval x) lo hi mx = some r) : Yld st w r ((execOp a.eval o).run P w) := by
 unfold aSlice at e
 split at e
 case isFalse => exact slice0_ok ho F e
 rename_i hc
 have y := VRel.eval F x
 have hx : φ.eval x = .fslice [] := by
  have := hc.1
  generalize φ.eval x = v at *
  unfold isF0 at this
  split at this
  · rfl
  · cases this
 have hm : mx = none := by cases mx with | none => rfl | some _ => simp at hc
 subst hm
 rw [hx] at y
 split at e
 case h_2 => cases e
 rename_i sz hI
 obtain ⟨ag, sz⟩ := sz
 obtain ⟨e', hu, hT⟩ := eI_run hI
 obtain ⟨_, r2, _⟩ := tI_run hT w
 split at e
 case h_2 => cases e
 rename_i h hh
 split at e
 case h_2 => cases e
 rename_i l hl
 cases e
 have hv : ∃ p, a.eval x = .slice p 0 0 := by
  rcases y.fslice_of with ⟨⟨p0, hv⟩, _⟩ | ⟨b, off, hv, _⟩
  · exact ⟨p0, hv⟩
  · exact ⟨_, hv⟩
 obtain ⟨p, hv⟩ := hv
 obtain ⟨b1, b2, b3⟩ := bounds2_ok (P := P) (isS := true) F hh hl (Nat.le_refl _) (Nat.le_refl 0)
 have h0 : h = 0 := by omega
 have l0 : l = 0 := by omega
 subst h0 l0
 refine .same (v := .slice p 0 0) ?_ ⟨rfl, .inl ⟨⟨p, rfl⟩, rfl⟩⟩
 simp only [execOp, ho, Instr.sliceAt, Sem.run_bind, run_underlying' hu, Result.andThen_ok, Instr.slice, hv, Option.map_none, b1, r2, Sem.run_pure]
 simp
end
def bI (P : Program) (t : TypeId) : Option (List (Nat × Nat)) :=
 match P.underlying t with
 | some (.struct fs) => fs.toList.mapM fun f => (P.info? f.type).map fun i => (f.offset, i.size)
 | _ => none
def zI (P : Program) (t : TypeId) : Option (List AV) :=
 match P.info? t with
 | some i => match i.zero with
  | some z => some (z.cells.toList.map ofConst)
  | none => none
 | none => none
def AV.isJunk : AV → Bool
 | .junk => true
 | _ => false
def PRel (h : Heap) (st : zy7) : List (Nat × AV) → List (Nat × Value) → Prop
 | [], qs => qs = []
 | p :: ps, qs => ∃ q r, qs = q :: r ∧ (p.1 = q.1 ∧ VRel h st p.2 q.2) ∧ PRel h st ps r
def zx2 (place : Nat → Option (Nat × Nat)) (cells : List AV) : List (Nat × AV) → Option (List AV)
 | [] => some cells
 | (i, v) :: rest =>
  match place i with
  | none => none
  | some (off, size) =>
   if v.cells.length ≠ size ∨ off + size > cells.length ∨ v.isJunk = true then none
   else zx2 place (cells.take off ++ v.cells ++ cells.drop (off + size)) rest
theorem VCs.append {h : Heap} {st : zy7} : ∀ {as bs : List AV} {vs us : List Value}, VCs h st as vs → VCs h st bs us → VCs h st (as ++ bs) (vs ++ us)
 | [], _, vs, us, x, y => by simp only [VCs] at x; subst x; simpa using y
 | a :: as, _, vs, us, x, y => by
  simp only [VCs] at x
  obtain ⟨c, r, rfl, x1, x2⟩ := x
  simp only [List.cons_append, VCs]
  exact ⟨c, r ++ us, rfl, x1, VCs.append x2 y⟩
theorem VRel.cells {h : Heap} {st : zy7} {a : AV} {v : Value} (x : VRel h st a v) (hj : a ≠ .junk) : VCs h st a.cells v.cells.toList := by
 by_cases ha : a.isAgg = true
 · cases a <;> simp [AV.isAgg] at ha
   obtain ⟨vs, rfl, hc⟩ := x.agg_of
   simpa [AV.cells, Value.cells] using hc
 · have ha' : a.isAgg = false := by simpa using ha
   have h1 := x.single ha' hj
   have h2 : a.isAgg = vIsAgg v := by cases a <;> first | exact absurd rfl hj | exact x.1
   rw [cells_one (h2.symm.trans ha')]
   have h3 : a.cells = [a] := by cases a <;> first | rfl | (simp [AV.isAgg] at ha')
   rw [h3]
   simp only [VCs]
   exact ⟨v, [], rfl, h1, rfl⟩
theorem foldl_set (off : Nat) : ∀ (vs : List Value) (k : Nat) (cs : Array Value), off + k + vs.length ≤ cs.size →
 ((vs.zipIdx k).foldl (fun cs (x : Value × Nat) => cs.setIfInBounds (off + x.2) x.1) cs).toList = cs.toList.take (off + k) ++ vs ++ cs.toList.drop (off + k + vs.length)
 | [], k, cs, _ => by simp
 | v :: vs, k, cs, hl => by
  simp only [List.zipIdx_cons, List.foldl_cons]
  rw [foldl_set off vs (k + 1) (cs.setIfInBounds (off + k) v) (by simp at hl ⊢; omega)]
  have hlt : off + k < cs.toList.length := by simp at hl ⊢; omega
  simp only [Array.toList_setIfInBounds]
  have e1 : (cs.toList.set (off + k) v).take (off + (k + 1)) = cs.toList.take (off + k) ++ [v] := by
   rw [show off + (k + 1) = off + k + 1 by omega, List.take_succ_eq_append_getElem (by simpa using hlt)]
   simp [List.take_set_of_le]
  have e2 : (cs.toList.set (off + k) v).drop (off + (k + 1) + vs.length) = cs.toList.drop (off + k + (v :: vs).length) := by
   rw [List.drop_set_of_lt (by omega)]
   congr 1
   simp; omega
  rw [e1, e2]
  simp
theorem fill_ok {h : Heap} {st : zy7} {place : Nat → Option (Nat × Nat)} : ∀ {parts : List (Nat × AV)} {vparts : List (Nat × Value)} {as r : List AV} {cs : Array Value},
 PRel h st parts vparts → VCs h st as cs.toList → zx2 place as parts = some r → ∃ cs', Instr.fill place cs vparts = some cs' ∧ VCs h st r cs'.toList
 | [], vparts, as, r, cs, y, x, e => by simp only [zx2] at e; cases e; simp only [PRel] at y; subst y; exact ⟨cs, rfl, x⟩
 | (i, p) :: parts, vparts, as, r, cs, y, x, e => by
  simp only [PRel] at y
  obtain ⟨⟨j, q⟩, rest, rfl, ⟨y1, y2⟩, y3⟩ := y
  simp only at y1 y2
  subst y1
  simp only [zx2] at e
  split at e
  · cases e
  · rename_i off size hp
    split at e
    · cases e
    · rename_i hc
      have hj : p ≠ .junk := by intro hj; subst hj; simp [AV.isJunk] at hc
      have hcells := y2.cells hj
      have hl1 := hcells.length
      have hl2 := x.length
      simp only [not_or, Decidable.not_not] at hc
      obtain ⟨hc1, hc2, _⟩ := hc
      have hq : q.cells.size = size := by rw [← hc1, ← hl1]; simp
      have hfits : off + q.cells.size ≤ cs.size := by
       have : cs.size = as.length := by rw [← hl2]; simp
       omega
      have hset := foldl_set off q.cells.toList 0 cs (by simpa using hfits)
      have hx : VCs h st (as.take off ++ p.cells ++ as.drop (off + size)) ((q.cells.toList.zipIdx 0).foldl (fun cs (x : Value × Nat) => cs.setIfInBounds (off + x.2) x.1) cs).toList := by
       rw [hset]
       have := ((x.take off).append hcells).append (x.drop (off + size))
       simpa [hq] using this
      obtain ⟨cs', f1, f2⟩ := fill_ok (place := place) y3 hx e
      refine ⟨cs', ?_, f2⟩
      have hfold : q.cells.zipIdx.foldl (fun cs (x : Value × Nat) => cs.setIfInBounds (off + x.2) x.1) cs = (q.cells.toList.zipIdx 0).foldl (fun cs (x : Value × Nat) => cs.setIfInBounds (off + x.2) x.1) cs := by
       rw [← Array.foldl_toList]; simp
      simp only [Instr.fill, hp, hq, ne_eq, not_true_eq_false, decide_false, Bool.false_or]
      rw [if_neg (by simp; omega)]
      rw [← f1, ← hfold]
theorem VC.const (h : Heap) (st : zy7) (c : Value) : VC h st (ofConst c) [c] := by
 have x := VRel.const h st c
 have ha : (ofConst c).isAgg = false := by unfold ofConst; split <;> first | rfl | (split <;> rfl)
 by_cases hj : ofConst c = .junk
 · rw [hj]; simp [VC]
 · exact x.single ha hj
theorem VCs.consts (h : Heap) (st : zy7) : ∀ (cs : List Value), VCs h st (cs.map ofConst) cs
 | [] => by simp [VCs]
 | c :: cs => by simp only [List.map_cons, VCs]; exact ⟨c, cs, rfl, VC.const h st c, VCs.consts h st cs⟩
theorem zI_run {P : Program} {t : TypeId} {as : List AV} (e : zI P t = some as) (h : Heap) (st : zy7) (w : World) : ∃ z, (zeroValue t).run P w = .ok z w ∧ VCs h st as z.cells.toList := by
 unfold zI at e
 split at e
 · rename_i i hi
   split at e
   · rename_i z hz
     cases e
     exact ⟨z, by simp [zeroValue, typeInfo, hi, hz], VCs.consts h st _⟩
   · cases e
 · cases e
theorem run_mapM_list {P : Program} {w : World} {α β : Type} (f : α → Sem β) (g : α → Option β) (hfg : ∀ x y, g x = some y → (f x).run P w = .ok y w) : ∀ (l : List α) (r : List β), l.mapM g = some r → (l.mapM f).run P w = .ok r w
 | [], r, e => by simp at e; subst e; rfl
 | x :: l, r, e => by
  rw [List.mapM_cons] at e
  cases hx : g x with
  | none => rw [hx] at e; cases e
  | some y =>
   rw [hx] at e
   cases hl : l.mapM g with
   | none => rw [hl] at e; cases e
   | some ys =>
    rw [hl] at e
    cases e
    simp only [List.mapM_cons, Sem.run_bind, hfg x y hx, Result.andThen_ok, run_mapM_list f g hfg l ys hl, Sem.run_pure]
def zx1 (φ : AF) (parts : Array (Nat × Operand)) : List (Nat × AV) := parts.toList.map fun p => (p.1, φ.eval p.2)
theorem PRel.parts {h : Heap} {st : zy7} {a : Act} {φ : AF} (F : FRel h st a.tmps φ) : ∀ (l : List (Nat × Operand)), PRel h st (l.map fun p => (p.1, φ.eval p.2)) (l.map fun p => (p.1, a.eval p.2))
 | [] => by simp [PRel]
 | p :: l => by simp only [List.map_cons, PRel]; exact ⟨_, _, rfl, ⟨rfl, VRel.eval F p.2⟩, PRel.parts F l⟩
def zx0 (P : Program) (φ : AF) (t : TypeId) (parts : Array (Nat × Operand)) : Option AV :=
 match bI P t, zI P t with
 | some places, some zs => (zx2 (fun i => places[i]?) zs (zx1 φ parts)).map .agg
 | _, _ => none
theorem build_ok {P : Program} {st : zy7} {w : World} {a : Act} {φ : AF} {t : TypeId} {parts : Array (Nat × Operand)} {r : AV} {o : Oper} (ho : o.op = .build t parts) (F : FRel w.heap st a.tmps φ) (e : zx0 P φ t parts = some r) :
 Yld st w r ((execOp a.eval o).run P w) := by
 unfold zx0 at e
 split at e
 case h_2 => cases e
 rename_i places zs hb hz
 cases hf : zx2 (fun i => places[i]?) zs (zx1 φ parts) with
 | none => rw [hf] at e; cases e
 | some cs =>
  rw [hf] at e; cases e
  obtain ⟨z, z1, z2⟩ := zI_run hz w.heap st w
  have hps := PRel.parts F parts.toList
  obtain ⟨cs', f1, f2⟩ := fill_ok (place := fun i => places[i]?) hps z2 hf
  unfold bI at hb
  split at hb
  case h_2 => cases hb
  rename_i fs hu
  have hm : (fs.mapM fun f => (do pure (f.offset, ← sizeOf f.type) : Sem (Nat × Nat))).run P w = .ok places.toArray w := by
   rw [Array.mapM_eq_mapM_toList]
   have := run_mapM_list (P := P) (w := w) (fun f : Field => (do pure (f.offset, ← sizeOf f.type) : Sem (Nat × Nat))) (fun f => (P.info? f.type).map fun i => (f.offset, i.size))
    (fun x y hy => by
     cases hi : P.info? x.type with
     | none => rw [hi] at hy; cases hy
     | some i => rw [hi] at hy; cases hy; simp [sizeOf, typeInfo, hi]) fs.toList places hb
   simp only [Sem.run_map, this, Result.andThen_ok]
  have hparts : ((parts.map fun (i, x) => (i, a.eval x)).toList : List (Nat × Value)) = parts.toList.map fun p => (p.1, a.eval p.2) := by simp
  refine .same (v := .agg cs') ?_ ⟨rfl, by simpa [Value.cells, VC] using f2⟩
  simp only [execOp, ho, Instr.build, Sem.run_bind, z1, Result.andThen_ok, run_underlying' hu, hm, hparts]
  have : (fun i : Nat => places.toArray[i]?) = fun i : Nat => places[i]? := by funext i; simp
  rw [this, f1]
  rfl
theorem aFill_row {n : Nat} : ∀ (ps : List AV) (k : Nat) (pre : List AV), pre.length = k * n → (∀ p ∈ ps, p.width = n ∧ p.isJunk = false) →
 zx2 (fun i => some (i * n, n)) (pre ++ List.replicate (ps.length * n) .junk) ((List.range' k ps.length).zip ps) = some (pre ++ ps.flatMap AV.cells)
 | [], k, pre, _, _ => by simp [zx2]
 | p :: ps, k, pre, hp, h => by
  have hw := (h p (by simp)).1
  have hj := (h p (by simp)).2
  have hc : p.cells.length = n := by rw [← hw]; cases p <;> rfl
  simp only [List.length_cons, List.range'_succ, List.zip_cons_cons, zx2, hc, hj]
  have hl : (pre ++ List.replicate ((ps.length + 1) * n) AV.junk).length = k * n + (ps.length + 1) * n := by simp [hp]
  have hs : (ps.length + 1) * n = ps.length * n + n := Nat.succ_mul _ _
  rw [if_neg (by rw [hl]; simp; omega)]
  have e1 : (pre ++ List.replicate ((ps.length + 1) * n) AV.junk).take (k * n) = pre := by rw [← hp]; simp
  have e2 : (pre ++ List.replicate ((ps.length + 1) * n) AV.junk).drop (k * n + n) = List.replicate (ps.length * n) AV.junk := by
   rw [List.drop_append, hp, List.drop_eq_nil_of_le (by rw [hp]; omega)]
   simp; rw [hs]; omega
  rw [e1, e2]
  have := aFill_row (n := n) ps (k + 1) (pre ++ p.cells) (by simp [hp, hc, Nat.succ_mul]) (fun q hq => h q (by simp [hq]))
  rw [this]
  simp
theorem VEs_of_flat {h : Heap} {st : zy7} {b : Nat} : ∀ {es : List AV} {off : Nat} {vs : List Value}, (∀ e ∈ es, e.isJunk = false) → cellsAt h b off vs → VCs h st (es.flatMap AV.cells) vs → VEs h st b off es
 | [], _, _, _, _, _ => by simp [VEs]
 | e :: es, off, vs, hj, x, y => by
  have hl := y.length
  have hc : e.cells.length = e.width := by cases e <;> rfl
  have y1 := y.take e.width
  have y2 := y.drop e.width
  rw [List.flatMap_cons, List.take_append_of_le_length (by omega), List.take_of_length_le (by omega)] at y1
  rw [List.flatMap_cons, List.drop_append_of_le_length (by omega), List.drop_eq_nil_of_le (by omega), List.nil_append] at y2
  simp only [VEs]
  refine ⟨⟨vs.take e.width, x.take e.width, ?_, ?_⟩, VEs_of_flat (fun q hq => hj q (by simp [hq])) (x.drop e.width) y2⟩
  · rw [y1.length, hc]
  · cases e
    case agg cs => simpa [VC, AV.cells] using y1
    case junk => have := hj .junk (by simp); simp [AV.isJunk] at this
    all_goals
     simp only [AV.cells, VCs] at y1
     obtain ⟨c, r, e1, e2, e3⟩ := y1
     rw [e1, e3]
     exact e2
theorem VCs.junk (h : Heap) (st : zy7) : ∀ (vs : List Value), VCs h st (List.replicate vs.length .junk) vs
 | [] => by simp [VCs]
 | v :: vs => by simp only [List.length_cons, List.replicate_succ, VCs]; exact ⟨v, vs, rfl, by simp [VC], VCs.junk h st vs⟩
theorem cellsAt_push (h : Heap) (c : Array Value) (t : TypeId) (fr : Nat × Nat) : ∀ (vs : List Value) (off : Nat), c.toList.drop off = vs → cellsAt (h.push (.cells c t fr)) h.size off vs
 | [], _, _ => trivial
 | v :: vs, off, e => by
  refine ⟨?_, cellsAt_push h c t fr vs (off + 1) ?_⟩
  · have : c.toList[off]? = some v := by
     have := congrArg (fun l => l[0]?) e
     simpa using this
    simp only [cellAt, Array.getElem?_push, if_true]
    simpa using this
  · rw [show off + 1 = off + 1 from rfl, ← List.drop_drop, e]
    rfl
def zy0 (ps : List (Nat × AV)) : Bool := ps.map (·.1) == List.range' 0 ps.length
def zw1 (ps : List AV) (ag : Bool) (sz : Nat) : Bool := ps.all fun p => p.width == sz && p.isAgg == ag && !p.isJunk
def eZ (P : Program) (t : TypeId) : Option (List AV) :=
 match P.underlying t with
 | some (.slice e) => zI P e
 | _ => none
theorem zip_fst_snd {α β : Type} : ∀ (l : List (α × β)), (l.map (·.1)).zip (l.map (·.2)) = l
 | [] => rfl
 | x :: l => by simp [zip_fst_snd l]
def zq0 (P : Program) (φ : AF) (t : TypeId) (len : Nat) (parts : Array (Nat × Operand)) : Option AV :=
 match eI P t with
 | some (ag, sz) =>
  if zy0 (zx1 φ parts) = true ∧ zw1 ((zx1 φ parts).map (·.2)) ag sz = true ∧ len = parts.size ∧ len * sz ≤ 16777216 ∧ len ≤ 16777216 ∧ (eZ P t).isSome = true then some (.fslice ((zx1 φ parts).map (·.2))) else none
 | none => none
theorem buildSlice_ok {P : Program} {st : zy7} {w : World} {a : Act} {φ : AF} {t : TypeId} {len : Nat} {parts : Array (Nat × Operand)} {r : AV} {o : Oper} (ho : o.op = .buildSlice t len parts) (F : FRel w.heap st a.tmps φ) (S : SRel w.heap st)
 (e : zq0 P φ t len parts = some r) : Yld st w r ((execOp a.eval o).run P w) := by
 unfold zq0 at e
 split at e
 case h_2 => cases e
 rename_i ag sz hI
 split at e
 case isFalse => cases e
 rename_i hc
 cases e
 obtain ⟨hs, hf, hlen, hbig, hbig2, hZ⟩ := hc
 obtain ⟨e', hu, hT⟩ := eI_run hI
 obtain ⟨_, r2, _⟩ := tI_run hT w
 obtain ⟨z, hz1⟩ : ∃ z, (zeroValue e').run P w = .ok z w := by
  obtain ⟨zs, hzs⟩ := Option.isSome_iff_exists.1 hZ
  simp only [eZ, hu] at hzs
  obtain ⟨z, h1, _⟩ := zI_run hzs w.heap st w
  exact ⟨z, h1⟩
 generalize hps : zx1 φ parts = ps at *
 have hlen' : ps.length = len := by rw [← hps, hlen]; simp [zx1]
 have hpar := PRel.parts F parts.toList
 rw [show (parts.toList.map fun p => (p.1, φ.eval p.2)) = ps from hps] at hpar
 have hparts : ((parts.map fun (i, x) => (i, a.eval x)).toList : List (Nat × Value)) = parts.toList.map fun p => (p.1, a.eval p.2) := by simp
 have hall : ∀ p ∈ ps.map (·.2), p.width = sz ∧ p.isJunk = false ∧ p.isAgg = ag := by
  intro p hp
  have := List.all_eq_true.1 hf p hp
  simp at this
  exact ⟨this.1.1, this.2, this.1.2⟩
 have hzip : (List.range' 0 (ps.map (·.2)).length).zip (ps.map (·.2)) = ps := by
  have : ps.map (·.1) = List.range' 0 ps.length := by simpa [zy0] using hs
  rw [List.length_map, ← this]
  exact zip_fst_snd ps
 -- whatever the row holds at first
 have step : ∀ (cs : Array Value), cs.size = len * sz → ∃ cs', Instr.fill (fun i => some (i * sz, sz)) cs (parts.toList.map fun p => (p.1, a.eval p.2)) = some cs' ∧ VCs w.heap st ((ps.map (·.2)).flatMap AV.cells) cs'.toList := by
  intro cs hcs
  have h0 : VCs w.heap st (List.replicate ((ps.map (·.2)).length * sz) .junk) cs.toList := by
   have := VCs.junk w.heap st cs.toList
   rwa [show cs.toList.length = (ps.map (·.2)).length * sz by simp [hcs, hlen']] at this
  have h1 := aFill_row (n := sz) (ps.map (·.2)) 0 [] (by simp) (fun p hp => ⟨(hall p hp).1, (hall p hp).2.1⟩)
  rw [List.nil_append, List.nil_append, hzip] at h1
  exact fill_ok (place := fun i => some (i * sz, sz)) hpar h0 h1
 have fin : ∀ cs' : Array Value, VCs w.heap st ((ps.map (·.2)).flatMap AV.cells) cs'.toList →
  VRel (w.heap.push (.cells cs' e')) st (.fslice (ps.map (·.2))) (.slice (some ⟨w.heap.size, 0, none⟩) len len) := by
  intro cs' hv
  have S' := (Ext.push w.heap (.cells cs' e')).step st
  refine ⟨rfl, .inr ⟨w.heap.size, 0, by simp [Value.cells, hlen'], by simp only [List.length_map, hlen']; unfold maxLen; omega, ?_, by simp, ⟨sz, fun p hp => (hall p hp).1⟩, ?_⟩⟩
  · cases hst : st w.heap.size with
    | none => rfl
    | some o => exact absurd (S _ _ hst).1 (Nat.lt_irrefl _)
  · exact VEs_of_flat (fun p hp => (hall p hp).2.1) (cellsAt_push w.heap cs' e' (0, 0) cs'.toList 0 rfl) (VCs.mono S' _ _ hv)
 by_cases h0 : len * sz = 0
 · obtain ⟨cs', f1, f2⟩ := step ((Array.range (len * sz)).map fun x => (#[] : Array Value)[x % (#[] : Array Value).size]!) (by simp)
   refine ⟨.slice (some ⟨w.heap.size, 0, none⟩) len len, w.alloc (.cells cs' e'), ?_, fin cs' f2, Ext.push _ _, ⟨rfl, rfl, rfl⟩⟩
   simp only [execOp, ho, Instr.buildSlice, Sem.run_bind, run_underlying' hu, Result.andThen_ok, r2]
   rw [if_neg (by omega), if_pos h0]
   simp only [Sem.run_bind, Sem.run_pure, Result.andThen_ok, hparts]
   rw [f1]
   simp [newRow]
 · obtain ⟨cs', f1, f2⟩ := step ((Array.range (len * sz)).map fun x => z.cells[x % z.cells.size]!) (by simp)
   refine ⟨.slice (some ⟨w.heap.size, 0, none⟩) len len, w.alloc (.cells cs' e'), ?_, fin cs' f2, Ext.push _ _, ⟨rfl, rfl, rfl⟩⟩
   simp only [execOp, ho, Instr.buildSlice, Sem.run_bind, run_underlying' hu, Result.andThen_ok, r2]
   rw [if_neg (by omega), if_neg h0]
   simp only [Sem.run_bind, hz1, Result.andThen_ok, Sem.run_pure, hparts]
   rw [f1]
   simp [newRow]
def eqSI (P : Program) (t : TypeId) : Bool := match P.underlying t with
 | some (.struct fs) => match fs.toList with
  | [f, g] => f.name != "_" && g.name != "_" && f.offset == 0 && g.offset == 1 && (match P.underlying f.type with | some .string => true | _ => false) && (match P.underlying g.type with | some (.int _) => true | _ => false)
   && (tI P f.type == some (false, 1)) && (tI P g.type == some (false, 1)) && !P.stoodInHeld t && !P.eqGuardType P.depth t
  | _ => false
 | _ => false
theorem part_cell {P : Program} {t : TypeId} (h : tI P t = some (false, 1)) (cs : Array Value) (off : Nat) (v : Value) (hv : cs[off]? = some v) (w : World) : (part t cs off).run P w = .ok v w := by
 obtain ⟨r1, r2, _⟩ := tI_run h w
 simp only [part, Sem.run_bind, r1, Result.andThen_ok, Bool.false_eq_true, if_false, hv, Sem.run_pure]
theorem eqSI_run {P : Program} {t : TypeId} (h : eqSI P t = true) (a b : ByteArray) (k : IntKind) (n m : Int) (w : World) :
 (Op.equalIn 10000 t (.agg #[.string a, .int k n]) (.agg #[.string b, .int k m])).run P w = .ok (decide (a = b) && decide (n = m)) w ∧
 ∀ op x y, (eqGuard op t x y (.agg #[.string a, .int k n]) (.agg #[.string b, .int k m])).run P w = .ok () w := by
 unfold eqSI at h
 split at h
 case h_2 => cases h
 rename_i fs hu
 split at h
 case h_2 => cases h
 rename_i f g hfs
 simp only [Bool.and_eq_true, beq_iff_eq, bne_iff_ne, Bool.not_eq_true'] at h
 obtain ⟨⟨⟨⟨⟨⟨⟨⟨⟨n1, n2⟩, o1⟩, o2⟩, u1⟩, u2⟩, t1⟩, t2⟩, hs⟩, hg⟩ := h
 have hf : P.fieldsOf t = fs := by unfold Program.fieldsOf; rw [hu]
 refine ⟨?_, fun op x y => run_eqGuard_agg w op t x y _ _ hg⟩
 have hu1 : P.underlying f.type = some .string := by
  split at u1
  · assumption
  · cases u1
 obtain ⟨k', hu2⟩ : ∃ k', P.underlying g.type = some (.int k') := by
  split at u2
  · exact ⟨_, by assumption⟩
  · cases u2
 suffices key : ∀ d, (Op.equalIn (d + 1 + 1) t (.agg #[.string a, .int k n]) (.agg #[.string b, .int k m])).run P w = .ok (decide (a = b) && decide (n = m)) w from key 9998
 intro d
 rw [run_equalIn_struct w (d + 1) t _ _ (by rw [hf]; exact hu) hs, hf, hfs]
 have p1 := part_cell (P := P) t1 #[.string a, .int k n] 0 (.string a) rfl
 have p2 := part_cell (P := P) t1 #[.string b, .int k m] 0 (.string b) rfl
 have p3 := part_cell (P := P) t2 #[.string a, .int k n] 1 (.int k n) rfl
 have p4 := part_cell (P := P) t2 #[.string b, .int k m] 1 (.int k m) rfl
 have q1 := run_equalIn_string (P := P) w d f.type a b hu1
 have q2 := run_equalIn_int (P := P) w d g.type k k' n m hu2
 have hab : (a.toList == b.toList) = decide (a = b) := by
  by_cases h : a = b
  · subst h; simp
  · have h2 : a.toList ≠ b.toList := fun e => h (by
     rw [ByteArray.toList_eq, ByteArray.toList_eq] at e
     exact ByteArray.ext (Array.ext' e))
    simp [h, h2]
 rw [hab] at q1
 have hnm : (n == m) = decide (n = m) := by by_cases h : n = m <;> simp [h]
 rw [hnm] at q2
 simp only [Op.eqFields, n1, n2, o1, o2, ne_eq, not_false_eq_true, if_true, Sem.run_bind, p1, p2, p3, p4, q1, q2, Result.andThen_ok, Sem.run_ite, Sem.run_pure]
 generalize decide (a = b) = x
 generalize decide (n = m) = y
 cases x <;> cases y <;> rfl
theorem VRel.of_pair {h : Heap} {st : zy7} {a : AV} {v : Value} (x : a.isAgg = vIsAgg v ∧ VC h st a v.cells.toList) : VRel h st a v := by
 cases a <;> first | trivial | exact x
theorem VTs.get {h : Heap} {st : zy7} : ∀ {as : List AV} {vs : List Value} (n : Nat) {a : AV}, VTs h st as vs → as[n]? = some a → ∃ v, vs[n]? = some v ∧ VRel h st a v
 | [], _, n, a, _, e => by simp at e
 | a' :: as, vs, 0, a, x, e => by
  simp only [VTs] at x
  obtain ⟨c, r, rfl, x1, x2⟩ := x
  simp at e; subst e
  exact ⟨c, rfl, VRel.of_pair x1⟩
 | a' :: as, vs, n + 1, a, x, e => by
  simp only [VTs] at x
  obtain ⟨c, r, rfl, x1, x2⟩ := x
  simpa using VTs.get n x2 (by simpa using e)
theorem VRel.pair {h : Heap} {st : zy7} {a : AV} {v : Value} (x : VRel h st a v) (hj : a.isJunk = false) : a.isAgg = vIsAgg v ∧ VC h st a v.cells.toList := by
 cases a <;> first | exact x | (simp [AV.isJunk] at hj)
def zq1 (as : List AV) : Bool := as.all fun a => !a.isJunk
theorem VTs.mk {h : Heap} {st : zy7} {a : Act} {φ : AF} (F : FRel h st a.tmps φ) : ∀ (l : List Operand), zq1 (l.map φ.eval) = true → VTs h st (l.map φ.eval) (l.map a.eval)
 | [], _ => by simp [VTs]
 | o :: l, hj => by
  simp [zq1] at hj
  simp only [List.map_cons, VTs]
  exact ⟨_, _, rfl, (VRel.eval F o).pair hj.1, VTs.mk F l (by simp [zq1]; exact hj.2)⟩
def zq3 (P : Program) (t : TypeId) (x : AV) : Option AV :=
 match tI P t with
 | some (_, _) => if x.isJunk then none else some (.pptr x)
 | none => none
def aLen (P : Program) (t : TypeId) : AV → Option AV
 | .str s => match P.underlying t with | some .string => some (.int .i64 s.size) | _ => none
 | .slice es | .fslice es => match P.underlying t with | some (.slice _) => some (.int .i64 es.length) | _ => none
 | .mslice _ _ len _ => match P.underlying t with | some (.slice _) => some (.int .i64 len) | _ => none
 | .eslice => match P.underlying t with | some (.slice _) => some (.int .i64 ((0 : Nat) : Int)) | _ => none
 | _ => none
def bytesOf : List AV → Option (List UInt8)
 | [] => some []
 | .int .u8 n :: r => (bytesOf r).map (UInt8.ofNat n.toNat :: ·)
 | _ => none
def aConvert (P : Program) (src dst : TypeId) : AV → Option AV
 | .int _ n => match P.underlying src, P.underlying dst with
  | some _, some (.int k) => some (.int k (k.wrap n))
  | _, _ => none
 | .slice es | .fslice es => match P.underlying src, P.underlying dst with
  | some (.slice e), some .string => match P.underlying e with
   | some (.int .u8) => match bytesOf es with
    | some bs => some (.str ⟨bs.toArray⟩)
    | none => none
   | _ => none
  | _, _ => none
 | _ => none
def ofConstV : Value → AV
 | .agg cs => .agg (cs.toList.map ofConst)
 | v => ofConst v
def zV (P : Program) (t : TypeId) : Option AV :=
 match P.info? t with
 | some i => i.zero.map ofConstV
 | none => none
theorem VRel.constV (h : Heap) (st : zy7) (v : Value) : VRel h st (ofConstV v) v := by
 unfold ofConstV
 split
 · rename_i cs
   exact ⟨rfl, by simpa [Value.cells, VC] using VCs.consts h st cs.toList⟩
 · exact VRel.const h st v
theorem zV_run {P : Program} {t : TypeId} {z : AV} (e : zV P t = some z) (h : Heap) (st : zy7) (w : World) : ∃ v, (zeroValue t).run P w = .ok v w ∧ VRel h st z v := by
 unfold zV at e
 split at e
 · rename_i i hi
   cases hz : i.zero with
   | none => rw [hz] at e; cases e
   | some v => rw [hz] at e; cases e; exact ⟨v, by simp [zeroValue, typeInfo, hi, hz], VRel.constV h st v⟩
 · cases e
def aLookup (P : Program) (st : zy7) (t : TypeId) (ok : Bool) : AV → AV → Option AV
 | .map b, .int .i64 n => match st b, P.underlying t with
  | some (.map f), some (.map k e) => match P.underlying k, f n with
   | some (.int .i64), some v => if v.isJunk then none else some (if ok then .tup [v, .bool true] else v)
   | some (.int .i64), none => match zV P e with
    | some z => if z.isJunk then none else some (if ok then .tup [z, .bool false] else z)
    | none => none
   | _, _ => none
  | _, _ => none
 | _, _ => none
section
variable {P : Program} {st : zy7} {w : World} {a : Act} {φ : AF}
theorem box_ok {t : TypeId} {x : Operand} {r : AV} {o : Oper} (ho : o.op = .box t x) (F : FRel w.heap st a.tmps φ) (S : SRel w.heap st) (e : zq3 P t (φ.eval x) = some r) : Yld st w r ((execOp a.eval o).run P w) := by
 have y := VRel.eval F x
 unfold zq3 at e
 split at e
 case h_2 => cases e
 split at e
 · cases e
 rename_i hj
 cases e
 have hj' : (φ.eval x).isJunk = false := by simpa using hj
 have yp := y.pair hj'
 refine ⟨.pointer (some ⟨w.heap.size, 0, none⟩), w.alloc (.cells (a.eval x).cells t), by simp [execOp, ho, Instr.box, newVar, newRow], ?_, Ext.push _ _, ⟨rfl, rfl, rfl⟩⟩
 have S' := (Ext.push w.heap (.cells (a.eval x).cells t)).step st
 refine ⟨rfl, w.heap.size, 0, rfl, ?_, by simp, (a.eval x).cells.toList, cellsAt_push w.heap _ t (0, 0) _ 0 rfl, ?_, VC.mono S' _ _ yp.2⟩
 · cases hst : st w.heap.size with
   | none => rfl
   | some o => exact absurd (S _ _ hst).1 (Nat.lt_irrefl _)
 · have := (y.cells (by intro h; rw [h] at hj'; simp [AV.isJunk] at hj')).length
   rw [this]
   generalize φ.eval x = z
   cases z <;> rfl
theorem len_ok {t : TypeId} {x : Operand} {r : AV} {o : Oper} (ho : o.op = .call { callee := .builtin .len, args := #[x], argTypes := #[t] }) (F : FRel w.heap st a.tmps φ) (e : aLen P t (φ.eval x) = some r) : Yld st w r ((execOp a.eval o).run P w) := by
 have y := VRel.eval F x
 have run : ∀ {n : Nat}, (Builtin.len_ #[t] o.type #[a.eval x]).run P w = .ok (.int .i64 n) w → Yld st w (.int .i64 n) ((execOp a.eval o).run P w) := by
  intro n h
  refine .same (v := .int .i64 n) ?_ VRel.int_mk
  simp only [execOp, ho, resolve, Sem.run_bind, Sem.run_pure, Result.andThen_ok, invoke, builtin]
  simp [h]
 unfold aLen at e
 split at e
 · rename_i s hx
   rw [hx] at y
   split at e
   · rename_i hu
     cases e
     exact run (by simp [Builtin.len_, run_underlying' hu, y.str_of.1, goInt])
   · cases e
 · rename_i es hx
   rw [hx] at y
   split at e
   · rename_i hu
     cases e
     rcases y.slice_of with ⟨⟨p0, hv⟩, rfl⟩ | ⟨b, off, cap, hv, _⟩
     · exact run (by simp [Builtin.len_, run_underlying' hu, hv, goInt])
     · exact run (by simp [Builtin.len_, run_underlying' hu, hv, goInt])
   · cases e
 · rename_i es hx
   rw [hx] at y
   split at e
   · rename_i hu
     cases e
     rcases y.fslice_of with ⟨⟨p0, hv⟩, rfl⟩ | ⟨b, off, hv, _⟩
     · exact run (by simp [Builtin.len_, run_underlying' hu, hv, goInt])
     · exact run (by simp [Builtin.len_, run_underlying' hu, hv, goInt])
   · cases e
 · rename_i b off len n hx
   rw [hx] at y
   split at e
   · rename_i hu
     cases e
     obtain ⟨cap, hv, _⟩ := y.mslice_of
     exact run (by simp [Builtin.len_, run_underlying' hu, hv, goInt])
   · cases e
 · rename_i hx
   rw [hx] at y
   split at e
   · rename_i hu
     cases e
     obtain ⟨p, c, hv⟩ := y.eslice_of
     exact run (by simp [Builtin.len_, run_underlying' hu, hv, goInt])
   · cases e
 · cases e
theorem extract_ok {x : Operand} {i : Nat} {r : AV} {vs : List AV} {o : Oper} (ho : o.op = .extract x i) (F : FRel w.heap st a.tmps φ) (hx : φ.eval x = .tup vs) (e : vs[i]? = some r) : Yld st w r ((execOp a.eval o).run P w) := by
 have y := VRel.eval F x
 rw [hx] at y
 obtain ⟨us, hv, hus⟩ := y.tup_of
 obtain ⟨v, hv', rv⟩ := hus.get i e
 exact .same (v := v) (by simp [execOp, ho, Instr.extract, hv, hv']) rv
theorem makeFunc_ok {g : FuncId} {caps : Array Operand} {o : Oper} (ho : o.op = .makeFunc (.func g) #[] caps) (F : FRel w.heap st a.tmps φ) (hj : zq1 (caps.toList.map φ.eval) = true) :
 Yld st w (.func g (caps.toList.map φ.eval)) ((execOp a.eval o).run P w) := by
 refine .same (v := .func (.func g) #[] (caps.map a.eval)) (by simp [execOp, ho, Instr.makeFunc]) ⟨rfl, caps.toList.map a.eval, ?_, VTs.mk F caps.toList hj⟩
 have : caps.map a.eval = (caps.toList.map a.eval).toArray := by apply Array.ext'; simp
 simp [Value.cells, this]
theorem bytes_run {h : Heap} {b : Nat} : ∀ {es : List AV} {bs : List UInt8} {off : Nat}, bytesOf es = some bs → VEs h st b off es →
 ∃ vs, cellsAt h b off vs ∧ vs.length = es.length ∧ ∃ ns : List Int, vs = ns.map (Value.int .u8) ∧ bs = ns.map fun n => UInt8.ofNat n.toNat
 | [], bs, off, e, _ => by simp only [bytesOf] at e; cases e; exact ⟨[], trivial, rfl, [], rfl, rfl⟩
 | x :: es, bs, off, e, y => by
  unfold bytesOf at e
  split at e
  · rename_i h; cases h
  · rename_i n r h
    cases h
    cases hb : bytesOf es with
    | none => rw [hb] at e; cases e
    | some bs' =>
     rw [hb] at e; cases e
     simp only [VEs] at y
     obtain ⟨⟨cs, c1, c2, c3⟩, y2⟩ := y
     simp only [VC] at c3
     subst c3
     obtain ⟨vs, v1, v2, ns, n1, n2⟩ := bytes_run hb y2
     exact ⟨.int .u8 n :: vs, ⟨c1.1, v1⟩, by simp [v2], n :: ns, by simp [n1], by simp [n2]⟩
  · cases e
theorem UInt8_bytes (es : List AV) (bs : List UInt8) (e : bytesOf es = some bs) : bs.length = es.length := by
 induction es generalizing bs with
 | nil => simp only [bytesOf] at e; cases e; rfl
 | cons x es ih =>
  unfold bytesOf at e
  split at e
  · rename_i h; cases h
  · rename_i n r h
    cases h
    cases hb : bytesOf es with
    | none => rw [hb] at e; cases e
    | some bs' => rw [hb] at e; cases e; simp [ih _ hb]
  · cases e
theorem convert_ok {src dst : TypeId} {x : Operand} {r : AV} {o : Oper} (ho : o.op = .convert src dst x) (F : FRel w.heap st a.tmps φ) (e : aConvert P src dst (φ.eval x) = some r) : Yld st w r ((execOp a.eval o).run P w) := by
 have y := VRel.eval F x
 have bytes : ∀ {es : List AV}, VRel w.heap st (.slice es) (a.eval x) → (match P.underlying src, P.underlying dst with
  | some (.slice e), some .string => match P.underlying e with
   | some (.int .u8) => match bytesOf es with
    | some bs => some (AV.str ⟨bs.toArray⟩)
    | none => none
   | _ => none
  | _, _ => none) = some r → Yld st w r ((execOp a.eval o).run P w) := by
  intro es y e
  split at e
  case h_2 => cases e
  rename_i el hs hd
  split at e
  case h_2 => cases e
  rename_i he
  split at e
  case h_2 => cases e
  rename_i bs hb
  cases e
  have hlen := UInt8_bytes es bs hb
  rcases y.slice_of with ⟨⟨p0, hv⟩, rfl⟩ | ⟨b, off, cap, hv, l1, l2, e2, e3, ev, e4⟩
  · simp only [bytesOf] at hb; cases hb
    refine .same (v := .string ByteArray.empty) ?_ ⟨rfl, rfl, Nat.zero_le _⟩
    simp only [execOp, ho, convert, Sem.run_bind, run_underlying' hs, run_underlying' hd, Result.andThen_ok, hv, run_underlying' he]
    cases p0 with
    | none => rfl
    | some a0 =>
     have hk := Go.run_bytesToString (P := P) w a0 0 0 [] (by simp [loadCells, loadCellsFrom])
     rw [hk]
     rfl
  · obtain ⟨vs, v1, v2, ns, n1, n2⟩ := bytes_run hb e4
    subst n1
    have hl := run_loadCells_at (P := P) v1
    rw [List.length_map] at hl
    have hns : ns.length = es.length := by simpa using v2
    refine .same (v := .string ⟨bs.toArray⟩) ?_ ⟨rfl, rfl, by simp [ByteArray.size, hlen]; unfold maxLen at *; omega⟩
    simp only [execOp, ho, convert, Sem.run_bind, run_underlying' hs, run_underlying' hd, Result.andThen_ok, hv, run_underlying' he]
    have hk := Go.run_bytesToString (P := P) w ⟨b, off, none⟩ es.length cap ns (by rw [← hns]; exact hl)
    rw [hk]
    simp only [Result.andThen_ok, Sem.run_pure]
    rw [foldl_push_bytes ns ByteArray.empty, n2]
    simp [ByteArray.empty, ByteArray.emptyWithCapacity]
    rfl
 unfold aConvert at e
 split at e
 · rename_i k n hx
   rw [hx] at y
   split at e
   · rename_i d k' hs hd
     cases e
     refine .same (v := .int k' (k'.wrap n)) ?_ VRel.int_mk
     simp only [execOp, ho, convert, Sem.run_bind, run_underlying' hs, run_underlying' hd, Result.andThen_ok, y.int_of]
     cases d <;> simp [Conv.intToInt]
   · cases e
 · rename_i es hx
   rw [hx] at y
   exact bytes y e
 · rename_i es hx
   rw [hx] at y
   exact bytes y.fslice_slice e
 · cases e
theorem findNow_int (n : Int) : ∀ (es : List MapEntry) (i : Nat), (∀ e ∈ es, ∃ m, e.key = .int .i64 m) →
 (∃ j e, es[j]? = some e ∧ e.key = .int .i64 n ∧ Instr.findNow (.int .i64) (.int .i64 n) es i = some (some (i + j, e.val))) ∨
 ((∀ e ∈ es, e.key ≠ .int .i64 n) ∧ Instr.findNow (.int .i64) (.int .i64 n) es i = some none)
 | [], i, _ => .inr ⟨by simp, rfl⟩
 | e :: es, i, h => by
  obtain ⟨m, hm⟩ := h e (by simp)
  by_cases hmn : m = n
  · subst hmn
    exact .inl ⟨0, e, rfl, hm, by simp [Instr.findNow, Instr.sameNow, hm]⟩
  · have hne : (n == m) = false := by simpa using fun q => hmn q.symm
    have step : Instr.findNow (.int .i64) (.int .i64 n) (e :: es) i = Instr.findNow (.int .i64) (.int .i64 n) es (i + 1) := by
     simp [Instr.findNow, Instr.sameNow, hm, hne]
    rw [step]
    rcases findNow_int n es (i + 1) (fun e he => h e (by simp [he])) with ⟨j, e', h1, h2, h3⟩ | ⟨h1, h2⟩
    · exact .inl ⟨j + 1, e', by simpa using h1, h2, by rw [h3]; congr 3; omega⟩
    · refine .inr ⟨fun e' he' => ?_, h2⟩
      rcases List.mem_cons.1 he' with rfl | he'
      · rw [hm]; simpa using hmn
      · exact h1 e' he'
theorem checkKey_any {kt : TypeId} (hk : P.underlying kt = some (.int .i64)) (b : Bool) (n : Int) (m : Nat) : (Instr.checkKey b (m + 1) kt (.int .i64 n)).run P w = .ok () w := by
 simp only [Instr.checkKey, Sem.run_bind, run_underlying' hk, Result.andThen_ok]
 rfl
theorem checkKey_int {kt : TypeId} (hk : P.underlying kt = some (.int .i64)) (b : Bool) (n : Int) : (Instr.checkKey b 10000 kt (.int .i64 n)).run P w = .ok () w := checkKey_any hk b n 9999
theorem getObj_run {b : Nat} {es : Array MapEntry} {cl : Nat} (h : w.heap[b]? = some (.map es cl)) : (getObj b).run P w = .ok (.map es cl) w := by
 simp only [getObj, Sem.run, h]
theorem lookup_ok {t : TypeId} {x i : Operand} {ok : Bool} {r : AV} {o : Oper} (ho : o.op = .lookup t x i ok) (F : FRel w.heap st a.tmps φ) (S : SRel w.heap st) (e : aLookup P st t ok (φ.eval x) (φ.eval i) = some r) : Yld st w r ((execOp a.eval o).run P w) := by
 have y := VRel.eval F x
 have yi := VRel.eval F i
 unfold aLookup at e
 split at e
 case h_2 => cases e
 rename_i b n hx hi
 rw [hx] at y
 rw [hi] at yi
 split at e
 case h_2 => cases e
 rename_i f k el hs hu
 obtain ⟨_, es, cl, hb, hk1, hk2, hk3⟩ := S b _ hs
 have hn := hk3 n
 have fin : ∀ {v : Value} {z : AV} {q : Bool}, z.isJunk = false → VRel w.heap st z v → (execOp a.eval o).run P w = .ok (.value (if ok then .tuple #[v, .bool q] else v)) w → Yld st w (if ok then .tup [z, .bool q] else z) ((execOp a.eval o).run P w) := by
  intro v z q hz hv hr
  refine .same hr ?_
  cases ok with
  | true => exact ⟨rfl, [v, .bool q], by simp [Value.cells], by simp only [VTs]; exact ⟨v, _, rfl, hv.pair hz, _, _, rfl, ⟨rfl, by simp [VC, Value.cells]⟩, rfl⟩⟩
  | false => exact hv
 split at e
 · rename_i v hk hf
   rw [hf] at hn
   obtain ⟨en, hen, henk, hv⟩ := hn
   split at e
   · cases e
   rename_i hvj
   cases e
   have hvj' : v.isJunk = false := by simpa using hvj
   rcases findNow_int n es.toList 0 hk1 with ⟨j, e', h1, h2, h3⟩ | ⟨h1, _⟩
   · have hee : e' = en := by
      obtain ⟨j', hj'⟩ := List.getElem?_of_mem hen
      have hjj : j = j' := by
       have a1 : (es.toList.map (·.key))[j]? = some (.int .i64 n) := by simp [h1, h2]
       have a2 : (es.toList.map (·.key))[j']? = some (.int .i64 n) := by simp [hj', henk]
       exact (List.getElem?_inj (by have := (List.getElem?_eq_some_iff.1 a1).1; simpa using this) hk2).1 (a1.trans a2.symm)
      subst hjj
      rw [h1] at hj'; exact Option.some.inj hj'
     subst hee
     refine fin hvj' hv ?_
     simp only [execOp, ho, Instr.lookup, Sem.run_bind, run_underlying' hu, Result.andThen_ok, y.map_of, yi.int_of, getObj_run hb, Sem.run_pure, checkKey_int hk, Instr.findKey, run_underlying' hk, h3]
   · exact absurd henk (h1 en hen)
 · rename_i hk hf
   rw [hf] at hn
   rcases findNow_int n es.toList 0 hk1 with ⟨j, e', h1, h2, h3⟩ | ⟨_, h3⟩
   · exact absurd h2 (hn e' (List.mem_of_getElem? h1))
   · split at e
     case h_2 => cases e
     rename_i z hz
     split at e
     · cases e
     rename_i hzj
     cases e
     obtain ⟨v, z1, z2⟩ := zV_run hz w.heap st w
     refine fin (by simpa using hzj) z2 ?_
     simp only [execOp, ho, Instr.lookup, Sem.run_bind, run_underlying' hu, Result.andThen_ok, y.map_of, yi.int_of, getObj_run hb, Sem.run_pure, checkKey_int hk, Instr.findKey, run_underlying' hk, h3, z1]
 · cases e
end
def aBinT (P : Program) (op : BinOp) (t : TypeId) (x y : AV) : Option AV :=
 match x, y with
 | .bool a, .bool b => match P.underlying t, op with
  | some .bool, .eql => some (.bool (a == b))
  | some .bool, .neq => some (.bool (!(a == b)))
  | _, _ => none
 | .agg [.str a, .int k n], .agg [.str b, .int k' m] => if k = k' ∧ eqSI P t = true then match op with
  | .eql => some (.bool (decide (a = b) && decide (n = m)))
  | .neq => some (.bool (!(decide (a = b) && decide (n = m))))
  | _ => none
  else none
 | .pptr _, .nilptr => match P.underlying t, op with
  | some (.pointer _), .eql => some (.bool false)
  | some (.pointer _), .neq => some (.bool true)
  | _, _ => none
 | .nilptr, .nilptr => match P.underlying t, op with
  | some (.pointer _), .eql => some (.bool true)
  | some (.pointer _), .neq => some (.bool false)
  | _, _ => none
 | x, y => aBin op x y
theorem aBinT_run {P : Program} {h : Heap} {st : zy7} {w : World} {op : BinOp} {t : TypeId} {p q r : AV} {u v : Value} (e : aBinT P op t p q = some r) (hp : VRel h st p u) (hq : VRel h st q v) :
 ∃ z, (binOp op t u v).run P w = .ok z w ∧ VRel h st r z ∧ ∀ x y, (eqGuard op t x y u v).run P w = .ok () w := by
 unfold aBinT at e
 split at e
 · rename_i a b
   rw [hp.bool_of, hq.bool_of]
   have hg : ∀ x y, (eqGuard op t x y (.bool a) (.bool b)).run P w = .ok () w := fun x y => by rw [eqGuard_at_bool]; rfl
   split at e
   · rename_i hu; cases e; exact ⟨_, run_eql_bool w t a b hu, VRel.bool_mk, hg⟩
   · rename_i hu; cases e; exact ⟨_, run_neq_bool w t a b hu, VRel.bool_mk, hg⟩
   · cases e
 · rename_i a k n b k' m
   split at e
   case isFalse => cases e
   rename_i hk
   obtain ⟨rfl, hk⟩ := hk
   obtain ⟨vs, rfl, h1⟩ := hp.agg_of
   obtain ⟨us, rfl, h2⟩ := hq.agg_of
   simp only [VCs, VC] at h1 h2
   obtain ⟨v1, r1, rfl, h3, v2, r2, rfl, h4, rfl⟩ := h1
   obtain ⟨u1, s1, rfl, h5, u2, s2, rfl, h6, rfl⟩ := h2
   obtain rfl : v1 = .string a := by simpa using h3.1
   obtain rfl : u1 = .string b := by simpa using h5.1
   obtain rfl : v2 = .int k n := by simpa using h4
   obtain rfl : u2 = .int k m := by simpa using h6
   obtain ⟨q1, q2⟩ := eqSI_run (P := P) hk a b k n m w
   split at e
   · cases e
     exact ⟨_, by rw [run_eql_struct, q1]; rfl, VRel.bool_mk, fun x y => q2 _ x y⟩
   · cases e
     exact ⟨_, by rw [run_neq_struct, q1]; rfl, VRel.bool_mk, fun x y => q2 _ x y⟩
   · cases e
 · obtain ⟨b, off, rfl, _⟩ := hp.pptr_of
   obtain rfl := hq.nilptr_of
   split at e
   · rename_i pe hu
     cases e
     exact ⟨_, run_eql_pointer_nil w t _ (by unfold Program.pointee; rw [hu]), VRel.bool_mk, fun x y => by rw [eqGuard_at_pointer]; rfl⟩
   · rename_i pe hu
     cases e
     exact ⟨_, run_neq_pointer_nil w t _ (by unfold Program.pointee; rw [hu]), VRel.bool_mk, fun x y => by rw [eqGuard_at_pointer]; rfl⟩
   · cases e
 · obtain rfl := hp.nilptr_of
   obtain rfl := hq.nilptr_of
   split at e
   · rename_i pe hu
     cases e
     exact ⟨_, run_eql_pointer_nil w t _ (by unfold Program.pointee; rw [hu]), VRel.bool_mk, fun x y => by rw [eqGuard_at_pointer]; rfl⟩
   · rename_i pe hu
     cases e
     exact ⟨_, run_neq_pointer_nil w t _ (by unfold Program.pointee; rw [hu]), VRel.bool_mk, fun x y => by rw [eqGuard_at_pointer]; rfl⟩
   · cases e
 · exact aBin_run e hp hq
def aMax : AV → AV → Option AV
 | .int k x, .int k' y => if k = k' then some (.int k (if x < y then y else x)) else none
 | _, _ => none
theorem max_ok {P : Program} {st : zy7} {w : World} {a : Act} {φ : AF} {ts : Array TypeId} {x y : Operand} {r : AV} {o : Oper} (ho : o.op = .call { callee := .builtin .max, args := #[x, y], argTypes := ts }) (F : FRel w.heap st a.tmps φ) (e : aMax (φ.eval x) (φ.eval y) = some r) : Yld st w r ((execOp a.eval o).run P w) := by
 have y1 := VRel.eval F x
 have y2 := VRel.eval F y
 unfold aMax at e
 split at e
 case h_2 => cases e
 rename_i k n k' m h1 h2
 split at e
 case isFalse => cases e
 rename_i hk
 subst hk
 cases e
 rw [h1] at y1
 rw [h2] at y2
 refine .same (v := .int k (if n < m then m else n)) ?_ VRel.int_mk
 simp only [execOp, ho, resolve, Sem.run_bind, Sem.run_pure, Result.andThen_ok, invoke, builtin]
 have := run_max_int2 (P := P) w ts o.type k k n m
 simp only [gt_iff_lt] at this
 simp [y1.int_of, y2.int_of, this]
def aVal (P : Program) (φ : AF) (st : zy7) (o : Oper) : Option AV :=
 match o.op with
 | .move x => some (φ.eval x)
 | .assign x => some (φ.eval x)
 | .pick c x y => match φ.eval c with | .bool b => some (if b then φ.eval x else φ.eval y) | _ => none
 | .binOp op t x y _ => aBinT P op t (φ.eval x) (φ.eval y)
 | .unOp op _ x => aUn op (φ.eval x)
 | .nilCheck x => match φ.eval x with | .ptr b q => some (.ptr b q) | .pptr e => some (.pptr e) | _ => none
 | .fieldAddr t x f => zy1 P t f (φ.eval x)
 | .load t x => zq2 P st t (φ.eval x)
 | .field t x f => match fI P t f, φ.eval x with | some (off, ag, sz), .agg cs => sub ag cs off sz | _, _ => none
 | .indexAddr t x i => aIndexAddr P t (φ.eval x) (φ.eval i)
 | .index t x i => aIndex P t (φ.eval x) (φ.eval i)
 | .slice t x lo hi mx => aSlice P φ t (φ.eval x) lo hi mx
 | .extract x i => match φ.eval x with | .tup vs => vs[i]? | _ => none
 | .makeFunc (.func g) first caps => if first.size = 0 ∧ zq1 (caps.toList.map φ.eval) = true then some (.func g (caps.toList.map φ.eval)) else none
 | .build t parts => zx0 P φ t parts
 | .buildSlice t len parts => zq0 P φ t len parts
 | .convert src dst x => aConvert P src dst (φ.eval x)
 | .box t x => zq3 P t (φ.eval x)
 | .lookup t x i ok => aLookup P st t ok (φ.eval x) (φ.eval i)
 | .call { callee := .builtin .len, args, argTypes } => match args.toList, argTypes.toList with | [x], [t] => aLen P t (φ.eval x) | _, _ => none
 | .call { callee := .builtin .max, args, argTypes } => match args.toList with | [x, y] => aMax (φ.eval x) (φ.eval y) | _ => none
 | _ => none
theorem aVal_ok {P : Program} {st : zy7} {w : World} {a : Act} {φ : AF} {o : Oper} {r : AV} (F : FRel w.heap st a.tmps φ) (S : SRel w.heap st) (e : aVal P φ st o = some r) : Yld st w r ((execOp a.eval o).run P w) := by
 unfold aVal at e
 split at e
 case h_1 x ho => cases e; exact .same (v := a.eval x) (by simp [execOp, ho]) (VRel.eval F x)
 case h_2 x ho => cases e; exact .same (v := a.eval x) (by simp [execOp, ho]) (VRel.eval F x)
 case h_3 c x y ho =>
  split at e
  · rename_i b hc
    cases e
    have yc := VRel.eval F c
    rw [hc] at yc
    refine .same (v := if b then a.eval x else a.eval y) (by simp [execOp, ho, yc.bool_of, asBool]) ?_
    cases b
    · exact VRel.eval F y
    · exact VRel.eval F x
  · cases e
 case h_4 op t x y t' ho =>
  obtain ⟨z, z1, z2, z3⟩ := aBinT_run (P := P) (w := w) (t := t) e (VRel.eval F x) (VRel.eval F y)
  exact .same (v := z) (by simp [execOp, ho, z1, z3]) z2
 case h_5 op t x ho =>
  have y := VRel.eval F x
  unfold aUn at e
  split at e
  · rename_i b hx
    rw [hx] at y
    cases op <;> simp only [] at e <;> cases e
    exact .same (v := .bool (!b)) (by simp [execOp, ho, y.bool_of, Op.unary]) VRel.bool_mk
  · rename_i k n hx
    rw [hx] at y
    cases op <;> simp only [] at e <;> cases e
    exact .same (v := .int k (k.wrap (0 - n))) (by simp [execOp, ho, y.int_of, Op.unary, Op.intArith]) VRel.int_mk
  · cases e
 case h_6 x ho =>
  have y := VRel.eval F x
  split at e
  · rename_i b q hx
    rw [hx] at y
    cases e
    exact .same (v := .pointer (some ⟨b, q, none⟩)) (by simp [execOp, ho, y.ptr_of]) ⟨rfl, rfl⟩
  · rename_i e' hx
    rw [hx] at y
    cases e
    obtain ⟨b, q, hv, _⟩ := y.pptr_of
    exact .same (v := .pointer (some ⟨b, q, none⟩)) (by simp [execOp, ho, hv]) (by rw [← hv]; exact y)
  · cases e
 case h_7 t x f ho => exact fieldAddr_ok ho F e
 case h_8 t x ho => exact load_ok ho F S e
 case h_9 t x f ho =>
  split at e
  · rename_i off ag sz cs hI hx; exact field_ok ho F hI hx e
  · cases e
 case h_10 t x i ho => exact indexAddr_ok ho F e
 case h_11 t x i ho => exact index_ok ho F e
 case h_12 t x lo hi mx ho => exact slice_ok ho F e
 case h_13 x i ho =>
  split at e
  · rename_i vs hx; exact extract_ok ho F hx e
  · cases e
 case h_14 g first caps ho =>
  split at e
  · rename_i hc
    cases e
    have : first = #[] := Array.eq_empty_of_size_eq_zero hc.1
    subst this
    exact makeFunc_ok ho F hc.2
  · cases e
 case h_15 t parts ho => exact build_ok ho F e
 case h_16 t len parts ho => exact buildSlice_ok ho F S e
 case h_17 src dst x ho => exact convert_ok ho F e
 case h_18 t x ho => exact box_ok ho F S e
 case h_19 t x i ok ho => exact lookup_ok ho F S e
 case h_20 args ats ho =>
  split at e
  · rename_i x t hx ht
    obtain rfl : args = #[x] := by rw [← Array.toArray_toList (xs := args), hx]
    obtain rfl : ats = #[t] := by rw [← Array.toArray_toList (xs := ats), ht]
    exact len_ok ho F e
  · cases e
 case h_21 args ats ho =>
  split at e
  · rename_i x y hx
    obtain rfl : args = #[x, y] := by rw [← Array.toArray_toList (xs := args), hx]
    exact max_ok ho F e
  · cases e
 case h_22 => cases e
theorem StepH.of_write {h h' : Heap} {st : zy7} {b : Nat} {o : AO} (hb : st b ≠ none) (hs : h.size ≤ h'.size) (k : ∀ x, x < h.size → x ≠ b → h'[x]? = h[x]?)
 (sh : ∀ c t fr, h[b]? = some (.cells c t fr) → ∃ c', h'[b]? = some (.cells c' t fr) ∧ c'.size = c.size) : StepH h st h' (st.upd b o) := by
 refine ⟨hs, fun x hx e => ?_, fun x c t fr e => ?_⟩
 · have hne : x ≠ b := fun q => hb (q ▸ e)
   exact ⟨k x hx hne, by rw [zy7.upd_ne _ _ hne]; exact e⟩
 · by_cases hne : x = b
   · subst hne; exact sh c t fr e
   · have hx : x < h.size := by
      rcases Nat.lt_or_ge x h.size with h1 | h1
      · exact h1
      · simp [Array.getElem?_eq_none h1] at e
     exact ⟨c, by rw [k x hx hne]; exact e, rfl⟩
theorem SRel.of_write {h h' : Heap} {st : zy7} {b : Nat} {o : AO} (S : SRel h st) (T : StepH h st h' (st.upd b o)) (hb : b < h'.size) (k : ∀ x, x < h.size → x ≠ b → h'[x]? = h[x]?) (ho : ORel h' (st.upd b o) b o) :
 SRel h' (st.upd b o) := by
 intro x p e
 by_cases hne : x = b
 · subst hne
   rw [zy7.upd_same] at e; cases e
   exact ⟨hb, ho⟩
 · rw [zy7.upd_ne _ _ hne] at e
   obtain ⟨l, r⟩ := S x p e
   exact ⟨Nat.lt_of_lt_of_le l T.size, ORel.mono T (k x l hne) r⟩
theorem StepH.of_alloc (h : Heap) (st : zy7) (o : Obj) (p : AO) : StepH h st (h.push o) (st.upd h.size p) := by
 have E := Ext.push h o
 refine ⟨E.size, fun x hx e => ⟨E.keep x hx, by rw [zy7.upd_ne _ _ (by omega)]; exact e⟩, (E.step st).shape⟩
theorem SRel.fresh {h : Heap} {st : zy7} (S : SRel h st) : st h.size = none := by
 cases e : st h.size with
 | none => rfl
 | some o => exact absurd (S _ _ e).1 (Nat.lt_irrefl _)
theorem SRel.of_alloc {h : Heap} {st : zy7} {o : Obj} {p : AO} (S : SRel h st) (ho : ORel (h.push o) (st.upd h.size p) h.size p) : SRel (h.push o) (st.upd h.size p) :=
 S.of_write (StepH.of_alloc h st o p) (by simp) (fun x hx _ => (Ext.push h o).keep x hx) ho
def Enters (P : Program) (g : FuncId) : Prop := ∃ fn, P.funcs[g]? = some fn ∧ fn.body.isSome = true ∧ (fn.name == "runtime.NumGoroutine") = false
def VRelL (h : Heap) (st : zy7) : List AV → List Value → Prop
 | [], vs => vs = []
 | a :: as, vs => ∃ v r, vs = v :: r ∧ VRel h st a v ∧ VRelL h st as r
theorem VRelL.eval {h : Heap} {st : zy7} {a : Act} {φ : AF} (F : FRel h st a.tmps φ) : ∀ (l : List Operand), VRelL h st (l.map φ.eval) (l.map a.eval)
 | [] => by simp [VRelL]
 | o :: l => by simp only [List.map_cons, VRelL]; exact ⟨_, _, rfl, VRel.eval F o, VRelL.eval F l⟩
theorem VRelL.of_VTs {h : Heap} {st : zy7} : ∀ {as : List AV} {vs : List Value}, VTs h st as vs → VRelL h st as vs
 | [], _, x => by simpa [VTs, VRelL] using x
 | a :: as, vs, x => by
  simp only [VTs] at x
  obtain ⟨v, r, rfl, x1, x2⟩ := x
  simp only [VRelL]
  exact ⟨v, r, rfl, VRel.of_pair x1, VRelL.of_VTs x2⟩
theorem VRelL.append {h : Heap} {st : zy7} : ∀ {as bs : List AV} {vs us : List Value}, VRelL h st as vs → VRelL h st bs us → VRelL h st (as ++ bs) (vs ++ us)
 | [], _, vs, us, x, y => by simp only [VRelL] at x; subst x; simpa using y
 | a :: as, _, vs, us, x, y => by
  simp only [VRelL] at x
  obtain ⟨c, r, rfl, x1, x2⟩ := x
  simp only [List.cons_append, VRelL]
  exact ⟨c, r ++ us, rfl, x1, VRelL.append x2 y⟩
def zq7 (P : Program) (g : FuncId) (args : List AV) (st : zy7) (Q : AV → zy7 → Prop) : Prop :=
 Enters P g ∧ ∀ (w : World) (vs : List Value), SRel w.heap st → VRelL w.heap st args vs →
  Calls P g vs.toArray w fun e w' => ∃ v r st', e = .returned v ∧ VRel w'.heap st' r v ∧ SRel w'.heap st' ∧ StepH w.heap st w'.heap st' ∧ Same w w' ∧ Q r st'
theorem zq7.mono {P : Program} {g : FuncId} {args : List AV} {st : zy7} {Q Q' : AV → zy7 → Prop} (x : zq7 P g args st Q) (h : ∀ r st', Q r st' → Q' r st') : zq7 P g args st Q' :=
 ⟨x.1, fun w vs S V => (x.2 w vs S V).mono fun _ _ ⟨v, r, st', e, a, b, c, d, q⟩ => ⟨v, r, st', e, a, b, c, d, h r st' q⟩⟩
def Took (st : zy7) (w : World) (K : AV → zy7 → Prop) (v : Value) (w' : World) : Prop :=
 ∃ r st', VRel w'.heap st' r v ∧ SRel w'.heap st' ∧ StepH w.heap st w'.heap st' ∧ Same w w' ∧ K r st'
def AV.storable : AV → Bool
 | .int _ _ | .bool _ | .str _ | .slice _ | .fslice _ | .mslice _ _ _ _ | .nilptr | .ptr _ _ | .pptr _ | .nilmap | .map _ | .func _ _ => true
 | .raw v => v.oneCell'
 | _ => false
theorem VC.oneCell {h : Heap} {st : zy7} {a : AV} {v : Value} (x : VC h st a [v]) (hs : a.storable = true) : v.oneCell' = true := by
 cases a <;> simp [AV.storable] at hs <;> simp only [VC] at x
 case int => cases x; rfl
 case bool => cases x; rfl
 case str => obtain ⟨x, _⟩ := x; cases x; rfl
 case slice => rcases x with ⟨⟨_, x⟩, _⟩ | ⟨_, _, _, x, _⟩ <;> cases x <;> rfl
 case fslice => rcases x with ⟨⟨_, x⟩, _⟩ | ⟨_, _, x, _⟩ <;> cases x <;> rfl
 case mslice => obtain ⟨_, x, _⟩ := x; cases x; rfl
 case nilptr => cases x; rfl
 case ptr => cases x; rfl
 case pptr => obtain ⟨_, _, x, _⟩ := x; cases x; rfl
 case nilmap => cases x; rfl
 case map => cases x; rfl
 case func => obtain ⟨_, x, _⟩ := x; cases x; rfl
 case raw => obtain ⟨x, _⟩ := x; cases x; exact hs
theorem VCs.oneCell {h : Heap} {st : zy7} : ∀ {as : List AV} {vs : List Value}, VCs h st as vs → as.all AV.storable = true → ∀ v ∈ vs, v.oneCell' = true
 | [], vs, x, _, v, hv => by simp only [VCs] at x; subst x; simp at hv
 | a :: as, vs, x, hs, v, hv => by
  simp only [VCs] at x
  obtain ⟨c, r, rfl, x1, x2⟩ := x
  simp at hs
  rcases List.mem_cons.1 hv with rfl | hv
  · exact x1.oneCell hs.1
  · exact VCs.oneCell x2 (by simpa using hs.2) v hv
def zy4 (cs : List AV) (o : Nat) (x : List AV) : List AV := cs.take o ++ x ++ cs.drop (o + x.length)
theorem cellsAt_of_take {h : Heap} {b : Nat} {c : Array Value} {t : TypeId} {fr : Nat × Nat} (e : h[b]? = some (.cells c t fr)) : ∀ (n off : Nat), off + n ≤ c.size → cellsAt h b off ((c.toList.drop off).take n)
 | 0, off, _ => by simp [cellsAt]
 | n + 1, off, hl => by
  have hlt : off < c.toList.length := by simp; omega
  rw [List.drop_eq_getElem_cons hlt, List.take_succ_cons]
  refine ⟨?_, cellsAt_of_take e n (off + 1) (by omega)⟩
  simp only [cellAt, e]
  simp at hlt
  simp [hlt]
theorem cellsAt_take_eq {h : Heap} {b : Nat} {c : Array Value} {t : TypeId} {fr : Nat × Nat} (e : h[b]? = some (.cells c t fr)) : ∀ {vs : List Value} {off : Nat}, cellsAt h b off vs → (c.toList.drop off).take vs.length = vs
 | [], _, _ => by simp
 | v :: vs, off, x => by
  have h1 := x.1
  simp only [cellAt, e] at h1
  obtain ⟨hlt, hv⟩ := Array.getElem?_eq_some_iff.1 h1
  have hlt' : off < c.toList.length := by simpa using hlt
  rw [List.drop_eq_getElem_cons hlt', List.length_cons, List.take_succ_cons, cellsAt_take_eq e x.2]
  simp [hv]
theorem take_splice {α : Type} (C V : List α) (o n : Nat) (h : o + V.length ≤ n) (hn : n ≤ C.length) :
 (C.take o ++ V ++ C.drop (o + V.length)).take n = (C.take n).take o ++ V ++ (C.take n).drop (o + V.length) := by
 have hA : (C.take o ++ V).length = o + V.length := by simp; omega
 rw [List.take_append, hA, List.take_of_length_le (by omega), List.take_take, Nat.min_eq_left (by omega), List.drop_take]
theorem store_took {P : Program} {st : zy7} {w : World} {b o sz : Nat} {t : TypeId} {ag : Bool} {cs : List AV} {x : AV} {v : Value} (S : SRel w.heap st) (hT : tI P t = some (ag, sz)) (hs : st b = some (.cells cs)) (hx : VRel w.heap st x v)
 (hw : x.cells.length = sz) (hfit : o + sz ≤ cs.length) (hst : x.cells.all AV.storable = true) :
 ∃ w', (Instr.storeAt t (.pointer (some ⟨b, o, none⟩)) v).run P w = .ok () w' ∧ SRel w'.heap (st.upd b (.cells (zy4 cs o x.cells))) ∧ StepH w.heap st w'.heap (st.upd b (.cells (zy4 cs o x.cells))) ∧ Same w w' := by
 obtain ⟨hlt, c, ty, hb, hl, vs, x1, x2⟩ := S b _ hs
 have hj : x ≠ .junk := by rintro rfl; simp [AV.cells, AV.storable] at hst
 have hc := hx.cells hj
 have hlen : v.cells.toList.length = sz := by rw [hc.length, hw]
 have hlen' : v.cells.size = sz := by simpa using hlen
 obtain ⟨_, r2, _⟩ := tI_run hT w
 have hvl := x2.length
 have hrun := run_storeCells_at P b o ty v.cells.toList 0 c w hb (by omega) (hc.oneCell hst)
 simp only [Nat.add_zero, hlen] at hrun
 refine ⟨_, by simp only [Instr.storeAt, Instr.sureAddr, Sem.run_bind, Sem.run_pure, Result.andThen_ok, storeVar, r2, hlen', ne_eq, not_true_eq_false, if_false]; exact hrun, ?_⟩
 generalize hc' : (c.toList.take o ++ v.cells.toList ++ c.toList.drop (o + sz)).toArray = c' at *
 have hsz : c'.size = c.size := by rw [← hc']; simp [hlen']; omega
 have hblk : (w.setRow b c').heap[b]? = some (.cells c' ty (0, 0)) := setRow_heap w b c c' ty (0, 0) hb
 have hoth : ∀ y, y < w.heap.size → y ≠ b → (w.setRow b c').heap[y]? = w.heap[y]? := fun y _ hne => setRow_other w b y c' hne
 have T : StepH w.heap st (w.setRow b c').heap (st.upd b (.cells (zy4 cs o x.cells))) := by
  refine StepH.of_write (by rw [hs]; simp) (by simp) hoth fun c1 t1 fr1 e1 => ?_
  rw [hb] at e1; cases e1
  exact ⟨c', hblk, hsz⟩
 have hset : (zy4 cs o x.cells).length = cs.length := by simp [zy4, hw]; omega
 refine ⟨S.of_write T (by simpa using hlt) hoth ⟨c', ty, hblk, by rw [hset, hsz]; exact hl, (c'.toList.drop 0).take cs.length, cellsAt_of_take hblk _ 0 (by rw [hsz]; omega), ?_⟩, T, ⟨rfl, rfl, rfl⟩⟩
 refine VCs.mono T _ _ ?_
 have htake := cellsAt_take_eq hb x1
 simp only [List.drop_zero] at htake ⊢
 have e1 : c'.toList.take cs.length = vs.take o ++ v.cells.toList ++ vs.drop (o + sz) := by
  rw [← hc', ← htake, hvl]
  have := take_splice c.toList v.cells.toList o cs.length (by rw [hlen]; exact hfit) (by simpa using hl)
  rw [hlen] at this
  exact this
 rw [e1, zy4, hw]
 exact ((x2.take o).append hc).append (x2.drop (o + sz))
end Go.AW
