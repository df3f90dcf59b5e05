/- The operations that leave the owned store alone: what each comes to. -/
import Derived.Test.YtcookjmgjbhkiaaAw2
namespace Go.AW

/-- The rest of the world. -/
def Same (w w' : World) : Prop := w'.os = w.os ∧ w'.tape = w.tape ∧ w'.output = w.output
theorem Same.refl (w : World) : Same w w := ⟨rfl, rfl, rfl⟩
theorem Same.trans {a b c : World} (x : Same a b) (y : Same b c) : Same a c := ⟨y.1.trans x.1, y.2.1.trans x.2.1, y.2.2.trans x.2.2⟩

structure Ext (h h' : Heap) : Prop where
  size : h.size ≤ h'.size
  keep : ∀ b, b < h.size → h'[b]? = h[b]?
theorem Ext.refl (h : Heap) : Ext h h := ⟨Nat.le_refl _, fun _ _ => rfl⟩
theorem Ext.push (h : Heap) (o : Obj) : Ext h (h.push o) := ⟨by simp, fun b hb => by rw [Array.getElem?_push, if_neg (by omega)]⟩
theorem Ext.step {h h' : Heap} (x : Ext h h') (st : Store) : StepH h st h' st :=
  ⟨x.size, fun b hb e => ⟨x.keep b hb, e⟩, fun b c t fr e => ⟨c, by
    have hb : b < h.size := by
      rcases Nat.lt_or_ge b h.size with h' | h'
      · exact h'
      · simp [Array.getElem?_eq_none h'] at e
    rw [x.keep b hb]; exact e, rfl⟩⟩

theorem ORel.mono {h h' : Heap} {st st' : Store} (S : StepH h st h' st') {b : Nat} (k : h'[b]? = h[b]?) : ∀ {o : AO}, ORel h st b o → ORel h' st' b o
  | .cells as, x => by
    obtain ⟨c, t, e, l, vs, x1, x2⟩ := x
    exact ⟨c, t, k.trans e, l, vs, cellsAt_eq k vs 0 x1, VCs.mono S as vs x2⟩
  | .map f, x => by
    obtain ⟨es, cl, e, x1, x2, x3⟩ := x
    refine ⟨es, cl, k.trans e, x1, x2, fun n => ?_⟩
    have := x3 n
    split
    · rename_i a ha
      rw [ha] at this
      obtain ⟨e, he, hk, hv⟩ := this
      exact ⟨e, he, hk, hv.mono S⟩
    · rename_i ha
      rw [ha] at this
      exact this

theorem SRel.ext {h h' : Heap} {st : Store} (x : Ext h h') (s : SRel h st) : SRel h' st := fun b o e =>
  let ⟨l, r⟩ := s b o e
  ⟨Nat.lt_of_lt_of_le l x.size, ORel.mono (x.step st) (x.keep b l) r⟩

/-- The operation yields a value that the abstract value says, and nothing that was there turns. -/
def Yld (st : Store) (w : World) (r : AV) (x : Result Next) : Prop :=
  ∃ v w', x = .ok (.value v) w' ∧ VRel w'.heap st r v ∧ Ext w.heap w'.heap ∧ Same w w'

theorem Yld.same {st : Store} {w : World} {r : AV} {x : Result Next} {v : Value} (e : x = .ok (.value v) w) (y : VRel w.heap st r v) : Yld st w r x :=
  ⟨v, w, e, y, Ext.refl _, Same.refl _⟩

def dAgg : TypeDesc → Bool
  | .struct _ => true
  | .array _ _ => true
  | _ => false
/-- Is the type a struct or an array; how many cells. -/
def tI (P : Program) (t : TypeId) : Option (Bool × Nat) :=
  match P.underlying t, P.info? t with
  | some d, some i => some (dAgg d, i.size)
  | _, _ => none
def fI (P : Program) (t : TypeId) (f : Nat) : Option (Nat × Bool × Nat) :=
  match P.underlying t with
  | some (.struct fs) =>
    match fs[f]? with
    | some fd => match tI P fd.type with
      | some (ag, sz) => if sz = 0 then none else some (fd.offset, ag, sz)
      | none => none
    | none => none
  | _ => none
def eI (P : Program) (t : TypeId) : Option (Bool × Nat) :=
  match P.underlying t with
  | some (.slice e) => tI P e
  | _ => none
def aI (P : Program) (t : TypeId) : Option (Nat × Bool × Nat) :=
  match P.underlying t with
  | some (.array n e) => (tI P e).map fun x => (n, x)
  | _ => none

theorem tI_run {P : Program} {t : TypeId} {ag : Bool} {sz : Nat} (e : tI P t = some (ag, sz)) (w : World) :
    (isAgg t).run P w = .ok ag w ∧ (sizeOf t).run P w = .ok sz w ∧ ∃ d i, P.underlying t = some d ∧ P.info? t = some i ∧ i.size = sz ∧ dAgg d = ag := by
  unfold tI at e
  split at e
  · rename_i d i hu hi
    cases e
    refine ⟨?_, by simp [sizeOf, typeInfo, hi], _, _, hu, hi, rfl, rfl⟩
    simp only [isAgg, underlying, Sem.run_bind, run_program, Result.andThen_ok, hu]
    cases d <;> rfl
  · cases e

theorem cell?_cellAt (w : World) (b off : Nat) : w.cell? ⟨b, off, none⟩ = cellAt w.heap b off := by
  unfold World.cell? cellAt
  split <;> simp_all

theorem Addr.add_flat (b off n : Nat) : Addr.add ⟨b, off, none⟩ n = ⟨b, off + n, none⟩ := by
  unfold Addr.add
  split
  · rename_i h; rw [h]; rfl
  · rfl

theorem run_loadCells_at {P : Program} {w : World} {b off : Nat} {vs : List Value} (x : cellsAt w.heap b off vs) : (loadCells ⟨b, off, none⟩ vs.length).run P w = .ok vs.toArray w :=
  run_loadCells_list (P := P) w ⟨b, off, none⟩ vs fun j v hj => by rw [Addr.add_flat, cell?_cellAt]; exact x.get j hj

theorem run_loadVar {P : Program} {w : World} {b off : Nat} {t : TypeId} {ag : Bool} {sz : Nat} {vs : List Value} {st : Store} {e : AV} (hI : tI P t = some (ag, sz))
    (x : cellsAt w.heap b off vs) (hl : vs.length = sz) (ha : e.isAgg = ag) (y : VC w.heap st e vs) :
    ∃ v, (loadVar t ⟨b, off, none⟩).run P w = .ok v w ∧ VRel w.heap st e v := by
  obtain ⟨r1, r2, _⟩ := tI_run hI w
  cases ag with
  | true =>
    refine ⟨.agg vs.toArray, ?_, ?_⟩
    · simp only [loadVar, Sem.run_bind, r1, Result.andThen_ok, if_true, r2, ← hl, run_loadCells_at x, Sem.run_pure]
    · cases e <;> simp [AV.isAgg] at ha
      exact VRel.agg_mk (by simpa [VC] using y)
  | false =>
    obtain ⟨c, rfl⟩ := VC.one ha y
    refine ⟨c, ?_, VRel.of_single ha y⟩
    simp only [loadVar, Sem.run_bind, r1, Result.andThen_ok, Bool.false_eq_true, if_false, run_load, cell?_cellAt, x.1]

/-! ### The reckoning -/
def aBin (op : BinOp) : AV → AV → Option AV
  | .int k a, .int k' b =>
    if k ≠ k' then none else match op with
    | .add => some (.int k (k.wrap (a + b)))
    | .sub => some (.int k (k.wrap (a - b)))
    | .mul => some (.int k (k.wrap (a * b)))
    | .quo => if b = 0 then none else some (.int k (k.wrap (a.tdiv b)))
    | .rem => if b = 0 then none else some (.int k (a.tmod b))
    | .eql => some (.bool (decide (a = b)))
    | .neq => some (.bool (!decide (a = b)))
    | .lss => some (.bool (decide (a < b)))
    | .leq => some (.bool (decide (a ≤ b)))
    | .gtr => some (.bool (decide (b < a)))
    | .geq => some (.bool (decide (b ≤ a)))
    | _ => none
  | .str a, .str b => match op with
    | .eql => some (.bool (decide (a = b)))
    | .neq => some (.bool (!decide (a = b)))
    | .lss => some (.bool (Op.bytesLess a.toList b.toList))
    | .gtr => some (.bool (!(Op.bytesLess a.toList b.toList || decide (a = b))))
    | .add => if a.size + b.size ≤ maxLen then some (.str (a ++ b)) else none
    | _ => none
  | _, _ => none

def aUn (op : UnOp) : AV → Option AV
  | .bool b => match op with | .not => some (.bool (!b)) | _ => none
  | .int k n => match op with | .neg => some (.int k (k.wrap (0 - n))) | _ => none
  | _ => none

theorem toList_beq (a b : ByteArray) : (a.toList == b.toList) = decide (a = b) := by
  have h : a.toList = b.toList ↔ a = b := ⟨fun h => by
    rw [ByteArray.toList_eq, ByteArray.toList_eq] at h
    cases a; cases b; simp_all, fun h => by rw [h]⟩
  rw [Bool.eq_iff_iff]
  simp [h]

theorem eqGuard_int (op : BinOp) (t : TypeId) (x y : Operand) (k : IntKind) (n : Int) (v : Value) : eqGuard op t x y (.int k n) v = pure () := eqGuard_at_int ..
theorem eqGuard_str (op : BinOp) (t : TypeId) (x y : Operand) (s : ByteArray) (v : Value) : eqGuard op t x y (.string s) v = pure () := eqGuard_at_string ..

theorem VRel.int_mk {h : Heap} {st : Store} {k : IntKind} {n : Int} : VRel h st (.int k n) (.int k n) := ⟨rfl, rfl⟩
theorem VRel.bool_mk {h : Heap} {st : Store} {b : Bool} : VRel h st (.bool b) (.bool b) := ⟨rfl, rfl⟩

theorem aBin_run {P : Program} {h : Heap} {st : Store} {w : World} {op : BinOp} {t : TypeId} {p q r : AV} {u v : Value} (e : aBin op p q = some r) (hp : VRel h st p u) (hq : VRel h st q v) :
    ∃ z, (binOp op t u v).run P w = .ok z w ∧ VRel h st r z ∧ ∀ x y, (eqGuard op t x y u v).run P w = .ok () w := by
  unfold aBin at e
  split at e
  · rename_i k a k' b
    rw [hp.int_of, hq.int_of]
    have hg : ∀ x y, (eqGuard op t x y (.int k a) (.int k' b)).run P w = .ok () w := fun x y => by rw [eqGuard_int]; rfl
    split at e
    · cases e
    · rename_i hk
      have hk' : k = k' := Classical.byContradiction hk
      subst hk'
      cases op <;> simp only [] at e
      case add => cases e; exact ⟨_, by simp only [binOp, ne_eq, not_true, if_false, Op.intArith, Sem.run_pure], VRel.int_mk, hg⟩
      case sub => cases e; exact ⟨_, by simp only [binOp, ne_eq, not_true, if_false, Op.intArith, Sem.run_pure], VRel.int_mk, hg⟩
      case mul => cases e; exact ⟨_, by simp only [binOp, ne_eq, not_true, if_false, Op.intArith, Sem.run_pure], VRel.int_mk, hg⟩
      case quo =>
        split at e
        · cases e
        · rename_i hb; cases e; exact ⟨_, by simp only [binOp, ne_eq, not_true, if_false, Op.intDiv, hb, Sem.run_pure], VRel.int_mk, hg⟩
      case rem =>
        split at e
        · cases e
        · rename_i hb; cases e; exact ⟨_, by simp only [binOp, ne_eq, not_true, if_false, Op.intDiv, hb, Sem.run_pure], VRel.int_mk, hg⟩
      case eql => cases e; exact ⟨.bool (decide (a = b)), by simp [binOp, Op.intCmp, BEq.beq], VRel.bool_mk, hg⟩
      case neq => cases e; exact ⟨.bool (!decide (a = b)), by simp [binOp, Op.intCmp, bne, BEq.beq], VRel.bool_mk, hg⟩
      case lss => cases e; exact ⟨.bool (decide (a < b)), by simp [binOp, Op.intCmp], VRel.bool_mk, hg⟩
      case leq => cases e; exact ⟨.bool (decide (a ≤ b)), by simp [binOp, Op.intCmp], VRel.bool_mk, hg⟩
      case gtr => cases e; exact ⟨.bool (decide (b < a)), by simp [binOp, Op.intCmp], VRel.bool_mk, hg⟩
      case geq => cases e; exact ⟨.bool (decide (b ≤ a)), by simp [binOp, Op.intCmp], VRel.bool_mk, hg⟩
      all_goals cases e
  · rename_i a b
    rw [hp.str_of.1, hq.str_of.1]
    have hg : ∀ x y, (eqGuard op t x y (.string a) (.string b)).run P w = .ok () w := fun x y => by rw [eqGuard_str]; rfl
    cases op <;> simp only [] at e
    case eql => cases e; exact ⟨.bool (decide (a = b)), by simp [binOp, Op.stringOp, toList_beq], VRel.bool_mk, hg⟩
    case neq => cases e; exact ⟨.bool (!decide (a = b)), by simp [binOp, Op.stringOp, toList_beq], VRel.bool_mk, hg⟩
    case lss => cases e; exact ⟨.bool (Op.bytesLess a.toList b.toList), by simp [binOp, Op.stringOp], VRel.bool_mk, hg⟩
    case gtr => cases e; exact ⟨.bool (!(Op.bytesLess a.toList b.toList || decide (a = b))), by simp [binOp, Op.stringOp, toList_beq], VRel.bool_mk, hg⟩
    case add =>
      split at e
      · rename_i hs
        cases e
        refine ⟨.string (a ++ b), ?_, ⟨rfl, rfl, by rw [ByteArray.size_append]; exact hs⟩, hg⟩
        unfold maxLen at hs
        have : ¬ ((a.size + b.size : Nat) : Int) > IntKind.i64.max := by simp [IntKind.max, IntKind.signed, IntKind.bits]; omega
        simp only [binOp, Op.stringOp, this, if_false, Sem.run_pure]
      · cases e
    all_goals cases e
  · cases e


theorem fI_run {P : Program} {t : TypeId} {f off sz : Nat} {ag : Bool} (e : fI P t f = some (off, ag, sz)) :
    ∃ fs fd, P.underlying t = some (.struct fs) ∧ fs[f]? = some fd ∧ fd.offset = off ∧ tI P fd.type = some (ag, sz) ∧ sz ≠ 0 := by
  unfold fI at e
  split at e
  · rename_i fs hu
    split at e
    · rename_i fd hfd
      split at e
      · rename_i ag' sz' hI
        split at e
        · cases e
        · rename_i hz; cases e; exact ⟨fs, fd, hu, hfd, rfl, hI, hz⟩
      · cases e
    · cases e
  · cases e

theorem eI_run {P : Program} {t : TypeId} {sz : Nat} {ag : Bool} (e : eI P t = some (ag, sz)) : ∃ e', P.underlying t = some (.slice e') ∧ tI P e' = some (ag, sz) := by
  unfold eI at e
  split at e
  · rename_i e' hu; exact ⟨e', hu, e⟩
  · cases e

theorem aI_run {P : Program} {t : TypeId} {n sz : Nat} {ag : Bool} (e : aI P t = some (n, ag, sz)) : ∃ e', P.underlying t = some (.array n e') ∧ tI P e' = some (ag, sz) := by
  unfold aI at e
  split at e
  · rename_i n' e' hu
    cases h : tI P e' with
    | none => rw [h] at e; cases e
    | some x => rw [h] at e; cases e; exact ⟨e', hu, h⟩
  · cases e

theorem run_underlying' {P : Program} {t : TypeId} {d : TypeDesc} (e : P.underlying t = some d) (w : World) : (underlying t).run P w = .ok d w := by
  simp [underlying, e]

/-- A part of a row of cells, as a value. -/
theorem sub_part {P : Program} {h : Heap} {st : Store} {w : World} {t : TypeId} {ag : Bool} {off sz : Nat} {as : List AV} {vs : List Value} {r : AV} (hI : tI P t = some (ag, sz))
    (e : sub ag as off sz = some r) (x : VCs h st as vs) : ∃ v, (part t vs.toArray off).run P w = .ok v w ∧ VRel h st r v := by
  obtain ⟨r1, r2, _⟩ := tI_run hI w
  unfold sub at e
  cases ag with
  | true =>
    simp only [if_true] at e
    split at e
    · rename_i hl
      cases e
      refine ⟨.agg ((vs.drop off).take sz).toArray, ?_, VRel.agg_mk ((x.drop off).take sz)⟩
      simp only [part, Sem.run_bind, r1, Result.andThen_ok, if_true, r2, Sem.run_pure]
      congr 2
      simp [List.take_drop]
    · cases e
  | false =>
    simp only [Bool.false_eq_true, if_false] at e
    split at e
    · rename_i a ha
      split at e
      · cases e
      · rename_i hag
        cases e
        obtain ⟨v, hv, y⟩ := x.get off ha
        refine ⟨v, ?_, VRel.of_single (by simpa using hag) y⟩
        simp [part, r1, hv]
    · cases e

/-- The same in memory. -/
theorem sub_mem {h : Heap} {st : Store} {b o off sz : Nat} {ag : Bool} {as : List AV} {vs : List Value} {r : AV} (e : sub ag as off sz = some r) (x : cellsAt h b o vs) (y : VCs h st as vs) :
    ∃ us, cellsAt h b (o + off) us ∧ us.length = r.width ∧ VC h st r us ∧ r.isAgg = ag ∧ (ag = true → r.width = sz) := by
  unfold sub at e
  cases ag with
  | true =>
    simp only [if_true] at e
    split at e
    · rename_i hl
      cases e
      have l := y.length
      refine ⟨(vs.drop off).take sz, (x.drop off).take sz, by simp [AV.width, l], by simpa [VC] using (y.drop off).take sz, rfl, fun _ => by simp [AV.width]; omega⟩
    · cases e
  | false =>
    simp only [Bool.false_eq_true, if_false] at e
    split at e
    · rename_i a ha
      split at e
      · cases e
      · rename_i hag
        cases e
        have hag' : r.isAgg = false := by simpa using hag
        obtain ⟨v, hv, y'⟩ := y.get off ha
        exact ⟨[v], ⟨x.get off hv, trivial⟩, by cases r <;> first | rfl | (simp [AV.isAgg] at hag'), y', hag', by simp⟩
    · cases e

def aBnd (φ : AF) (x : Option Operand) (dflt most : Nat) : Option Nat :=
  match x with
  | none => some dflt
  | some y => match φ.eval y with
    | .int _ n => if 0 ≤ n ∧ n ≤ most then some n.toNat else none
    | _ => none

def aField (P : Program) (t f : Nat) : AV → Option AV
  | .ptr b o => (fI P t f).map fun x => .ptr b (o + x.1)
  | .pptr (.agg cs) => match fI P t f with
    | some (off, ag, sz) => (sub ag cs off sz).map .pptr
    | none => none
  | _ => none

def aLoad (P : Program) (st : Store) (t : TypeId) : AV → Option AV
  | .pptr e => match tI P t with
    | some (ag, sz) => if e.isAgg = ag ∧ e.width = sz then some e else none
    | none => none
  | .ptr b o => match tI P t, st b with
    | some (ag, sz), some (.cells cs) => if ag = false ∧ sz ≠ 1 then none else sub ag cs o sz
    | _, _ => none
  | _ => none

def aIndexAddr (P : Program) (t : TypeId) : AV → AV → Option AV
  | .slice es, .int _ n | .fslice es, .int _ n => match eI P t with
    | some (_, sz) => if 0 ≤ n then (match es[n.toNat]? with
      | some e => if e.width = sz then some (.pptr e) else none
      | none => none) else none
    | none => none
  | .mslice b off len m, .int _ n => match eI P t with
    | some (_, sz) => if 0 ≤ n ∧ n < len ∧ m = sz then some (.ptr b (off + n.toNat * sz)) else none
    | none => none
  | .ptr b off, .int _ n => match aI P t with
    | some (len, _, sz) => if 0 ≤ n ∧ n < len then some (.ptr b (off + n.toNat * sz)) else none
    | none => none
  | _, _ => none

def aIndex (P : Program) (t : TypeId) : AV → AV → Option AV
  | .str s, .int _ n => match P.underlying t with
    | some .string => if 0 ≤ n then (match s[n.toNat]? with | some b => some (.int .u8 b.toNat) | none => none) else none
    | _ => none
  | .agg cs, .int _ n => match aI P t with
    | some (len, ag, sz) => if 0 ≤ n ∧ n < len then sub ag cs (n.toNat * sz) sz else none
    | none => none
  | _, _ => none

section
variable {P : Program} {st : Store} {w : World} {a : Act} {φ : AF}

theorem fieldAddr_ok {t : TypeId} {x : Operand} {f : Nat} {r : AV} {o : Oper} (ho : o.op = .fieldAddr t x f) (F : FRel w.heap st a.tmps φ) (e : aField P t f (φ.eval x) = some r) : Yld st w r ((execOp a.eval o).run P w) := by
  have y := VRel.eval F x
  have run : ∀ {off sz : Nat} {ag : Bool} {b q : Nat}, fI P t f = some (off, ag, sz) → a.eval x = .pointer (some ⟨b, q, none⟩) →
      (execOp a.eval o).run P w = .ok (.value (.pointer (some ⟨b, q + off, none⟩))) w := by
    intro off sz ag b q hI hv
    obtain ⟨fs, fd, hu, hfd, hoff, hT, hz⟩ := fI_run hI
    obtain ⟨_, r2, _⟩ := tI_run hT w
    simp only [execOp, ho, hv, Instr.fieldAt, Sem.run_bind, run_underlying' hu, Result.andThen_ok, hfd, Instr.sureAddr, Sem.run_pure, fieldPlace, r2, hz, if_false, Addr.add_flat, hoff]
  unfold aField at e
  split at e
  · rename_i b q hx
    rw [hx] at y
    cases hI : fI P t f with
    | none => rw [hI] at e; cases e
    | some z =>
      obtain ⟨off, ag, sz⟩ := z
      rw [hI] at e; cases e
      exact .same (run hI y.ptr_of) ⟨rfl, rfl⟩
  · rename_i cs hx
    rw [hx] at y
    split at e
    · rename_i off ag sz hI
      cases hs : sub ag cs off sz with
      | none => rw [hs] at e; cases e
      | some r' =>
        rw [hs] at e; cases e
        obtain ⟨b, q, hv, e2, e3, vs, e4, e5, e6⟩ := y.pptr_of
        obtain ⟨us, u1, u2, u3, _⟩ := sub_mem hs e4 (by simpa [VC] using e6)
        exact .same (run hI hv) ⟨rfl, b, q + off, rfl, e2, e3, us, u1, u2, u3⟩
    · cases e
  · cases e

theorem aLoad_val {t : TypeId} {x r : AV} {v : Value} (y : VRel w.heap st x v) (S : SRel w.heap st) (e : aLoad P st t x = some r) :
    ∃ b off u, v = .pointer (some ⟨b, off, none⟩) ∧ (loadVar t ⟨b, off, none⟩).run P w = .ok u w ∧ VRel w.heap st r u := by
  unfold aLoad at e
  split at e
  · rename_i e'
    split at e
    · rename_i ag sz hI
      split at e
      · rename_i hc
        cases e
        obtain ⟨b, off, hv, e2, e3, vs, e4, e5, e6⟩ := y.pptr_of
        obtain ⟨u, r1, rv⟩ := run_loadVar hI e4 (by rw [e5, hc.2]) hc.1 e6
        exact ⟨b, off, u, hv, r1, rv⟩
      · cases e
    · cases e
  · rename_i b q
    split at e
    · rename_i ag sz cs hI hs
      split at e
      · cases e
      · rename_i hsz
        obtain ⟨_, c, t', hb, hl, vs, x1, x2⟩ := S b _ hs
        obtain ⟨us, u1, u2, u3, u4, u5⟩ := sub_mem e x1 x2
        rw [Nat.zero_add] at u1
        have hw : us.length = sz := by
          cases ag with
          | true => rw [u2]; exact u5 rfl
          | false => rw [u2]; simp at hsz; rw [hsz]; cases r <;> first | rfl | (simp [AV.isAgg] at u4)
        obtain ⟨u, r1, rv⟩ := run_loadVar hI u1 hw u4 u3
        exact ⟨b, q, u, y.ptr_of, r1, rv⟩
    · cases e
  · cases e

theorem load_ok {t : TypeId} {x : Operand} {r : AV} {o : Oper} (ho : o.op = .load t x) (F : FRel w.heap st a.tmps φ) (S : SRel w.heap st) (e : aLoad P st t (φ.eval x) = some r) : Yld st w r ((execOp a.eval o).run P w) := by
  obtain ⟨b, off, u, hv, r1, rv⟩ := aLoad_val (VRel.eval F x) S e
  exact .same (v := u) (by simp [execOp, ho, Instr.loadAt, Instr.sureAddr, hv, r1]) rv

theorem field_ok {t : TypeId} {x : Operand} {f : Nat} {r : AV} {o : Oper} {off sz : Nat} {ag : Bool} {cs : List AV} (ho : o.op = .field t x f) (F : FRel w.heap st a.tmps φ) (hI : fI P t f = some (off, ag, sz)) (hx : φ.eval x = .agg cs)
    (e : sub ag cs off sz = some r) : Yld st w r ((execOp a.eval o).run P w) := by
  have y := VRel.eval F x
  rw [hx] at y
  obtain ⟨vs, hv, hc⟩ := y.agg_of
  obtain ⟨fs, fd, hu, hfd, hoff, hT, hz⟩ := fI_run hI
  obtain ⟨v, r1, rv⟩ := sub_part (P := P) (w := w) hT e hc
  exact .same (v := v) (by simp only [execOp, ho, hv, Instr.field, Sem.run_bind, run_underlying' hu, Result.andThen_ok, hfd, asAgg, Sem.run_pure, hoff, r1]) rv

theorem indexAddr_ok {t : TypeId} {x i : Operand} {r : AV} {o : Oper} (ho : o.op = .indexAddr t x i) (F : FRel w.heap st a.tmps φ) (e : aIndexAddr P t (φ.eval x) (φ.eval i) = some r) : Yld st w r ((execOp a.eval o).run P w) := by
  have y := VRel.eval F x
  have yi := VRel.eval F i
  have runS : ∀ {b off len cap sz : Nat} {ag : Bool} {k : IntKind} {n : Int}, eI P t = some (ag, sz) → a.eval x = .slice (some ⟨b, off, none⟩) len cap → a.eval i = .int k n → 0 ≤ n → n < len →
      (execOp a.eval o).run P w = .ok (.value (.pointer (some ⟨b, off + n.toNat * sz, none⟩))) w := by
    intro b off len cap sz ag k n hI hv hi h0 h1
    obtain ⟨e', hu, hT⟩ := eI_run hI
    obtain ⟨_, r2, _⟩ := tI_run hT w
    simp only [execOp, ho, hv, hi, Instr.indexAt, asIntOf, Sem.run_bind, run_underlying' hu, Result.andThen_ok, Sem.run_pure, h0, h1, and_self, if_true, r2, Addr.add_flat]
  have imm : ∀ {es : List AV} {k : IntKind} {n : Int} {b off cap : Nat}, φ.eval i = .int k n → a.eval x = .slice (some ⟨b, off, none⟩) es.length cap → st b = none → b < w.heap.size → Even es → VEs w.heap st b off es →
      (match eI P t with
        | some (_, sz) => if 0 ≤ n then (match es[n.toNat]? with
          | some e => if e.width = sz then some (.pptr e) else none
          | none => none) else none
        | none => none) = some r → Yld st w r ((execOp a.eval o).run P w) := by
    intro es k n b off cap hi hv e2 e3 ev e4 e
    rw [hi] at yi
    split at e
    · rename_i ag sz hI
      split at e
      · rename_i h0
        split at e
        · rename_i e' he'
          split at e
          · rename_i hw
            cases e
            obtain ⟨m, hm⟩ := ev
            have hlt : n.toNat < es.length := (List.getElem?_eq_some_iff.1 he').1
            have hms : m = sz := by rw [← hw]; exact (hm e' (List.mem_of_getElem? he')).symm
            obtain ⟨us, u1, u2, u3⟩ := VEs.get n.toNat hm e4 he'
            rw [hms] at u1
            exact .same (runS hI hv yi.int_of h0 (by omega)) ⟨rfl, b, _, rfl, e2, e3, us, u1, u2, u3⟩
          · cases e
        · cases e
      · cases e
    · cases e
  unfold aIndexAddr at e
  split at e
  · rename_i es k n hx hi
    rw [hx] at y
    rcases y.slice_of with ⟨⟨p0, hv⟩, rfl⟩ | ⟨b, off, cap, hv, l1, l2, e2, e3, ev, e4⟩
    · split at e <;> simp at e
    · exact imm hi hv e2 e3 ev e4 e
  · rename_i es k n hx hi
    rw [hx] at y
    rcases y.fslice_of with ⟨⟨p0, hv⟩, rfl⟩ | ⟨b, off, hv, l1, e2, e3, ev, e4⟩
    · split at e <;> simp at e
    · exact imm hi hv e2 e3 ev e4 e
  · rename_i b off len m k n hx hi
    rw [hx] at y
    rw [hi] at yi
    obtain ⟨cap, hv, l1, l2, c, t', hb, l3⟩ := y.mslice_of
    split at e
    · rename_i ag sz hI
      split at e
      · rename_i hc
        cases e
        exact .same (runS hI hv yi.int_of hc.1 hc.2.1) ⟨rfl, rfl⟩
      · cases e
    · cases e
  · rename_i b off k n hx hi
    rw [hx] at y
    rw [hi] at yi
    split at e
    · rename_i len ag sz hI
      split at e
      · rename_i hc
        cases e
        obtain ⟨e', hu, hT⟩ := aI_run hI
        obtain ⟨_, r2, _⟩ := tI_run hT w
        refine .same (v := .pointer (some ⟨b, off + n.toNat * sz, none⟩)) ?_ ⟨rfl, rfl⟩
        simp only [execOp, ho, y.ptr_of, yi.int_of, Instr.indexAt, asIntOf, Sem.run_bind, run_underlying' hu, Result.andThen_ok, Sem.run_pure, Instr.sureAddr, hc.1, hc.2, and_self, if_true, r2, Addr.add_flat]
      · cases e
    · cases e
  · cases e

theorem index_ok {t : TypeId} {x i : Operand} {r : AV} {o : Oper} (ho : o.op = .index t x i) (F : FRel w.heap st a.tmps φ) (e : aIndex P t (φ.eval x) (φ.eval i) = some r) : Yld st w r ((execOp a.eval o).run P w) := by
  have y := VRel.eval F x
  have yi := VRel.eval F i
  unfold aIndex at e
  split at e
  · rename_i s k n hx hi
    rw [hx] at y
    rw [hi] at yi
    split at e
    · rename_i hu
      split at e
      · rename_i h0
        split at e
        · rename_i b hb
          cases e
          refine .same (v := .int .u8 b.toNat) ?_ ⟨rfl, rfl⟩
          simp only [execOp, ho, y.str_of.1, yi.int_of, Instr.index, asIntOf, Sem.run_bind, run_underlying' hu, Result.andThen_ok, Sem.run_pure, h0, if_true, hb]
        · cases e
      · cases e
    · cases e
  · rename_i cs k n hx hi
    rw [hx] at y
    rw [hi] at yi
    obtain ⟨vs, hv, hc⟩ := y.agg_of
    split at e
    · rename_i len ag sz hI
      split at e
      · rename_i hn
        obtain ⟨e', hu, hT⟩ := aI_run hI
        obtain ⟨_, r2, _⟩ := tI_run hT w
        obtain ⟨v, r1, rv⟩ := sub_part (P := P) (w := w) hT e hc
        refine .same (v := v) ?_ rv
        simp only [execOp, ho, hv, yi.int_of, Instr.index, asIntOf, Sem.run_bind, run_underlying' hu, Result.andThen_ok, Sem.run_pure, hn.1, hn.2, and_self, if_true, r2, r1]
      · cases e
    · cases e
  · cases e

end
end Go.AW
