/- Calls, stores, new objects: what each operation comes to with the owned store; lists of operations; code. -/
import Derived.Test.YtcookjmgjbhkiaaAw6
namespace Go.AW

/-! ### Writing and allocating -/
theorem StepH.of_write {h h' : Heap} {st : Store} {b : Nat} {o : AO} (hb : st b ≠ none) (hs : h.size ≤ h'.size) (k : ∀ x, x < h.size → x ≠ b → h'[x]? = h[x]?)
    (sh : ∀ c t fr, h[b]? = some (.cells c t fr) → ∃ c', h'[b]? = some (.cells c' t fr) ∧ c'.size = c.size) : StepH h st h' (st.upd b o) := by
  refine ⟨hs, fun x hx e => ?_, fun x c t fr e => ?_⟩
  · have hne : x ≠ b := fun q => hb (q ▸ e)
    exact ⟨k x hx hne, by rw [Store.upd_ne _ _ hne]; exact e⟩
  · by_cases hne : x = b
    · subst hne; exact sh c t fr e
    · have hx : x < h.size := by
        rcases Nat.lt_or_ge x h.size with h1 | h1
        · exact h1
        · simp [Array.getElem?_eq_none h1] at e
      exact ⟨c, by rw [k x hx hne]; exact e, rfl⟩

theorem SRel.of_write {h h' : Heap} {st : Store} {b : Nat} {o : AO} (S : SRel h st) (T : StepH h st h' (st.upd b o)) (hb : b < h'.size) (k : ∀ x, x < h.size → x ≠ b → h'[x]? = h[x]?) (ho : ORel h' (st.upd b o) b o) :
    SRel h' (st.upd b o) := by
  intro x p e
  by_cases hne : x = b
  · subst hne
    rw [Store.upd_same] at e; cases e
    exact ⟨hb, ho⟩
  · rw [Store.upd_ne _ _ hne] at e
    obtain ⟨l, r⟩ := S x p e
    exact ⟨Nat.lt_of_lt_of_le l T.size, ORel.mono T (k x l hne) r⟩

theorem StepH.of_alloc (h : Heap) (st : Store) (o : Obj) (p : AO) : StepH h st (h.push o) (st.upd h.size p) := by
  have E := Ext.push h o
  refine ⟨E.size, fun x hx e => ⟨E.keep x hx, by rw [Store.upd_ne _ _ (by omega)]; exact e⟩, (E.step st).shape⟩

theorem SRel.fresh {h : Heap} {st : Store} (S : SRel h st) : st h.size = none := by
  cases e : st h.size with
  | none => rfl
  | some o => exact absurd (S _ _ e).1 (Nat.lt_irrefl _)

theorem SRel.of_alloc {h : Heap} {st : Store} {o : Obj} {p : AO} (S : SRel h st) (ho : ORel (h.push o) (st.upd h.size p) h.size p) : SRel (h.push o) (st.upd h.size p) :=
  S.of_write (StepH.of_alloc h st o p) (by simp) (fun x hx _ => (Ext.push h o).keep x hx) ho

/-! ### Calls -/
/-- The program has this function, with a body. -/
def Enters (P : Program) (g : FuncId) : Prop := ∃ fn, P.funcs[g]? = some fn ∧ fn.body.isSome = true ∧ (fn.name == "runtime.NumGoroutine") = false

def VRelL (h : Heap) (st : Store) : List AV → List Value → Prop
  | [], vs => vs = []
  | a :: as, vs => ∃ v r, vs = v :: r ∧ VRel h st a v ∧ VRelL h st as r

theorem VRelL.eval {h : Heap} {st : Store} {a : Act} {φ : AF} (F : FRel h st a.tmps φ) : ∀ (l : List Operand), VRelL h st (l.map φ.eval) (l.map a.eval)
  | [] => by simp [VRelL]
  | o :: l => by simp only [List.map_cons, VRelL]; exact ⟨_, _, rfl, VRel.eval F o, VRelL.eval F l⟩

theorem VRelL.of_VTs {h : Heap} {st : Store} : ∀ {as : List AV} {vs : List Value}, VTs h st as vs → VRelL h st as vs
  | [], _, x => by simpa [VTs, VRelL] using x
  | a :: as, vs, x => by
    simp only [VTs] at x
    obtain ⟨v, r, rfl, x1, x2⟩ := x
    simp only [VRelL]
    exact ⟨v, r, rfl, VRel.of_pair x1, VRelL.of_VTs x2⟩

theorem VRelL.append {h : Heap} {st : Store} : ∀ {as bs : List AV} {vs us : List Value}, VRelL h st as vs → VRelL h st bs us → VRelL h st (as ++ bs) (vs ++ us)
  | [], _, vs, us, x, y => by simp only [VRelL] at x; subst x; simpa using y
  | a :: as, _, vs, us, x, y => by
    simp only [VRelL] at x
    obtain ⟨c, r, rfl, x1, x2⟩ := x
    simp only [List.cons_append, VRelL]
    exact ⟨c, r ++ us, rfl, x1, VRelL.append x2 y⟩

/-- **The contract**: called with what the abstract values say, over a heap that holds the store, the function returns; Q says of the result and of the store behind the call. -/
def ACalls (P : Program) (g : FuncId) (args : List AV) (st : Store) (Q : AV → Store → Prop) : Prop :=
  Enters P g ∧ ∀ (w : World) (vs : List Value), SRel w.heap st → VRelL w.heap st args vs →
    Calls P g vs.toArray w fun e w' => ∃ v r st', e = .returned v ∧ VRel w'.heap st' r v ∧ SRel w'.heap st' ∧ StepH w.heap st w'.heap st' ∧ Same w w' ∧ Q r st'

theorem ACalls.mono {P : Program} {g : FuncId} {args : List AV} {st : Store} {Q Q' : AV → Store → Prop} (x : ACalls P g args st Q) (h : ∀ r st', Q r st' → Q' r st') : ACalls P g args st Q' :=
  ⟨x.1, fun w vs S V => (x.2 w vs S V).mono fun _ _ ⟨v, r, st', e, a, b, c, d, q⟩ => ⟨v, r, st', e, a, b, c, d, h r st' q⟩⟩

/-- What one operation leaves. -/
def Took (st : Store) (w : World) (K : AV → Store → Prop) (v : Value) (w' : World) : Prop :=
  ∃ r st', VRel w'.heap st' r v ∧ SRel w'.heap st' ∧ StepH w.heap st w'.heap st' ∧ Same w w' ∧ K r st'

def AV.storable : AV → Bool
  | .int _ _ | .bool _ | .str _ | .slice _ | .fslice _ | .mslice _ _ _ _ | .nilptr | .ptr _ _ | .pptr _ | .nilmap | .map _ | .func _ _ => true
  | .raw v => v.oneCell'
  | _ => false

theorem VC.oneCell {h : Heap} {st : Store} {a : AV} {v : Value} (x : VC h st a [v]) (hs : a.storable = true) : v.oneCell' = true := by
  cases a <;> simp [AV.storable] at hs <;> simp only [VC] at x
  case int => cases x; rfl
  case bool => cases x; rfl
  case str => obtain ⟨x, _⟩ := x; cases x; rfl
  case slice => rcases x with ⟨⟨_, x⟩, _⟩ | ⟨_, _, _, x, _⟩ <;> cases x <;> rfl
  case fslice => rcases x with ⟨⟨_, x⟩, _⟩ | ⟨_, _, x, _⟩ <;> cases x <;> rfl
  case mslice => obtain ⟨_, x, _⟩ := x; cases x; rfl
  case nilptr => cases x; rfl
  case ptr => cases x; rfl
  case pptr => obtain ⟨_, _, x, _⟩ := x; cases x; rfl
  case nilmap => cases x; rfl
  case map => cases x; rfl
  case func => obtain ⟨_, x, _⟩ := x; cases x; rfl
  case raw => obtain ⟨x, _⟩ := x; cases x; exact hs

theorem VCs.oneCell {h : Heap} {st : Store} : ∀ {as : List AV} {vs : List Value}, VCs h st as vs → as.all AV.storable = true → ∀ v ∈ vs, v.oneCell' = true
  | [], vs, x, _, v, hv => by simp only [VCs] at x; subst x; simp at hv
  | a :: as, vs, x, hs, v, hv => by
    simp only [VCs] at x
    obtain ⟨c, r, rfl, x1, x2⟩ := x
    simp at hs
    rcases List.mem_cons.1 hv with rfl | hv
    · exact x1.oneCell hs.1
    · exact VCs.oneCell x2 (by simpa using hs.2) v hv

def setCells (cs : List AV) (o : Nat) (x : List AV) : List AV := cs.take o ++ x ++ cs.drop (o + x.length)

theorem cellsAt_of_take {h : Heap} {b : Nat} {c : Array Value} {t : TypeId} {fr : Nat × Nat} (e : h[b]? = some (.cells c t fr)) : ∀ (n off : Nat), off + n ≤ c.size → cellsAt h b off ((c.toList.drop off).take n)
  | 0, off, _ => by simp [cellsAt]
  | n + 1, off, hl => by
    have hlt : off < c.toList.length := by simp; omega
    rw [List.drop_eq_getElem_cons hlt, List.take_succ_cons]
    refine ⟨?_, cellsAt_of_take e n (off + 1) (by omega)⟩
    simp only [cellAt, e]
    simp at hlt
    simp [hlt]

theorem cellsAt_take_eq {h : Heap} {b : Nat} {c : Array Value} {t : TypeId} {fr : Nat × Nat} (e : h[b]? = some (.cells c t fr)) : ∀ {vs : List Value} {off : Nat}, cellsAt h b off vs → (c.toList.drop off).take vs.length = vs
  | [], _, _ => by simp
  | v :: vs, off, x => by
    have h1 := x.1
    simp only [cellAt, e] at h1
    obtain ⟨hlt, hv⟩ := Array.getElem?_eq_some_iff.1 h1
    have hlt' : off < c.toList.length := by simpa using hlt
    rw [List.drop_eq_getElem_cons hlt', List.length_cons, List.take_succ_cons, cellsAt_take_eq e x.2]
    simp [hv]

theorem take_splice {α : Type} (C V : List α) (o n : Nat) (h : o + V.length ≤ n) (hn : n ≤ C.length) :
    (C.take o ++ V ++ C.drop (o + V.length)).take n = (C.take n).take o ++ V ++ (C.take n).drop (o + V.length) := by
  have hA : (C.take o ++ V).length = o + V.length := by simp; omega
  rw [List.take_append, hA, List.take_of_length_le (by omega), List.take_take, Nat.min_eq_left (by omega), List.drop_take]

/-- A store into a block that is owned. -/
theorem store_took {P : Program} {st : Store} {w : World} {b o sz : Nat} {t : TypeId} {ag : Bool} {cs : List AV} {x : AV} {v : Value} (S : SRel w.heap st) (hT : tI P t = some (ag, sz)) (hs : st b = some (.cells cs)) (hx : VRel w.heap st x v)
    (hw : x.cells.length = sz) (hfit : o + sz ≤ cs.length) (hst : x.cells.all AV.storable = true) :
    ∃ w', (Instr.storeAt t (.pointer (some ⟨b, o, none⟩)) v).run P w = .ok () w' ∧ SRel w'.heap (st.upd b (.cells (setCells cs o x.cells))) ∧ StepH w.heap st w'.heap (st.upd b (.cells (setCells cs o x.cells))) ∧ Same w w' := by
  obtain ⟨hlt, c, ty, hb, hl, vs, x1, x2⟩ := S b _ hs
  have hj : x ≠ .junk := by rintro rfl; simp [AV.cells, AV.storable] at hst
  have hc := hx.cells hj
  have hlen : v.cells.toList.length = sz := by rw [hc.length, hw]
  have hlen' : v.cells.size = sz := by simpa using hlen
  obtain ⟨_, r2, _⟩ := tI_run hT w
  have hvl := x2.length
  have hrun := run_storeCells_at P b o ty v.cells.toList 0 c w hb (by omega) (hc.oneCell hst)
  simp only [Nat.add_zero, hlen] at hrun
  refine ⟨_, by simp only [Instr.storeAt, Instr.sureAddr, Sem.run_bind, Sem.run_pure, Result.andThen_ok, storeVar, r2, hlen', ne_eq, not_true_eq_false, if_false]; exact hrun, ?_⟩
  generalize hc' : (c.toList.take o ++ v.cells.toList ++ c.toList.drop (o + sz)).toArray = c' at *
  have hsz : c'.size = c.size := by rw [← hc']; simp [hlen']; omega
  have hblk : (w.setRow b c').heap[b]? = some (.cells c' ty (0, 0)) := setRow_heap w b c c' ty (0, 0) hb
  have hoth : ∀ y, y < w.heap.size → y ≠ b → (w.setRow b c').heap[y]? = w.heap[y]? := fun y _ hne => setRow_other w b y c' hne
  have T : StepH w.heap st (w.setRow b c').heap (st.upd b (.cells (setCells cs o x.cells))) := by
    refine StepH.of_write (by rw [hs]; simp) (by simp) hoth fun c1 t1 fr1 e1 => ?_
    rw [hb] at e1; cases e1
    exact ⟨c', hblk, hsz⟩
  have hset : (setCells cs o x.cells).length = cs.length := by simp [setCells, hw]; omega
  refine ⟨S.of_write T (by simpa using hlt) hoth ⟨c', ty, hblk, by rw [hset, hsz]; exact hl, (c'.toList.drop 0).take cs.length, cellsAt_of_take hblk _ 0 (by rw [hsz]; omega), ?_⟩, T, ⟨rfl, rfl, rfl⟩⟩
  refine VCs.mono T _ _ ?_
  have htake := cellsAt_take_eq hb x1
  simp only [List.drop_zero] at htake ⊢
  have e1 : c'.toList.take cs.length = vs.take o ++ v.cells.toList ++ vs.drop (o + sz) := by
    rw [← hc', ← htake, hvl]
    have := take_splice c.toList v.cells.toList o cs.length (by rw [hlen]; exact hfit) (by simpa using hl)
    rw [hlen] at this
    exact this
  rw [e1, setCells, hw]
  exact ((x2.take o).append hc).append (x2.drop (o + sz))

end Go.AW
