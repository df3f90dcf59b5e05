/- More of the operations that leave the owned store alone: composites, boxes, tuples, lengths; all of them under one name. -/
import Derived.Test.YtcookjmgjbhkiaaAw4
namespace Go.AW

/-! ### Composites -/
def bI (P : Program) (t : TypeId) : Option (List (Nat × Nat)) :=
  match P.underlying t with
  | some (.struct fs) => fs.toList.mapM fun f => (P.info? f.type).map fun i => (f.offset, i.size)
  | _ => none
def zI (P : Program) (t : TypeId) : Option (List AV) :=
  match P.info? t with
  | some i => match i.zero with
    | some z => some (z.cells.toList.map ofConst)
    | none => none
  | none => none

def AV.isJunk : AV → Bool
  | .junk => true
  | _ => false

def PRel (h : Heap) (st : Store) : List (Nat × AV) → List (Nat × Value) → Prop
  | [], qs => qs = []
  | p :: ps, qs => ∃ q r, qs = q :: r ∧ (p.1 = q.1 ∧ VRel h st p.2 q.2) ∧ PRel h st ps r

def aFill (place : Nat → Option (Nat × Nat)) (cells : List AV) : List (Nat × AV) → Option (List AV)
  | [] => some cells
  | (i, v) :: rest =>
    match place i with
    | none => none
    | some (off, size) =>
      if v.cells.length ≠ size ∨ off + size > cells.length ∨ v.isJunk = true then none
      else aFill place (cells.take off ++ v.cells ++ cells.drop (off + size)) rest

theorem VCs.append {h : Heap} {st : Store} : ∀ {as bs : List AV} {vs us : List Value}, VCs h st as vs → VCs h st bs us → VCs h st (as ++ bs) (vs ++ us)
  | [], _, vs, us, x, y => by simp only [VCs] at x; subst x; simpa using y
  | a :: as, _, vs, us, x, y => by
    simp only [VCs] at x
    obtain ⟨c, r, rfl, x1, x2⟩ := x
    simp only [List.cons_append, VCs]
    exact ⟨c, r ++ us, rfl, x1, VCs.append x2 y⟩

theorem VRel.cells {h : Heap} {st : Store} {a : AV} {v : Value} (x : VRel h st a v) (hj : a ≠ .junk) : VCs h st a.cells v.cells.toList := by
  by_cases ha : a.isAgg = true
  · cases a <;> simp [AV.isAgg] at ha
    obtain ⟨vs, rfl, hc⟩ := x.agg_of
    simpa [AV.cells, Value.cells] using hc
  · have ha' : a.isAgg = false := by simpa using ha
    have h1 := x.single ha' hj
    have h2 : a.isAgg = vIsAgg v := by cases a <;> first | exact absurd rfl hj | exact x.1
    rw [cells_one (h2.symm.trans ha')]
    have h3 : a.cells = [a] := by cases a <;> first | rfl | (simp [AV.isAgg] at ha')
    rw [h3]
    simp only [VCs]
    exact ⟨v, [], rfl, h1, rfl⟩

theorem foldl_set (off : Nat) : ∀ (vs : List Value) (k : Nat) (cs : Array Value), off + k + vs.length ≤ cs.size →
    ((vs.zipIdx k).foldl (fun cs (x : Value × Nat) => cs.setIfInBounds (off + x.2) x.1) cs).toList = cs.toList.take (off + k) ++ vs ++ cs.toList.drop (off + k + vs.length)
  | [], k, cs, _ => by simp
  | v :: vs, k, cs, hl => by
    simp only [List.zipIdx_cons, List.foldl_cons]
    rw [foldl_set off vs (k + 1) (cs.setIfInBounds (off + k) v) (by simp at hl ⊢; omega)]
    have hlt : off + k < cs.toList.length := by simp at hl ⊢; omega
    simp only [Array.toList_setIfInBounds]
    have e1 : (cs.toList.set (off + k) v).take (off + (k + 1)) = cs.toList.take (off + k) ++ [v] := by
      rw [show off + (k + 1) = off + k + 1 by omega, List.take_succ_eq_append_getElem (by simpa using hlt)]
      simp [List.take_set_of_le]
    have e2 : (cs.toList.set (off + k) v).drop (off + (k + 1) + vs.length) = cs.toList.drop (off + k + (v :: vs).length) := by
      rw [List.drop_set_of_lt (by omega)]
      congr 1
      simp; omega
    rw [e1, e2]
    simp

theorem fill_ok {h : Heap} {st : Store} {place : Nat → Option (Nat × Nat)} : ∀ {parts : List (Nat × AV)} {vparts : List (Nat × Value)} {as r : List AV} {cs : Array Value},
    PRel h st parts vparts → VCs h st as cs.toList → aFill place as parts = some r → ∃ cs', Instr.fill place cs vparts = some cs' ∧ VCs h st r cs'.toList
  | [], vparts, as, r, cs, y, x, e => by simp only [aFill] at e; cases e; simp only [PRel] at y; subst y; exact ⟨cs, rfl, x⟩
  | (i, p) :: parts, vparts, as, r, cs, y, x, e => by
    simp only [PRel] at y
    obtain ⟨⟨j, q⟩, rest, rfl, ⟨y1, y2⟩, y3⟩ := y
    simp only at y1 y2
    subst y1
    simp only [aFill] at e
    split at e
    · cases e
    · rename_i off size hp
      split at e
      · cases e
      · rename_i hc
        have hj : p ≠ .junk := by intro hj; subst hj; simp [AV.isJunk] at hc
        have hcells := y2.cells hj
        have hl1 := hcells.length
        have hl2 := x.length
        simp only [not_or, Decidable.not_not] at hc
        obtain ⟨hc1, hc2, _⟩ := hc
        have hq : q.cells.size = size := by rw [← hc1, ← hl1]; simp
        have hfits : off + q.cells.size ≤ cs.size := by
          have : cs.size = as.length := by rw [← hl2]; simp
          omega
        have hset := foldl_set off q.cells.toList 0 cs (by simpa using hfits)
        have hx : VCs h st (as.take off ++ p.cells ++ as.drop (off + size)) ((q.cells.toList.zipIdx 0).foldl (fun cs (x : Value × Nat) => cs.setIfInBounds (off + x.2) x.1) cs).toList := by
          rw [hset]
          have := ((x.take off).append hcells).append (x.drop (off + size))
          simpa [hq] using this
        obtain ⟨cs', f1, f2⟩ := fill_ok (place := place) y3 hx e
        refine ⟨cs', ?_, f2⟩
        have hfold : q.cells.zipIdx.foldl (fun cs (x : Value × Nat) => cs.setIfInBounds (off + x.2) x.1) cs = (q.cells.toList.zipIdx 0).foldl (fun cs (x : Value × Nat) => cs.setIfInBounds (off + x.2) x.1) cs := by
          rw [← Array.foldl_toList]; simp
        simp only [Instr.fill, hp, hq, ne_eq, not_true_eq_false, decide_false, Bool.false_or]
        rw [if_neg (by simp; omega)]
        rw [← f1, ← hfold]

theorem VC.const (h : Heap) (st : Store) (c : Value) : VC h st (ofConst c) [c] := by
  have x := VRel.const h st c
  have ha : (ofConst c).isAgg = false := by unfold ofConst; split <;> first | rfl | (split <;> rfl)
  by_cases hj : ofConst c = .junk
  · rw [hj]; simp [VC]
  · exact x.single ha hj

theorem VCs.consts (h : Heap) (st : Store) : ∀ (cs : List Value), VCs h st (cs.map ofConst) cs
  | [] => by simp [VCs]
  | c :: cs => by simp only [List.map_cons, VCs]; exact ⟨c, cs, rfl, VC.const h st c, VCs.consts h st cs⟩

theorem zI_run {P : Program} {t : TypeId} {as : List AV} (e : zI P t = some as) (h : Heap) (st : Store) (w : World) : ∃ z, (zeroValue t).run P w = .ok z w ∧ VCs h st as z.cells.toList := by
  unfold zI at e
  split at e
  · rename_i i hi
    split at e
    · rename_i z hz
      cases e
      exact ⟨z, by simp [zeroValue, typeInfo, hi, hz], VCs.consts h st _⟩
    · cases e
  · cases e

theorem run_mapM_list {P : Program} {w : World} {α β : Type} (f : α → Sem β) (g : α → Option β) (hfg : ∀ x y, g x = some y → (f x).run P w = .ok y w) : ∀ (l : List α) (r : List β), l.mapM g = some r → (l.mapM f).run P w = .ok r w
  | [], r, e => by simp at e; subst e; rfl
  | x :: l, r, e => by
    rw [List.mapM_cons] at e
    cases hx : g x with
    | none => rw [hx] at e; cases e
    | some y =>
      rw [hx] at e
      cases hl : l.mapM g with
      | none => rw [hl] at e; cases e
      | some ys =>
        rw [hl] at e
        cases e
        simp only [List.mapM_cons, Sem.run_bind, hfg x y hx, Result.andThen_ok, run_mapM_list f g hfg l ys hl, Sem.run_pure]

def aParts (φ : AF) (parts : Array (Nat × Operand)) : List (Nat × AV) := parts.toList.map fun p => (p.1, φ.eval p.2)

theorem PRel.parts {h : Heap} {st : Store} {a : Act} {φ : AF} (F : FRel h st a.tmps φ) : ∀ (l : List (Nat × Operand)), PRel h st (l.map fun p => (p.1, φ.eval p.2)) (l.map fun p => (p.1, a.eval p.2))
  | [] => by simp [PRel]
  | p :: l => by simp only [List.map_cons, PRel]; exact ⟨_, _, rfl, ⟨rfl, VRel.eval F p.2⟩, PRel.parts F l⟩

def aBuild (P : Program) (φ : AF) (t : TypeId) (parts : Array (Nat × Operand)) : Option AV :=
  match bI P t, zI P t with
  | some places, some zs => (aFill (fun i => places[i]?) zs (aParts φ parts)).map .agg
  | _, _ => none

theorem build_ok {P : Program} {st : Store} {w : World} {a : Act} {φ : AF} {t : TypeId} {parts : Array (Nat × Operand)} {r : AV} {o : Oper} (ho : o.op = .build t parts) (F : FRel w.heap st a.tmps φ) (e : aBuild P φ t parts = some r) :
    Yld st w r ((execOp a.eval o).run P w) := by
  unfold aBuild at e
  split at e
  case h_2 => cases e
  rename_i places zs hb hz
  cases hf : aFill (fun i => places[i]?) zs (aParts φ parts) with
  | none => rw [hf] at e; cases e
  | some cs =>
    rw [hf] at e; cases e
    obtain ⟨z, z1, z2⟩ := zI_run hz w.heap st w
    have hps := PRel.parts F parts.toList
    obtain ⟨cs', f1, f2⟩ := fill_ok (place := fun i => places[i]?) hps z2 hf
    unfold bI at hb
    split at hb
    case h_2 => cases hb
    rename_i fs hu
    have hm : (fs.mapM fun f => (do pure (f.offset, ← sizeOf f.type) : Sem (Nat × Nat))).run P w = .ok places.toArray w := by
      rw [Array.mapM_eq_mapM_toList]
      have := run_mapM_list (P := P) (w := w) (fun f : Field => (do pure (f.offset, ← sizeOf f.type) : Sem (Nat × Nat))) (fun f => (P.info? f.type).map fun i => (f.offset, i.size))
        (fun x y hy => by
          cases hi : P.info? x.type with
          | none => rw [hi] at hy; cases hy
          | some i => rw [hi] at hy; cases hy; simp [sizeOf, typeInfo, hi]) fs.toList places hb
      simp only [Sem.run_map, this, Result.andThen_ok]
    have hparts : ((parts.map fun (i, x) => (i, a.eval x)).toList : List (Nat × Value)) = parts.toList.map fun p => (p.1, a.eval p.2) := by simp
    refine .same (v := .agg cs') ?_ ⟨rfl, by simpa [Value.cells, VC] using f2⟩
    simp only [execOp, ho, Instr.build, Sem.run_bind, z1, Result.andThen_ok, run_underlying' hu, hm, hparts]
    have : (fun i : Nat => places.toArray[i]?) = fun i : Nat => places[i]? := by funext i; simp
    rw [this, f1]
    rfl

theorem aFill_row {n : Nat} : ∀ (ps : List AV) (k : Nat) (pre : List AV), pre.length = k * n → (∀ p ∈ ps, p.width = n ∧ p.isJunk = false) →
    aFill (fun i => some (i * n, n)) (pre ++ List.replicate (ps.length * n) .junk) ((List.range' k ps.length).zip ps) = some (pre ++ ps.flatMap AV.cells)
  | [], k, pre, _, _ => by simp [aFill]
  | p :: ps, k, pre, hp, h => by
    have hw := (h p (by simp)).1
    have hj := (h p (by simp)).2
    have hc : p.cells.length = n := by rw [← hw]; cases p <;> rfl
    simp only [List.length_cons, List.range'_succ, List.zip_cons_cons, aFill, hc, hj]
    have hl : (pre ++ List.replicate ((ps.length + 1) * n) AV.junk).length = k * n + (ps.length + 1) * n := by simp [hp]
    have hs : (ps.length + 1) * n = ps.length * n + n := Nat.succ_mul _ _
    rw [if_neg (by rw [hl]; simp; omega)]
    have e1 : (pre ++ List.replicate ((ps.length + 1) * n) AV.junk).take (k * n) = pre := by rw [← hp]; simp
    have e2 : (pre ++ List.replicate ((ps.length + 1) * n) AV.junk).drop (k * n + n) = List.replicate (ps.length * n) AV.junk := by
      rw [List.drop_append, hp, List.drop_eq_nil_of_le (by rw [hp]; omega)]
      simp; rw [hs]; omega
    rw [e1, e2]
    have := aFill_row (n := n) ps (k + 1) (pre ++ p.cells) (by simp [hp, hc, Nat.succ_mul]) (fun q hq => h q (by simp [hq]))
    rw [this]
    simp

theorem VEs_of_flat {h : Heap} {st : Store} {b : Nat} : ∀ {es : List AV} {off : Nat} {vs : List Value}, (∀ e ∈ es, e.isJunk = false) → cellsAt h b off vs → VCs h st (es.flatMap AV.cells) vs → VEs h st b off es
  | [], _, _, _, _, _ => by simp [VEs]
  | e :: es, off, vs, hj, x, y => by
    have hl := y.length
    have hc : e.cells.length = e.width := by cases e <;> rfl
    have y1 := y.take e.width
    have y2 := y.drop e.width
    rw [List.flatMap_cons, List.take_append_of_le_length (by omega), List.take_of_length_le (by omega)] at y1
    rw [List.flatMap_cons, List.drop_append_of_le_length (by omega), List.drop_eq_nil_of_le (by omega), List.nil_append] at y2
    simp only [VEs]
    refine ⟨⟨vs.take e.width, x.take e.width, ?_, ?_⟩, VEs_of_flat (fun q hq => hj q (by simp [hq])) (x.drop e.width) y2⟩
    · rw [y1.length, hc]
    · cases e
      case agg cs => simpa [VC, AV.cells] using y1
      case junk => have := hj .junk (by simp); simp [AV.isJunk] at this
      all_goals
        simp only [AV.cells, VCs] at y1
        obtain ⟨c, r, e1, e2, e3⟩ := y1
        rw [e1, e3]
        exact e2

theorem VCs.junk (h : Heap) (st : Store) : ∀ (vs : List Value), VCs h st (List.replicate vs.length .junk) vs
  | [] => by simp [VCs]
  | v :: vs => by simp only [List.length_cons, List.replicate_succ, VCs]; exact ⟨v, vs, rfl, by simp [VC], VCs.junk h st vs⟩

theorem cellsAt_push (h : Heap) (c : Array Value) (t : TypeId) (fr : Nat × Nat) : ∀ (vs : List Value) (off : Nat), c.toList.drop off = vs → cellsAt (h.push (.cells c t fr)) h.size off vs
  | [], _, _ => trivial
  | v :: vs, off, e => by
    refine ⟨?_, cellsAt_push h c t fr vs (off + 1) ?_⟩
    · have : c.toList[off]? = some v := by
        have := congrArg (fun l => l[0]?) e
        simpa using this
      simp only [cellAt, Array.getElem?_push, if_true]
      simpa using this
    · rw [show off + 1 = off + 1 from rfl, ← List.drop_drop, e]
      rfl

def seqParts (ps : List (Nat × AV)) : Bool := ps.map (·.1) == List.range' 0 ps.length
def fitAll (ps : List AV) (ag : Bool) (sz : Nat) : Bool := ps.all fun p => p.width == sz && p.isAgg == ag && !p.isJunk

def eZ (P : Program) (t : TypeId) : Option (List AV) :=
  match P.underlying t with
  | some (.slice e) => zI P e
  | _ => none

theorem zip_fst_snd {α β : Type} : ∀ (l : List (α × β)), (l.map (·.1)).zip (l.map (·.2)) = l
  | [] => rfl
  | x :: l => by simp [zip_fst_snd l]

def aBuildSlice (P : Program) (φ : AF) (t : TypeId) (len : Nat) (parts : Array (Nat × Operand)) : Option AV :=
  match eI P t with
  | some (ag, sz) =>
    if seqParts (aParts φ parts) = true ∧ fitAll ((aParts φ parts).map (·.2)) ag sz = true ∧ len = parts.size ∧ len * sz ≤ 16777216 ∧ len ≤ 16777216 ∧ (eZ P t).isSome = true then some (.fslice ((aParts φ parts).map (·.2))) else none
  | none => none

theorem buildSlice_ok {P : Program} {st : Store} {w : World} {a : Act} {φ : AF} {t : TypeId} {len : Nat} {parts : Array (Nat × Operand)} {r : AV} {o : Oper} (ho : o.op = .buildSlice t len parts) (F : FRel w.heap st a.tmps φ) (S : SRel w.heap st)
    (e : aBuildSlice P φ t len parts = some r) : Yld st w r ((execOp a.eval o).run P w) := by
  unfold aBuildSlice at e
  split at e
  case h_2 => cases e
  rename_i ag sz hI
  split at e
  case isFalse => cases e
  rename_i hc
  cases e
  obtain ⟨hs, hf, hlen, hbig, hbig2, hZ⟩ := hc
  obtain ⟨e', hu, hT⟩ := eI_run hI
  obtain ⟨_, r2, _⟩ := tI_run hT w
  obtain ⟨z, hz1⟩ : ∃ z, (zeroValue e').run P w = .ok z w := by
    obtain ⟨zs, hzs⟩ := Option.isSome_iff_exists.1 hZ
    simp only [eZ, hu] at hzs
    obtain ⟨z, h1, _⟩ := zI_run hzs w.heap st w
    exact ⟨z, h1⟩
  generalize hps : aParts φ parts = ps at *
  have hlen' : ps.length = len := by rw [← hps, hlen]; simp [aParts]
  have hpar := PRel.parts F parts.toList
  rw [show (parts.toList.map fun p => (p.1, φ.eval p.2)) = ps from hps] at hpar
  have hparts : ((parts.map fun (i, x) => (i, a.eval x)).toList : List (Nat × Value)) = parts.toList.map fun p => (p.1, a.eval p.2) := by simp
  have hall : ∀ p ∈ ps.map (·.2), p.width = sz ∧ p.isJunk = false ∧ p.isAgg = ag := by
    intro p hp
    have := List.all_eq_true.1 hf p hp
    simp at this
    exact ⟨this.1.1, this.2, this.1.2⟩
  have hzip : (List.range' 0 (ps.map (·.2)).length).zip (ps.map (·.2)) = ps := by
    have : ps.map (·.1) = List.range' 0 ps.length := by simpa [seqParts] using hs
    rw [List.length_map, ← this]
    exact zip_fst_snd ps
  -- whatever the row holds at first
  have step : ∀ (cs : Array Value), cs.size = len * sz → ∃ cs', Instr.fill (fun i => some (i * sz, sz)) cs (parts.toList.map fun p => (p.1, a.eval p.2)) = some cs' ∧ VCs w.heap st ((ps.map (·.2)).flatMap AV.cells) cs'.toList := by
    intro cs hcs
    have h0 : VCs w.heap st (List.replicate ((ps.map (·.2)).length * sz) .junk) cs.toList := by
      have := VCs.junk w.heap st cs.toList
      rwa [show cs.toList.length = (ps.map (·.2)).length * sz by simp [hcs, hlen']] at this
    have h1 := aFill_row (n := sz) (ps.map (·.2)) 0 [] (by simp) (fun p hp => ⟨(hall p hp).1, (hall p hp).2.1⟩)
    rw [List.nil_append, List.nil_append, hzip] at h1
    exact fill_ok (place := fun i => some (i * sz, sz)) hpar h0 h1
  have fin : ∀ cs' : Array Value, VCs w.heap st ((ps.map (·.2)).flatMap AV.cells) cs'.toList →
      VRel (w.heap.push (.cells cs' e')) st (.fslice (ps.map (·.2))) (.slice (some ⟨w.heap.size, 0, none⟩) len len) := by
    intro cs' hv
    have S' := (Ext.push w.heap (.cells cs' e')).step st
    refine ⟨rfl, .inr ⟨w.heap.size, 0, by simp [Value.cells, hlen'], by simp only [List.length_map, hlen']; unfold maxLen; omega, ?_, by simp, ⟨sz, fun p hp => (hall p hp).1⟩, ?_⟩⟩
    · cases hst : st w.heap.size with
      | none => rfl
      | some o => exact absurd (S _ _ hst).1 (Nat.lt_irrefl _)
    · exact VEs_of_flat (fun p hp => (hall p hp).2.1) (cellsAt_push w.heap cs' e' (0, 0) cs'.toList 0 rfl) (VCs.mono S' _ _ hv)
  by_cases h0 : len * sz = 0
  · obtain ⟨cs', f1, f2⟩ := step ((Array.range (len * sz)).map fun x => (#[] : Array Value)[x % (#[] : Array Value).size]!) (by simp)
    refine ⟨.slice (some ⟨w.heap.size, 0, none⟩) len len, w.alloc (.cells cs' e'), ?_, fin cs' f2, Ext.push _ _, ⟨rfl, rfl, rfl⟩⟩
    simp only [execOp, ho, Instr.buildSlice, Sem.run_bind, run_underlying' hu, Result.andThen_ok, r2]
    rw [if_neg (by omega), if_pos h0]
    simp only [Sem.run_bind, Sem.run_pure, Result.andThen_ok, hparts]
    rw [f1]
    simp [newRow]
  · obtain ⟨cs', f1, f2⟩ := step ((Array.range (len * sz)).map fun x => z.cells[x % z.cells.size]!) (by simp)
    refine ⟨.slice (some ⟨w.heap.size, 0, none⟩) len len, w.alloc (.cells cs' e'), ?_, fin cs' f2, Ext.push _ _, ⟨rfl, rfl, rfl⟩⟩
    simp only [execOp, ho, Instr.buildSlice, Sem.run_bind, run_underlying' hu, Result.andThen_ok, r2]
    rw [if_neg (by omega), if_neg h0]
    simp only [Sem.run_bind, hz1, Result.andThen_ok, Sem.run_pure, hparts]
    rw [f1]
    simp [newRow]

end Go.AW
