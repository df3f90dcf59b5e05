/- Maps and make: what they come to with the owned store. -/
import Derived.Test.YtcookjmgjbhkiaaAw8
namespace Go.AW

section
variable {P : Program} {st : Store} {w : World}

theorem alloc_took {o : Obj} {p : AO} {r : AV} {v : Value} {K : AV → Store → Prop} (S : SRel w.heap st) (hr : VRel (w.heap.push o) (st.upd w.heap.size p) r v) (ho : ORel (w.heap.push o) (st.upd w.heap.size p) w.heap.size p)
    (hK : K r (st.upd w.heap.size p)) : Took st w K v (w.alloc o) :=
  ⟨r, _, hr, S.of_alloc ho, StepH.of_alloc _ _ _ _, ⟨rfl, rfl, rfl⟩, hK⟩

/-- A new variable that is owned: its cells. -/
theorem newVar_took {t : TypeId} {as : List AV} {v : Value} {K : AV → Store → Prop} (S : SRel w.heap st) (hv : VCs w.heap st as v.cells.toList) (hK : ∀ b, st b = none → K (.ptr b 0) (st.upd b (.cells as))) :
    Took st w K (.pointer (some ⟨w.heap.size, 0, none⟩)) (w.alloc (.cells v.cells t)) := by
  refine alloc_took S (p := .cells as) (r := .ptr w.heap.size 0) ⟨rfl, rfl⟩ ?_ (hK _ S.fresh)
  have hl := hv.length
  refine ⟨v.cells, t, by simp, by rw [← hl]; simp, v.cells.toList, cellsAt_push w.heap _ t (0, 0) _ 0 rfl, VCs.mono (StepH.of_alloc w.heap st _ _) _ _ hv⟩

theorem makeMap_took {t : TypeId} {a : Act} {o : Oper} {K : AV → Store → Prop} (ho : o.op = .makeMap t none) (S : SRel w.heap st) (hK : ∀ b, st b = none → K (.map b) (st.upd b (.map fun _ => none))) :
    ∃ v w', (execOp a.eval o).run P w = .ok (.value v) w' ∧ Took st w K v w' := by
  refine ⟨.map (some w.heap.size), w.alloc (.map #[] 0), by simp [execOp, ho, Instr.makeMap], alloc_took S (p := .map fun _ => none) (r := .map w.heap.size) ⟨rfl, rfl⟩ ?_ (hK _ S.fresh)⟩
  exact ⟨#[], 0, by simp, by simp, by simp, by simp⟩

/-- 'make([]T, n)' -/
def madeAV (zs : List AV) (n : Nat) : List AV := (List.range (n * zs.length)).map fun i => zs.getD (i % zs.length) .junk

theorem VCs.of_get {h : Heap} {st : Store} : ∀ {as : List AV} {vs : List Value}, as.length = vs.length → (∀ (i : Nat) a v, as[i]? = some a → vs[i]? = some v → VC h st a [v]) → VCs h st as vs
  | [], [], _, _ => by simp [VCs]
  | a :: as, v :: vs, hl, h => by
    simp only [VCs]
    exact ⟨v, vs, rfl, h 0 a v rfl rfl, VCs.of_get (by simpa using hl) fun i a' v' e1 e2 => h (i + 1) a' v' (by simpa using e1) (by simpa using e2)⟩
  | [], _ :: _, hl, _ => by simp at hl
  | _ :: _, [], hl, _ => by simp at hl

theorem VCs.made {h : Heap} {st : Store} {zs : List AV} {z : Array Value} (x : VCs h st zs z.toList) (n : Nat) : VCs h st (madeAV zs n) (((Array.range (n * z.size)).map (fun i => z[i % z.size]!)).toList) := by
  have hl := x.length
  have hl' : z.size = zs.length := by simpa using hl
  refine VCs.of_get (by simp [madeAV, hl']) fun i a v e1 e2 => ?_
  obtain ⟨hi, e1'⟩ := List.getElem?_eq_some_iff.1 e1
  obtain ⟨hi2, e2'⟩ := List.getElem?_eq_some_iff.1 e2
  simp [madeAV] at hi e1' e2'
  have hpos : 0 < zs.length := by rcases Nat.eq_zero_or_pos zs.length with h0 | h0; (rw [h0] at hi; simp at hi); exact h0
  have hmod : i % zs.length < zs.length := Nat.mod_lt _ hpos
  rw [hl'] at e2'
  obtain ⟨v', hv', hvc⟩ := x.get (i % zs.length) (a := zs[i % zs.length]) (by simp [hmod])
  have ea : a = zs[i % zs.length] := by rw [← e1']; simp [hmod]
  have hz : i % zs.length < z.size := by omega
  have ev : v = v' := by
    rw [← e2', getElem!_pos z _ hz]
    simp [hz] at hv'
    exact hv'
  rw [ea, ev]; exact hvc

def aMakeSlice (P : Program) (t : TypeId) (st : Store) (n c : AV) (K : AV → Store → Prop) : Prop :=
  match n, c, eI P t, eB P t, eZ P t with
  | .int .i64 n, .int .i64 m, some (_, sz), some bytes, some zs => n = m ∧ 0 ≤ n ∧ n ≤ 9223372036854775807 ∧ n * bytes ≤ 281474976710656 ∧ zs.length = sz ∧ sz ≠ 0 ∧
    ∀ b, st b = none → K (.mslice b 0 n.toNat sz) (st.upd b (.cells (madeAV zs n.toNat)))
  | _, _, _, _, _ => False

theorem makeSlice_took {t : TypeId} {a : Act} {φ : AF} {o : Oper} {x y : Operand} {K : AV → Store → Prop} (ho : o.op = .makeSlice t x y) (F : FRel w.heap st a.tmps φ) (S : SRel w.heap st) (e : aMakeSlice P t st (φ.eval x) (φ.eval y) K) :
    ∃ v w', (execOp a.eval o).run P w = .ok (.value v) w' ∧ Took st w K v w' := by
  have hx := VRel.eval F x
  have hy := VRel.eval F y
  unfold aMakeSlice at e
  split at e
  case h_2 => cases e
  rename_i n m ag sz bytes zs ex ey hI hB hZ
  obtain ⟨rfl, h0, hmx, hby, hzl, hsz, hK⟩ := e
  rw [ex] at hx
  rw [ey] at hy
  obtain ⟨el, hu, hT⟩ := eI_run hI
  obtain ⟨_, r2, d, i, _, hi, hisz, _⟩ := tI_run hT w
  have hbi : i.bytes = bytes := by simp only [eB, hu, hi, Option.map_some, Option.some.injEq] at hB; exact hB
  have hzs : zI P el = some zs := by simpa [eZ, hu] using hZ
  obtain ⟨z, z1, z2⟩ := zI_run hzs w.heap st w
  have hzc : z.cells.size = sz := by have := z2.length; simp at this; omega
  have hwrap : IntKind.i64.wrap n = n := IntWalk.i64_in n (by omega)
  have hnot : (decide (n < 0) || decide ((bytes : Int) * n > 2 ^ 48)) = false := by
    have h1 : ¬ n < 0 := by omega
    have h2 : ¬ ((bytes : Int) * n > 2 ^ 48) := by rw [Int.mul_comm]; omega
    simp only [h1, h2, decide_false, Bool.or_self]
  obtain ⟨k, rfl⟩ := Int.eq_ofNat_of_zero_le h0
  have hc' := VCs.made z2 k
  generalize hcc : (Array.range (k * z.cells.size)).map (fun i => z.cells[i % z.cells.size]!) = c at hc'
  have hcs : c.size = k * sz := by rw [← hcc]; simp [hzc]
  have run : (execOp a.eval o).run P w = .ok (.value (.slice (some ⟨w.heap.size, 0, none⟩) k k)) (w.alloc (.cells c el)) := by
    simp only [execOp, ho, Instr.makeSlice, Sem.run_bind, run_underlying' hu, Result.andThen_ok, hx.int_of, hy.int_of, asInt, asIntOf, Sem.run_pure, typeInfo, run_program, hi, hwrap, hbi, hnot, Bool.false_or]
    have h1 : (decide ((k : Int) < 0) || decide ((k : Int) > (k : Int))) = false := by simp
    rw [if_neg (by rw [h1]; simp)]
    simp only [Sem.run_bind, run_askRoom, Result.andThen_ok, Int.toNat_natCast, r2]
    by_cases hk : k * sz = 0
    · have hk0 : k = 0 := by rcases Nat.mul_eq_zero.1 hk with h | h; exact h; exact absurd h hsz
      subst hk0
      rw [if_pos hk]
      have : c = #[] := by apply Array.eq_empty_of_size_eq_zero; omega
      subst this
      simp [newRow, Array.range]
      congr 2
      exact Array.eq_empty_of_size_eq_zero (by simp)
    · rw [if_neg hk]
      simp only [Sem.run_bind, z1, Result.andThen_ok, Sem.run_pure]
      rw [show (Array.range (k * sz)).map (fun i => z.cells[i % z.cells.size]!) = c by rw [← hcc, hzc]]
      simp [newRow]
  refine ⟨_, _, run, alloc_took S (p := .cells (madeAV zs k)) (r := .mslice w.heap.size 0 k sz) ⟨rfl, k, rfl, Nat.le_refl _, by unfold maxLen; omega, c, el, by simp, by rw [hcs]; omega⟩
    ⟨c, el, by simp, by simp [madeAV, hcs, hzl], c.toList, cellsAt_push w.heap _ el (0, 0) _ 0 rfl, VCs.mono (StepH.of_alloc w.heap st _ _) _ _ hc'⟩ (by simpa using hK _ S.fresh)⟩

/-! ### Writing into a map -/
def mapSet (f : Int → Option AV) (n : Int) (x : Option AV) : Int → Option AV := fun m => if m = n then x else f m

def aMapUpdate (P : Program) (t : TypeId) (st : Store) (m k v : AV) (K : AV → Store → Prop) : Prop :=
  match m, k, P.underlying t with
  | .map b, .int .i64 n, some (.map kt _) => match st b, P.underlying kt with
    | some (.map f), some (.int .i64) => v.isJunk = false ∧ K .undef (st.upd b (.map (mapSet f n (some v))))
    | _, _ => False
  | _, _, _ => False

theorem setObj_run {b : Nat} {es es' : Array MapEntry} {cl cl' : Nat} (h : w.heap[b]? = some (.map es cl)) : (setObj b (.map es' cl')).run P w = .ok () { w with heap := w.heap.setIfInBounds b (.map es' cl') } := by
  simp only [setObj, Sem.run, h]

theorem map_write {b : Nat} {es es' : Array MapEntry} {cl cl' : Nat} {f : Int → Option AV} {o : AO} {K : AV → Store → Prop} (S : SRel w.heap st) (hb : w.heap[b]? = some (.map es cl)) (hs : st b = some (.map f))
    (ho : ∀ h' st', StepH w.heap st h' st' → h'[b]? = some (.map es' cl') → ORel h' st' b o) (hK : K .undef (st.upd b o)) : Took st w K undef { w with heap := w.heap.setIfInBounds b (.map es' cl') } := by
  have hlt : b < w.heap.size := (S b _ hs).1
  have hblk : (w.heap.setIfInBounds b (.map es' cl'))[b]? = some (.map es' cl') := by simp [hlt]
  have hoth : ∀ y, y < w.heap.size → y ≠ b → (w.heap.setIfInBounds b (.map es' cl'))[y]? = w.heap[y]? := fun y _ hne => Array.getElem?_setIfInBounds_ne (Ne.symm hne)
  have T : StepH w.heap st (w.heap.setIfInBounds b (.map es' cl')) (st.upd b o) := StepH.of_write (by rw [hs]; simp) (by simp) hoth fun c t fr e => by rw [hb] at e; cases e
  exact ⟨.undef, st.upd b o, ⟨rfl, rfl⟩, S.of_write T (by simpa using hlt) hoth (ho _ _ T hblk), T, ⟨rfl, rfl, rfl⟩, hK⟩

theorem mapUpdate_took {t : TypeId} {a : Act} {φ : AF} {o : Oper} {m k x : Operand} {K : AV → Store → Prop} (ho : o.op = .mapUpdate t m k x) (F : FRel w.heap st a.tmps φ) (S : SRel w.heap st) (e : aMapUpdate P t st (φ.eval m) (φ.eval k) (φ.eval x) K) :
    ∃ w', (execOp a.eval o).run P w = .ok .skip w' ∧ Took st w K undef w' := by
  have hm := VRel.eval F m
  have hk := VRel.eval F k
  have hx := VRel.eval F x
  unfold aMapUpdate at e
  split at e
  case h_2 => cases e
  rename_i b n kt el em ek hu
  split at e
  case h_2 => cases e
  rename_i f hs hkt
  obtain ⟨hj, hK⟩ := e
  rw [em] at hm
  rw [ek] at hk
  obtain ⟨_, es, cl, hb, hk1, hk2, hk3⟩ := S b _ hs
  rcases findNow_int n es.toList 0 hk1 with ⟨j, e', h1, h2, h3⟩ | ⟨h1, h3⟩
  · -- there is such an entry
    have hjlt : j < es.size := by have := (List.getElem?_eq_some_iff.1 h1).1; simpa using this
    have hej : es[j]? = some e' := by simpa using h1
    have run : (execOp a.eval o).run P w = .ok .skip { w with heap := w.heap.setIfInBounds b (.map (es.modify j fun e => { e with key := .int .i64 n, val := a.eval x }) cl) } := by
      simp only [execOp, ho, Instr.mapUpdate, Sem.run_bind, run_underlying' hu, Result.andThen_ok, hm.map_of, hk.int_of, getObj_run hb, checkKey_int hkt, Instr.findKey, run_underlying' hkt, h3, Sem.run_pure, Nat.zero_add, hej, Option.map_some, Option.getD_some, h2]
      have hsb : Instr.sameBits 10000 (.int .i64 n) (.int .i64 n) = true := by simp [Instr.sameBits]
      simp only [Instr.keyThatStays, hsb, if_true, Sem.run_pure, Result.andThen_ok, setObj_run hb]
    refine ⟨_, run, map_write (o := .map (mapSet f n (some (φ.eval x)))) S hb hs (fun h' st' T hb' => ⟨_, cl, hb', ?_, ?_, fun q => ?_⟩) hK⟩
    · intro e he
      rw [Array.mem_toList_iff, Array.mem_iff_getElem?] at he
      obtain ⟨i, hi⟩ := he
      rw [Array.getElem?_modify] at hi
      split at hi
      · cases hee : es[i]? with
        | none => rw [hee] at hi; cases hi
        | some e0 => rw [hee] at hi; cases hi; exact ⟨n, rfl⟩
      · exact hk1 e (Array.mem_toList_iff.2 (Array.mem_of_getElem? hi))
    · have : (es.modify j fun e => { e with key := Value.int .i64 n, val := a.eval x }).toList.map (·.key) = es.toList.map (·.key) := by
        apply List.ext_getElem?
        intro i
        simp only [List.getElem?_map, Array.getElem?_toList, Array.getElem?_modify]
        split
        · rename_i hij; subst hij; simp [hej, h2]
        · rfl
      rw [this]; exact hk2
    · have hq := hk3 q
      unfold mapSet
      by_cases hqn : q = n
      · subst hqn
        simp only [if_true]
        refine ⟨{ e' with key := .int .i64 q, val := a.eval x }, ?_, rfl, hx.mono T⟩
        rw [Array.mem_toList_iff, Array.mem_iff_getElem?]
        exact ⟨j, by rw [Array.getElem?_modify, if_pos rfl, hej]; rfl⟩
      · simp only [hqn, if_false]
        split
        · rename_i v hf
          rw [hf] at hq
          obtain ⟨e0, he0, hk0, hv0⟩ := hq
          refine ⟨e0, ?_, hk0, hv0.mono T⟩
          rw [Array.mem_toList_iff, Array.mem_iff_getElem?] at he0 ⊢
          obtain ⟨i, hi⟩ := he0
          refine ⟨i, ?_⟩
          rw [Array.getElem?_modify, if_neg, hi]
          rintro rfl
          rw [hej] at hi; cases hi
          rw [h2] at hk0; cases hk0; exact hqn rfl
        · rename_i hf
          rw [hf] at hq
          intro e he
          rw [Array.mem_toList_iff, Array.mem_iff_getElem?] at he
          obtain ⟨i, hi⟩ := he
          rw [Array.getElem?_modify] at hi
          split at hi
          · cases hee : es[i]? with
            | none => rw [hee] at hi; cases hi
            | some e0 => rw [hee] at hi; cases hi; simpa using fun q' => hqn q'.symm
          · exact hq e (Array.mem_toList_iff.2 (Array.mem_of_getElem? hi))
  · -- a new entry
    have run : (execOp a.eval o).run P w = .ok .skip { w with heap := w.heap.setIfInBounds b (.map (es.push { key := .int .i64 n, val := a.eval x, born := cl }) (cl + 1)) } := by
      simp only [execOp, ho, Instr.mapUpdate, Sem.run_bind, run_underlying' hu, Result.andThen_ok, hm.map_of, hk.int_of, getObj_run hb, checkKey_int hkt, Instr.findKey, run_underlying' hkt, h3, Sem.run_pure, setObj_run hb]
    refine ⟨_, run, map_write (o := .map (mapSet f n (some (φ.eval x)))) S hb hs (fun h' st' T hb' => ⟨_, cl + 1, hb', ?_, ?_, fun q => ?_⟩) hK⟩
    · intro e he
      simp at he
      rcases he with he | rfl
      · exact hk1 e (Array.mem_toList_iff.2 he)
      · exact ⟨n, rfl⟩
    · simp only [Array.toList_push, List.map_append, List.map_cons, List.map_nil]
      rw [List.nodup_append]
      refine ⟨hk2, by simp, ?_⟩
      intro p hp r hr
      simp at hr
      subst hr
      obtain ⟨e, he, rfl⟩ := List.mem_map.1 hp
      exact h1 e he
    · have hq := hk3 q
      unfold mapSet
      by_cases hqn : q = n
      · subst hqn
        simp only [if_true]
        exact ⟨_, by simp; exact .inr rfl, rfl, hx.mono T⟩
      · simp only [hqn, if_false]
        split
        · rename_i v hf
          rw [hf] at hq
          obtain ⟨e0, he0, hk0, hv0⟩ := hq
          exact ⟨e0, by simp; exact .inl (Array.mem_toList_iff.1 he0), hk0, hv0.mono T⟩
        · rename_i hf
          rw [hf] at hq
          intro e he
          simp at he
          rcases he with he | rfl
          · exact hq e (Array.mem_toList_iff.2 he)
          · simpa using fun q' => hqn q'.symm
end
end Go.AW
