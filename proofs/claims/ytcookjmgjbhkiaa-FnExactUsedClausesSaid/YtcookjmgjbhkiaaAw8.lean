/- append: what it comes to with the owned store. -/
import Derived.Test.YtcookjmgjbhkiaaAw7
namespace Go.AW

theorem cellsAt.append {h : Heap} {b : Nat} : ∀ {vs us : List Value} {off : Nat}, cellsAt h b off vs → cellsAt h b (off + vs.length) us → cellsAt h b off (vs ++ us)
  | [], us, off, _, y => by simpa using y
  | v :: vs, us, off, x, y => ⟨x.1, cellsAt.append x.2 (by rw [show off + 1 + vs.length = off + (v :: vs).length by simp; omega]; exact y)⟩

theorem VC.cellsOf {h : Heap} {st : Store} {a : AV} {vs : List Value} (x : VC h st a vs) : VCs h st a.cells vs := by
  by_cases ha : a.isAgg = true
  · cases a <;> simp [AV.isAgg] at ha
    simpa [AV.cells, VC] using x
  · have ha' : a.isAgg = false := by simpa using ha
    obtain ⟨c, rfl⟩ := x.one ha'
    have h3 : a.cells = [a] := by cases a <;> first | rfl | (simp [AV.isAgg] at ha')
    rw [h3]
    simp only [VCs]
    exact ⟨c, [], rfl, x, rfl⟩

/-- The elements of a slice, cell by cell. -/
theorem VEs.flat {h : Heap} {st : Store} {b : Nat} : ∀ {es : List AV} {off : Nat}, VEs h st b off es → ∃ vs, cellsAt h b off vs ∧ VCs h st (es.flatMap AV.cells) vs
  | [], off, _ => ⟨[], trivial, by simp [VCs]⟩
  | e :: es, off, x => by
    simp only [VEs] at x
    obtain ⟨⟨cs, c1, c2, c3⟩, x2⟩ := x
    obtain ⟨vs, v1, v2⟩ := VEs.flat x2
    exact ⟨cs ++ vs, c1.append (by rw [c2]; exact v1), by simpa using c3.cellsOf.append v2⟩

theorem cells_width (a : AV) : a.cells.length = a.width := by cases a <;> rfl

theorem flat_length {n : Nat} : ∀ {es : List AV}, (∀ e ∈ es, e.width = n) → (es.flatMap AV.cells).length = es.length * n
  | [], _ => by simp
  | e :: es, h => by
    have := flat_length (es := es) (n := n) (fun x hx => h x (by simp [hx]))
    simp [cells_width, h e (by simp), this, Nat.succ_mul]
    omega

/-- The elements of the second operand. -/
def aElems : AV → Option (List AV)
  | .slice es | .fslice es => some es
  | _ => none

/-- Bytes of an element. -/
def eB (P : Program) (t : TypeId) : Option Nat :=
  match P.underlying t with
  | some (.slice e) => (P.info? e).map (·.bytes)
  | _ => none

def appFit (sz : Nat) (xs : List AV) : Prop := ∀ e ∈ xs, e.width = sz ∧ e.cells.all AV.storable = true

def aAppend (P : Program) (t : TypeId) (st : Store) (s x : AV) (K : AV → Store → Prop) : Prop :=
  match eI P t, eB P t, eZ P t, aElems x with
  | some (_, sz), some bytes, some zs, some xs => zs.length = sz ∧ appFit sz xs ∧
    match s with
    | .fslice es => (es.length + xs.length) * bytes ≤ 140737488355328 ∧ es.length + xs.length ≤ 9223372036854775807 ∧ (∀ e ∈ es, e.width = sz) ∧
      (xs = [] → K (.fslice es) st) ∧ (xs ≠ [] → ∀ b, st b = none → K (.mslice b 0 (es.length + xs.length) sz) (st.upd b (.cells ((es ++ xs).flatMap AV.cells))))
    | .mslice b 0 len n => n = sz ∧ (len + xs.length) * bytes ≤ 140737488355328 ∧ len + xs.length ≤ 9223372036854775807 ∧
      (match st b with
        | some (.cells cs) => len * sz ≤ cs.length ∧ K (.mslice b 0 (len + xs.length) sz) (st.upd b (.cells (cs.take (len * sz) ++ xs.flatMap AV.cells))) ∧
          ∀ b', st b' = none → K (.mslice b' 0 (len + xs.length) sz) ((st.erase b).upd b' (.cells (cs.take (len * sz) ++ xs.flatMap AV.cells)))
        | _ => False)
    | _ => False
  | _, _, _, _ => False

theorem run_append_room' {P : Program} (w : World) (t ty e t' : TypeId) (i : TypeInfo) (ht : P.underlying t = some (.slice e)) (hi : P.info? e = some i)
    (g sLen sCap : Nat) (cur : Array Value) (hg : w.heap[g]? = some (.cells cur t' (0, 0)))
    (a : Addr) (m c : Nat) (news : List Value) (hl : news.length = m * i.size) (hnews : ∀ j u, news[j]? = some u → w.cell? (a.add j) = some u) (h1 : ∀ u ∈ news, u.oneCell' = true)
    (hroom : sLen + m ≤ sCap) (hfit : sLen * i.size + news.length ≤ cur.size) :
    (Builtin.append_ #[t, t] ty #[.slice (some ⟨g, 0, none⟩) sLen sCap, .slice (some a) m c]).run P w =
      .ok (.slice (some ⟨g, 0, none⟩) (sLen + m) sCap) (w.setRow g (cur.toList.take (sLen * i.size) ++ news ++ cur.toList.drop (sLen * i.size + news.length)).toArray) := by
  have hf := run_firstCells_some (P := P) w i.size m a m c news hl hnews
  have hst := run_storeCells_at P g (sLen * i.size) t' news 0 cur w hg (by simpa using hfit) h1
  simp only [Nat.add_zero] at hst
  simp [Builtin.append_, run_underlying ht, sizeOf, typeInfo, hi, Builtin.lenOf, hroom, hf, Addr.add_lit, hst]

/-- Nothing is appended. -/
theorem run_append_zero {P : Program} (w : World) (t ty e : TypeId) (i : TypeInfo) (ht : P.underlying t = some (.slice e)) (hi : P.info? e = some i) (base xb : Option Addr) (n cap xc : Nat) (h : n ≤ cap) :
    (Builtin.append_ #[t, t] ty #[.slice base n cap, .slice xb 0 xc]).run P w = .ok (.slice base n cap) w := by
  cases base <;> cases xb <;> simp [Builtin.append_, run_underlying ht, sizeOf, typeInfo, hi, Builtin.lenOf, h, Builtin.firstCells, loadCells, loadCellsFrom, storeCells]

section
variable {P : Program} {st : Store} {w : World}

theorem app_run {o : Oper} {a : Act} {t : TypeId} {s x : Operand} {w w' : World} {v : Value} (ho : o.op = .call { callee := .builtin .append, args := #[s, x], argTypes := #[t, t] })
    (h : (Builtin.append_ #[t, t] o.type #[a.eval s, a.eval x]).run P w = .ok v w') : (execOp a.eval o).run P w = .ok (.value v) w' := by
  simp only [execOp, ho, resolve, Sem.run_bind, Sem.run_pure, Result.andThen_ok, invoke, builtin]
  simp [h]

/-- A new block for what was there and what is appended. -/
theorem app_new {sz need cap : Nat} {e : TypeId} {z : Value} {zs : List AV} {as : List AV} {vs : List Value} (S : SRel w.heap st) (hz : VCs w.heap st zs z.cells.toList) (hzl : zs.length = sz)
    (hv : VCs w.heap st as vs) (hl : as.length = need * sz) (hcap : need ≤ cap) (hm : cap ≤ maxLen) (st0 : Store) (hst0 : ∀ b o, st0 b = some o → st b = some o) :
    VRel (w.drew.alloc (.cells (vs.toArray ++ Builtin.zeroCells z.cells (cap - need)) e)).heap (st0.upd w.heap.size (.cells as)) (.mslice w.heap.size 0 need sz) (.slice (some ⟨w.heap.size, 0, none⟩) need cap) ∧
    SRel (w.drew.alloc (.cells (vs.toArray ++ Builtin.zeroCells z.cells (cap - need)) e)).heap (st0.upd w.heap.size (.cells as)) ∧
    StepH w.heap st (w.drew.alloc (.cells (vs.toArray ++ Builtin.zeroCells z.cells (cap - need)) e)).heap (st0.upd w.heap.size (.cells as)) := by
  generalize hc : vs.toArray ++ Builtin.zeroCells z.cells (cap - need) = c
  have hzz : z.cells.size = sz := by have := hz.length; simp at this; omega
  have hcs : c.size = cap * sz := by
    rw [← hc]
    simp only [Array.size_append, List.size_toArray, size_zeroCells, hzz, hv.length, hl, ← Nat.add_mul]
    congr 1
    omega
  show VRel (w.heap.push (.cells c e)) _ _ _ ∧ SRel (w.heap.push (.cells c e)) _ ∧ StepH w.heap st (w.heap.push (.cells c e)) _
  have E := Ext.push w.heap (.cells c e)
  have hblk : (w.heap.push (.cells c e))[w.heap.size]? = some (.cells c e (0, 0)) := by simp
  have none0 : ∀ b, st b = none → st0 b = none := fun b h => by
    cases h0 : st0 b with
    | none => rfl
    | some o => rw [hst0 b o h0] at h; cases h
  have T : StepH w.heap st (w.heap.push (.cells c e)) (st0.upd w.heap.size (.cells as)) :=
    ⟨E.size, fun b hb h => ⟨E.keep b hb, by rw [Store.upd_ne _ _ (by omega)]; exact none0 b h⟩, (E.step st).shape⟩
  refine ⟨⟨rfl, cap, rfl, hcap, hm, c, e, hblk, by rw [hcs]; omega⟩, fun b o hb => ?_, T⟩
  by_cases hne : b = w.heap.size
  · subst hne
    rw [Store.upd_same] at hb; cases hb
    refine ⟨by simp, c, e, hblk, by rw [hl, hcs]; exact Nat.mul_le_mul_right _ hcap, vs, ?_, VCs.mono T _ _ hv⟩
    have hvl : vs = (c.toList.drop 0).take vs.length := by rw [← hc]; simp
    rw [hvl]
    exact cellsAt_of_take hblk _ 0 (by rw [← hc]; simp)
  · rw [Store.upd_ne _ _ hne] at hb
    obtain ⟨l, r⟩ := S b o (hst0 b o hb)
    exact ⟨by simp; omega, ORel.mono T (E.keep b l) r⟩

theorem append_took {o : Oper} {a : Act} {φ : AF} {t : TypeId} {s x : Operand} {K : AV → Store → Prop} (ho : o.op = .call { callee := .builtin .append, args := #[s, x], argTypes := #[t, t] }) (F : FRel w.heap st a.tmps φ) (S : SRel w.heap st)
    (e : aAppend P t st (φ.eval s) (φ.eval x) K) : ∃ v w', (execOp a.eval o).run P w = .ok (.value v) w' ∧ Took st w K v w' := by
  unfold aAppend at e
  split at e
  case h_2 => cases e
  rename_i ag sz bytes zs xs hI hB hZ hX
  obtain ⟨hzl, hfit, e⟩ := e
  obtain ⟨el, hu, hT⟩ := eI_run hI
  obtain ⟨_, _, d, i, _, hi, hisz, _⟩ := tI_run hT w
  have hby : i.bytes = bytes := by simp only [eB, hu, hi, Option.map_some, Option.some.injEq] at hB; exact hB
  obtain ⟨z, hz0, hzv⟩ : ∃ z, i.zero = some z ∧ VCs w.heap st zs z.cells.toList := by
    simp only [eZ, hu] at hZ
    simp only [zI, hi] at hZ
    cases hz : i.zero with
    | none => simp [hz] at hZ
    | some z => simp only [hz, Option.some.injEq] at hZ; subst hZ; exact ⟨z, rfl, VCs.consts _ _ _⟩
  -- the second operand
  have hx : VRel w.heap st (.slice xs) (a.eval x) := by
    have y := VRel.eval F x
    unfold aElems at hX
    split at hX
    · rename_i es hx; cases hX; rw [hx] at y; exact y
    · rename_i es hx; cases hX; rw [hx] at y; exact y.fslice_slice
    · cases hX
  have hxs : ∃ xb xc news, a.eval x = .slice xb xs.length xc ∧ VCs w.heap st (xs.flatMap AV.cells) news ∧ (∀ u ∈ news, u.oneCell' = true) ∧ news.length = xs.length * i.size ∧
      (xs ≠ [] → ∃ xa, xb = some xa ∧ ∀ j u, news[j]? = some u → w.cell? (xa.add j) = some u) := by
    have hlen := flat_length (es := xs) (n := sz) (fun e he => (hfit e he).1)
    rcases hx.slice_of with ⟨⟨p0, hv⟩, rfl⟩ | ⟨b, off, cap, hv, l1, l2, e2, e3, ev, e4⟩
    · exact ⟨p0, 0, [], by simpa using hv, by simp [VCs], by simp, by simp, by simp⟩
    · obtain ⟨vs, v1, v2⟩ := e4.flat
      refine ⟨_, cap, vs, hv, v2, v2.oneCell ?_, by rw [v2.length, hlen, hisz], fun _ => ⟨_, rfl, fun j u hj => by rw [Addr.add_flat, cell?_cellAt]; exact v1.get j hj⟩⟩
      simp only [List.all_flatMap, List.all_eq_true]
      intro e he
      simpa using (hfit e he).2
  obtain ⟨xb, xc, news, hxv, hnv, hn1, hnl, hnc⟩ := hxs
  have hs := VRel.eval F s
  split at e
  · rename_i es hes
    rw [hes] at hs
    obtain ⟨hb1, hb2, hw, hnil, hcons⟩ := e
    by_cases hx0 : xs = []
    · subst hx0
      obtain ⟨base, hv⟩ : ∃ base, a.eval s = .slice base es.length es.length := by
        rcases hs.fslice_of with ⟨⟨p0, hv⟩, rfl⟩ | ⟨b, off, hv, _⟩
        · exact ⟨p0, hv⟩
        · exact ⟨_, hv⟩
      refine ⟨a.eval s, w, app_run ho ?_, .fslice es, st, hs, S, StepH.refl _ _, Same.refl _, hnil rfl⟩
      rw [hv, hxv]
      exact run_append_zero w t o.type el i hu hi base xb es.length es.length xc (Nat.le_refl _)
    · obtain ⟨xa, rfl, hcell⟩ := hnc hx0
      have hlx : 0 < xs.length := by cases xs <;> simp at hx0 ⊢
      rcases hs.fslice_of with ⟨⟨p0, hv⟩, rfl⟩ | ⟨b, off, hv, l1, e2, e3, ev, e4⟩
      · cases p0 with
        | none =>
          have hr := run_append_nil (P := P) w t o.type el i z hu hi hz0 xa xs.length xc news hnl hcell hlx (by simp at hb2; omega) (by rw [hby]; simp at hb1; omega)
          have hN := app_new (w := w) (st := st) (e := el) (need := xs.length) (cap := grownCap w xs.length 0 el) S hzv hzl hnv (by rw [flat_length (fun e he => (hfit e he).1)]) (grownCap_ge ..) (grownCap_le_maxLen _ _ _ _ (by unfold maxLen; simp at hb2; omega)) st (fun _ _ h => h)
          refine ⟨_, _, app_run ho (by rw [hv, hxv]; exact hr), .mslice w.heap.size 0 xs.length sz, _, hN.1, hN.2.1, hN.2.2, ⟨rfl, rfl, rfl⟩, ?_⟩
          have := hcons hx0 w.heap.size S.fresh
          simpa using this
        | some a0 =>
          have hr := run_append_grow (P := P) w t o.type el i z hu hi hz0 a0 0 0 [] (by simp) (by simp) xa xs.length xc news hnl hcell (by omega) (by omega)
            (growslice_fits (by omega) (by rw [hby]; simpa using hb1))
          have hN := app_new (w := w) (st := st) (e := el) (need := xs.length) (cap := grownCap w (0 + xs.length) 0 el) S hzv hzl hnv (by rw [flat_length (fun e he => (hfit e he).1)]) (by have := grownCap_ge w (0 + xs.length) 0 el; omega) (grownCap_le_maxLen _ _ _ _ (by unfold maxLen; simp at hb2; omega)) st (fun _ _ h => h)
          have hvn : (([] : List Value).toArray ++ news.toArray) = news.toArray := by simp
          rw [hvn, Nat.zero_add] at hr
          rw [Nat.zero_add] at hN
          refine ⟨_, _, app_run ho (by rw [hv, hxv]; exact hr), .mslice w.heap.size 0 xs.length sz, _, hN.1, hN.2.1, hN.2.2, ⟨rfl, rfl, rfl⟩, ?_⟩
          have := hcons hx0 w.heap.size S.fresh
          simpa using this
      · obtain ⟨vs, v1, v2⟩ := e4.flat
        have hlv : vs.length = es.length * i.size := by rw [v2.length, flat_length hw, hisz]
        have hr := run_append_grow (P := P) w t o.type el i z hu hi hz0 ⟨b, off, none⟩ es.length es.length vs hlv (fun j u hj => by rw [Addr.add_flat, cell?_cellAt]; exact v1.get j hj) xa xs.length xc news hnl hcell (by omega) (by omega)
          (growslice_fits (by omega) (by rw [hby]; exact hb1))
        have hN := app_new (w := w) (st := st) (e := el) (need := es.length + xs.length) (cap := grownCap w (es.length + xs.length) es.length el) S hzv hzl (v2.append hnv)
          (by rw [List.length_append, flat_length hw, flat_length (fun e he => (hfit e he).1), Nat.add_mul]) (grownCap_ge ..) (grownCap_le_maxLen _ _ _ _ (by unfold maxLen; omega)) st (fun _ _ h => h)
        have hvn : vs.toArray ++ news.toArray = (vs ++ news).toArray := by simp
        rw [hvn] at hr
        refine ⟨_, _, app_run ho (by rw [hv, hxv]; exact hr), .mslice w.heap.size 0 (es.length + xs.length) sz, _, hN.1, hN.2.1, hN.2.2, ⟨rfl, rfl, rfl⟩, ?_⟩
        have := hcons hx0 w.heap.size S.fresh
        rwa [List.flatMap_append] at this
  · rename_i b len n hes
    rw [hes] at hs
    obtain ⟨rfl, hb1, hb2, e⟩ := e
    split at e
    case h_2 => cases e
    rename_i cs hcs
    obtain ⟨hlen, hin, hout⟩ := e
    obtain ⟨cap, hv, l1, l2, c, t', hblk, l3⟩ := hs.mslice_of
    obtain ⟨hlt, c', ty, hb', hl, vs, x1, x2⟩ := S b _ hcs
    rw [hblk] at hb'; cases hb'
    have hvl := x2.length
    by_cases hroom : len + xs.length ≤ cap
    · -- in place
      have hfitc : len * n + news.length ≤ c.size := by
        rw [hnl, hisz, ← Nat.add_mul]
        have := Nat.mul_le_mul_right n hroom
        omega
      have hrun : ∃ c2 : Array Value, (Builtin.append_ #[t, t] o.type #[a.eval s, a.eval x]).run P w = .ok (.slice (some ⟨b, 0, none⟩) (len + xs.length) cap) (w.setRow b c2) ∧ c2.size = c.size ∧ c2.toList.take (len * n + news.length) = vs.take (len * n) ++ news := by
        by_cases hx0 : xs = []
        · subst hx0
          refine ⟨c, ?_, rfl, ?_⟩
          · rw [hv, hxv, setRow_self w b c t' (0, 0) hblk]
            exact run_append_zero w t o.type el i hu hi _ xb len cap xc l1
          · have : news = [] := List.eq_nil_of_length_eq_zero (by simpa using hnl)
            subst this
            have htake := cellsAt_take_eq hblk x1
            simp only [List.drop_zero] at htake
            rw [← htake, List.take_take, Nat.min_eq_left (by omega)]
            simp
        · obtain ⟨xa, rfl, hcell⟩ := hnc hx0
          have hr := run_append_room' (P := P) w t o.type el t' i hu hi b len cap c hblk xa xs.length xc news hnl hcell hn1 hroom (by rw [hisz]; exact hfitc)
          rw [hisz] at hr
          refine ⟨_, by rw [hv, hxv]; exact hr, by simp; omega, ?_⟩
          have htake := cellsAt_take_eq hblk x1
          simp only [List.drop_zero] at htake
          rw [← htake, List.take_take, Nat.min_eq_left (by omega)]
          have hA : (c.toList.take (len * n) ++ news).length = len * n + news.length := by simp; omega
          show List.take _ (_ ++ _ ++ _) = _
          rw [List.take_append_of_le_length (by rw [hA]; omega), List.take_of_length_le (by rw [hA]; omega)]
      obtain ⟨c2, hr, hsz2, htk⟩ := hrun
      have hblk2 : (w.setRow b c2).heap[b]? = some (.cells c2 t' (0, 0)) := setRow_heap w b c c2 t' (0, 0) hblk
      have hoth : ∀ y, y < w.heap.size → y ≠ b → (w.setRow b c2).heap[y]? = w.heap[y]? := fun y _ hne => setRow_other w b y c2 hne
      have T : StepH w.heap st (w.setRow b c2).heap (st.upd b (.cells (cs.take (len * n) ++ xs.flatMap AV.cells))) := by
        refine StepH.of_write (by rw [hcs]; simp) (by simp) hoth fun c1 t1 fr1 e1 => ?_
        rw [hblk] at e1; cases e1
        exact ⟨c2, hblk2, hsz2⟩
      have hal : (cs.take (len * n) ++ xs.flatMap AV.cells).length = len * n + news.length := by
        rw [List.length_append, List.length_take, ← hnv.length, Nat.min_eq_left hlen]
      refine ⟨_, _, app_run ho hr, .mslice b 0 (len + xs.length) n, _, ⟨rfl, cap, rfl, hroom, l2, c2, t', hblk2, by rw [hsz2]; exact l3⟩, S.of_write T (by simpa using hlt) hoth ⟨c2, t', hblk2, by rw [hal, hsz2]; exact hfitc, (c2.toList.drop 0).take (len * n + news.length), cellsAt_of_take hblk2 _ 0 (by rw [hsz2]; omega), ?_⟩, T, ⟨rfl, rfl, rfl⟩, hin⟩
      rw [List.drop_zero, htk]
      exact VCs.mono T _ _ ((x2.take (len * n)).append hnv)
    · -- a new row
      have hx0 : xs ≠ [] := by rintro rfl; simp at hroom; omega
      obtain ⟨xa, rfl, hcell⟩ := hnc hx0
      have hlv : (vs.take (len * n)).length = len * i.size := by rw [hisz, List.length_take, hvl, Nat.min_eq_left hlen]
      have hr := run_append_grow (P := P) w t o.type el i z hu hi hz0 ⟨b, 0, none⟩ len cap (vs.take (len * n)) hlv (fun j u hj => by
          rw [Addr.add_flat, cell?_cellAt]; exact (x1.take (len * n)).get j hj) xa xs.length xc news hnl hcell (by omega) (by omega)
        (growslice_fits (by omega) (by rw [hby]; exact hb1))
      have hN := app_new (w := w) (st := st) (e := el) (need := len + xs.length) (cap := grownCap w (len + xs.length) cap el) S hzv hzl ((x2.take (len * n)).append hnv)
        (by rw [List.length_append, List.length_take, Nat.min_eq_left hlen, flat_length (fun e he => (hfit e he).1), Nat.add_mul]) (grownCap_ge ..) (grownCap_le_maxLen _ _ _ _ (by unfold maxLen; omega)) (st.erase b)
        (fun y o h => by unfold Store.erase at h; split at h; cases h; exact h)
      have hvn : (vs.take (len * n)).toArray ++ news.toArray = (vs.take (len * n) ++ news).toArray := by simp
      rw [hvn] at hr
      exact ⟨_, _, app_run ho (by rw [hv, hxv]; exact hr), .mslice w.heap.size 0 (len + xs.length) n, _, hN.1, hN.2.1, hN.2.2, ⟨rfl, rfl, rfl⟩, hout w.heap.size S.fresh⟩
  · cases e
end
end Go.AW
