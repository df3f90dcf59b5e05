/- append: what it comes to with the owned store. -/
import Derived.Test.YtepkgoabhlnkbaaGreatDoorSesa
import Derived.StillTail
set_option linter.unusedSimpArgs false
set_option linter.unusedVariables false
set_option maxRecDepth 100000
namespace Go.AW
theorem cellsAt.append {h : Heap} {b : Nat} : ∀ {vs us : List Value} {off : Nat}, cellsAt h b off vs → cellsAt h b (off + vs.length) us → cellsAt h b off (vs ++ us)
 | [], us, off, _, y => by simpa using y
 | v :: vs, us, off, x, y => ⟨x.1, cellsAt.append x.2 (by rw [show off + 1 + vs.length = off + (v :: vs).length by simp; omega]; exact y)⟩
theorem VC.cellsOf {h : Heap} {st : zy7} {a : AV} {vs : List Value} (x : VC h st a vs) : VCs h st a.cells vs := by
 by_cases ha : a.isAgg = true
 · cases a <;> simp [AV.isAgg] at ha
   simpa [AV.cells, VC] using x
 · have ha' : a.isAgg = false := by simpa using ha
   obtain ⟨c, rfl⟩ := x.one ha'
   have h3 : a.cells = [a] := by cases a <;> first | rfl | (simp [AV.isAgg] at ha')
   rw [h3]
   simp only [VCs]
   exact ⟨c, [], rfl, x, rfl⟩
theorem VEs.flat {h : Heap} {st : zy7} {b : Nat} : ∀ {es : List AV} {off : Nat}, VEs h st b off es → ∃ vs, cellsAt h b off vs ∧ VCs h st (es.flatMap AV.cells) vs
 | [], off, _ => ⟨[], trivial, by simp [VCs]⟩
 | e :: es, off, x => by
  simp only [VEs] at x
  obtain ⟨⟨cs, c1, c2, c3⟩, x2⟩ := x
  obtain ⟨vs, v1, v2⟩ := VEs.flat x2
  exact ⟨cs ++ vs, c1.append (by rw [c2]; exact v1), by simpa using c3.cellsOf.append v2⟩
theorem cells_width (a : AV) : a.cells.length = a.width := by cases a <;> rfl
theorem flat_length {n : Nat} : ∀ {es : List AV}, (∀ e ∈ es, e.width = n) → (es.flatMap AV.cells).length = es.length * n
 | [], _ => by simp
 | e :: es, h => by
  have := flat_length (es := es) (n := n) (fun x hx => h x (by simp [hx]))
  simp [cells_width, h e (by simp), this, Nat.succ_mul]
  omega
def aElems : AV → Option (List AV)
 | .slice es | .fslice es => some es
 | _ => none
def eB (P : Program) (t : TypeId) : Option Nat :=
 match P.underlying t with
 | some (.slice e) => (P.info? e).map (·.bytes)
 | _ => none
def appFit (sz : Nat) (xs : List AV) : Prop := ∀ e ∈ xs, e.width = sz ∧ e.cells.all AV.storable = true
def aAppend (P : Program) (t : TypeId) (st : zy7) (s x : AV) (K : AV → zy7 → Prop) : Prop :=
 match eI P t, eB P t, eZ P t, aElems x with
 | some (_, sz), some bytes, some zs, some xs => zs.length = sz ∧ appFit sz xs ∧
  match s with
  | .fslice es => (es.length + xs.length) * bytes ≤ 140737488355328 ∧ es.length + xs.length ≤ 9223372036854775807 ∧ (∀ e ∈ es, e.width = sz) ∧
   (xs = [] → K (.fslice es) st) ∧ (xs ≠ [] → ∀ b, st b = none → K (.mslice b 0 (es.length + xs.length) sz) (st.upd b (.cells ((es ++ xs).flatMap AV.cells))))
  | .mslice b 0 len n => n = sz ∧ (len + xs.length) * bytes ≤ 140737488355328 ∧ len + xs.length ≤ 9223372036854775807 ∧
   (match st b with
    | some (.cells cs) => len * sz ≤ cs.length ∧ K (.mslice b 0 (len + xs.length) sz) (st.upd b (.cells (cs.take (len * sz) ++ xs.flatMap AV.cells))) ∧
     ∀ b', st b' = none → K (.mslice b' 0 (len + xs.length) sz) ((st.erase b).upd b' (.cells (cs.take (len * sz) ++ xs.flatMap AV.cells)))
    | _ => False)
  | _ => False
 | _, _, _, _ => False
theorem run_append_room' {P : Program} (w : World) (t ty e t' : TypeId) (i : TypeInfo) (ht : P.underlying t = some (.slice e)) (hi : P.info? e = some i)
 (g sLen sCap : Nat) (cur : Array Value) (hg : w.heap[g]? = some (.cells cur t' (0, 0)))
 (a : Addr) (m c : Nat) (news : List Value) (hl : news.length = m * i.size) (hnews : ∀ j u, news[j]? = some u → w.cell? (a.add j) = some u) (h1 : ∀ u ∈ news, u.oneCell' = true)
 (hroom : sLen + m ≤ sCap) (hfit : sLen * i.size + news.length ≤ cur.size) :
 (Builtin.append_ #[t, t] ty #[.slice (some ⟨g, 0, none⟩) sLen sCap, .slice (some a) m c]).run P w =
  .ok (.slice (some ⟨g, 0, none⟩) (sLen + m) sCap) (w.setRow g (cur.toList.take (sLen * i.size) ++ news ++ cur.toList.drop (sLen * i.size + news.length)).toArray) := by
 have hf := run_firstCells_some (P := P) w i.size m a m c news hl hnews
 have hst := run_storeCells_at P g (sLen * i.size) t' news 0 cur w hg (by simpa using hfit) h1
 simp only [Nat.add_zero] at hst
 simp [Builtin.append_, run_underlying ht, sizeOf, typeInfo, hi, Builtin.lenOf, hroom, hf, Addr.add_lit, hst]
theorem run_append_zero {P : Program} (w : World) (t ty e : TypeId) (i : TypeInfo) (ht : P.underlying t = some (.slice e)) (hi : P.info? e = some i) (base xb : Option Addr) (n cap xc : Nat) (h : n ≤ cap) :
 (Builtin.append_ #[t, t] ty #[.slice base n cap, .slice xb 0 xc]).run P w = .ok (.slice base n cap) w := by
 cases base <;> cases xb <;> simp [Builtin.append_, run_underlying ht, sizeOf, typeInfo, hi, Builtin.lenOf, h, Builtin.firstCells, loadCells, loadCellsFrom, storeCells]
section
variable {P : Program} {st : zy7} {w : World}
theorem app_run {o : Oper} {a : Act} {t : TypeId} {s x : Operand} {w w' : World} {v : Value} (ho : o.op = .call { callee := .builtin .append, args := #[s, x], argTypes := #[t, t] })
 (h : (Builtin.append_ #[t, t] o.type #[a.eval s, a.eval x]).run P w = .ok v w') : (execOp a.eval o).run P w = .ok (.value v) w' := by
 simp only [execOp, ho, resolve, Sem.run_bind, Sem.run_pure, Result.andThen_ok, invoke, builtin]
 simp [h]
theorem app_new {sz need cap : Nat} {e : TypeId} {z : Value} {zs : List AV} {as : List AV} {vs : List Value} (S : SRel w.heap st) (hz : VCs w.heap st zs z.cells.toList) (hzl : zs.length = sz)
 (hv : VCs w.heap st as vs) (hl : as.length = need * sz) (hcap : need ≤ cap) (hm : cap ≤ maxLen) (st0 : zy7) (hst0 : ∀ b o, st0 b = some o → st b = some o) :
 VRel (w.drew.alloc (.cells (vs.toArray ++ Builtin.zeroCells z.cells (cap - need)) e)).heap (st0.upd w.heap.size (.cells as)) (.mslice w.heap.size 0 need sz) (.slice (some ⟨w.heap.size, 0, none⟩) need cap) ∧
 SRel (w.drew.alloc (.cells (vs.toArray ++ Builtin.zeroCells z.cells (cap - need)) e)).heap (st0.upd w.heap.size (.cells as)) ∧
 StepH w.heap st (w.drew.alloc (.cells (vs.toArray ++ Builtin.zeroCells z.cells (cap - need)) e)).heap (st0.upd w.heap.size (.cells as)) := by
 generalize hc : vs.toArray ++ Builtin.zeroCells z.cells (cap - need) = c
 have hzz : z.cells.size = sz := by have := hz.length; simp at this; omega
 have hcs : c.size = cap * sz := by
  rw [← hc]
  simp only [Array.size_append, List.size_toArray, size_zeroCells, hzz, hv.length, hl, ← Nat.add_mul]
  congr 1
  omega
 show VRel (w.heap.push (.cells c e)) _ _ _ ∧ SRel (w.heap.push (.cells c e)) _ ∧ StepH w.heap st (w.heap.push (.cells c e)) _
 have E := Ext.push w.heap (.cells c e)
 have hblk : (w.heap.push (.cells c e))[w.heap.size]? = some (.cells c e (0, 0)) := by simp
 have none0 : ∀ b, st b = none → st0 b = none := fun b h => by
  cases h0 : st0 b with
  | none => rfl
  | some o => rw [hst0 b o h0] at h; cases h
 have T : StepH w.heap st (w.heap.push (.cells c e)) (st0.upd w.heap.size (.cells as)) :=
  ⟨E.size, fun b hb h => ⟨E.keep b hb, by rw [zy7.upd_ne _ _ (by omega)]; exact none0 b h⟩, (E.step st).shape⟩
 refine ⟨⟨rfl, cap, rfl, hcap, hm, c, e, hblk, by rw [hcs]; omega⟩, fun b o hb => ?_, T⟩
 by_cases hne : b = w.heap.size
 · subst hne
   rw [zy7.upd_same] at hb; cases hb
   refine ⟨by simp, c, e, hblk, by rw [hl, hcs]; exact Nat.mul_le_mul_right _ hcap, vs, ?_, VCs.mono T _ _ hv⟩
   have hvl : vs = (c.toList.drop 0).take vs.length := by rw [← hc]; simp
   rw [hvl]
   exact cellsAt_of_take hblk _ 0 (by rw [← hc]; simp)
 · rw [zy7.upd_ne _ _ hne] at hb
   obtain ⟨l, r⟩ := S b o (hst0 b o hb)
   exact ⟨by simp; omega, ORel.mono T (E.keep b l) r⟩
theorem append_took {o : Oper} {a : Act} {φ : AF} {t : TypeId} {s x : Operand} {K : AV → zy7 → Prop} (ho : o.op = .call { callee := .builtin .append, args := #[s, x], argTypes := #[t, t] }) (F : FRel w.heap st a.tmps φ) (S : SRel w.heap st)
 (e : aAppend P t st (φ.eval s) (φ.eval x) K) : ∃ v w', (execOp a.eval o).run P w = .ok (.value v) w' ∧ Took st w K v w' := by
 unfold aAppend at e
 split at e
 case h_2 => cases e
 rename_i ag sz bytes zs xs hI hB hZ hX
 obtain ⟨hzl, hfit, e⟩ := e
 obtain ⟨el, hu, hT⟩ := eI_run hI
 obtain ⟨_, _, d, i, _, hi, hisz, _⟩ := tI_run hT w
 have hby : i.bytes = bytes := by simp only [eB, hu, hi, Option.map_some, Option.some.injEq] at hB; exact hB
 obtain ⟨z, hz0, hzv⟩ : ∃ z, i.zero = some z ∧ VCs w.heap st zs z.cells.toList := by
  simp only [eZ, hu] at hZ
  simp only [zI, hi] at hZ
  cases hz : i.zero with
  | none => simp [hz] at hZ
  | some z => simp only [hz, Option.some.injEq] at hZ; subst hZ; exact ⟨z, rfl, VCs.consts _ _ _⟩
 -- the second operand
 have hx : VRel w.heap st (.slice xs) (a.eval x) := by
  have y := VRel.eval F x
  unfold aElems at hX
  split at hX
  · rename_i es hx; cases hX; rw [hx] at y; exact y
  · rename_i es hx; cases hX; rw [hx] at y; exact y.fslice_slice
  · cases hX
 have hxs : ∃ xb xc news, a.eval x = .slice xb xs.length xc ∧ VCs w.heap st (xs.flatMap AV.cells) news ∧ (∀ u ∈ news, u.oneCell' = true) ∧ news.length = xs.length * i.size ∧
  (xs ≠ [] → ∃ xa, xb = some xa ∧ ∀ j u, news[j]? = some u → w.cell? (xa.add j) = some u) := by
  have hlen := flat_length (es := xs) (n := sz) (fun e he => (hfit e he).1)
  rcases hx.slice_of with ⟨⟨p0, hv⟩, rfl⟩ | ⟨b, off, cap, hv, l1, l2, e2, e3, ev, e4⟩
  · exact ⟨p0, 0, [], by simpa using hv, by simp [VCs], by simp, by simp, by simp⟩
  · obtain ⟨vs, v1, v2⟩ := e4.flat
    refine ⟨_, cap, vs, hv, v2, v2.oneCell ?_, by rw [v2.length, hlen, hisz], fun _ => ⟨_, rfl, fun j u hj => by rw [Addr.add_flat, cell?_cellAt]; exact v1.get j hj⟩⟩
    simp only [List.all_flatMap, List.all_eq_true]
    intro e he
    simpa using (hfit e he).2
 obtain ⟨xb, xc, news, hxv, hnv, hn1, hnl, hnc⟩ := hxs
 have hs := VRel.eval F s
 split at e
 · rename_i es hes
   rw [hes] at hs
   obtain ⟨hb1, hb2, hw, hnil, hcons⟩ := e
   by_cases hx0 : xs = []
   · subst hx0
     obtain ⟨base, hv⟩ : ∃ base, a.eval s = .slice base es.length es.length := by
      rcases hs.fslice_of with ⟨⟨p0, hv⟩, rfl⟩ | ⟨b, off, hv, _⟩
      · exact ⟨p0, hv⟩
      · exact ⟨_, hv⟩
     refine ⟨a.eval s, w, app_run ho ?_, .fslice es, st, hs, S, StepH.refl _ _, Same.refl _, hnil rfl⟩
     rw [hv, hxv]
     exact run_append_zero w t o.type el i hu hi base xb es.length es.length xc (Nat.le_refl _)
   · obtain ⟨xa, rfl, hcell⟩ := hnc hx0
     have hlx : 0 < xs.length := by cases xs <;> simp at hx0 ⊢
     rcases hs.fslice_of with ⟨⟨p0, hv⟩, rfl⟩ | ⟨b, off, hv, l1, e2, e3, ev, e4⟩
     · cases p0 with
       | none =>
        have hr := run_append_nil (P := P) w t o.type el i z hu hi hz0 xa xs.length xc news hnl hcell hlx (by simp at hb2; omega) (by rw [hby]; simp at hb1; omega)
        have hN := app_new (w := w) (st := st) (e := el) (need := xs.length) (cap := grownCap w xs.length 0 el) S hzv hzl hnv (by rw [flat_length (fun e he => (hfit e he).1)]) (grownCap_ge ..) (grownCap_le_maxLen _ _ _ _ (by unfold maxLen; simp at hb2; omega)) st (fun _ _ h => h)
        refine ⟨_, _, app_run ho (by rw [hv, hxv]; exact hr), .mslice w.heap.size 0 xs.length sz, _, hN.1, hN.2.1, hN.2.2, ⟨rfl, rfl, rfl⟩, ?_⟩
        have := hcons hx0 w.heap.size S.fresh
        simpa using this
       | some a0 =>
        have hr := run_append_grow (P := P) w t o.type el i z hu hi hz0 a0 0 0 [] (by simp) (by simp) xa xs.length xc news hnl hcell (by omega) (by omega)
         (growslice_fits (by omega) (by rw [hby]; simpa using hb1))
        have hN := app_new (w := w) (st := st) (e := el) (need := xs.length) (cap := grownCap w (0 + xs.length) 0 el) S hzv hzl hnv (by rw [flat_length (fun e he => (hfit e he).1)]) (by have := grownCap_ge w (0 + xs.length) 0 el; omega) (grownCap_le_maxLen _ _ _ _ (by unfold maxLen; simp at hb2; omega)) st (fun _ _ h => h)
        have hvn : (([] : List Value).toArray ++ news.toArray) = news.toArray := by simp
        rw [hvn, Nat.zero_add] at hr
        rw [Nat.zero_add] at hN
        refine ⟨_, _, app_run ho (by rw [hv, hxv]; exact hr), .mslice w.heap.size 0 xs.length sz, _, hN.1, hN.2.1, hN.2.2, ⟨rfl, rfl, rfl⟩, ?_⟩
        have := hcons hx0 w.heap.size S.fresh
        simpa using this
     · obtain ⟨vs, v1, v2⟩ := e4.flat
       have hlv : vs.length = es.length * i.size := by rw [v2.length, flat_length hw, hisz]
       have hr := run_append_grow (P := P) w t o.type el i z hu hi hz0 ⟨b, off, none⟩ es.length es.length vs hlv (fun j u hj => by rw [Addr.add_flat, cell?_cellAt]; exact v1.get j hj) xa xs.length xc news hnl hcell (by omega) (by omega)
        (growslice_fits (by omega) (by rw [hby]; exact hb1))
       have hN := app_new (w := w) (st := st) (e := el) (need := es.length + xs.length) (cap := grownCap w (es.length + xs.length) es.length el) S hzv hzl (v2.append hnv)
        (by rw [List.length_append, flat_length hw, flat_length (fun e he => (hfit e he).1), Nat.add_mul]) (grownCap_ge ..) (grownCap_le_maxLen _ _ _ _ (by unfold maxLen; omega)) st (fun _ _ h => h)
       have hvn : vs.toArray ++ news.toArray = (vs ++ news).toArray := by simp
       rw [hvn] at hr
       refine ⟨_, _, app_run ho (by rw [hv, hxv]; exact hr), .mslice w.heap.size 0 (es.length + xs.length) sz, _, hN.1, hN.2.1, hN.2.2, ⟨rfl, rfl, rfl⟩, ?_⟩
       have := hcons hx0 w.heap.size S.fresh
       rwa [List.flatMap_append] at this
 · rename_i b len n hes
   rw [hes] at hs
   obtain ⟨rfl, hb1, hb2, e⟩ := e
   split at e
   case h_2 => cases e
   rename_i cs hcs
   obtain ⟨hlen, hin, hout⟩ := e
   obtain ⟨cap, hv, l1, l2, c, t', hblk, l3⟩ := hs.mslice_of
   obtain ⟨hlt, c', ty, hb', hl, vs, x1, x2⟩ := S b _ hcs
   rw [hblk] at hb'; cases hb'
   have hvl := x2.length
   by_cases hroom : len + xs.length ≤ cap
   · -- in place
     have hfitc : len * n + news.length ≤ c.size := by
      rw [hnl, hisz, ← Nat.add_mul]
      have := Nat.mul_le_mul_right n hroom
      omega
     have hrun : ∃ c2 : Array Value, (Builtin.append_ #[t, t] o.type #[a.eval s, a.eval x]).run P w = .ok (.slice (some ⟨b, 0, none⟩) (len + xs.length) cap) (w.setRow b c2) ∧ c2.size = c.size ∧ c2.toList.take (len * n + news.length) = vs.take (len * n) ++ news := by
      by_cases hx0 : xs = []
      · subst hx0
        refine ⟨c, ?_, rfl, ?_⟩
        · rw [hv, hxv, setRow_self w b c t' (0, 0) hblk]
          exact run_append_zero w t o.type el i hu hi _ xb len cap xc l1
        · have : news = [] := List.eq_nil_of_length_eq_zero (by simpa using hnl)
          subst this
          have htake := cellsAt_take_eq hblk x1
          simp only [List.drop_zero] at htake
          rw [← htake, List.take_take, Nat.min_eq_left (by omega)]
          simp
      · obtain ⟨xa, rfl, hcell⟩ := hnc hx0
        have hr := run_append_room' (P := P) w t o.type el t' i hu hi b len cap c hblk xa xs.length xc news hnl hcell hn1 hroom (by rw [hisz]; exact hfitc)
        rw [hisz] at hr
        refine ⟨_, by rw [hv, hxv]; exact hr, by simp; omega, ?_⟩
        have htake := cellsAt_take_eq hblk x1
        simp only [List.drop_zero] at htake
        rw [← htake, List.take_take, Nat.min_eq_left (by omega)]
        have hA : (c.toList.take (len * n) ++ news).length = len * n + news.length := by simp; omega
        show List.take _ (_ ++ _ ++ _) = _
        rw [List.take_append_of_le_length (by rw [hA]; omega), List.take_of_length_le (by rw [hA]; omega)]
     obtain ⟨c2, hr, hsz2, htk⟩ := hrun
     have hblk2 : (w.setRow b c2).heap[b]? = some (.cells c2 t' (0, 0)) := setRow_heap w b c c2 t' (0, 0) hblk
     have hoth : ∀ y, y < w.heap.size → y ≠ b → (w.setRow b c2).heap[y]? = w.heap[y]? := fun y _ hne => setRow_other w b y c2 hne
     have T : StepH w.heap st (w.setRow b c2).heap (st.upd b (.cells (cs.take (len * n) ++ xs.flatMap AV.cells))) := by
      refine StepH.of_write (by rw [hcs]; simp) (by simp) hoth fun c1 t1 fr1 e1 => ?_
      rw [hblk] at e1; cases e1
      exact ⟨c2, hblk2, hsz2⟩
     have hal : (cs.take (len * n) ++ xs.flatMap AV.cells).length = len * n + news.length := by
      rw [List.length_append, List.length_take, ← hnv.length, Nat.min_eq_left hlen]
     refine ⟨_, _, app_run ho hr, .mslice b 0 (len + xs.length) n, _, ⟨rfl, cap, rfl, hroom, l2, c2, t', hblk2, by rw [hsz2]; exact l3⟩, S.of_write T (by simpa using hlt) hoth ⟨c2, t', hblk2, by rw [hal, hsz2]; exact hfitc, (c2.toList.drop 0).take (len * n + news.length), cellsAt_of_take hblk2 _ 0 (by rw [hsz2]; omega), ?_⟩, T, ⟨rfl, rfl, rfl⟩, hin⟩
     rw [List.drop_zero, htk]
     exact VCs.mono T _ _ ((x2.take (len * n)).append hnv)
   · -- a new row
     have hx0 : xs ≠ [] := by rintro rfl; simp at hroom; omega
     obtain ⟨xa, rfl, hcell⟩ := hnc hx0
     have hlv : (vs.take (len * n)).length = len * i.size := by rw [hisz, List.length_take, hvl, Nat.min_eq_left hlen]
     have hr := run_append_grow (P := P) w t o.type el i z hu hi hz0 ⟨b, 0, none⟩ len cap (vs.take (len * n)) hlv (fun j u hj => by
      rw [Addr.add_flat, cell?_cellAt]; exact (x1.take (len * n)).get j hj) xa xs.length xc news hnl hcell (by omega) (by omega)
      (growslice_fits (by omega) (by rw [hby]; exact hb1))
     have hN := app_new (w := w) (st := st) (e := el) (need := len + xs.length) (cap := grownCap w (len + xs.length) cap el) S hzv hzl ((x2.take (len * n)).append hnv)
      (by rw [List.length_append, List.length_take, Nat.min_eq_left hlen, flat_length (fun e he => (hfit e he).1), Nat.add_mul]) (grownCap_ge ..) (grownCap_le_maxLen _ _ _ _ (by unfold maxLen; omega)) (st.erase b)
      (fun y o h => by unfold zy7.erase at h; split at h; cases h; exact h)
     have hvn : (vs.take (len * n)).toArray ++ news.toArray = (vs.take (len * n) ++ news).toArray := by simp
     rw [hvn] at hr
     exact ⟨_, _, app_run ho (by rw [hv, hxv]; exact hr), .mslice w.heap.size 0 (len + xs.length) n, _, hN.1, hN.2.1, hN.2.2, ⟨rfl, rfl, rfl⟩, hout w.heap.size S.fresh⟩
 · cases e
end
section
variable {P : Program} {st : zy7} {w : World}
theorem alloc_took {o : Obj} {p : AO} {r : AV} {v : Value} {K : AV → zy7 → Prop} (S : SRel w.heap st) (hr : VRel (w.heap.push o) (st.upd w.heap.size p) r v) (ho : ORel (w.heap.push o) (st.upd w.heap.size p) w.heap.size p)
 (hK : K r (st.upd w.heap.size p)) : Took st w K v (w.alloc o) :=
 ⟨r, _, hr, S.of_alloc ho, StepH.of_alloc _ _ _ _, ⟨rfl, rfl, rfl⟩, hK⟩
theorem newVar_took {t : TypeId} {as : List AV} {v : Value} {K : AV → zy7 → Prop} (S : SRel w.heap st) (hv : VCs w.heap st as v.cells.toList) (hK : ∀ b, st b = none → K (.ptr b 0) (st.upd b (.cells as))) :
 Took st w K (.pointer (some ⟨w.heap.size, 0, none⟩)) (w.alloc (.cells v.cells t)) := by
 refine alloc_took S (p := .cells as) (r := .ptr w.heap.size 0) ⟨rfl, rfl⟩ ?_ (hK _ S.fresh)
 have hl := hv.length
 refine ⟨v.cells, t, by simp, by rw [← hl]; simp, v.cells.toList, cellsAt_push w.heap _ t (0, 0) _ 0 rfl, VCs.mono (StepH.of_alloc w.heap st _ _) _ _ hv⟩
theorem makeMap_took {t : TypeId} {a : Act} {o : Oper} {K : AV → zy7 → Prop} (ho : o.op = .makeMap t none) (S : SRel w.heap st) (hK : ∀ b, st b = none → K (.map b) (st.upd b (.map fun _ => none))) :
 ∃ v w', (execOp a.eval o).run P w = .ok (.value v) w' ∧ Took st w K v w' := by
 refine ⟨.map (some w.heap.size), w.alloc (.map #[] 0), by simp [execOp, ho, Instr.makeMap], alloc_took S (p := .map fun _ => none) (r := .map w.heap.size) ⟨rfl, rfl⟩ ?_ (hK _ S.fresh)⟩
 exact ⟨#[], 0, by simp, by simp, by simp, by simp⟩
def madeAV (zs : List AV) (n : Nat) : List AV := (List.range (n * zs.length)).map fun i => zs.getD (i % zs.length) .junk
theorem VCs.of_get {h : Heap} {st : zy7} : ∀ {as : List AV} {vs : List Value}, as.length = vs.length → (∀ (i : Nat) a v, as[i]? = some a → vs[i]? = some v → VC h st a [v]) → VCs h st as vs
 | [], [], _, _ => by simp [VCs]
 | a :: as, v :: vs, hl, h => by
  simp only [VCs]
  exact ⟨v, vs, rfl, h 0 a v rfl rfl, VCs.of_get (by simpa using hl) fun i a' v' e1 e2 => h (i + 1) a' v' (by simpa using e1) (by simpa using e2)⟩
 | [], _ :: _, hl, _ => by simp at hl
 | _ :: _, [], hl, _ => by simp at hl
theorem VCs.made {h : Heap} {st : zy7} {zs : List AV} {z : Array Value} (x : VCs h st zs z.toList) (n : Nat) : VCs h st (madeAV zs n) (((Array.range (n * z.size)).map (fun i => z[i % z.size]!)).toList) := by
 have hl := x.length
 have hl' : z.size = zs.length := by simpa using hl
 refine VCs.of_get (by simp [madeAV, hl']) fun i a v e1 e2 => ?_
 obtain ⟨hi, e1'⟩ := List.getElem?_eq_some_iff.1 e1
 obtain ⟨hi2, e2'⟩ := List.getElem?_eq_some_iff.1 e2
 simp [madeAV] at hi e1' e2'
 have hpos : 0 < zs.length := by rcases Nat.eq_zero_or_pos zs.length with h0 | h0; (rw [h0] at hi; simp at hi); exact h0
 have hmod : i % zs.length < zs.length := Nat.mod_lt _ hpos
 rw [hl'] at e2'
 obtain ⟨v', hv', hvc⟩ := x.get (i % zs.length) (a := zs[i % zs.length]) (by simp [hmod])
 have ea : a = zs[i % zs.length] := by rw [← e1']; simp [hmod]
 have hz : i % zs.length < z.size := by omega
 have ev : v = v' := by
  rw [← e2', getElem!_pos z _ hz]
  simp [hz] at hv'
  exact hv'
 rw [ea, ev]; exact hvc
def aMakeSlice (P : Program) (t : TypeId) (st : zy7) (n c : AV) (K : AV → zy7 → Prop) : Prop :=
 match n, c, eI P t, eB P t, eZ P t with
 | .int .i64 n, .int .i64 m, some (_, sz), some bytes, some zs => n = m ∧ 0 ≤ n ∧ n ≤ 9223372036854775807 ∧ n * bytes ≤ 281474976710656 ∧ zs.length = sz ∧ sz ≠ 0 ∧
  ∀ b, st b = none → K (.mslice b 0 n.toNat sz) (st.upd b (.cells (madeAV zs n.toNat)))
 | _, _, _, _, _ => False
theorem makeSlice_took {t : TypeId} {a : Act} {φ : AF} {o : Oper} {x y : Operand} {K : AV → zy7 → Prop} (ho : o.op = .makeSlice t x y) (F : FRel w.heap st a.tmps φ) (S : SRel w.heap st) (e : aMakeSlice P t st (φ.eval x) (φ.eval y) K) :
 ∃ v w', (execOp a.eval o).run P w = .ok (.value v) w' ∧ Took st w K v w' := by
 have hx := VRel.eval F x
 have hy := VRel.eval F y
 unfold aMakeSlice at e
 split at e
 case h_2 => cases e
 rename_i n m ag sz bytes zs ex ey hI hB hZ
 obtain ⟨rfl, h0, hmx, hby, hzl, hsz, hK⟩ := e
 rw [ex] at hx
 rw [ey] at hy
 obtain ⟨el, hu, hT⟩ := eI_run hI
 obtain ⟨_, r2, d, i, _, hi, hisz, _⟩ := tI_run hT w
 have hbi : i.bytes = bytes := by simp only [eB, hu, hi, Option.map_some, Option.some.injEq] at hB; exact hB
 have hzs : zI P el = some zs := by simpa [eZ, hu] using hZ
 obtain ⟨z, z1, z2⟩ := zI_run hzs w.heap st w
 have hzc : z.cells.size = sz := by have := z2.length; simp at this; omega
 have hwrap : IntKind.i64.wrap n = n := IntWalk.i64_in n (by omega)
 have hnot : (decide (n < 0) || decide ((bytes : Int) * n > 2 ^ 48)) = false := by
  have h1 : ¬ n < 0 := by omega
  have h2 : ¬ ((bytes : Int) * n > 2 ^ 48) := by rw [Int.mul_comm]; omega
  simp only [h1, h2, decide_false, Bool.or_self]
 obtain ⟨k, rfl⟩ := Int.eq_ofNat_of_zero_le h0
 have hc' := VCs.made z2 k
 generalize hcc : (Array.range (k * z.cells.size)).map (fun i => z.cells[i % z.cells.size]!) = c at hc'
 have hcs : c.size = k * sz := by rw [← hcc]; simp [hzc]
 have run : (execOp a.eval o).run P w = .ok (.value (.slice (some ⟨w.heap.size, 0, none⟩) k k)) (w.alloc (.cells c el)) := by
  simp only [execOp, ho, Instr.makeSlice, Sem.run_bind, run_underlying' hu, Result.andThen_ok, hx.int_of, hy.int_of, asInt, asIntOf, Sem.run_pure, typeInfo, run_program, hi, hwrap, hbi, hnot, Bool.false_or]
  have h1 : (decide ((k : Int) < 0) || decide ((k : Int) > (k : Int))) = false := by simp
  rw [if_neg (by rw [h1]; simp)]
  simp only [Sem.run_bind, run_askRoom, Result.andThen_ok, Int.toNat_natCast, r2]
  by_cases hk : k * sz = 0
  · have hk0 : k = 0 := by rcases Nat.mul_eq_zero.1 hk with h | h; exact h; exact absurd h hsz
    subst hk0
    rw [if_pos hk]
    have : c = #[] := by apply Array.eq_empty_of_size_eq_zero; omega
    subst this
    simp [newRow, Array.range]
    congr 2
    exact Array.eq_empty_of_size_eq_zero (by simp)
  · rw [if_neg hk]
    simp only [Sem.run_bind, z1, Result.andThen_ok, Sem.run_pure]
    rw [show (Array.range (k * sz)).map (fun i => z.cells[i % z.cells.size]!) = c by rw [← hcc, hzc]]
    simp [newRow]
 refine ⟨_, _, run, alloc_took S (p := .cells (madeAV zs k)) (r := .mslice w.heap.size 0 k sz) ⟨rfl, k, rfl, Nat.le_refl _, by unfold maxLen; omega, c, el, by simp, by rw [hcs]; omega⟩
  ⟨c, el, by simp, by simp [madeAV, hcs, hzl], c.toList, cellsAt_push w.heap _ el (0, 0) _ 0 rfl, VCs.mono (StepH.of_alloc w.heap st _ _) _ _ hc'⟩ (by simpa using hK _ S.fresh)⟩
def mapSet (f : Int → Option AV) (n : Int) (x : Option AV) : Int → Option AV := fun m => if m = n then x else f m
def aMapUpdate (P : Program) (t : TypeId) (st : zy7) (m k v : AV) (K : AV → zy7 → Prop) : Prop :=
 match m, k, P.underlying t with
 | .map b, .int .i64 n, some (.map kt _) => match st b, P.underlying kt with
  | some (.map f), some (.int .i64) => v.isJunk = false ∧ K .undef (st.upd b (.map (mapSet f n (some v))))
  | _, _ => False
 | _, _, _ => False
theorem setObj_run {b : Nat} {es es' : Array MapEntry} {cl cl' : Nat} (h : w.heap[b]? = some (.map es cl)) : (setObj b (.map es' cl')).run P w = .ok () { w with heap := w.heap.setIfInBounds b (.map es' cl') } := by
 simp only [setObj, Sem.run, h]
theorem map_write {b : Nat} {es es' : Array MapEntry} {cl cl' : Nat} {f : Int → Option AV} {o : AO} {K : AV → zy7 → Prop} (S : SRel w.heap st) (hb : w.heap[b]? = some (.map es cl)) (hs : st b = some (.map f))
 (ho : ∀ h' st', StepH w.heap st h' st' → h'[b]? = some (.map es' cl') → ORel h' st' b o) (hK : K .undef (st.upd b o)) : Took st w K undef { w with heap := w.heap.setIfInBounds b (.map es' cl') } := by
 have hlt : b < w.heap.size := (S b _ hs).1
 have hblk : (w.heap.setIfInBounds b (.map es' cl'))[b]? = some (.map es' cl') := by simp [hlt]
 have hoth : ∀ y, y < w.heap.size → y ≠ b → (w.heap.setIfInBounds b (.map es' cl'))[y]? = w.heap[y]? := fun y _ hne => Array.getElem?_setIfInBounds_ne (Ne.symm hne)
 have T : StepH w.heap st (w.heap.setIfInBounds b (.map es' cl')) (st.upd b o) := StepH.of_write (by rw [hs]; simp) (by simp) hoth fun c t fr e => by rw [hb] at e; cases e
 exact ⟨.undef, st.upd b o, ⟨rfl, rfl⟩, S.of_write T (by simpa using hlt) hoth (ho _ _ T hblk), T, ⟨rfl, rfl, rfl⟩, hK⟩
theorem mapUpdate_took {t : TypeId} {a : Act} {φ : AF} {o : Oper} {m k x : Operand} {K : AV → zy7 → Prop} (ho : o.op = .mapUpdate t m k x) (F : FRel w.heap st a.tmps φ) (S : SRel w.heap st) (e : aMapUpdate P t st (φ.eval m) (φ.eval k) (φ.eval x) K) :
 ∃ w', (execOp a.eval o).run P w = .ok .skip w' ∧ Took st w K undef w' := by
 have hm := VRel.eval F m
 have hk := VRel.eval F k
 have hx := VRel.eval F x
 unfold aMapUpdate at e
 split at e
 case h_2 => cases e
 rename_i b n kt el em ek hu
 split at e
 case h_2 => cases e
 rename_i f hs hkt
 obtain ⟨hj, hK⟩ := e
 rw [em] at hm
 rw [ek] at hk
 obtain ⟨_, es, cl, hb, hk1, hk2, hk3⟩ := S b _ hs
 rcases findNow_int n es.toList 0 hk1 with ⟨j, e', h1, h2, h3⟩ | ⟨h1, h3⟩
 · -- there is such an entry
   have hjlt : j < es.size := by have := (List.getElem?_eq_some_iff.1 h1).1; simpa using this
   have hej : es[j]? = some e' := by simpa using h1
   have run : (execOp a.eval o).run P w = .ok .skip { w with heap := w.heap.setIfInBounds b (.map (es.modify j fun e => { e with key := .int .i64 n, val := a.eval x }) cl) } := by
    simp only [execOp, ho, Instr.mapUpdate, Sem.run_bind, run_underlying' hu, Result.andThen_ok, hm.map_of, hk.int_of, getObj_run hb, checkKey_int hkt, Instr.findKey, run_underlying' hkt, h3, Sem.run_pure, Nat.zero_add, hej, Option.map_some, Option.getD_some, h2]
    have hsb : Instr.sameBits 10000 (.int .i64 n) (.int .i64 n) = true := by simp [Instr.sameBits]
    simp only [Instr.keyThatStays, hsb, if_true, Sem.run_pure, Result.andThen_ok, setObj_run hb]
   refine ⟨_, run, map_write (o := .map (mapSet f n (some (φ.eval x)))) S hb hs (fun h' st' T hb' => ⟨_, cl, hb', ?_, ?_, fun q => ?_⟩) hK⟩
   · intro e he
     rw [Array.mem_toList_iff, Array.mem_iff_getElem?] at he
     obtain ⟨i, hi⟩ := he
     rw [Array.getElem?_modify] at hi
     split at hi
     · cases hee : es[i]? with
       | none => rw [hee] at hi; cases hi
       | some e0 => rw [hee] at hi; cases hi; exact ⟨n, rfl⟩
     · exact hk1 e (Array.mem_toList_iff.2 (Array.mem_of_getElem? hi))
   · have : (es.modify j fun e => { e with key := Value.int .i64 n, val := a.eval x }).toList.map (·.key) = es.toList.map (·.key) := by
      apply List.ext_getElem?
      intro i
      simp only [List.getElem?_map, Array.getElem?_toList, Array.getElem?_modify]
      split
      · rename_i hij; subst hij; simp [hej, h2]
      · rfl
     rw [this]; exact hk2
   · have hq := hk3 q
     unfold mapSet
     by_cases hqn : q = n
     · subst hqn
       simp only [if_true]
       refine ⟨{ e' with key := .int .i64 q, val := a.eval x }, ?_, rfl, hx.mono T⟩
       rw [Array.mem_toList_iff, Array.mem_iff_getElem?]
       exact ⟨j, by rw [Array.getElem?_modify, if_pos rfl, hej]; rfl⟩
     · simp only [hqn, if_false]
       split
       · rename_i v hf
         rw [hf] at hq
         obtain ⟨e0, he0, hk0, hv0⟩ := hq
         refine ⟨e0, ?_, hk0, hv0.mono T⟩
         rw [Array.mem_toList_iff, Array.mem_iff_getElem?] at he0 ⊢
         obtain ⟨i, hi⟩ := he0
         refine ⟨i, ?_⟩
         rw [Array.getElem?_modify, if_neg, hi]
         rintro rfl
         rw [hej] at hi; cases hi
         rw [h2] at hk0; cases hk0; exact hqn rfl
       · rename_i hf
         rw [hf] at hq
         intro e he
         rw [Array.mem_toList_iff, Array.mem_iff_getElem?] at he
         obtain ⟨i, hi⟩ := he
         rw [Array.getElem?_modify] at hi
         split at hi
         · cases hee : es[i]? with
           | none => rw [hee] at hi; cases hi
           | some e0 => rw [hee] at hi; cases hi; simpa using fun q' => hqn q'.symm
         · exact hq e (Array.mem_toList_iff.2 (Array.mem_of_getElem? hi))
 · -- a new entry
   have run : (execOp a.eval o).run P w = .ok .skip { w with heap := w.heap.setIfInBounds b (.map (es.push { key := .int .i64 n, val := a.eval x, born := cl }) (cl + 1)) } := by
    simp only [execOp, ho, Instr.mapUpdate, Sem.run_bind, run_underlying' hu, Result.andThen_ok, hm.map_of, hk.int_of, getObj_run hb, checkKey_int hkt, Instr.findKey, run_underlying' hkt, h3, Sem.run_pure, setObj_run hb]
   refine ⟨_, run, map_write (o := .map (mapSet f n (some (φ.eval x)))) S hb hs (fun h' st' T hb' => ⟨_, cl + 1, hb', ?_, ?_, fun q => ?_⟩) hK⟩
   · intro e he
     simp at he
     rcases he with he | rfl
     · exact hk1 e (Array.mem_toList_iff.2 he)
     · exact ⟨n, rfl⟩
   · simp only [Array.toList_push, List.map_append, List.map_cons, List.map_nil]
     rw [List.nodup_append]
     refine ⟨hk2, by simp, ?_⟩
     intro p hp r hr
     simp at hr
     subst hr
     obtain ⟨e, he, rfl⟩ := List.mem_map.1 hp
     exact h1 e he
   · have hq := hk3 q
     unfold mapSet
     by_cases hqn : q = n
     · subst hqn
       simp only [if_true]
       exact ⟨_, by simp; exact .inr rfl, rfl, hx.mono T⟩
     · simp only [hqn, if_false]
       split
       · rename_i v hf
         rw [hf] at hq
         obtain ⟨e0, he0, hk0, hv0⟩ := hq
         exact ⟨e0, by simp; exact .inl (Array.mem_toList_iff.1 he0), hk0, hv0.mono T⟩
       · rename_i hf
         rw [hf] at hq
         intro e he
         simp at he
         rcases he with he | rfl
         · exact hq e (Array.mem_toList_iff.2 he)
         · simpa using fun q' => hqn q'.symm
def aDelete (P : Program) (t : TypeId) (st : zy7) (m k : AV) (K : AV → zy7 → Prop) : Prop :=
 match m, k, P.underlying t with
 | .map b, .int .i64 n, some (.map kt _) => match st b, P.underlying kt with
  | some (.map f), some (.int .i64) => K (.tup []) (st.upd b (.map (mapSet f n none)))
  | _, _ => False
 | _, _, _ => False
theorem map_write2 {b : Nat} {es es' : Array MapEntry} {cl cl' : Nat} {f : Int → Option AV} {o : AO} {K : AV → zy7 → Prop} (S : SRel w.heap st) (hb : w.heap[b]? = some (.map es cl)) (hs : st b = some (.map f))
 (ho : ∀ h' st', StepH w.heap st h' st' → h'[b]? = some (.map es' cl') → ORel h' st' b o) (hK : K (.tup []) (st.upd b o)) : Took st w K (.tuple #[]) { w with heap := w.heap.setIfInBounds b (.map es' cl') } := by
 have hlt : b < w.heap.size := (S b _ hs).1
 have hblk : (w.heap.setIfInBounds b (.map es' cl'))[b]? = some (.map es' cl') := by simp [hlt]
 have hoth : ∀ y, y < w.heap.size → y ≠ b → (w.heap.setIfInBounds b (.map es' cl'))[y]? = w.heap[y]? := fun y _ hne => Array.getElem?_setIfInBounds_ne (Ne.symm hne)
 have T : StepH w.heap st (w.heap.setIfInBounds b (.map es' cl')) (st.upd b o) := StepH.of_write (by rw [hs]; simp) (by simp) hoth fun c t fr e => by rw [hb] at e; cases e
 exact ⟨.tup [], st.upd b o, ⟨rfl, [], rfl, rfl⟩, S.of_write T (by simpa using hlt) hoth (ho _ _ T hblk), T, ⟨rfl, rfl, rfl⟩, hK⟩
theorem delete_took {t t' : TypeId} {a : Act} {φ : AF} {o : Oper} {m k : Operand} {K : AV → zy7 → Prop} (ho : o.op = .call { callee := .builtin .delete, args := #[m, k], argTypes := #[t, t'] }) (F : FRel w.heap st a.tmps φ) (S : SRel w.heap st) (e : aDelete P t st (φ.eval m) (φ.eval k) K) :
 ∃ v w', (execOp a.eval o).run P w = .ok (.value v) w' ∧ Took st w K v w' := by
 have hm := VRel.eval F m
 have hk := VRel.eval F k
 unfold aDelete at e
 split at e
 case h_2 => cases e
 rename_i b n kt el em ek hu
 split at e
 case h_2 => cases e
 rename_i f hs hkt
 rw [em] at hm
 rw [ek] at hk
 obtain ⟨_, es, cl, hb, hk1, hk2, hk3⟩ := S b _ hs
 rcases findNow_int n es.toList 0 hk1 with ⟨j, e', h1, h2, h3⟩ | ⟨h1, h3⟩
 · have hjlt : j < es.size := by have := (List.getElem?_eq_some_iff.1 h1).1; simpa using this
   have hsub : (es.eraseIdxIfInBounds j).toList = es.toList.eraseIdx j := by
    unfold Array.eraseIdxIfInBounds
    rw [dif_pos hjlt]
    simp
   have run : (execOp a.eval o).run P w = .ok (.value (.tuple #[])) { w with heap := w.heap.setIfInBounds b (.map (es.eraseIdxIfInBounds j) cl) } := by
    simp only [execOp, ho, resolve, Sem.run_bind, Sem.run_pure, Result.andThen_ok, invoke, builtin]
    simp [Builtin.delete_, run_underlying' hu, hm.map_of, hk.int_of, getObj_run hb, checkKey_int hkt, Instr.findKey, run_underlying' hkt, h3, setObj_run hb, Result.andThen]
   have hmem : ∀ x ∈ (es.eraseIdxIfInBounds j).toList, x ∈ es.toList := fun x hx => by rw [hsub] at hx; exact (List.eraseIdx_sublist _ _).subset hx
   have hgone : ∀ x ∈ (es.eraseIdxIfInBounds j).toList, x.key ≠ .int .i64 n := fun x hx hxn => by
    rw [hsub] at hx
    obtain ⟨i, hi⟩ := List.getElem?_of_mem hx
    rw [List.getElem?_eraseIdx] at hi
    have key : ∀ i', i' ≠ j → es.toList[i']? = some x → False := fun i' hne hx' => by
     have ha : (es.toList.map (·.key))[i']? = some (.int .i64 n) := by rw [List.getElem?_map, hx']; simp [hxn]
     have hb' : (es.toList.map (·.key))[j]? = some (.int .i64 n) := by rw [List.getElem?_map, h1]; simp [h2]
     have hlt : i' < (es.toList.map (·.key)).length := (List.getElem?_eq_some_iff.1 ha).1
     exact hne ((List.getElem?_inj hlt hk2).1 (ha.trans hb'.symm))
    split at hi
    · exact key i (by omega) hi
    · exact key (i + 1) (by omega) hi
   refine ⟨_, _, run, map_write2 (o := .map (mapSet f n none)) S hb hs (fun h' st' T hb' => ⟨_, cl, hb', fun x hx => hk1 x (hmem x hx), ?_, fun q => ?_⟩) e⟩
   · rw [hsub]
     exact hk2.sublist ((List.eraseIdx_sublist _ _).map _)
   · have hq := hk3 q
     unfold mapSet
     by_cases hqn : q = n
     · subst hqn
       simp only [if_true]
       exact hgone
     · simp only [hqn, if_false]
       split
       · rename_i v hf
         rw [hf] at hq
         obtain ⟨e0, he0, hk0, hv0⟩ := hq
         refine ⟨e0, ?_, hk0, hv0.mono T⟩
         rw [hsub]
         obtain ⟨i, hi⟩ := List.getElem?_of_mem he0
         have hne : i ≠ j := by
          rintro rfl
          rw [h1] at hi; cases hi
          rw [h2] at hk0; cases hk0; exact hqn rfl
         rw [List.mem_iff_getElem?]
         rcases Nat.lt_or_ge i j with h | h
         · exact ⟨i, by rw [List.getElem?_eraseIdx, if_pos h]; exact hi⟩
         · exact ⟨i - 1, by rw [List.getElem?_eraseIdx, if_neg (by omega), show i - 1 + 1 = i by omega]; exact hi⟩
       · rename_i hf
         rw [hf] at hq
         exact fun x hx => hq x (hmem x hx)
 · have run : (execOp a.eval o).run P w = .ok (.value (.tuple #[])) { w with heap := w.heap.setIfInBounds b (.map es cl) } := by
    simp only [execOp, ho, resolve, Sem.run_bind, Sem.run_pure, Result.andThen_ok, invoke, builtin]
    simp [Builtin.delete_, run_underlying' hu, hm.map_of, hk.int_of, getObj_run hb, checkKey_int hkt, Instr.findKey, run_underlying' hkt, h3, setObj_run hb, Result.andThen]
   refine ⟨_, _, run, map_write2 (o := .map (mapSet f n none)) S hb hs (fun h' st' T hb' => ⟨_, cl, hb', hk1, hk2, fun q => ?_⟩) e⟩
   have hq := hk3 q
   unfold mapSet
   by_cases hqn : q = n
   · subst hqn
     simp only [if_true]
     exact h1
   · simp only [hqn, if_false]
     split
     · rename_i v hf
       rw [hf] at hq
       obtain ⟨e0, he0, hk0, hv0⟩ := hq
       exact ⟨e0, he0, hk0, hv0.mono T⟩
     · rename_i hf
       rw [hf] at hq
       exact hq
end
def aAppendZ (P : Program) (t t' : TypeId) (st : zy7) (s x : AV) (K : AV → zy7 → Prop) : Prop :=
 match eI P t, eB P t, eZ P t, P.underlying t', x with
 | some (_, sz), some bytes, some zs, some (.int _), .int .i64 k => zs.length = sz ∧ sz ≠ 0 ∧ zs.all AV.storable = true ∧ 0 ≤ k ∧
  match s with
  | .fslice es => es = [] ∧ k.toNat * bytes ≤ 140737488355328 ∧ k ≤ 9223372036854775807 ∧
   (k.toNat = 0 → K (.fslice []) st) ∧ (k.toNat ≠ 0 → ∀ b, st b = none → K (.mslice b 0 k.toNat sz) (st.upd b (.cells (madeAV zs k.toNat))))
  | .mslice b 0 len n => n = sz ∧ (len + k.toNat) * bytes ≤ 140737488355328 ∧ len + k.toNat ≤ 9223372036854775807 ∧
   (match st b with
    | some (.cells cs) => len * sz ≤ cs.length ∧ K (.mslice b 0 (len + k.toNat) sz) (st.upd b (.cells (cs.take (len * sz) ++ madeAV zs k.toNat))) ∧
     ∀ b', st b' = none → K (.mslice b' 0 (len + k.toNat) sz) ((st.erase b).upd b' (.cells (cs.take (len * sz) ++ madeAV zs k.toNat)))
    | _ => False)
  | _ => False
 | _, _, _, _, _ => False
theorem madeAV_length (zs : List AV) (n : Nat) : (madeAV zs n).length = n * zs.length := by simp [madeAV]
theorem zeroCells_nil {z : Array Value} : Builtin.zeroCells z 0 = #[] := by apply Array.eq_empty_of_size_eq_zero; simp [size_zeroCells]
theorem run_appendZ_room {P : Program} (w : World) (t tn ty e t' : TypeId) (i : TypeInfo) (z : Value) (kn : IntKind) (ht : P.underlying t = some (.slice e)) (htn : P.underlying tn = some (.int kn)) (hi : P.info? e = some i) (hz : i.zero = some z) (hzs : z.cells.size = i.size) (hs : 0 < i.size)
 (g sLen sCap : Nat) (cur : Array Value) (hg : w.heap[g]? = some (.cells cur t' (0, 0)))
 (n : Nat) (h1 : ∀ u ∈ (Builtin.zeroCells z.cells n).toList, u.oneCell' = true) (h63 : (n : Int) ≤ 9223372036854775807) (h48 : n * i.bytes ≤ 281474976710656)
 (hroom : sLen + n ≤ sCap) (hfit : sLen * i.size + n * i.size ≤ cur.size) :
 (Builtin.append_ #[t, tn] ty #[.slice (some ⟨g, 0, none⟩) sLen sCap, .int .i64 n]).run P w =
  .ok (.slice (some ⟨g, 0, none⟩) (sLen + n) sCap) (w.setRow g (cur.toList.take (sLen * i.size) ++ (Builtin.zeroCells z.cells n).toList ++ cur.toList.drop (sLen * i.size + n * i.size)).toArray) := by
 have hw : IntKind.i64.wrap (n : Int) = n := by rw [IntKind.wrap_i64]; omega
 have h48i : ¬ (281474976710656 < (n : Int) * (i.bytes : Int)) := by rw [← Int.natCast_mul]; omega
 have hneg : ¬ ((n : Int) < 0) := by omega
 have hzl : (Builtin.zeroCells z.cells n).toList.length = n * i.size := by simp [size_zeroCells, hzs]
 have hst := run_storeCells_at P g (sLen * i.size) t' (Builtin.zeroCells z.cells n).toList 0 cur w hg (by rw [hzl]; simpa using hfit) h1
 simp only [Nat.add_zero] at hst
 rw [hzl] at hst
 by_cases hn : n = 0
 · subst hn
   rw [zeroCells_nil] at hst ⊢
   have hroom' : sLen ≤ sCap := by simpa using hroom
   simp at hst
   simp [Builtin.append_, run_underlying ht, run_underlying htn, sizeOf, typeInfo, hi, asInt, asIntOf, IntKind.wrap_i64, hroom', Addr.add_lit, hst]
 · have hns : ¬ (n * i.size = 0) := Nat.mul_ne_zero hn (by omega)
   simp [Builtin.append_, run_underlying ht, run_underlying htn, sizeOf, typeInfo, zeroValue, hi, hz, asInt, asIntOf, hw, hneg, hns, h48i, hroom, Addr.add_lit, hst]
theorem run_appendZ_grow {P : Program} (w : World) (t tn ty e : TypeId) (i : TypeInfo) (z : Value) (kn : IntKind) (ht : P.underlying t = some (.slice e)) (htn : P.underlying tn = some (.int kn)) (hi : P.info? e = some i) (hz : i.zero = some z) (hs : 0 < i.size)
 (base : Option Addr) (sLen sCap : Nat) (olds : List Value) (hlo : olds.length = sLen * i.size) (hn0 : base = none → sLen = 0) (holds : ∀ b, base = some b → ∀ j v, olds[j]? = some v → w.cell? (b.add j) = some v)
 (n : Nat) (hg : sCap < sLen + n) (h0 : 0 < n) (h63 : ((sLen + n : Nat) : Int) ≤ 9223372036854775807) (h48 : n * i.bytes ≤ 281474976710656) (hfit : Builtin.nextslicecap (sLen + n) sCap * i.bytes ≤ 281474976710656) :
 (Builtin.append_ #[t, tn] ty #[.slice base sLen sCap, .int .i64 n]).run P w =
  .ok (.slice (some ⟨w.heap.size, 0, none⟩) (sLen + n) (grownCap w (sLen + n) sCap e))
   (w.drew.alloc (.cells ((olds ++ (Builtin.zeroCells z.cells n).toList).toArray ++ Builtin.zeroCells z.cells (grownCap w (sLen + n) sCap e - (sLen + n))) e)) := by
 have hw : IntKind.i64.wrap (n : Int) = n := by rw [IntKind.wrap_i64]; omega
 have h48i : ¬ (281474976710656 < (n : Int) * (i.bytes : Int)) := by rw [← Int.natCast_mul]; omega
 have hneg : ¬ ((n : Int) < 0) := by omega
 have hns : ¬ (n * i.size = 0) := Nat.mul_ne_zero (by omega) (by omega)
 have hn : ¬ (sLen + n ≤ sCap) := by omega
 have h63' : ¬ (9223372036854775807 < ((sLen : Int) + (n : Int))) := by omega
 have h48' : ¬ (281474976710656 < Builtin.nextslicecap (sLen + n) sCap * i.bytes) := by omega
 have hfo : (Builtin.firstCells i.size sLen (.slice base sLen sCap)).run P w.drew = .ok olds.toArray w.drew := by
  cases base with
  | none =>
   have := hn0 rfl
   subst this
   have : olds = [] := List.eq_nil_of_length_eq_zero (by simpa using hlo)
   subst this
   exact run_firstCells_none ..
  | some b => exact run_firstCells_some (P := P) w.drew i.size sLen b sLen sCap olds hlo (by simpa using holds b rfl)
 simp [Builtin.append_, run_underlying ht, run_underlying htn, sizeOf, typeInfo, zeroValue, hi, hz, asInt, asIntOf, hw, hneg, hns, h48i, hn, h63', h48', Question.forced, hfo, newRow, grownCap]
 congr 2
 apply Array.ext'
 simp [List.append_assoc]
section
variable {P : Program} {st : zy7} {w : World}
theorem appZ_run {o : Oper} {a : Act} {t t' : TypeId} {s x : Operand} {w w' : World} {v : Value} (ho : o.op = .call { callee := .builtin .append, args := #[s, x], argTypes := #[t, t'] })
 (h : (Builtin.append_ #[t, t'] o.type #[a.eval s, a.eval x]).run P w = .ok v w') : (execOp a.eval o).run P w = .ok (.value v) w' := by
 simp only [execOp, ho, resolve, Sem.run_bind, Sem.run_pure, Result.andThen_ok, invoke, builtin]
 simp [h]
theorem appendZ_took {o : Oper} {a : Act} {φ : AF} {t t' : TypeId} {s x : Operand} {K : AV → zy7 → Prop} (ho : o.op = .call { callee := .builtin .append, args := #[s, x], argTypes := #[t, t'] }) (F : FRel w.heap st a.tmps φ) (S : SRel w.heap st)
 (e : aAppendZ P t t' st (φ.eval s) (φ.eval x) K) : ∃ v w', (execOp a.eval o).run P w = .ok (.value v) w' ∧ Took st w K v w' := by
 unfold aAppendZ at e
 split at e
 case h_2 => cases e
 rename_i ag sz bytes zs kn k hI hB hZ hT' hX
 obtain ⟨hzl, hsz, hst, hk0, e⟩ := e
 obtain ⟨n, rfl⟩ := Int.eq_ofNat_of_zero_le hk0
 simp only [Int.toNat_natCast] at e
 obtain ⟨el, hu, hT⟩ := eI_run hI
 obtain ⟨_, _, d, i, _, hi, hisz, _⟩ := tI_run hT w
 have hby : i.bytes = bytes := by simp only [eB, hu, hi, Option.map_some, Option.some.injEq] at hB; exact hB
 obtain ⟨z, hz0, hzv⟩ : ∃ z, i.zero = some z ∧ VCs w.heap st zs z.cells.toList := by
  simp only [eZ, hu] at hZ
  simp only [zI, hi] at hZ
  cases hz : i.zero with
  | none => simp [hz] at hZ
  | some z => simp only [hz, Option.some.injEq] at hZ; subst hZ; exact ⟨z, rfl, VCs.consts _ _ _⟩
 have hzc : z.cells.size = sz := by have := hzv.length; simp at this; omega
 have hxv : a.eval x = .int .i64 n := by
  have y := VRel.eval F x
  rw [hX] at y
  exact y.int_of
 have hs := VRel.eval F s
 have hnv : VCs w.heap st (madeAV zs n) (Builtin.zeroCells z.cells n).toList := hzv.made n
 have hml := madeAV_length zs n
 split at e
 · rename_i es hes
   rw [hes] at hs
   obtain ⟨rfl, hb1, hb2, hnil, hcons⟩ := e
   obtain ⟨base, hv⟩ : ∃ base, a.eval s = .slice base 0 0 := by
    rcases hs.fslice_of with ⟨⟨p0, hv⟩, _⟩ | ⟨b, off, hv, _⟩
    · exact ⟨p0, hv⟩
    · exact ⟨_, hv⟩
   by_cases hn : n = 0
   · subst hn
     refine ⟨a.eval s, w, appZ_run ho ?_, .fslice [], st, hs, S, StepH.refl _ _, Same.refl _, hnil rfl⟩
     rw [hv, hxv]
     cases base <;> simp [Builtin.append_, run_underlying hu, run_underlying hT', sizeOf, typeInfo, hi, asInt, asIntOf, IntKind.wrap_i64, storeCells]
   · have hr := run_appendZ_grow (P := P) w t t' o.type el i z kn hu hT' hi hz0 (by omega) base 0 0 [] (by simp) (fun _ => rfl) (by simp) n (by omega) (by omega) (by omega) (by rw [hby]; omega)
      (growslice_fits (by omega) (by rw [hby]; simpa using hb1))
     have hN := app_new (w := w) (st := st) (e := el) (need := n) (cap := grownCap w (0 + n) 0 el) S hzv hzl hnv (by rw [hml, hzl]) (by have := grownCap_ge w (0 + n) 0 el; omega) (grownCap_le_maxLen _ _ _ _ (by unfold maxLen; omega)) st (fun _ _ h => h)
     simp only [List.nil_append, Nat.zero_add] at hr
     rw [Nat.zero_add] at hN
     exact ⟨_, _, appZ_run ho (by rw [hv, hxv]; exact hr), .mslice w.heap.size 0 n sz, _, hN.1, hN.2.1, hN.2.2, ⟨rfl, rfl, rfl⟩, hcons hn w.heap.size S.fresh⟩
 · rename_i b len m hes
   rw [hes] at hs
   obtain ⟨rfl, hb1, hb2, e⟩ := e
   split at e
   case h_2 => cases e
   rename_i cs hcs
   obtain ⟨hlen, hin, hout⟩ := e
   obtain ⟨cap, hv, l1, l2, c, ty', hblk, l3⟩ := hs.mslice_of
   obtain ⟨hlt, c', ty, hb', hl, vs, x1, x2⟩ := S b _ hcs
   rw [hblk] at hb'; cases hb'
   have hvl := x2.length
   have h48 : n * i.bytes ≤ 281474976710656 := by
    have : n * bytes ≤ (len + n) * bytes := Nat.mul_le_mul_right _ (by omega)
    rw [hby]; omega
   have hzcl : (Builtin.zeroCells z.cells n).toList.length = n * m := by simp [size_zeroCells, hzc]
   by_cases hroom : len + n ≤ cap
   · have hfitc : len * m + n * m ≤ c.size := by
      rw [← Nat.add_mul]
      have := Nat.mul_le_mul_right m hroom
      omega
     have hr := run_appendZ_room (P := P) w t t' o.type el ty' i z kn hu hT' hi hz0 (by omega) (by omega) b len cap c hblk n (hnv.oneCell (by
      simp only [madeAV, List.all_map, List.all_eq_true]
      intro j hj
      simp only [List.mem_range] at hj
      have hp : 0 < zs.length := by omega
      have hm := Nat.mod_lt j hp
      simp only [Function.comp, List.getD_eq_getElem?_getD, List.getElem?_eq_getElem hm, Option.getD_some]
      exact List.all_eq_true.1 hst _ (List.getElem_mem hm))) (by omega) h48 hroom (by rw [hisz]; exact hfitc)
     rw [hisz] at hr
     generalize hc2 : (c.toList.take (len * m) ++ (Builtin.zeroCells z.cells n).toList ++ c.toList.drop (len * m + n * m)).toArray = c2 at hr
     have hsz2 : c2.size = c.size := by rw [← hc2]; simp [size_zeroCells, hzc]; omega
     have htk : c2.toList.take (len * m + n * m) = vs.take (len * m) ++ (Builtin.zeroCells z.cells n).toList := by
      have htake := cellsAt_take_eq hblk x1
      simp only [List.drop_zero] at htake
      rw [← htake, List.take_take, Nat.min_eq_left (by omega)]
      have hA : (c.toList.take (len * m) ++ (Builtin.zeroCells z.cells n).toList).length = len * m + n * m := by rw [List.length_append, hzcl]; simp; omega
      rw [← hc2]
      show List.take _ (_ ++ _ ++ _) = _
      rw [List.take_append_of_le_length (by rw [hA]; omega), List.take_of_length_le (by rw [hA]; omega)]
     have hblk2 : (w.setRow b c2).heap[b]? = some (.cells c2 ty' (0, 0)) := setRow_heap w b c c2 ty' (0, 0) hblk
     have hoth : ∀ y, y < w.heap.size → y ≠ b → (w.setRow b c2).heap[y]? = w.heap[y]? := fun y _ hne => setRow_other w b y c2 hne
     have T : StepH w.heap st (w.setRow b c2).heap (st.upd b (.cells (cs.take (len * m) ++ madeAV zs n))) := by
      refine StepH.of_write (by rw [hcs]; simp) (by simp) hoth fun c1 t1 fr1 e1 => ?_
      rw [hblk] at e1; cases e1
      exact ⟨c2, hblk2, hsz2⟩
     have hal : (cs.take (len * m) ++ madeAV zs n).length = len * m + n * m := by
      rw [List.length_append, List.length_take, hml, hzl, Nat.min_eq_left hlen]
     refine ⟨_, _, appZ_run ho (by rw [hv, hxv]; exact hr), .mslice b 0 (len + n) m, _, ⟨rfl, cap, rfl, hroom, l2, c2, ty', hblk2, by rw [hsz2]; exact l3⟩, S.of_write T (by simpa using hlt) hoth ⟨c2, ty', hblk2, by rw [hal, hsz2]; exact hfitc, (c2.toList.drop 0).take (len * m + n * m), cellsAt_of_take hblk2 _ 0 (by rw [hsz2]; omega), ?_⟩, T, ⟨rfl, rfl, rfl⟩, hin⟩
     rw [List.drop_zero, htk]
     exact VCs.mono T _ _ ((x2.take (len * m)).append hnv)
   · have hlv : (vs.take (len * m)).length = len * i.size := by rw [hisz, List.length_take, hvl, Nat.min_eq_left hlen]
     have hr := run_appendZ_grow (P := P) w t t' o.type el i z kn hu hT' hi hz0 (by omega) (some ⟨b, 0, none⟩) len cap (vs.take (len * m)) hlv (by simp) (fun a0 ha0 j u hj => by
      cases ha0
      rw [Addr.add_flat, cell?_cellAt]; exact (x1.take (len * m)).get j hj) n (by omega) (by omega) (by omega) h48
      (growslice_fits (by omega) (by rw [hby]; exact hb1))
     have hN := app_new (w := w) (st := st) (e := el) (need := len + n) (cap := grownCap w (len + n) cap el) S hzv hzl ((x2.take (len * m)).append hnv)
      (by rw [List.length_append, List.length_take, Nat.min_eq_left hlen, hml, hzl, Nat.add_mul]) (grownCap_ge ..) (grownCap_le_maxLen _ _ _ _ (by unfold maxLen; omega)) (st.erase b)
      (fun y o h => by unfold zy7.erase at h; split at h; cases h; exact h)
     exact ⟨_, _, appZ_run ho (by rw [hv, hxv]; exact hr), .mslice w.heap.size 0 (len + n) m, _, hN.1, hN.2.1, hN.2.2, ⟨rfl, rfl, rfl⟩, hout w.heap.size S.fresh⟩
 · cases e
end
def zy2 (mt : List Nat) : Option Tmp → Bool
 | some d => mt.contains d
 | none => false
def aStep (P : Program) (mt : List Nat) (φ : AF) (st : zy7) (o : Oper) (K : AV → zy7 → Prop) : Prop :=
 match o.op with
 | .call { callee := .value f, args, .. } => match φ.eval f with
  | .func g caps => zq7 P g (args.toList.map φ.eval ++ caps) st K
  | _ => False
 | .call { callee := .builtin .append, args, argTypes } => match args.toList, argTypes.toList with
  | [s, x], [t, t'] => if t = t' then aAppend P t st (φ.eval s) (φ.eval x) K else aAppendZ P t t' st (φ.eval s) (φ.eval x) K
  | _, _ => False
 | .call { callee := .builtin .delete, args, argTypes } => match args.toList, argTypes.toList with
  | [m, k], [t, _] => aDelete P t st (φ.eval m) (φ.eval k) K
  | _, _ => False
 | .box t x => if zy2 mt o.dst = true then
  (φ.eval x).isJunk = false ∧ ∀ b, st b = none → K (.ptr b 0) (st.upd b (.cells (φ.eval x).cells))
  else match zq3 P t (φ.eval x) with | some r => K r st | none => False
 | .alloc t => match zI P t with
  | some zs => ∀ b, st b = none → K (.ptr b 0) (st.upd b (.cells zs))
  | none => False
 | .store t p x => match φ.eval p with
  | .ptr b q => match st b, tI P t with
   | some (.cells cs), some (_, sz) => (φ.eval x).cells.length = sz ∧ q + sz ≤ cs.length ∧ (φ.eval x).cells.all AV.storable = true ∧ K .undef (st.upd b (.cells (zy4 cs q (φ.eval x).cells)))
   | _, _ => False
  | _ => False
 | .makeMap _ none => ∀ b, st b = none → K (.map b) (st.upd b (.map fun _ => none))
 | .makeSlice t n c => aMakeSlice P t st (φ.eval n) (φ.eval c) K
 | .mapUpdate t m k x => aMapUpdate P t st (φ.eval m) (φ.eval k) (φ.eval x) K
 | _ => match aVal P φ st o with | some r => K r st | none => False
theorem Took.of_yld {st : zy7} {w : World} {r : AV} {x : Result Next} {K : AV → zy7 → Prop} (y : Yld st w r x) (S : SRel w.heap st) (k : K r st) : ∃ v w', x = .ok (.value v) w' ∧ Took st w K v w' := by
 obtain ⟨v, w', e, hv, E, hS⟩ := y
 exact ⟨v, w', e, r, st, hv, S.ext E, E.step st, hS, k⟩
theorem callFunc_run {P : Program} {g : FuncId} (h : Enters P g) (args : Array Value) (w : World) : (callFunc g args).run P w = .ok (.enter g args) w := by
 obtain ⟨fn, h1, h2, h3⟩ := h
 have hb : fn.body.isNone = false := by cases hb : fn.body <;> simp_all
 simp only [callFunc, Sem.run_bind, run_program, Result.andThen_ok, h1, h3, hb, Bool.false_eq_true, if_false, Sem.run_pure]
theorem aStep_ok {P : Program} {mt : List Nat} {st : zy7} {w : World} {a : Act} {φ : AF} {o : Oper} {K : AV → zy7 → Prop} {next : Act → World → Prop} {Q : Exit → Act → World → Prop} (F : FRel w.heap st a.tmps φ) (S : SRel w.heap st)
 (e : aStep P mt φ st o K) (hn : ∀ v w', Took st w K v w' → next (a.put o.dst v) w') : o.wp P a w next Q := by
 have val : (∃ v w', (execOp a.eval o).run P w = .ok (.value v) w' ∧ Took st w K v w') → o.wp P a w next Q := by
  rintro ⟨v, w', h1, h2⟩
  simp only [Oper.wp, h1, Oper.upon]
  exact hn v w' h2
 have skp : (∃ w', (execOp a.eval o).run P w = .ok .skip w' ∧ Took st w K Go.undef w') → o.wp P a w next Q := by
  rintro ⟨w', h1, h2⟩
  simp only [Oper.wp, h1, Oper.upon]
  exact hn _ w' h2
 unfold aStep at e
 split at e
 case h_1 f args ats ho =>
  split at e
  case h_2 => cases e
  rename_i g caps hf
  have yf := VRel.eval F f
  rw [hf] at yf
  obtain ⟨cvs, hv, hc⟩ := yf.func_of
  obtain ⟨hE, hcall⟩ := e
  have hargs := (VRelL.eval F args.toList).append (VRelL.of_VTs hc)
  have hrun : (execOp a.eval o).run P w = .ok (.enter g (args.toList.map a.eval ++ cvs).toArray) w := by
   have : #[] ++ Array.map a.eval args ++ cvs.toArray = (args.toList.map a.eval ++ cvs).toArray := by apply Array.ext'; simp
   simp only [execOp, ho, resolve, hv, Deferred.ofValue, Sem.run_bind, Sem.run_pure, Result.andThen_ok, invoke, this, callFunc_run hE]
  simp only [Oper.wp, hrun, Oper.upon]
  refine (hcall w _ S hargs).mono ?_
  rintro e' w' ⟨v, r, st', rfl, x1, x2, x3, x4, x5⟩
  exact hn v w' ⟨r, st', x1, x2, x3, x4, x5⟩
 case h_2 args ats ho =>
  split at e
  case h_2 => cases e
  rename_i s x t t' hx ht
  obtain rfl : args = #[s, x] := by rw [← Array.toArray_toList (xs := args), hx]
  obtain rfl : ats = #[t, t'] := by rw [← Array.toArray_toList (xs := ats), ht]
  split at e
  · rename_i htt; subst htt
    exact val (append_took ho F S e)
  · exact val (appendZ_took ho F S e)
 case h_3 args ats ho =>
  split at e
  case h_2 => cases e
  rename_i m k t t' hx ht
  obtain rfl : args = #[m, k] := by rw [← Array.toArray_toList (xs := args), hx]
  obtain rfl : ats = #[t, t'] := by rw [← Array.toArray_toList (xs := ats), ht]
  exact val (delete_took ho F S e)
 case h_4 t x ho =>
  split at e
  · obtain ⟨hj, hK⟩ := e
    have y := VRel.eval F x
    exact val ⟨_, _, by simp [execOp, ho, Instr.box, newVar, newRow], newVar_took (t := t) S (y.cells (by rintro h; rw [h] at hj; simp [AV.isJunk] at hj)) hK⟩
  · split at e
    · rename_i r hr; exact val (Took.of_yld (box_ok ho F S hr) S e)
    · cases e
 case h_5 t ho =>
  split at e
  case h_2 => cases e
  rename_i zs hz
  obtain ⟨z, z1, z2⟩ := zI_run (P := P) hz w.heap st w
  exact val ⟨_, _, by simp [execOp, ho, Instr.alloc, newVar, newRow, z1], newVar_took (t := t) S z2 e⟩
 case h_6 t p x ho =>
  split at e
  case h_2 => cases e
  rename_i b q hp
  split at e
  case h_2 => cases e
  rename_i cs ag sz hs hT
  obtain ⟨e1, e2, e3, hK⟩ := e
  have yp := VRel.eval F p
  rw [hp] at yp
  obtain ⟨w', r1, r2, r3, r4⟩ := store_took S hT hs (VRel.eval F x) e1 e2 e3
  exact skp ⟨w', by simp [execOp, ho, yp.ptr_of, r1], .undef, _, ⟨rfl, rfl⟩, r2, r3, r4, hK⟩
 case h_7 t ho => exact val (makeMap_took ho S e)
 case h_8 t n c ho => exact val (makeSlice_took ho F S e)
 case h_9 t m k x ho => exact skp (mapUpdate_took ho F S e)
 case h_10 =>
  split at e
  · rename_i r hr; exact val (Took.of_yld (aVal_ok F S hr) S e)
  · cases e
def aGuard (ops : Array Oper) (φ : AF) (o : Oper) : Option Bool :=
 match o.guard with
 | none => some true
 | some (j, want) => match (ops[j]?).bind (·.dst) with
  | none => some false
  | some d => match φ d with
   | .bool b => some (b == want)
   | .undef => some false
   | _ => none
structure Rel (N : Nat) (a : Act) (w : World) (φ : AF) (st : zy7) : Prop where
 size : a.tmps.size = N
 defers : a.defers = []
 frame : FRel w.heap st a.tmps φ
 store : SRel w.heap st
theorem aGuard_ok {N : Nat} {a : Act} {w : World} {φ : AF} {st : zy7} {ops : Array Oper} {o : Oper} {b : Bool} (R : Rel N a w φ st) (hN : ∀ (j d : Nat), (ops[j]?).bind (·.dst) = some d → d < N) (e : aGuard ops φ o = some b) : Region.wanted o (yielded ops a.tmps) = b := by
 unfold aGuard at e
 unfold Region.wanted
 split at e
 · rename_i hg; rw [hg]; exact Option.some.inj e
 · rename_i j want hg
   rw [hg]
   simp only
   split at e
   · rename_i hd
     cases e
     simp [yielded, hd]
   · rename_i d hd
     have hdn : d < a.tmps.size := by rw [R.size]; exact hN j d hd
     have y := R.frame d
     split at e
     · rename_i c hc
       rw [hc] at y
       have := y.bool_of
       simp [hdn] at this
       cases e
       simp [yielded, hd, hdn, this]
     · rename_i hc
       rw [hc] at y
       have := y.undef_of
       simp [hdn] at this
       cases e
       simp [yielded, hd, hdn, this, Go.undef]
     · cases e
def dstOk (N : Nat) (o : Oper) : Bool := match o.dst with | some d => decide (d < N) | none => true
theorem Rel.put {N : Nat} {a : Act} {w w' : World} {φ : AF} {st st' : zy7} {o : Oper} {r : AV} {v : Value} (R : Rel N a w φ st) (hd : dstOk N o = true) (T : StepH w.heap st w'.heap st') (S : SRel w'.heap st') (y : VRel w'.heap st' r v) :
 Rel N (a.put o.dst v) w' (φ.put o.dst r) st' := by
 unfold dstOk at hd
 cases ho : o.dst with
 | none => exact ⟨R.size, R.defers, R.frame.mono T, S⟩
 | some d =>
  rw [ho] at hd
  have hlt : d < a.tmps.size := by rw [R.size]; simpa using hd
  exact ⟨by simp [Act.put, R.size], R.defers, FRel.set (R.frame.mono T) hlt y, S⟩
def aOps (P : Program) (mt : List Nat) (ops : Array Oper) : List Oper → (AF → zy7 → Prop) → AF → zy7 → Prop
 | [], K, φ, st => K φ st
 | o :: rest, K, φ, st => match aGuard ops φ o with
  | some true => aStep P mt φ st o (fun r st' => aOps P mt ops rest K (φ.put o.dst r) st')
  | some false => aOps P mt ops rest K (φ.put o.dst .undef) st
  | none => False
def Lift (N : Nat) (w : World) (st : zy7) (Q : Exit → AF → zy7 → Prop) : Exit → Act → World → Prop :=
 fun e a' w' => ∃ φ' st', Rel N a' w' φ' st' ∧ StepH w.heap st w'.heap st' ∧ Same w w' ∧ Q e φ' st'
theorem aOps_ok {P : Program} {mt : List Nat} {ops : Array Oper} {N : Nat} (hN : ∀ (j d : Nat), (ops[j]?).bind (·.dst) = some d → d < N) {Q : Exit → Act → World → Prop} :
 ∀ (l : List Oper) (K : AF → zy7 → Prop) (φ : AF) (st : zy7) (a : Act) (w : World), (∀ o ∈ l, dstOk N o = true) → Rel N a w φ st → aOps P mt ops l K φ st →
  (∀ a' w' φ' st', Rel N a' w' φ' st' → StepH w.heap st w'.heap st' → Same w w' → K φ' st' → Q .normal a' w') → wpList P ops Q l a w
 | [], K, φ, st, a, w, _, R, e, h => h a w φ st R (StepH.refl _ _) (Same.refl _) e
 | o :: l, K, φ, st, a, w, hd, R, e, h => by
  have hdo := hd o (by simp)
  unfold aOps at e
  split at e
  · rename_i hg
    have hw := aGuard_ok R hN hg
    unfold wpList
    rw [if_pos hw]
    refine .inl (aStep_ok R.frame R.store e fun v w' ⟨r, st', x1, x2, x3, x4, x5⟩ => ?_)
    exact aOps_ok hN l K _ st' _ w' (fun o ho => hd o (by simp [ho])) (R.put hdo x3 x2 x1) x5
     fun a2 w2 φ2 st2 R2 T2 s2 k2 => h a2 w2 φ2 st2 R2 (x3.trans T2) (x4.trans s2) k2
  · rename_i hg
    have hw := aGuard_ok R hN hg
    unfold wpList
    rw [if_neg (by rw [hw]; simp)]
    exact aOps_ok hN l K _ st _ w (fun o ho => hd o (by simp [ho])) (R.put (r := .undef) hdo (StepH.refl _ _) R.store ⟨rfl, rfl⟩) e h
  · cases e
theorem aOps1_ok {P : Program} {mt : List Nat} {ops : Array Oper} {N : Nat} (hN : ∀ (j d : Nat), (ops[j]?).bind (·.dst) = some d → d < N) {Q : Exit → Act → World → Prop} {o : Oper} {l : List Oper} {K : AF → zy7 → Prop} {φ : AF} {st : zy7} {a : Act} {w : World}
 (hdo : dstOk N o = true) (R : Rel N a w φ st) (e : aOps P mt ops [o] K φ st)
 (h : ∀ a' w' φ' st', Rel N a' w' φ' st' → StepH w.heap st w'.heap st' → Same w w' → K φ' st' → wpList P ops Q l a' w') : wpList P ops Q (o :: l) a w := by
 unfold aOps at e
 split at e
 · rename_i hg
   have hw := aGuard_ok R hN hg
   unfold wpList
   rw [if_pos hw]
   refine .inl (aStep_ok R.frame R.store e fun v w' ⟨r, st', x1, x2, x3, x4, x5⟩ => ?_)
   exact h _ w' _ st' (R.put hdo x3 x2 x1) x3 x4 (by simpa only [aOps] using x5)
 · rename_i hg
   have hw := aGuard_ok R hN hg
   unfold wpList
   rw [if_neg (by rw [hw]; simp)]
   exact h _ w _ st (R.put (r := .undef) hdo (StepH.refl _ _) R.store ⟨rfl, rfl⟩) (StepH.refl _ _) (Same.refl _) (by simpa only [aOps] using e)
 · cases e
def aFuse (P : Program) (t : TypeId) (x : AV) (K : AV → Prop) : Prop :=
 match zI P t, tI P t with
 | some zs, some (_, sz) => zs.length = sz ∧ x.cells.length = sz ∧ x.cells.all AV.storable = true ∧ x.isJunk = false ∧ K (.pptr x)
 | _, _ => False
def isT (x : Operand) (d : Nat) : Bool := match x with | .tmp e => e == d | _ => false
def aOpsZ (P : Program) (mt : List Nat) (ops : Array Oper) : List Oper → (AF → zy7 → Prop) → AF → zy7 → Prop
 | [], K, φ, st => K φ st
 | ⟨some d, .alloc t, ty, pos, aft, none⟩ :: ⟨none, .store t' (.tmp d') x, ty', pos', aft', none⟩ :: rest, K, φ, st =>
  if d = d' ∧ t = t' ∧ (mt.contains d || isT x d) = false then aFuse P t (φ.eval x) (fun r => aOpsZ P mt ops rest K (φ.upd d r) st)
  else aOps P mt ops [⟨some d, .alloc t, ty, pos, aft, none⟩] (aOps P mt ops [⟨none, .store t' (.tmp d') x, ty', pos', aft', none⟩] (fun φ' st' => aOpsZ P mt ops rest K φ' st')) φ st
 | ⟨some d, .alloc t, ty, pos, aft, none⟩ :: ⟨some e, .assign y, ty2, pos2, aft2, none⟩ :: ⟨none, .store t' (.tmp d') x, ty', pos', aft', none⟩ :: rest, K, φ, st =>
  if d = d' ∧ t = t' ∧ (mt.contains d || isT x d || isT y d || d == e) = false then aFuse P t ((φ.upd e (φ.eval y)).eval x) (fun r => aOpsZ P mt ops rest K ((φ.upd e (φ.eval y)).upd d r) st)
  else aOps P mt ops [⟨some d, .alloc t, ty, pos, aft, none⟩] (aOps P mt ops [⟨some e, .assign y, ty2, pos2, aft2, none⟩] (aOps P mt ops [⟨none, .store t' (.tmp d') x, ty', pos', aft', none⟩] (fun φ' st' => aOpsZ P mt ops rest K φ' st'))) φ st
 | o :: rest, K, φ, st => aOps P mt ops [o] (fun φ' st' => aOpsZ P mt ops rest K φ' st') φ st
theorem StepH.forget {h : Heap} {st : zy7} {b : Nat} {o : AO} (hb : st b = none) : StepH h (st.upd b o) h st :=
 ⟨Nat.le_refl _, fun x _ e => ⟨rfl, by
  by_cases hx : x = b
  · rw [hx]; exact hb
  · rwa [zy7.upd_ne _ _ hx] at e⟩, fun _ c _ _ e => ⟨c, e, rfl⟩⟩
theorem SRel.forget {h : Heap} {st : zy7} {b : Nat} {o : AO} (hb : st b = none) (S : SRel h (st.upd b o)) : SRel h st := fun x p e => by
 have hx : x ≠ b := by rintro rfl; rw [hb] at e; cases e
 obtain ⟨h1, h2⟩ := S x p (by rw [zy7.upd_ne _ _ hx]; exact e)
 exact ⟨h1, h2.mono (StepH.forget hb) rfl⟩
theorem VC.ofCells {h : Heap} {st : zy7} {x : AV} {vs : List Value} (hj : x.isJunk = false) (y : VCs h st x.cells vs) : VC h st x vs := by
 cases x
 case agg cs => unfold VC; exact y
 case junk => cases hj
 all_goals
  simp only [AV.cells, VCs] at y
  obtain ⟨c, r, rfl, y, rfl⟩ := y
  exact y
theorem aOpsZ_ok {P : Program} {mt : List Nat} {ops : Array Oper} {N : Nat} (hN : ∀ (j d : Nat), (ops[j]?).bind (·.dst) = some d → d < N) {Q : Exit → Act → World → Prop} (l : List Oper) (K : AF → zy7 → Prop) (φ : AF) (st : zy7) :
 ∀ (a : Act) (w : World), (∀ o ∈ l, dstOk N o = true) → Rel N a w φ st → aOpsZ P mt ops l K φ st →
  (∀ a' w' φ' st', Rel N a' w' φ' st' → StepH w.heap st w'.heap st' → Same w w' → K φ' st' → Q .normal a' w') → wpList P ops Q l a w := by
 induction l, K, φ, st using aOpsZ.induct (mt := mt) with
 | case1 K φ st => intro a w _ R e h; rw [aOpsZ] at e; exact h a w φ st R (StepH.refl _ _) (Same.refl _) e
 | case2 d t ty pos aft t' d' x ty' pos' aft' rest K φ st hc ih =>
  intro a w hd R e h
  rw [aOpsZ, if_pos hc] at e
  obtain ⟨rfl, rfl, hm⟩ := hc
  unfold aFuse at e
  split at e
  case h_2 => cases e
  rename_i zs ag sz hz hT
  obtain ⟨e1, e2, e3, e4, e5⟩ := e
  have hx : ∀ v, (φ.upd d v).eval x = φ.eval x := by
   intro v
   cases x with
   | tmp y =>
    have hne : y ≠ d := by rintro rfl; simp [isT] at hm
    simp only [AF.eval, AF.upd_ne φ v hne]
   | _ => rfl
  have hd1 := hd _ (List.mem_cons_self ..)
  refine aOps1_ok (mt := mt) (K := fun φ' st' => ∃ b, st b = none ∧ φ' = φ.upd d (.ptr b 0) ∧ st' = st.upd b (.cells zs)) hN hd1 R ?_ ?_
  · simp only [aOps, aGuard, aStep, hz]
    exact fun b hb => ⟨b, hb, rfl, rfl⟩
  rintro a1 w1 _ _ R1 T1 s1 ⟨b, hb, rfl, rfl⟩
  refine aOps1_ok (mt := mt) (K := fun φ' st' => φ' = φ.upd d (.ptr b 0) ∧ st' = st.upd b (.cells (φ.eval x).cells)) hN (hd _ (by simp)) R1 ?_ ?_
  · simp only [aOps, aGuard, aStep]
    rw [show (φ.upd d (.ptr b 0)).eval (.tmp d) = .ptr b 0 from AF.upd_same _ _ _]
    simp only [zy7.upd_same, hT, hx]
    refine ⟨e2, by omega, e3, rfl, ?_⟩
    rw [zy7.upd_upd]
    congr 2
    simp [zy4, e1, e2]
  rintro a2 w2 _ _ R2 T2 s2 ⟨rfl, rfl⟩
  have F2 := R2.frame
  have T3 := StepH.forget (h := w2.heap) (o := .cells (φ.eval x).cells) hb
  have R3 : Rel N a2 w2 (φ.upd d (.pptr (φ.eval x))) st := by
   refine ⟨R2.size, R2.defers, fun y => ?_, SRel.forget hb R2.store⟩
   by_cases hy : y = d
   · subst hy
     rw [AF.upd_same]
     have y1 := F2 y
     rw [AF.upd_same] at y1
     have hv := y1.ptr_of
     obtain ⟨h1, c, t2, h2, h3, vs, h4, h5⟩ := R2.store b _ (zy7.upd_same _ _ _)
     rw [hv]
     refine ⟨rfl, b, 0, rfl, hb, h1, vs, h4, by rw [h5.length, cells_width], VC.mono T3 _ _ (VC.ofCells e4 h5)⟩
   · rw [AF.upd_ne _ _ hy]
     have y1 := F2 y
     rw [AF.upd_ne _ _ hy] at y1
     exact y1.mono T3
  have T4 := (T1.trans T2).trans T3
  exact ih _ a2 w2 (fun o ho => hd o (by simp [ho])) R3 e5 fun a' w' φ' st' R' T' s' k => h a' w' φ' st' R' (T4.trans T') ((s1.trans s2).trans s') k
 | case3 d t ty pos aft t' d' x ty' pos' aft' rest K φ st hc ih =>
  intro a w hd R e h
  rw [aOpsZ, if_neg hc] at e
  refine aOps1_ok hN (hd _ (by simp)) R e fun a1 w1 φ1 st1 R1 T1 s1 k1 => ?_
  refine aOps1_ok hN (hd _ (by simp)) R1 k1 fun a2 w2 φ2 st2 R2 T2 s2 k2 => ?_
  exact ih _ _ a2 w2 (fun o ho => hd o (by simp [ho])) R2 k2 fun a' w' φ' st' R' T' s' k => h a' w' φ' st' R' ((T1.trans T2).trans T') ((s1.trans s2).trans s') k
 | case4 d t ty pos aft e0 y ty2 pos2 aft2 t' d' x ty' pos' aft' rest K φ st hc ih =>
  intro a w hd R e h
  rw [aOpsZ, if_pos hc] at e
  obtain ⟨rfl, rfl, hm⟩ := hc
  unfold aFuse at e
  split at e
  case h_2 => cases e
  rename_i zs ag sz hz hT
  obtain ⟨e1, e2, e3, e4, e5⟩ := e
  simp only [Bool.or_eq_false_iff, beq_eq_false_iff_ne, ne_eq] at hm
  obtain ⟨⟨⟨hm1, hmx⟩, hmy⟩, hde⟩ := hm
  have hev : ∀ (ψ : AF) (z : Operand) v, isT z d = false → (ψ.upd d v).eval z = ψ.eval z := by
   intro ψ z v hz
   cases z with
   | tmp q =>
    have hne : q ≠ d := by rintro rfl; simp [isT] at hz
    simp only [AF.eval, AF.upd_ne ψ v hne]
   | _ => rfl
  have hcm : ∀ v u, (φ.upd d v).upd e0 u = (φ.upd e0 u).upd d v := fun v u => AF.upd_comm φ v u hde
  have hd1 := hd _ (List.mem_cons_self ..)
  refine aOps1_ok (mt := mt) (K := fun φ' st' => ∃ b, st b = none ∧ φ' = φ.upd d (.ptr b 0) ∧ st' = st.upd b (.cells zs)) hN hd1 R ?_ ?_
  · simp only [aOps, aGuard, aStep, hz]
    exact fun b hb => ⟨b, hb, rfl, rfl⟩
  rintro a1 w1 _ _ R1 T1 s1 ⟨b, hb, rfl, rfl⟩
  refine aOps1_ok (mt := mt) (K := fun φ' st' => φ' = (φ.upd e0 (φ.eval y)).upd d (.ptr b 0) ∧ st' = st.upd b (.cells zs)) hN (hd _ (by simp)) R1 ?_ ?_
  · simp only [aOps, aGuard, aStep, aVal]
    rw [hev φ y _ hmy]
    exact ⟨hcm _ _, trivial⟩
  rintro a2 w2 _ _ R2 T2 s2 ⟨rfl, rfl⟩
  refine aOps1_ok (mt := mt) (K := fun φ' st' => φ' = (φ.upd e0 (φ.eval y)).upd d (.ptr b 0) ∧ st' = st.upd b (.cells ((φ.upd e0 (φ.eval y)).eval x).cells)) hN (hd _ (by simp)) R2 ?_ ?_
  · simp only [aOps, aGuard, aStep]
    rw [show ((φ.upd e0 (φ.eval y)).upd d (.ptr b 0)).eval (.tmp d) = .ptr b 0 from AF.upd_same _ _ _]
    simp only [zy7.upd_same, hT, hev (φ.upd e0 (φ.eval y)) x _ hmx]
    refine ⟨e2, by omega, e3, rfl, ?_⟩
    rw [zy7.upd_upd]
    congr 2
    simp [zy4, e1, e2]
  rintro a3 w3 _ _ R3 T3 s3 ⟨rfl, rfl⟩
  have F2 := R3.frame
  have T4 := StepH.forget (h := w3.heap) (o := .cells ((φ.upd e0 (φ.eval y)).eval x).cells) hb
  have R4 : Rel N a3 w3 ((φ.upd e0 (φ.eval y)).upd d (.pptr ((φ.upd e0 (φ.eval y)).eval x))) st := by
   refine ⟨R3.size, R3.defers, fun z => ?_, SRel.forget hb R3.store⟩
   by_cases hy : z = d
   · subst hy
     rw [AF.upd_same]
     have y1 := F2 z
     rw [AF.upd_same] at y1
     have hv := y1.ptr_of
     obtain ⟨h1, c, t2, h2, h3, vs, h4, h5⟩ := R3.store b _ (zy7.upd_same _ _ _)
     rw [hv]
     refine ⟨rfl, b, 0, rfl, hb, h1, vs, h4, by rw [h5.length, cells_width], VC.mono T4 _ _ (VC.ofCells e4 h5)⟩
   · rw [AF.upd_ne _ _ hy]
     have y1 := F2 z
     rw [AF.upd_ne _ _ hy] at y1
     exact y1.mono T4
  have T5 := ((T1.trans T2).trans T3).trans T4
  exact ih _ a3 w3 (fun o ho => hd o (by simp [ho])) R4 e5 fun a' w' φ' st' R' T' s' k => h a' w' φ' st' R' (T5.trans T') (((s1.trans s2).trans s3).trans s') k
 | case5 d t ty pos aft e0 y ty2 pos2 aft2 t' d' x ty' pos' aft' rest K φ st hc ih =>
  intro a w hd R e h
  rw [aOpsZ, if_neg hc] at e
  refine aOps1_ok hN (hd _ (by simp)) R e fun a1 w1 φ1 st1 R1 T1 s1 k1 => ?_
  refine aOps1_ok hN (hd _ (by simp)) R1 k1 fun a2 w2 φ2 st2 R2 T2 s2 k2 => ?_
  refine aOps1_ok hN (hd _ (by simp)) R2 k2 fun a3 w3 φ3 st3 R3 T3 s3 k3 => ?_
  exact ih _ _ a3 w3 (fun o ho => hd o (by simp [ho])) R3 k3 fun a' w' φ' st' R' T' s' k => h a' w' φ' st' R' (((T1.trans T2).trans T3).trans T') (((s1.trans s2).trans s3).trans s') k
 | case6 o rest K φ st hne hne2 ih =>
  intro a w hd R e h
  rw [aOpsZ] at e
  case x_4 => exact hne
  case x_5 => exact hne2
  refine aOps1_ok hN (hd _ (by simp)) R e fun a1 w1 φ1 st1 R1 T1 s1 k1 => ?_
  exact ih _ _ a1 w1 (fun o ho => hd o (by simp [ho])) R1 k1 fun a' w' φ' st' R' T' s' k => h a' w' φ' st' R' (T1.trans T') (s1.trans s') k
def ARun (P : Program) (N : Nat) (c : Code) (Q : Exit → AF → zy7 → Prop) (φ : AF) (st : zy7) : Prop :=
 ∀ a w, Rel N a w φ st → c.wp P (Lift N w st Q) a w
def thenQ (k : AF → zy7 → Prop) (Q : Exit → AF → zy7 → Prop) : Exit → AF → zy7 → Prop
 | .normal, φ, st => k φ st
 | e, φ, st => Q e φ st
def blockQ (id : Nat) (Q : Exit → AF → zy7 → Prop) : Exit → AF → zy7 → Prop
 | .exit i, φ, st => if i = id then Q .normal φ st else Q (.exit i) φ st
 | e, φ, st => Q e φ st
def aCond (c : AV) (k₁ k₂ : AF → zy7 → Prop) (φ : AF) (st : zy7) : Prop :=
 match c with
 | .bool b => (b = true → k₁ φ st) ∧ (b = false → k₂ φ st)
 | _ => False
def aCode (P : Program) (N : Nat) (mt : List Nat) : Code → (Exit → AF → zy7 → Prop) → AF → zy7 → Prop
 | .skip, Q, φ, st => Q .normal φ st
 | .region id ops draw, Q, φ, st => if draw then ARun P N (.region id ops true) Q φ st else if mt.contains 1000000 = true then aOpsZ P mt ops ops.toList (Q .normal) φ st else aOps P mt ops ops.toList (Q .normal) φ st
 | .seq x y, Q, φ, st => aCode P N mt x (thenQ (aCode P N mt y Q) Q) φ st
 | .cond c x y, Q, φ, st => aCond (φ.eval c) (aCode P N mt x Q) (aCode P N mt y Q) φ st
 | .block id x, Q, φ, st => aCode P N mt x (blockQ id Q) φ st
 | .loop x, Q, φ, st => ARun P N (.loop x) Q φ st
 | .exit id, Q, φ, st => Q (.exit id) φ st
 | .ret, Q, φ, st => Q .ret φ st
 | c, Q, φ, st => ARun P N c Q φ st
def opsOk (N : Nat) (ops : Array Oper) : Bool := ops.all (dstOk N)
def codeOk (N : Nat) : Code → Bool
 | .region _ ops _ => opsOk N ops
 | .seq x y => codeOk N x && codeOk N y
 | .cond _ x y => codeOk N x && codeOk N y
 | .block _ x => codeOk N x
 | .loop x => codeOk N x
 | _ => true
theorem opsOk_dst {N : Nat} {ops : Array Oper} (h : opsOk N ops = true) : ∀ o ∈ ops.toList, dstOk N o = true := by
 intro o ho
 exact Array.all_eq_true_iff_forall_mem.1 h o (Array.mem_toList_iff.1 ho)
theorem opsOk_at {N : Nat} {ops : Array Oper} (h : opsOk N ops = true) : ∀ (j d : Nat), (ops[j]?).bind (·.dst) = some d → d < N := by
 intro j d e
 cases hj : ops[j]? with
 | none => rw [hj] at e; cases e
 | some o =>
  rw [hj] at e
  have := opsOk_dst h o (Array.mem_toList_iff.2 (Array.mem_of_getElem? hj))
  unfold dstOk at this
  simp only [Option.bind_some] at e
  rw [e] at this
  simpa using this
theorem Lift.mono {N : Nat} {w w' : World} {st st' : zy7} {Q : Exit → AF → zy7 → Prop} (T : StepH w.heap st w'.heap st') (s : Same w w') {e : Exit} {a : Act} {w2 : World} (x : Lift N w' st' Q e a w2) : Lift N w st Q e a w2 := by
 obtain ⟨φ', st2, R, T2, s2, q⟩ := x
 exact ⟨φ', st2, R, T.trans T2, s.trans s2, q⟩
theorem aCode_ok {P : Program} {N : Nat} {mt : List Nat} : ∀ (c : Code) (Q : Exit → AF → zy7 → Prop) (φ : AF) (st : zy7), codeOk N c = true → aCode P N mt c Q φ st → ARun P N c Q φ st
 | .skip, Q, φ, st, _, e => fun a w R => wp_skip ⟨φ, st, R, StepH.refl _ _, Same.refl _, e⟩
 | .region id ops draw, Q, φ, st, hc, e => fun a w R => by
  simp only [aCode] at e
  cases draw with
  | true => exact e a w R
  | false =>
   simp only [Bool.false_eq_true, if_false] at e
   split at e
   · exact wp_region_list (aOpsZ_ok (opsOk_at hc) ops.toList _ φ st a w (opsOk_dst hc) R e fun a' w' φ' st' R' T s k => ⟨φ', st', R', T, s, k⟩)
   exact wp_region_list (aOps_ok (opsOk_at hc) ops.toList _ φ st a w (opsOk_dst hc) R e fun a' w' φ' st' R' T s k => ⟨φ', st', R', T, s, k⟩)
 | .seq x y, Q, φ, st, hc, e => fun a w R => by
  simp only [codeOk, Bool.and_eq_true] at hc
  refine wp_seq (wp_mono (aCode_ok x _ φ st hc.1 e a w R) ?_)
  rintro ex a' w' ⟨φ', st', R', T, s, q⟩
  cases ex with
  | normal => exact wp_mono (aCode_ok y Q φ' st' hc.2 q a' w' R') fun _ _ _ h => h.mono T s
  | _ => exact ⟨φ', st', R', T, s, q⟩
 | .cond c x y, Q, φ, st, hc, e => fun a w R => by
  simp only [codeOk, Bool.and_eq_true] at hc
  simp only [aCode, aCond] at e
  split at e
  case h_2 => cases e
  rename_i b hb
  have yc := VRel.eval R.frame c
  rw [hb] at yc
  refine wp_cond_split yc.bool_of (fun h => ?_) (fun h => ?_)
  · exact aCode_ok x Q φ st hc.1 (e.1 h) a w R
  · exact aCode_ok y Q φ st hc.2 (e.2 h) a w R
 | .block id x, Q, φ, st, hc, e => fun a w R => by
  refine wp_block (wp_mono (aCode_ok x _ φ st hc e a w R) ?_)
  rintro ex a' w' ⟨φ', st', R', T, s, q⟩
  cases ex with
  | exit i =>
   simp only [Exit.inBlock, blockQ] at q ⊢
   split <;> rename_i h
   · rw [if_pos h] at q; exact ⟨φ', st', R', T, s, q⟩
   · rw [if_neg h] at q; exact ⟨φ', st', R', T, s, q⟩
  | _ => exact ⟨φ', st', R', T, s, q⟩
 | .loop x, Q, φ, st, _, e => e
 | .exit id, Q, φ, st, _, e => fun a w R => wp_exit ⟨φ, st, R, StepH.refl _ _, Same.refl _, e⟩
 | .ret, Q, φ, st, _, e => fun a w R => wp_ret ⟨φ, st, R, StepH.refl _ _, Same.refl _, e⟩
 | .rangeFunc .., Q, φ, st, _, e => e
 | .scope _, Q, φ, st, _, e => e
 | .label _, Q, φ, st, _, e => e
 | .goto _, Q, φ, st, _, e => e
 | .refuse _, Q, φ, st, _, e => e
def aRes (P : Program) (φ : AF) (st : zy7) : ResultVar → Option AV
 | .tmp t => some (φ t)
 | .cell p t => zq2 P st t (φ p)
def aResults (P : Program) (φ : AF) (st : zy7) : List ResultVar → Option (List AV)
 | [] => some []
 | r :: rs => match aRes P φ st r, aResults P φ st rs with
  | some x, some xs => some (x :: xs)
  | _, _ => none
def tupOf (K : AV → zy7 → Prop) (st : zy7) : List AV → Prop
 | [r] => K r st
 | rs => zq1 rs = true ∧ K (.tup rs) st
def retQ (P : Program) (rs : Array ResultVar) (K : AV → zy7 → Prop) : Exit → AF → zy7 → Prop
 | .normal, φ, st | .ret, φ, st => match aResults P φ st rs.toList with
  | some xs => tupOf K st xs
  | none => False
 | _, _, _ => False
theorem aRes_run {P : Program} {φ : AF} {st : zy7} {w : World} {a : Act} {v : ResultVar} {r : AV} (F : FRel w.heap st a.tmps φ) (S : SRel w.heap st) (e : aRes P φ st v = some r) :
 ∃ u, (match v with | .tmp t => pure (a.tmps.getD t undef) | .cell p t => do loadVar t (← asAddr (a.tmps.getD p undef)) : Sem Value).run P w = .ok u w ∧ VRel w.heap st r u := by
 cases v with
 | tmp t => cases e; exact ⟨_, rfl, F t⟩
 | cell p t =>
  obtain ⟨b, off, u, hv, r1, rv⟩ := aLoad_val (F p) S e
  exact ⟨u, by simp only [hv, asAddr, Sem.run_bind, Sem.run_pure, Result.andThen_ok, r1], rv⟩
theorem aResults_run {P : Program} {φ : AF} {st : zy7} {w : World} {a : Act} (F : FRel w.heap st a.tmps φ) (S : SRel w.heap st) : ∀ (l : List ResultVar) (rs : List AV), aResults P φ st l = some rs →
 ∃ us, (l.mapM fun v => (match v with | .tmp t => pure (a.tmps.getD t undef) | .cell p t => do loadVar t (← asAddr (a.tmps.getD p undef)) : Sem Value)).run P w = .ok us w ∧ VRelL w.heap st rs us
 | [], rs, e => by simp only [aResults] at e; cases e; exact ⟨[], rfl, rfl⟩
 | v :: l, rs, e => by
  simp only [aResults] at e
  split at e
  · rename_i x xs hx hxs
    cases e
    obtain ⟨u, u1, u2⟩ := aRes_run F S hx
    obtain ⟨us, v1, v2⟩ := aResults_run F S l xs hxs
    refine ⟨u :: us, ?_, by simp only [VRelL]; exact ⟨u, us, rfl, u2, v2⟩⟩
    rw [List.mapM_cons]
    simp only [Sem.run_bind, u1, Result.andThen_ok, v1, Sem.run_pure]
  · cases e
theorem VRelL.to_VTs {h : Heap} {st : zy7} : ∀ {as : List AV} {vs : List Value}, VRelL h st as vs → zq1 as = true → VTs h st as vs
 | [], _, x, _ => by simpa [VTs, VRelL] using x
 | a :: as, vs, x, hj => by
  simp only [VRelL] at x
  obtain ⟨v, r, rfl, x1, x2⟩ := x
  simp [zq1] at hj
  simp only [VTs]
  exact ⟨v, r, rfl, x1.pair hj.1, VRelL.to_VTs x2 (by simp [zq1]; exact hj.2)⟩
theorem results_ok {P : Program} {φ : AF} {st : zy7} {w : World} {a : Act} {fn : Func} {rs : List AV} {K : AV → zy7 → Prop} (F : FRel w.heap st a.tmps φ) (S : SRel w.heap st) (e : aResults P φ st fn.results.toList = some rs) (k : tupOf K st rs) :
 ∃ v r, (results fn a.tmps).run P w = .ok v w ∧ VRel w.heap st r v ∧ K r st := by
 obtain ⟨us, u1, u2⟩ := aResults_run F S _ rs e
 have hrun : (results fn a.tmps).run P w = .ok (if h : us.toArray.size = 1 then us.toArray[0] else .tuple us.toArray) w := by
  unfold results
  rw [Array.mapM_eq_mapM_toList]
  simp only [Sem.run_bind, Sem.run_map]
  exact (congrArg (fun r : Result (List Value) => (r.andThen fun a w' => Result.ok a.toArray w').andThen fun a w' => Sem.run P (pure (if h : a.size = 1 then a[0] else Value.tuple a)) w') u1).trans rfl
 match rs, k with
 | [r], k =>
  simp only [VRelL] at u2
  obtain ⟨u, r', rfl, x1, rfl⟩ := u2
  exact ⟨u, r, by rw [hrun]; rfl, x1, k⟩
 | [], k =>
  simp only [VRelL] at u2
  subst u2
  exact ⟨.tuple #[], .tup [], by rw [hrun]; rfl, ⟨rfl, [], rfl, rfl⟩, k.2⟩
 | r1 :: r2 :: rest, k =>
  have h2 := u2
  simp only [VRelL] at u2
  obtain ⟨u, us', rfl, _, v, us'', rfl, _, _⟩ := u2
  exact ⟨.tuple (u :: v :: us'').toArray, .tup (r1 :: r2 :: rest), by rw [hrun]; simp, ⟨rfl, _, rfl, VRelL.to_VTs h2 k.1⟩, k.2⟩
def argF : Nat → List AV → AF
 | _, [] => AF.bot
 | i, a :: as => (argF (i + 1) as).upd i a
theorem argF_rel {h : Heap} {st : zy7} {tmps : Array Value} : ∀ (as : List AV) (vs : List Value) (i : Nat), VRelL h st as vs → (∀ j v, vs[j]? = some v → tmps.getD (i + j) undef = v) → FRel h st tmps (argF i as)
 | [], _, _, _, _ => fun d => by trivial
 | a :: as, vs, i, x, ht => fun d => by
  simp only [VRelL] at x
  obtain ⟨v, r, rfl, x1, x2⟩ := x
  simp only [argF, AF.upd]
  split
  · rename_i hd
    subst hd
    have := ht 0 v rfl
    rw [Nat.add_zero] at this
    rw [this]; exact x1
  · exact argF_rel as r (i + 1) x2 (fun j u hj => by
     have := ht (j + 1) u (by simpa using hj)
     rw [show i + (j + 1) = i + 1 + j by omega] at this
     exact this) d
theorem VRelL.length {h : Heap} {st : zy7} : ∀ {as : List AV} {vs : List Value}, VRelL h st as vs → vs.length = as.length
 | [], vs, x => by simp only [VRelL] at x; simp [x]
 | a :: as, vs, x => by
  simp only [VRelL] at x
  obtain ⟨v, r, rfl, _, x2⟩ := x
  simp [VRelL.length x2]
theorem acalls_of {P : Program} {g : FuncId} {fn : Func} {c : Code} {args : List AV} {st : zy7} {K : AV → zy7 → Prop} (mt : List Nat) (hf : P.funcs[g]? = some fn) (hb : fn.body = some c) (hn : (fn.name == "runtime.NumGoroutine") = false)
 (hok : codeOk fn.ntmps c = true) (hargs : args.length ≤ fn.ntmps) (e : aCode P fn.ntmps mt c (retQ P fn.results K) (argF 0 args) st) : zq7 P g args st K := by
 refine ⟨⟨fn, hf, by simp [hb], hn⟩, fun w vs S V => ?_⟩
 have hl := V.length
 have R : Rel fn.ntmps { tmps := vs.toArray ++ Array.replicate (fn.ntmps - vs.toArray.size) undef, defers := [] } w (argF 0 args) st := by
  refine ⟨by simp; omega, rfl, argF_rel args vs 0 V fun j v hj => ?_, S⟩
  obtain ⟨hjl, hjv⟩ := List.getElem?_eq_some_iff.1 hj
  simp [Array.getElem?_append, hjl, hjv]
 refine calls_of_wp hf hb (wp_mono (aCode_ok c _ _ st hok e _ w R) ?_)
 rintro ex a' w' ⟨φ', st', R', T, s, q⟩
 have fin : (match aResults P φ' st' fn.results.toList with | some xs => tupOf K st' xs | none => False) → a'.defers = [] ∧ ∃ v, (results fn a'.tmps).run P w' = .ok v w' ∧
  (∃ v2 r st2, (Ending.returned v) = .returned v2 ∧ VRel w'.heap st2 r v2 ∧ SRel w'.heap st2 ∧ StepH w.heap st w'.heap st2 ∧ Same w w' ∧ K r st2) := by
  intro q
  split at q
  · rename_i xs hx
    obtain ⟨v, r, r1, r2, r3⟩ := results_ok R'.frame R'.store hx q
    exact ⟨R'.defers, v, r1, v, r, st', rfl, r2, R'.store, T, s, r3⟩
  · cases q
 cases ex with
 | normal => exact fin q
 | ret => exact fin q
 | _ => exact q.elim
def Weak (st : zy7) (r : AV) (st' : zy7) (r' : AV) : Prop := ∀ (h : Heap) (v : Value), SRel h st → VRel h st r v → VRel h st' r' v
def WeakS (st st' : zy7) : Prop := ∀ (h : Heap), SRel h st → SRel h st' ∧ StepH h st h st'
theorem zq7.weak {P : Program} {g : FuncId} {args : List AV} {st : zy7} {Q Q' : AV → zy7 → Prop} (x : zq7 P g args st Q) (h : ∀ r st', Q r st' → ∃ r2 st2, WeakS st' st2 ∧ Weak st' r st2 r2 ∧ Q' r2 st2) : zq7 P g args st Q' :=
 ⟨x.1, fun w vs S V => (x.2 w vs S V).mono fun _ _ ⟨v, r, st', e, a, b, c, d, q⟩ =>
  let ⟨r2, st2, h1, h2, h3⟩ := h r st' q
  ⟨v, r2, st2, e, h2 _ v b a, (h1 _ b).1, c.trans (h1 _ b).2, d, h3⟩⟩
theorem zq7.args {P : Program} {g : FuncId} {args args' : List AV} {st : zy7} {Q : AV → zy7 → Prop} (x : zq7 P g args' st Q) (h : ∀ (hp : Heap) (vs : List Value), SRel hp st → VRelL hp st args vs → VRelL hp st args' vs) : zq7 P g args st Q :=
 ⟨x.1, fun w vs S V => x.2 w vs S (h _ vs S V)⟩
def Less (φ : AF) (st : zy7) (φ' : AF) (st' : zy7) : Prop := ∀ (h : Heap) (tmps : Array Value), SRel h st → FRel h st tmps φ → SRel h st' ∧ StepH h st h st' ∧ FRel h st' tmps φ'
theorem ARun.less {P : Program} {N : Nat} {c : Code} {Q : Exit → AF → zy7 → Prop} {φ φ' : AF} {st st' : zy7} (L : Less φ st φ' st') (x : ARun P N c Q φ' st') : ARun P N c Q φ st := fun a w R => by
 obtain ⟨h1, h2, h3⟩ := L w.heap a.tmps R.store R.frame
 exact wp_mono (x a w ⟨R.size, R.defers, h3, h1⟩) fun _ _ _ y => y.mono h2 (Same.refl _)
theorem Less.trans {φ φ' φ'' : AF} {st st' st'' : zy7} (x : Less φ st φ' st') (y : Less φ' st' φ'' st'') : Less φ st φ'' st'' := fun h t S F =>
 let ⟨a, b, c⟩ := x h t S F
 let ⟨a', b', c'⟩ := y h t a c
 ⟨a', b.trans b', c'⟩
theorem Less.bot (φ : AF) (st : zy7) : Less φ st AF.bot st := fun _ _ S _ => ⟨S, StepH.refl _ _, fun _ => trivial⟩
theorem Less.upd {φ φ' : AF} {st : zy7} (x : Less φ st φ' st) {d : Nat} {v : AV} (e : φ d = v) : Less φ st (φ'.upd d v) st := fun h t S F => by
 obtain ⟨a, b, c⟩ := x h t S F
 refine ⟨a, b, fun y => ?_⟩
 simp only [AF.upd]
 split
 · rename_i hy; subst hy; rw [← e]; exact F y
 · exact c y
def loopQ (k : AF → zy7 → Prop) (Q : Exit → AF → zy7 → Prop) : Exit → AF → zy7 → Prop
 | .normal, φ, st => k φ st
 | e, φ, st => Q e φ st
theorem arun_loop {P : Program} {N : Nat} {c : Code} {Q : Exit → AF → zy7 → Prop} {φ : AF} {st : zy7} {α : Type} (inv : α → Prop) (fr : α → AF) (so : α → zy7) (μ : α → Nat)
 (h0 : ∃ s, inv s ∧ Less φ st (fr s) (so s))
 (h1 : ∀ s, inv s → ARun P N c (loopQ (fun φ' st' => ∃ s', μ s' < μ s ∧ inv s' ∧ Less φ' st' (fr s') (so s')) Q) (fr s) (so s)) : ARun P N (.loop c) Q φ st := by
 have key : ∀ n s, μ s = n → inv s → ∀ a w, Rel N a w (fr s) (so s) → ∀ b k cs,
  ∃ e a' w', Lift N w (so s) Q e a' w' ∧ Arrives P (lone (b.at a (.code c :: .inLoop c :: k)) cs w) b k cs e a' w' := by
  intro n
  induction n using Nat.strongRecOn with
  | _ n ih =>
   intro s hn hI a w R b k cs
   obtain ⟨e, a₁, w₁, hq, harr⟩ := h1 s hI a w R b (.inLoop c :: k) cs
   obtain ⟨φ', st', R', T, sm, q⟩ := hq
   cases e with
   | normal =>
    obtain ⟨s', hlt, hI', L⟩ := q
    obtain ⟨l1, l2, l3⟩ := L w₁.heap a₁.tmps R'.store R'.frame
    obtain ⟨e₂, a₂, w₂, hq₂, harr₂⟩ := ih (μ s') (hn ▸ hlt) s' rfl hI' a₁ w₁ ⟨R'.size, R'.defers, l3, l1⟩ b k cs
    exact ⟨e₂, a₂, w₂, hq₂.mono (T.trans l2) sm, .of_steps (Steps.trans harr (.one step_inLoop)) harr₂⟩
   | exit id => exact ⟨_, a₁, w₁, ⟨φ', st', R', T, sm, q⟩, .pass (x := .inLoop c) rfl (fun _ _ => .inl (by simp)) harr⟩
   | goto l => exact ⟨_, a₁, w₁, ⟨φ', st', R', T, sm, q⟩, .pass (x := .inLoop c) rfl (fun _ _ => .inl (by simp)) harr⟩
   | ret => exact ⟨_, a₁, w₁, ⟨φ', st', R', T, sm, q⟩, .pass (x := .inLoop c) rfl (fun _ _ => .inl (by simp)) harr⟩
   | panic ch => exact ⟨_, a₁, w₁, ⟨φ', st', R', T, sm, q⟩, .pass (x := .inLoop c) rfl (fun _ _ => .inl (by simp)) harr⟩
   | outgrown => exact ⟨_, a₁, w₁, ⟨φ', st', R', T, sm, q⟩, .pass (x := .inLoop c) rfl (fun _ _ => .inl (by simp)) harr⟩
 obtain ⟨s, hI, L⟩ := h0
 refine ARun.less L fun a w R b k cs => ?_
 obtain ⟨e, a', w', hq, harr⟩ := key _ s rfl hI a w R b k cs
 exact ⟨e, a', w', hq, .of_steps (.one step_loop) harr⟩
end Go.AW
