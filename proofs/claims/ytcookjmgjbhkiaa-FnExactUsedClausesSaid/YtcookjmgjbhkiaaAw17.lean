/- One element of a held list; held lists that grow or are filled. -/
import Derived.Test.YtcookjmgjbhkiaaAw16
namespace Go.AW
set_option linter.unusedSimpArgs false
set_option linter.unusedVariables false

theorem OwnL.focus {st : Store} : ∀ {as os : List AV} {bs : List Nat}, OwnL st as os bs → bs.Nodup → ∀ (i : Nat) (a : AV), as[i]? = some a →
    ∃ od o orr bo, os = od ++ o :: orr ∧ od.length = i ∧ Own st a o bo ∧ bo.Nodup ∧ (∀ b ∈ bo, b ∈ bs) ∧
      ∀ (st' : Store) (a' o' : AV), (∀ b ∈ bs, b ∉ bo → st' b = st b) → Own st' a' o' bo → OwnL st' (as.set i a') (od ++ o' :: orr) bs
  | [], os, bs, _, _, i, a, h => by simp at h
  | c :: as, os, bs, x, nd, 0, a, h => by
    simp only [OwnL] at x
    obtain ⟨o, os', b1, b2, rfl, rfl, x1, x2⟩ := x
    simp at h; subst h
    rw [List.nodup_append] at nd
    refine ⟨[], o, os', b1, rfl, rfl, x1, nd.1, fun b hb => by simp [hb], fun st' a' o' hk y => ?_⟩
    simp only [List.set_cons_zero, List.nil_append, OwnL]
    exact ⟨o', os', b1, b2, rfl, rfl, y, OwnL.keep _ _ _ (fun q hq => hk q (by simp [hq]) (fun hq' => nd.2.2 q hq' q hq rfl)) x2⟩
  | c :: as, os, bs, x, nd, i + 1, a, h => by
    simp only [OwnL] at x
    obtain ⟨o, os', b1, b2, rfl, rfl, x1, x2⟩ := x
    rw [List.nodup_append] at nd
    obtain ⟨od, o2, orr, bo, rfl, hl, y1, y2, y3, y4⟩ := OwnL.focus x2 nd.2.1 i a (by simpa using h)
    refine ⟨o :: od, o2, orr, bo, rfl, by simp [hl], y1, y2, fun b hb => by simp [y3 b hb], fun st' a' o' hk y => ?_⟩
    simp only [List.set_cons_succ, List.cons_append, OwnL]
    refine ⟨o, _, b1, b2, rfl, rfl, Own.keep _ _ _ (fun q hq => hk q (by simp [hq]) (fun hq' => nd.2.2 q hq q (y3 q hq') rfl)) x1, y4 st' a' o' (fun q hq hn => hk q (by simp [hq]) hn) y⟩

theorem OwnL.flatLen {st : Store} {w : Nat} : ∀ {as os : List AV} {bs : List Nat}, OwnL st as os bs → (∀ e ∈ as, e.width = w) → (os.flatMap AV.cells).length = as.length * w
  | [], os, bs, x, _ => by simp only [OwnL] at x; rw [x.1]; simp
  | a :: as, os, bs, x, h => by
    simp only [OwnL] at x
    obtain ⟨o, os', b1, b2, rfl, rfl, x1, x2⟩ := x
    have := OwnL.flatLen x2 (fun e he => h e (by simp [he]))
    rw [List.flatMap_cons, List.length_append, this, cells_width, (Own.shape x1).2.1, h a (by simp), List.length_cons, Nat.succ_mul]
    omega

theorem OwnL.take {st : Store} : ∀ {as od or' : List AV} {bs : List Nat}, OwnL st as (od ++ or') bs → ∃ bs', OwnL st (as.take od.length) od bs'
  | as, [], or', bs, _ => ⟨[], by simp [OwnL]⟩
  | [], o :: od, or', bs, x => by simp [OwnL] at x
  | a :: as, o :: od, or', bs, x => by
    simp only [OwnL, List.cons_append] at x
    obtain ⟨o1, os', b1, b2, e, rfl, x1, x2⟩ := x
    obtain ⟨rfl, rfl⟩ := List.cons.inj e
    obtain ⟨bs', h⟩ := OwnL.take x2
    exact ⟨b1 ++ bs', by simp only [List.length_cons, List.take_succ_cons, OwnL]; exact ⟨o, od, b1, bs', rfl, rfl, x1, h⟩⟩

/-- One element of a held list, and the list when that element alone has turned. -/
theorem Own.focus {st : Store} {es : List AV} {o : AV} {bs : List Nat} (x : Own st (.slice es) o bs) (nd : bs.Nodup) {i : Nat} {e : AV} (h : es[i]? = some e) :
    ∃ b bs' w A oe bo B, o = .mslice b 0 es.length w ∧ bs = b :: bs' ∧ st b = some (.cells (A ++ oe.cells ++ B)) ∧ A.length = i * w ∧ Own st e oe bo ∧ bo.Nodup ∧ b ∉ bo ∧ (∀ q ∈ bo, q ∈ bs) ∧ e.width = w ∧ i < es.length ∧
      ∀ (st' : Store) (e' oe' : AV), e'.width = w → (∀ q ∈ bs, q ≠ b → q ∉ bo → st' q = st q) → st' b = some (.cells (A ++ oe'.cells ++ B)) → Own st' e' oe' bo → Own st' (.slice (es.set i e')) o bs := by
  have hi : i < es.length := (List.getElem?_eq_some_iff.1 h).1
  simp only [Own] at x
  rcases x with ⟨rfl, _⟩ | ⟨b, bs', os, w, rfl, rfl, e2, x, e3⟩
  · simp at h
  · rw [List.nodup_cons] at nd
    obtain ⟨od, oe, orr, bo, rfl, hl, y1, y2, y3, y4⟩ := OwnL.focus x nd.2 i e h
    have hA : (od.flatMap AV.cells).length = i * w := by
      obtain ⟨bs2, ht⟩ := OwnL.take x
      rw [ht.flatLen (fun q hq => e3 q (List.mem_of_mem_take hq)), List.length_take, hl, Nat.min_eq_left (by omega)]
    refine ⟨b, bs', w, od.flatMap AV.cells, oe, bo, orr.flatMap AV.cells, rfl, rfl, by rw [e2]; simp, hA, y1, y2, fun hb => nd.1 (y3 b hb), fun q hq => by simp [y3 q hq], e3 e (List.mem_of_getElem? h), hi, ?_⟩
    intro st' e' oe' hw hk hb hO
    simp only [Own]
    refine .inr ⟨b, bs', od ++ oe' :: orr, w, by simp, rfl, by rw [hb]; simp, y4 st' e' oe' (fun q hq hn => hk q (by simp [hq]) (fun hqb => nd.1 (hqb ▸ hq)) hn) hO, fun q hq => ?_⟩
    rcases List.mem_or_eq_of_mem_set hq with hq | rfl
    · exact e3 q hq
    · exact hw

/-! ### Cells in the midst of a block -/
theorem setCells_mid {A C B x : List AV} {n j : Nat} (hA : A.length = n) (hj : j + x.length ≤ C.length) : setCells (A ++ C ++ B) (n + j) x = A ++ setCells C j x ++ B := by
  subst hA
  unfold setCells
  have h1 : (A ++ C ++ B).take (A.length + j) = A ++ C.take j := by
    rw [List.append_assoc, List.take_length_add_append, List.take_append_of_le_length (by omega)]
  have h2 : (A ++ C ++ B).drop (A.length + j + x.length) = C.drop (j + x.length) ++ B := by
    rw [List.append_assoc, Nat.add_assoc, List.drop_length_add_append, List.drop_append_of_le_length (by omega)]
  rw [h1, h2]
  simp
theorem get_mid {A C B : List AV} {n j : Nat} {v : AV} (hA : A.length = n) (hj : C[j]? = some v) : (A ++ C ++ B)[n + j]? = some v := by
  subst hA
  have hlt := (List.getElem?_eq_some_iff.1 hj).1
  rw [List.append_assoc, List.getElem?_append_right (by omega), Nat.add_sub_cancel_left, List.getElem?_append_left hlt]
  exact hj
/-- A single cell of a block, read. -/
theorem load_mid {P : Program} {st : Store} {t : TypeId} {b n j : Nat} {A C B : List AV} {v : AV} (hT : tI P t = some (false, 1)) (hs : st b = some (.cells (A ++ C ++ B))) (hA : A.length = n) (hj : C[j]? = some v) (hv : v.isAgg = false) :
    aLoad P st t (.ptr b (n + j)) = some v := by
  simp only [aLoad, hT, hs, sub, get_mid hA hj, hv]
  simp
/-- A part of a block, read. -/
theorem load_part {P : Program} {st : Store} {t : TypeId} {b n sz : Nat} {A C B : List AV} (hT : tI P t = some (true, sz)) (hs : st b = some (.cells (A ++ C ++ B))) (hA : A.length = n) (hC : C.length = sz) :
    aLoad P st t (.ptr b n) = some (.agg C) := by
  subst hA
  simp only [aLoad, hT, hs, sub]
  simp [hC]
/-- A single cell of a block, written. -/
theorem store_mid {P : Program} {st : Store} {t : TypeId} {b n j : Nat} {A C B : List AV} {x : AV} {K : AV → Store → Prop} (hT : tI P t = some (false, 1)) (hs : st b = some (.cells (A ++ C ++ B))) (hA : A.length = n) (hj : j < C.length)
    (hx : x.cells = [x]) (hxs : x.storable = true) (h : K .undef (st.upd b (.cells (A ++ setCells C j [x] ++ B)))) : storeK P t (.ptr b (n + j)) x st K := by
  simp only [storeK, hT, hs, hx, List.length_cons, List.length_nil, List.all_cons, List.all_nil, hxs, Bool.and_true]
  refine ⟨trivial, by simp only [List.length_append]; omega, trivial, ?_⟩
  rw [setCells_mid hA (by simp; omega)]
  exact h
/-- A part of a block, written. -/
theorem store_part {P : Program} {st : Store} {t : TypeId} {b n sz : Nat} {A C B : List AV} {x : AV} {K : AV → Store → Prop} {ag : Bool} (hT : tI P t = some (ag, sz)) (hs : st b = some (.cells (A ++ C ++ B))) (hA : A.length = n) (hC : C.length = sz)
    (hx : x.cells.length = sz) (hxs : x.cells.all AV.storable = true) (h : K .undef (st.upd b (.cells (A ++ x.cells ++ B)))) : storeK P t (.ptr b n) x st K := by
  simp only [storeK, hT, hs, hxs]
  refine ⟨hx, by simp only [List.length_append]; omega, trivial, ?_⟩
  have := setCells_mid (A := A) (C := C) (B := B) (x := x.cells) (n := n) (j := 0) hA (by omega)
  rw [Nat.add_zero] at this
  rw [this, set_all' (by omega)]
  exact h
where
  set_all' {C x : List AV} (h : C.length = x.length) : setCells C 0 x = x := by unfold setCells; simp [h]

theorem midE {A B : List AV} {n : Nat} (hA : A.length = n) : (∀ (C : List AV) (v : AV) (j : Nat), j < C.length → setCells (A ++ C ++ B) (n + j) [v] = A ++ C.set j v ++ B) ∧ (∀ (C : List AV) (c : Nat), c < C.length → n + c + 1 ≤ (A ++ C ++ B).length) ∧
    (∀ (C : List AV) (c : Nat), c < C.length → (A ++ C ++ B)[n + c]? = C[c]?) ∧ (∀ (C : List AV) (v : AV), 0 < C.length → setCells (A ++ C ++ B) n [v] = A ++ C.set 0 v ++ B) ∧ (∀ (C : List AV), 0 < C.length → n + 1 ≤ (A ++ C ++ B).length) ∧
    ∀ (C : List AV), 0 < C.length → (A ++ C ++ B)[n]? = C[0]? := by
  have k1 : (∀ (C : List AV) (v : AV) (j : Nat), j < C.length → setCells (A ++ C ++ B) (n + j) [v] = A ++ C.set j v ++ B) ∧ (∀ (C : List AV) (c : Nat), c < C.length → n + c + 1 ≤ (A ++ C ++ B).length) ∧ ∀ (C : List AV) (c : Nat), c < C.length → (A ++ C ++ B)[n + c]? = C[c]? := ?_
  · exact ⟨k1.1, k1.2.1, k1.2.2, fun C v h => k1.1 C v 0 h, fun C h => k1.2.1 C 0 h, fun C h => k1.2.2 C 0 h⟩
  refine ⟨fun C v j h => ?_, fun C c h => ?_, fun C c h => ?_⟩
  · rw [setCells_mid hA (by simp; omega), List.set_eq_take_append_cons_drop, if_pos h]
    unfold setCells
    simp
  · simp only [List.length_append]; omega
  · subst hA
    rw [List.append_assoc, List.getElem?_append_right (by omega), Nat.add_sub_cancel_left, List.getElem?_append_left h]

theorem partE {A B C x : List AV} {n w : Nat} (hA : A.length = n) (hC : C.length = w) (hx : x.length = w) : setCells (A ++ C ++ B) n x = A ++ x ++ B ∧ n + w ≤ (A ++ C ++ B).length := by
  have h := setCells_mid (A := A) (C := C) (B := B) (x := x) (n := n) (j := 0) hA (by omega)
  rw [Nat.add_zero] at h
  refine ⟨?_, by simp only [List.length_append]; omega⟩
  rw [h]
  unfold setCells
  simp [hC, hx]

/-- The place of an element of a held list. -/
theorem held_at {P : Program} {t : TypeId} {ag : Bool} {b len w i : Nat} (hI : eI P t = some (ag, w)) (hi : i < len) : aIndexAddr P t (.mslice b 0 len w) (.int .i64 (i : Int)) = some (.ptr b (i * w)) := by
  simp only [aIndexAddr, hI, Int.toNat_natCast, Nat.zero_add]
  rw [if_pos ⟨by omega, by omega, trivial⟩]

theorem Own.agg_storable {st : Store} : ∀ {cs os : List AV} {bs : List Nat}, OwnL st cs os bs → (∀ c ∈ cs, c.isAgg = false) → os.all AV.storable = true ∧ os.flatMap AV.cells = os
  | [], os, bs, x, _ => by simp only [OwnL] at x; rw [x.1]; simp
  | a :: as, os, bs, x, h => by
    simp only [OwnL] at x
    obtain ⟨o, os', b1, b2, rfl, rfl, x1, x2⟩ := x
    have ih := Own.agg_storable x2 (fun c hc => h c (by simp [hc]))
    have ha := h a (by simp)
    have ho : o.storable = true ∧ o.cells = [o] := by
      cases a <;> simp only [Own] at x1 <;> try exact x1.elim
      case int => rw [x1.1]; exact ⟨rfl, rfl⟩
      case bool => rw [x1.1]; exact ⟨rfl, rfl⟩
      case str => rw [x1.1]; exact ⟨rfl, rfl⟩
      case agg => simp [AV.isAgg] at ha
      case slice => rcases x1 with ⟨_, rfl, _⟩ | ⟨b, bs', os, w, rfl, _⟩ <;> exact ⟨rfl, rfl⟩
    rw [List.all_cons, ho.1, ih.1, List.flatMap_cons, ih.2, ho.2]
    exact ⟨rfl, rfl⟩

/-! ### A held list that grows -/
theorem OwnL.snoc {st st' : Store} {a o : AV} {b2 : List Nat} : ∀ {as os : List AV} {b1 : List Nat}, OwnL st as os b1 → (∀ b ∈ b1, st' b = st b) → Own st' a o b2 → OwnL st' (as ++ [a]) (os ++ [o]) (b1 ++ b2)
  | [], os, b1, x, _, y => by
    simp only [OwnL] at x
    rw [x.1, x.2]
    simp only [List.nil_append, OwnL]
    exact ⟨o, [], b2, [], rfl, by simp, y, rfl, rfl⟩
  | c :: as, os, b1, x, h, y => by
    simp only [OwnL] at x
    obtain ⟨o1, os', b3, b4, rfl, rfl, x1, x2⟩ := x
    simp only [List.cons_append, OwnL]
    exact ⟨o1, os' ++ [o], b3, b4 ++ b2, rfl, by simp, Own.keep _ _ _ (fun q hq => h q (by simp [hq])) x1, OwnL.snoc x2 (fun q hq => h q (by simp [hq])) y⟩

/-! ### A held list that is made and filled -/
/-- The first i elements are there: 'os', held in 'bs'; the block itself is b. -/
def OwnTo (es : List AV) (zs : List AV) (b : Nat) (st : Store) (i : Nat) (p : List AV × List Nat × Store) : Prop :=
  p.1.length = i ∧ OwnL p.2.2 (es.take i) p.1 p.2.1 ∧ p.2.1.Nodup ∧ b ∉ p.2.1 ∧ (∀ q ∈ p.2.1, st q = none) ∧ st b = none ∧ p.2.2 b = some (.cells (p.1.flatMap AV.cells ++ (List.replicate (es.length - i) zs).flatten)) ∧ ∀ q, q ≠ b → q ∉ p.2.1 → p.2.2 q = st q

theorem OwnTo.start {es zs : List AV} {b n : Nat} {st : Store} (hn : st b = none) (hl : n = es.length) : OwnTo es zs b st 0 ([], [], st.upd b (.cells (List.replicate n zs).flatten)) :=
  ⟨rfl, by simp [OwnL], List.nodup_nil, by simp, by simp, hn, by simp [Store.upd_same, hl], fun q h _ => Store.upd_ne _ _ h⟩

theorem OwnTo.done {es zs : List AV} {b n w : Nat} {st : Store} {os : List AV} {bs : List Nat} {s : Store} (h : OwnTo es zs b st n (os, bs, s)) (hl : es.length = n) (hw : ∀ e ∈ es, e.width = w) : Made st (.slice es) (.mslice b 0 n w) s := by
  obtain ⟨h1, h2, h3, h4, h5, h6, h7, h8⟩ := h
  simp only at h1 h2 h3 h4 h5 h7 h8
  rw [List.take_of_length_le (by omega)] at h2
  refine ⟨b :: bs, List.nodup_cons.2 ⟨h4, h3⟩, fun q hq => ?_, ?_, fun q hq => h8 q (fun e => hq (by simp [e])) (fun e => hq (by simp [e]))⟩
  · rcases List.mem_cons.1 hq with rfl | hq
    · exact h6
    · exact h5 q hq
  · simp only [Own]
    refine .inr ⟨b, bs, os, w, by rw [hl], rfl, ?_, h2, hw⟩
    rw [h7, hl]
    simp

theorem OwnTo.step {es zs : List AV} {b i w : Nat} {st : Store} {os : List AV} {bs : List Nat} {s s2 : Store} {e r : AV} (h : OwnTo es zs b st i (os, bs, s)) (hm : Made s e r s2) (he : es[i]? = some e) (hwe : e.width = w) (hw : ∀ e ∈ es, e.width = w) (hz : zs.length = w)
    (hst : e.cells.all AV.storable = true) (hag : e.isAgg = true ∨ e.cells = [e]) :
    ∃ A B, s2 b = some (.cells (A ++ zs ++ B)) ∧ A.length = i * w ∧ r.cells.length = w ∧ r.cells.all AV.storable = true ∧ OwnTo es zs b st (i + 1) (os ++ [r], bs ++ hm.choose, s2.upd b (.cells (A ++ r.cells ++ B))) := by
  obtain ⟨h1, h2, h3, h4, h5, h6, h7, h8⟩ := h
  simp only at h1 h2 h3 h4 h5 h7 h8
  obtain ⟨m1, m2, m3, m4⟩ := hm.choose_spec
  generalize hm.choose = bx at *
  have hi : i < es.length := (List.getElem?_eq_some_iff.1 he).1
  have hbx : b ∉ bx := fun hb => by have := m2 b hb; rw [h7] at this; cases this
  have hs2 : s2 b = s b := m4 b hbx
  have hlt : (os.flatMap AV.cells).length = i * w := by rw [h2.flatLen (fun q hq => hw q (List.mem_of_mem_take hq)), List.length_take, Nat.min_eq_left (by omega)]
  have hsol := OwnL.solid _ _ _ h2
  have hdis : ∀ q ∈ bs, q ∉ bx := fun q hq hx => by
    obtain ⟨cs, e1, _⟩ := hsol.2 q hq
    rw [m2 q hx] at e1; cases e1
  have hrep : (List.replicate (es.length - i) zs).flatten = zs ++ (List.replicate (es.length - (i + 1)) zs).flatten := by
    rw [show es.length - i = (es.length - (i + 1)) + 1 by omega, List.replicate_succ, List.flatten_cons]
  have hb2 : s2 b = some (.cells (os.flatMap AV.cells ++ zs ++ (List.replicate (es.length - (i + 1)) zs).flatten)) := by rw [hs2, h7, hrep, List.append_assoc]
  have hrl : r.cells.length = w := by rw [cells_width, (Own.shape m3).2.1, hwe]
  have hrs : r.cells.all AV.storable = true := by
    cases e <;> simp only [Own] at m3 <;> try exact m3.elim
    case int => rw [m3.1]; rfl
    case bool => rw [m3.1]; rfl
    case str => rw [m3.1]; rfl
    case slice => rcases m3 with ⟨_, rfl, _⟩ | ⟨_, _, _, _, rfl, _⟩ <;> rfl
    case agg cs =>
      obtain ⟨q, rfl, m3⟩ := m3
      refine (Own.agg_storable m3 fun c hc => ?_).1
      have hst : cs.all AV.storable = true := hst
      have := List.all_eq_true.1 hst c hc
      cases c <;> first | rfl | (simp [AV.storable] at this)
  refine ⟨os.flatMap AV.cells, _, hb2, hlt, hrl, hrs, by simp [h1], ?_, ?_, ?_, ?_, h6, ?_, ?_⟩
  · rw [List.take_add_one, he]
    have hne : ∀ q, q ≠ b → (s2.upd b (.cells (os.flatMap AV.cells ++ r.cells ++ (List.replicate (es.length - (i + 1)) zs).flatten))) q = s2 q := fun q hq => Store.upd_ne _ _ hq
    exact OwnL.snoc h2 (fun q hq => (hne q (fun e => h4 (e ▸ hq))).trans (m4 q (hdis q hq))) (Own.keep _ _ _ (fun q hq => hne q (fun e => hbx (e ▸ hq))) m3)
  · exact List.nodup_append.2 ⟨h3, m1, fun a ha c hc e => hdis a ha (e ▸ hc)⟩
  · intro hb
    rcases List.mem_append.1 hb with hb | hb
    · exact h4 hb
    · exact hbx hb
  · intro q hq
    rcases List.mem_append.1 hq with hq | hq
    · exact h5 q hq
    · by_cases hqb : q = b
      · rw [hqb]; exact h6
      · by_cases hqs : q ∈ bs
        · exact h5 q hqs
        · rw [← h8 q hqb hqs]; exact m2 q hq
  · simp only [Store.upd_same]
    simp
  · intro q hq hn
    simp only [List.mem_append, not_or] at hn
    exact (Store.upd_ne _ _ hq).trans ((m4 q hn.2).trans (h8 q hq hn.1))
/-- Made, with blocks left over that nothing holds. -/
def MadeJ (st : Store) (ds : List Nat) (a r : AV) (st' : Store) : Prop := ∃ bs : List Nat, bs.Nodup ∧ (∀ b ∈ bs, st b = none) ∧ (∀ d ∈ ds, st d = none ∧ d ∉ bs) ∧ Own st' a r bs ∧ ∀ b, b ∉ bs → b ∉ ds → st' b = st b
theorem ACalls.madeJ {P : Program} {g : FuncId} {args : List AV} {st : Store} {a : AV} (x : ACalls P g args st (fun r st' => ∃ ds, MadeJ st ds a r st')) : ACalls P g args st (Made st a) :=
  x.weak fun r st' ⟨ds, bs, h1, h2, hd, h3, h4⟩ => by
    refine ⟨r, fun q => if q ∈ ds then none else st' q, ?_, ?_, bs, h1, h2, ?_, fun b hb => ?_⟩
    · have D : Drops st' (fun q => if q ∈ ds then none else st' q) := fun q => by
        by_cases hq : q ∈ ds
        · simp only [hq, if_true]; exact ⟨fun _ => trivial, fun o h => by cases h⟩
        · simp only [hq, if_false]; exact ⟨id, fun o h => h⟩
      exact D.weakS
    · have D : Drops st' (fun q => if q ∈ ds then none else st' q) := fun q => by
        by_cases hq : q ∈ ds
        · simp only [hq, if_true]; exact ⟨fun _ => trivial, fun o h => by cases h⟩
        · simp only [hq, if_false]; exact ⟨id, fun o h => h⟩
      exact D.weak r
    · exact Own.keep _ _ _ (fun q hq => if_neg fun h => (hd q h).2 hq) h3
    · by_cases hq : b ∈ ds
      · simp only [hq, if_true]; exact (hd b hq).1.symm
      · simp only [hq, if_false]; exact h4 b hb hq

/-! ### What grew, held -/
def accB (b : Nat) : List AV → List Nat
  | [] => []
  | _ :: _ => [b]
theorem own_acc {s : Store} {b w : Nat} {es os : List AV} {bs : List Nat} (x : OwnL (accS s b os) es os bs) (hw : ∀ e ∈ es, e.width = w) : Own (accS s b os) (.slice es) (accV w b os) (accB b os ++ bs) := by
  have hl := x.length
  cases os with
  | nil =>
    have : es = [] := List.eq_nil_of_length_eq_zero (by simpa using hl.symm)
    subst this
    simp only [OwnL] at x
    simp only [Own, accV, accB, x.2]
    exact .inl ⟨trivial, trivial, rfl⟩
  | cons o os =>
    simp only [Own, accV, accB]
    refine .inr ⟨b, bs, o :: os, w, by rw [hl], rfl, ?_, x, hw⟩
    simp only [accS, Store.upd_same]
/-- Numbers, truth values and texts hold nothing. -/
def AV.flat : AV → Bool
  | .int _ _ | .bool _ | .str _ => true
  | _ => false
theorem OwnL.flat {s : Store} : ∀ {es : List AV}, es.all AV.flat = true → OwnL s es es []
  | [], _ => ⟨rfl, rfl⟩
  | e :: es, h => by
    simp only [List.all_cons, Bool.and_eq_true] at h
    simp only [OwnL]
    refine ⟨e, es, [], [], rfl, rfl, ?_, OwnL.flat h.2⟩
    cases e <;> simp [AV.flat] at h <;> simp [Own]

/-! ### Calls over more that is held -/
theorem Seen.nil {st s0 : Store} : Seen st s0 [] [] := rfl
theorem Seen.same {st s0 : Store} {x : AV} {os as : List AV} (h : Seen st s0 os as) : Seen st s0 (x :: os) (x :: as) := ⟨x, as, rfl, .inl rfl, h⟩
theorem Seen.own {st : Store} {a o : AV} {bs : List Nat} {os as : List AV} (hO : Own st a o bs) (h : Seen st none0' os as) : Seen st none0' (o :: os) (a :: as) := ⟨a, as, rfl, .inr ⟨bs, hO, fun _ _ => rfl⟩, h⟩
theorem ACalls.see {P : Program} {g : FuncId} {args args' : List AV} {st : Store} {r : AV} (x : ∀ s, ACalls P g args s (fun r' s' => r' = r ∧ s' = s)) (hv : Seen st none0' args' args) (hs : r.solid = true) : ACalls P g args' st (fun r' s' => r' = r ∧ s' = st) :=
  ACalls.frame0 hs (x none0') (Seen.rel (Drops.none0' st) hv)
theorem ACalls.seeMade {P : Program} {g : FuncId} {args args' : List AV} {st : Store} {a : AV} (x : ∀ s, ACalls P g args s (Made s a)) (hv : Seen st none0' args' args) : ACalls P g args' st (Made st a) :=
  ACalls.frameMade (x none0') (Seen.rel (Drops.none0' st) hv)
theorem ACalls.drop2 {P : Program} {g : FuncId} {args : List AV} {st : Store} {r : AV} (x : ACalls P g args st (fun r' st' => r' = r ∧ Drops st' st)) : ACalls P g args st (fun r' st' => r' = r ∧ st' = st) :=
  (x.mono fun _ _ h => ⟨h.2, h.1⟩).drop
end Go.AW
