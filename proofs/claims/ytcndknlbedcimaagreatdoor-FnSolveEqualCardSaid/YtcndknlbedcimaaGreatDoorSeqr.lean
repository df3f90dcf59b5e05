/- What a law is handed, read as data; the law's row from a contract. -/
import Derived.Test.YtcndknlbedcimaaGreatDoorSeqf
import Derived.ProofKit
import Derived.Test.YtcndknlbedcimaaGreatDoorSeql
import Derived.Test.YtcndknlbedcimaaGreatDoorSeqh
import Derived.Test.YtcndknlbedcimaaGreatDoorSeqq
set_option linter.unusedSimpArgs false
set_option linter.unusedVariables false
set_option maxRecDepth 100000
namespace Go.AW
open Go.ChangeShapes Go.WideShapes Go.ChangeAt Go.RowKit
abbrev none0 : zy7 := fun _ => none
section
variable {H : Type} {enc : TypeId × Value → H} {P : Program} {w : World}
def Reads (enc : TypeId × Value → H) (P : Program) (w : World) (t n : Nat) {α : Type} (av : α → AV) : Prop :=
 ∀ cs x, DataW.trod enc P w 0 (fun _ => true) true n t cs = some x → ∃ a : α, VC w.heap none0 (av a) cs
theorem VEs_each {h : Heap} {st : zy7} {b k : Nat} : ∀ {es : List AV} {off : Nat}, (∀ e ∈ es, e.width = k) → (∀ (i : Nat) e, es[i]? = some e → VE h st b (off + i * k) e) → VEs h st b off es
 | [], _, _, _ => by simp [VEs]
 | e :: es, off, hw, h => by
  simp only [VEs]
  refine ⟨by simpa [VE] using h 0 e rfl, VEs_each (fun x hx => hw x (by simp [hx])) fun i x hx => ?_⟩
  have := h (i + 1) x (by simpa using hx)
  rw [hw e (by simp), Nat.add_assoc, ← Nat.succ_mul' k i] 
  exact this
where Nat.succ_mul' (k i : Nat) : (i + 1) * k = k + i * k := by rw [Nat.succ_mul]; omega
theorem cell_spot {a : Addr} {v : Value} (h : w.cell? a = some v) : a.spot = none ∧ a.block < w.heap.size ∧ cellAt w.heap a.block a.off = some v := by
 unfold World.cell? at h
 split at h
 · rename_i c t fr hb
   split at h
   · cases h
   · rename_i hs
     refine ⟨by simpa using hs, (Array.getElem?_eq_some_iff.1 hb).1, by simp [cellAt, hb, h]⟩
 · cases h
theorem cells_at {a : Addr} {n : Nat} {cs : List Value} (hs : a.spot = none) (h : w.cells? 0 a n = some cs) : cellsAt w.heap a.block a.off cs ∧ cs.length = n := by
 obtain ⟨_, hl, hc⟩ := World.cells?_some h
 refine ⟨?_, hl⟩
 have : ∀ (l : List Value) (k : Nat), (∀ i, i < l.length → w.cell? (a.add (k + i)) = l[i]?) → cellsAt w.heap a.block (a.off + k) l := by
  intro l
  induction l with
  | nil => intro _ _; trivial
  | cons v l ih =>
   intro k hk
   refine ⟨?_, ?_⟩
   · have := (cell_spot (hk 0 (by simp))).2.2
     obtain ⟨b, off, sp⟩ := a
     simp only at hs
     subst hs
     simpa [Addr.add_flat] using this
   · have := ih (k + 1) (fun i hi => by have := hk (i + 1) (by simp; omega); rw [show k + 1 + i = k + (i + 1) by omega]; simpa using this)
     simpa [Nat.add_assoc] using this
 simpa using this cs 0 (fun i hi => by simpa using hc i (by omega))
theorem reads_slice {t e n k : Nat} {α : Type} {av : α → AV} (ht : P.underlying t = some (.slice e)) (hk : P.cellsOf e = k) (hpos : 0 < k) (hw : ∀ a, (av a).width = k) (hr : ∀ m, m < n → Reads enc P w e m av) :
 Reads enc P w t n (fun l : List α => .slice (l.map av)) := by
 intro cs x h
 rcases DataW.trod_slice ht h with ⟨rfl, _⟩ | ⟨a, len, cap, elems, rest, m, hm, rfl, rfl, _, hl, hcap, hlen, hel, hsp, _⟩
 · exact ⟨[], by simp only [List.map_nil]; unfold VC; exact .inl ⟨⟨_, rfl⟩, rfl⟩⟩
 obtain ⟨hrl, hrest⟩ := hsp rfl
 rw [hk] at hel hrest
 have get : ∀ i, i < cap → ∃ ds y, w.cells? 0 (a.add (i * k)) k = some ds ∧ DataW.trod enc P w 0 (fun _ => true) true m e ds = some y := by
  intro i hi
  have hb : ∃ y, (w.cells? 0 (a.add (i * k)) k).bind (DataW.trod enc P w 0 (fun _ => true) true m e) = some y := by
   by_cases hi' : i < len
   · exact ⟨elems[i]'(by omega), by rw [hel i hi']; simp [show i < elems.length by omega]⟩
   · have := hrest (i - len) (by omega)
     rw [show len + (i - len) = i by omega] at this
     exact ⟨rest[i - len]'(by omega), by rw [this]; simp [show i - len < rest.length by omega]⟩
  obtain ⟨y, hy⟩ := hb
  obtain ⟨ds, h1, h2⟩ := Option.bind_eq_some_iff.1 hy
  exact ⟨ds, y, h1, h2⟩
 by_cases hc0 : cap = 0
 · subst hc0
   obtain rfl : len = 0 := by omega
   exact ⟨[], by simp only [List.map_nil]; unfold VC; exact .inl ⟨⟨_, rfl⟩, rfl⟩⟩
 obtain ⟨ds0, _, hd0, _⟩ := get 0 (by omega)
 have hspot : a.spot = none ∧ a.block < w.heap.size := by
  obtain ⟨_, hl0, hc⟩ := World.cells?_some hd0
  have := hc 0 hpos
  have h0 : ds0[0]? = some (ds0[0]'(by omega)) := by simp [hl0, hpos]
  rw [h0] at this
  have := cell_spot this
  obtain ⟨b, off, sp⟩ := a
  simp only [Nat.zero_mul] at this
  cases sp with
  | none => exact ⟨rfl, by simpa [Addr.add_flat] using this.2.1⟩
  | some s => exact absurd this.1 (by simp [Addr.add])
 obtain ⟨b, off, sp⟩ := a
 simp only at hspot
 obtain ⟨rfl, hbl⟩ := hspot
 have val : ∀ i, i < len → ∃ v : α, VE w.heap none0 b (off + i * k) (av v) := by
  intro i hi
  obtain ⟨ds, y, h1, h2⟩ := get i (by omega)
  obtain ⟨v, hv⟩ := hr m (by omega) ds y h2
  obtain ⟨c1, c2⟩ := cells_at (a := (⟨b, off, none⟩ : Addr).add (i * k)) (by simp [Addr.add_flat]) h1
  exact ⟨v, ds, by simpa [Addr.add_flat] using c1, by rw [hw]; exact c2, hv⟩
 have build : ∀ j, j ≤ len → ∃ l : List α, l.length = j ∧ ∀ (i : Nat) v, l[i]? = some v → VE w.heap none0 b (off + i * k) (av v) := by
  intro j
  induction j with
  | zero => intro _; exact ⟨[], rfl, by simp⟩
  | succ j ih =>
   intro hj
   obtain ⟨l, h1, h2⟩ := ih (by omega)
   obtain ⟨v, hv⟩ := val j (by omega)
   refine ⟨l ++ [v], by simp [h1], fun i u hi => ?_⟩
   rw [List.getElem?_append] at hi
   split at hi
   · exact h2 i u hi
   · rename_i hge
     have : i = j := by
      have := (List.getElem?_eq_some_iff.1 hi).1
      simp at this
      omega
     subst this
     simp [h1] at hi
     subst hi
     exact hv
 obtain ⟨l, h1, h2⟩ := build len (Nat.le_refl _)
 refine ⟨l, ?_⟩
 unfold VC
 refine .inr ⟨b, off, cap, by simp [h1], by simp [h1]; exact hl, hcap, rfl, hbl, even_map hw l, VEs_each (k := k) (by intro e he; simp only [List.mem_map] at he; obtain ⟨v, _, rfl⟩ := he; exact hw v) fun i e he => ?_⟩
 rw [List.getElem?_map] at he
 obtain ⟨v, hv, rfl⟩ := Option.map_eq_some_iff.1 he
 exact h2 i v hv
theorem reads_val {t : TypeId} {α : Type} {av : α → AV} {v : Value} {d : DataW H} {ps : List MemPlace} (hr : ∀ n, Reads enc P w t n av) (hag : ∀ a, (av a).isAgg = vIsAgg v) (h : DataW.Trod enc P w 0 (fun _ => true) true t v d ps) :
 ∃ a : α, VRel w.heap none0 (av a) v := by
 obtain ⟨n, hn⟩ := h
 obtain ⟨a, ha⟩ := hr n _ _ hn
 refine ⟨a, ?_⟩
 have := hag a
 cases hq : av a <;> rw [hq] at ha this <;> first | trivial | exact ⟨this, ha⟩
theorem trodAll_stays (hl : laidOutB P = true) {W W' : World} {sp : Nat → Bool} : ∀ {ts : List TypeId} {vs : List Value} {ds : List (DataW H)} {ps : List MemPlace}, (ts.all fun t => P.readableRec t && decide (t < P.types.size)) = true →
 DataW.TrodAll enc P W 0 (fun _ => true) true ts vs ds ps → (∀ x ∈ ps, W.sameAt W' x) → (∀ x ∈ ps, sp x.block = true) → DataW.TrodAll enc P W' 0 sp true ts vs ds ps
 | [], vs, ds, ps, _, h, _, _ => by
  cases vs <;> cases ds <;> simp [DataW.TrodAll] at h ⊢
  exact h
 | t :: ts, vs, ds, ps, ht, h, h1, h2 => by
  obtain ⟨v, vs', d, ds', p, q, rfl, rfl, rfl, hd, hrest⟩ := trodAll_cons h
  simp only [List.all_cons, Bool.and_eq_true, decide_eq_true_eq] at ht
  refine ⟨p, q, Go.WideElems.Trod_stays hl ht.1.1 ht.1.2 hd (fun x hx => h1 x (by simp [hx])) (fun x hx => h2 x (by simp [hx])), trodAll_stays hl ht.2 hrest (fun x hx => h1 x (by simp [hx])) (fun x hx => h2 x (by simp [hx])), rfl⟩
theorem below_of {W W' : World} {st' : zy7} (T : StepH W.heap none0 W'.heap st') (s : Same W W') : Below W.heap.size W W' :=
 ⟨s.1, s.2.1, s.2.2, T.size, fun k hk => (T.keep k hk rfl).1⟩
theorem law_row {f : Func} {g : FuncId} {s : ChangeSpec} {W : World} {args : Array Value} {ds : List (DataW H)} {before : List MemPlace} {avs : List AV} {tb : TypeId}
 (hl : laidOutB P = true) (hts : (f.params.toList.all fun t => P.readableRec t && decide (t < P.types.size)) = true) (hrt : f.resultTypes = #[tb]) (htb : P.underlying tb = some .bool) (hsv : s.vars = [])
 (hW : DataW.Whole enc P f.params.toList [] false W args.toList ds [] before) (hfn : s.fn H ds = { results := [.lit (.bool true)], args := ds }) (hrel : VRelL W.heap none0 avs args.toList)
 (hc : zq7 P g avs none0 (fun r _ => r = .bool true)) :
 Calls P g args W fun e W' => ∃ v, e = .returned v ∧ s.post enc P f false true false false W args v W' := by
 have hS : SRel W.heap none0 := fun b o h => by cases h
 have := hc.2 W args.toList hS hrel
 simp only [Array.toArray_toList] at this
 refine this.mono ?_
 rintro e W' ⟨v, r, st', rfl, hv, _, T, sm, rfl⟩
 refine ⟨v, rfl, ?_⟩
 have hB := below_of T sm
 rw [hv.bool_of]
 have hW' : DataW.Whole enc P f.params.toList s.vars false W args.toList ds [] before := by rw [hsv]; exact hW
 obtain ⟨p, q, hA, hV, rfl, hz, _⟩ := hW
 obtain ⟨_, rfl⟩ := trodVars_none hV
 have hlt : ∀ x ∈ p, x.block < W.heap.size := fun x hx => hW'.lt x (by simp [hx])
 have hres : ∀ (b : Nat) (sp : Nat → Bool) (hd : Bool), DataW.TrodAll enc P W' b sp hd f.resultTypes.toList ((Value.bool true).resultList f.resultTypes.size) (s.fn H (ds ++ [])).results [] := fun _ _ _ => by
  rw [List.append_nil, hfn, hrt]
  exact trodAll_mk1 (shut_bool htb true)
 have hargs : ∀ sp : Nat → Bool, (∀ x ∈ p, sp x.block = true) → DataW.TrodAll enc P W' 0 sp true f.params.toList args.toList (s.fn H (ds ++ [])).args p := fun sp hsp => by
  rw [List.append_nil, hfn]
  exact trodAll_stays hl hts hA (fun x hx => hB.same (hlt x hx)) hsp
 have hvars : ∀ sp : Nat → Bool, DataW.TrodVars enc P W' sp s.vars (s.fn H (ds ++ [])).vars [] := fun sp => by
  rw [List.append_nil, hfn, hsv]
  exact rfl
 refine ⟨ds, [], p ++ [], [], p, [], hW', hres _ _ _, hargs _ (fun x hx => by simpa using hlt x hx), hvars _, World.keptBut_mono (fun x hx => ⟨hx, by simpa using hx⟩) (hB.frame (· ∈ p ++ [])), fun _ => ?_⟩
 refine ⟨ok_one hrt rfl (okWide_bool_mk htb true), _, _, ([] ++ p) ++ [], ⟨[] ++ p, [], trodAll_append (hargs _ (fun _ _ => rfl)) (hres _ _ _), hvars _, rfl, ?_, ?_⟩, ?_⟩
 · intro b off hp
   have hp' : MemPlace.cell b off ∈ p := by simpa using hp
   rw [hB.frozen (p := ⟨b, off, none⟩) (hlt _ hp')]
   exact hz b off (by simpa using hp')
 · intro ha; cases ha
 · intro x hx _
   simpa using hx
end
end Go.AW

namespace Go.AW
open Go.Proofs.Tryz
section
variable {H : Type} {enc : TypeId × Value → H} {w : World}
theorem cellsOf_uint8 : prog.cellsOf 5 = 1 := by kernel_rfl
theorem reads_byte (n : Nat) : Reads enc prog w 5 n byteAv := by
 intro cs x h
 obtain ⟨k, rfl, _, hw⟩ := DataW.trod_int underlying5 h
 simp only [Lit.wf, IntKind.min, IntKind.max, IntKind.signed, IntKind.bits, Bool.and_eq_true, decide_eq_true_eq] at hw
 refine ⟨⟨k.toNat, ?_⟩, ?_⟩
 · simp at hw; omega
 · have : (((k.toNat : Nat)) : Int) = k := by simp at hw; omega
   simp only [byteAv, this, VC]
theorem reads_bytes (n : Nat) : Reads enc prog w 40 n (fun l : List Bt => .slice (l.map byteAv)) :=
 reads_slice underlying40 cellsOf_uint8 (by omega) byteAv_width fun m _ => reads_byte m
end
section
variable {H : Type} {enc : TypeId × Value → H} {w : World}
theorem wide_slice {r : Reach} {b0 : Nat} {t e : TypeId} {v : Value} (ht : prog.underlying t = some (.slice e)) (h : Value.okWide prog w r b0 t v) : vIsAgg v = false := by
 cases v <;> first | rfl | (simp [Value.okWide, ht, Cell.okWide, Cell.ok] at h)
end
end Go.AW
