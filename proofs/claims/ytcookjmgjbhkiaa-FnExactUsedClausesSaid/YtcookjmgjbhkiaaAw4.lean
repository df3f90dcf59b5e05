/- More of the operations that leave the owned store alone: slices, composites, conversions, lookups. -/
import Derived.Test.YtcookjmgjbhkiaaAw3
namespace Go.AW

def aBound (φ : AF) (x : Option Operand) (dflt most : Nat) : Option Nat :=
  match x with
  | none => some dflt
  | some y => match φ.eval y with
    | .int _ n => if 0 ≤ n ∧ n ≤ most then some n.toNat else none
    | _ => none

def widthOk (es : List AV) (l sz : Nat) : Bool := match es[l]? with | some e => e.width == sz | none => true

/-- 'x[lo:hi:mx]' -/
def aSlice (P : Program) (φ : AF) (t : TypeId) (x : AV) (lo hi mx : Option Operand) : Option AV :=
  match x with
  | .str s => match P.underlying t, mx with
    | some .string, none => match aBound φ hi s.size s.size with
      | some h => match aBound φ lo 0 h with
        | some l => some (.str (s.extract l h))
        | none => none
      | none => none
    | _, _ => none
  | .slice es | .fslice es => match eI P t with
    | some (_, sz) => if mx.isSome ∧ hi.isNone then none else match aBound φ mx es.length es.length with
      | some m => match aBound φ hi es.length m with
        | some h => match aBound φ lo 0 h with
          | some l => if l = 0 ∨ widthOk es l sz = true then
              some (if mx.isSome ∧ m = h then .fslice ((es.take h).drop l) else .slice ((es.take h).drop l)) else none
          | none => none
        | none => none
      | none => none
    | none => none
  | .mslice b off len n => match eI P t, mx with
    | some (_, sz), none => match aBound φ hi len len with
      | some h => match aBound φ lo 0 h with
        | some l => if n = sz ∧ l = 0 then some (.mslice b off h n) else none
        | none => none
      | none => none
    | _, _ => none
  | _ => none

section
variable {P : Program} {st : Store} {w : World} {a : Act} {φ : AF}

theorem bound_ok (F : FRel w.heap st a.tmps φ) {y : Operand} {dflt most most' r : Nat} (code : BoundsCode) (e : aBound φ (some y) dflt most = some r) (hm : most ≤ most') :
    (Instr.sliceBound (a.eval y) most' code).run P w = .ok r w ∧ r ≤ most := by
  simp only [aBound] at e
  have z := VRel.eval F y
  split at e
  · rename_i k n hn
    rw [hn] at z
    split at e
    · rename_i h
      cases e
      rw [z.int_of]
      have h2 : n ≤ (most' : Int) := by omega
      refine ⟨?_, by omega⟩
      simp [Instr.sliceBound, asIntOf, h.1, h2]
    · cases e
  · cases e

theorem bounds2_ok (F : FRel w.heap st a.tmps φ) {lo hi : Option Operand} {isS : Bool} {len len' cap h l : Nat} (eh : aBound φ hi len len' = some h) (el : aBound φ lo 0 h = some l) (hl : len ≤ len') (hc : len' ≤ cap) :
    (Instr.sliceBounds isS len cap (lo.map a.eval) (hi.map a.eval) none).run P w = .ok (l, h, cap) w ∧ l ≤ h ∧ h ≤ len' := by
  have hh : h ≤ len' := by
    cases hi with
    | none => cases eh; exact hl
    | some y => exact (bound_ok (P := P) F .index eh (Nat.le_refl _)).2
  have hll : l ≤ h := by
    cases lo with
    | none => cases el; exact Nat.zero_le _
    | some y => exact (bound_ok (P := P) F .index el (Nat.le_refl _)).2
  refine ⟨?_, hll, hh⟩
  cases hi with
  | none =>
    cases eh
    cases lo with
    | none => cases el; simp [Instr.sliceBounds]
    | some y =>
      have := (bound_ok (P := P) F .sliceB el (Nat.le_refl _)).1
      simp [Instr.sliceBounds, this]
  | some z =>
    have h1 := (bound_ok (P := P) F (if isS then .sliceAcap else .sliceAlen) eh hc).1
    cases lo with
    | none => cases el; simp [Instr.sliceBounds, h1]
    | some y =>
      have := (bound_ok (P := P) F .sliceB el (Nat.le_refl _)).1
      simp [Instr.sliceBounds, h1, this]

theorem bounds3_ok (F : FRel w.heap st a.tmps φ) {lo hi : Option Operand} {x y : Operand} {len cap h l m : Nat} (he : hi = some y) (em : aBound φ (some x) len len = some m) (eh : aBound φ hi len m = some h) (el : aBound φ lo 0 h = some l) (hc : len ≤ cap) :
    (Instr.sliceBounds true len cap (lo.map a.eval) (hi.map a.eval) (some (a.eval x))).run P w = .ok (l, h, m) w ∧ l ≤ h ∧ h ≤ m ∧ m ≤ len := by
  subst he
  have h0 := bound_ok (P := P) F .slice3Acap em hc
  have h1 := bound_ok (P := P) F .slice3B eh (Nat.le_refl _)
  have hll : l ≤ h := by
    cases lo with
    | none => cases el; exact Nat.zero_le _
    | some y => exact (bound_ok (P := P) F .index el (Nat.le_refl _)).2
  refine ⟨?_, hll, h1.2, h0.2⟩
  cases lo with
  | none => cases el; simp [Instr.sliceBounds, h0.1, h1.1]
  | some y =>
    have := (bound_ok (P := P) F .slice3C el (Nat.le_refl _)).1
    simp [Instr.sliceBounds, h0.1, h1.1, this]

theorem slice_ok {t : TypeId} {x : Operand} {lo hi mx : Option Operand} {r : AV} {o : Oper} (ho : o.op = .slice t x lo hi mx) (F : FRel w.heap st a.tmps φ) (e : aSlice P φ t (φ.eval x) lo hi mx = some r) : Yld st w r ((execOp a.eval o).run P w) := by
  have y := VRel.eval F x
  have imm : ∀ {es : List AV}, VRel w.heap st (.slice es) (a.eval x) →
      (match eI P t with
        | some (_, sz) => if mx.isSome ∧ hi.isNone then none else match aBound φ mx es.length es.length with
          | some m => match aBound φ hi es.length m with
            | some h => match aBound φ lo 0 h with
              | some l => if l = 0 ∨ widthOk es l sz = true then
                  some (if mx.isSome ∧ m = h then .fslice ((es.take h).drop l) else .slice ((es.take h).drop l)) else none
              | none => none
            | none => none
          | none => none
        | none => none) = some r → Yld st w r ((execOp a.eval o).run P w) := by
    intro es y e
    split at e
    case h_2 => cases e
    rename_i ag sz hI
    obtain ⟨e', hu, hT⟩ := eI_run hI
    obtain ⟨_, r2, _⟩ := tI_run hT w
    split at e
    case isTrue => cases e
    rename_i hno
    split at e
    case h_2 => cases e
    rename_i m hm
    split at e
    case h_2 => cases e
    rename_i h hh
    split at e
    case h_2 => cases e
    rename_i l hl
    split at e
    case isFalse => cases e
    rename_i hw
    cases e
    -- the bounds
    have key : ∀ base cap, a.eval x = .slice base es.length cap → es.length ≤ cap → ∃ M, (execOp a.eval o).run P w = .ok (.value (.slice (if M = l then base else base.map (·.add (l * sz))) (h - l) (M - l))) w ∧ l ≤ h ∧ h ≤ es.length ∧ h ≤ M ∧ M ≤ cap ∧ (mx.isSome ∧ m = h → M = h) := by
      intro base cap hv hc
      cases mx with
      | none =>
        cases hm
        obtain ⟨b1, b2, b3⟩ := bounds2_ok (P := P) (isS := true) F hh hl (Nat.le_refl _) hc
        refine ⟨cap, ?_, b2, b3, by omega, Nat.le_refl _, by simp⟩
        simp only [execOp, ho, Instr.sliceAt, Sem.run_bind, run_underlying' hu, Result.andThen_ok, Instr.slice, hv, Option.map_none, b1, r2, Sem.run_pure]
      | some z =>
        cases hi with
        | none =>
          exact absurd ⟨rfl, rfl⟩ hno
        | some y' =>
          obtain ⟨b1, b2, b3, b4⟩ := bounds3_ok (P := P) F rfl hm hh hl hc
          refine ⟨m, ?_, b2, by omega, b3, by omega, fun q => q.2⟩
          simp only [execOp, ho, Instr.sliceAt, Sem.run_bind, run_underlying' hu, Result.andThen_ok, Instr.slice, hv]
          rw [show (some z).map a.eval = some (a.eval z) from rfl, b1]
          simp only [Result.andThen_ok, r2, Sem.run_pure]
    rcases y.slice_of with ⟨⟨p0, hv⟩, rfl⟩ | ⟨b, off, cap, hv, l1, l2, e2, e3, ev, e4⟩
    · obtain ⟨M, r1, b1, b2, b3, b4, b5⟩ := key p0 0 hv (by simp)
      have hM : M = 0 := by omega
      have hh0 : h = 0 := by omega
      have hl0 : l = 0 := by omega
      subst hM hh0 hl0
      refine .same (v := .slice p0 0 0) (by rw [r1]; simp) ?_
      split
      · exact ⟨rfl, .inl ⟨⟨p0, rfl⟩, by simp⟩⟩
      · exact ⟨rfl, .inl ⟨⟨p0, rfl⟩, by simp⟩⟩
    · obtain ⟨M, r1, b1, b2, b3, b4, b5⟩ := key _ cap hv l1
      have hlen : ((es.take h).drop l).length = h - l := by simp; omega
      obtain ⟨n, hn⟩ := ev
      have hE : ∃ off', VEs w.heap st b off' ((es.take h).drop l) ∧ (if M = l then some (⟨b, off, none⟩ : Addr) else (some (⟨b, off, none⟩ : Addr)).map (·.add (l * sz))) = some ⟨b, off', none⟩ := by
        by_cases hMl : M = l
        · have : (es.take h).drop l = [] := by apply List.eq_nil_of_length_eq_zero; omega
          refine ⟨off, by rw [this]; simp [VEs], by rw [if_pos hMl]⟩
        · refine ⟨off + l * sz, ?_, by rw [if_neg hMl]; simp [Addr.add_flat]⟩
          have base : VEs w.heap st b (off + l * n) ((es.take h).drop l) := VEs.drop l (fun x hx => hn x (List.mem_of_mem_take hx)) (VEs.take h e4)
          rcases hw with hw | hw
          · subst hw; simpa using base
          · unfold widthOk at hw
            split at hw
            · rename_i e'' he''
              have h1 : e''.width = sz := by simpa using hw
              have h2 := hn e'' (List.mem_of_getElem? he'')
              rw [← h1, h2]; exact base
            · rename_i hnone
              have h3 : es.length ≤ l := by simpa using hnone
              have : (es.take h).drop l = [] := by apply List.eq_nil_of_length_eq_zero; omega
              rw [this]; simp [VEs]
      obtain ⟨off', hE1, hE2⟩ := hE
      have hEv : Even ((es.take h).drop l) := ⟨n, fun x hx => hn x (List.mem_of_mem_take (List.mem_of_mem_drop hx))⟩
      refine .same (v := .slice (some ⟨b, off', none⟩) (h - l) (M - l)) (by rw [r1, hE2]) ?_
      split
      · rename_i hc
        have := b5 hc
        subst this
        exact ⟨rfl, .inr ⟨b, off', by rw [hlen]; rfl, by omega, e2, e3, hEv, hE1⟩⟩
      · exact ⟨rfl, .inr ⟨b, off', M - l, by rw [hlen]; rfl, by omega, by omega, e2, e3, hEv, hE1⟩⟩
  unfold aSlice at e
  split at e
  · rename_i s hx
    rw [hx] at y
    split at e
    case h_2 => cases e
    rename_i hu
    split at e
    case h_2 => cases e
    rename_i h hh
    split at e
    case h_2 => cases e
    rename_i l hl
    cases e
    obtain ⟨b1, b2, b3⟩ := bounds2_ok (P := P) (isS := false) F hh hl (Nat.le_refl _) (Nat.le_refl s.size)
    refine .same (v := .string (s.extract l h)) ?_ ⟨rfl, rfl, by have h1 := y.str_of.2; rw [ByteArray.size_extract]; omega⟩
    simp only [execOp, ho, Instr.sliceAt, Sem.run_bind, run_underlying' hu, Result.andThen_ok, Instr.slice, y.str_of.1, Option.map_none, Option.isSome_none, Bool.false_eq_true, if_false, b1, Sem.run_pure]
  · rename_i es hx
    rw [hx] at y
    exact imm y e
  · rename_i es hx
    rw [hx] at y
    exact imm y.fslice_slice e
  · rename_i b off len n hx
    rw [hx] at y
    obtain ⟨cap, hv, l1, l2, c, t', hb, l3⟩ := y.mslice_of
    split at e
    case h_2 => cases e
    rename_i ag sz hI
    obtain ⟨e', hu, hT⟩ := eI_run hI
    obtain ⟨_, r2, _⟩ := tI_run hT w
    split at e
    case h_2 => cases e
    rename_i h hh
    split at e
    case h_2 => cases e
    rename_i l hl
    split at e
    case isFalse => cases e
    rename_i hc
    cases e
    obtain ⟨hc1, hc2⟩ := hc
    subst hc2
    obtain ⟨b1, b2, b3⟩ := bounds2_ok (P := P) (isS := true) F hh hl (Nat.le_refl _) l1
    refine .same (v := .slice (some ⟨b, off, none⟩) h cap) ?_ ⟨rfl, cap, rfl, by omega, l2, c, t', hb, l3⟩
    simp only [execOp, ho, Instr.sliceAt, Sem.run_bind, run_underlying' hu, Result.andThen_ok, Instr.slice, hv, Option.map_none, b1, r2, Sem.run_pure]
    simp [Addr.add]
  · cases e
end
end Go.AW
