/- Loops whose frame is kept, lists that are walked, lists that grow. -/
import Derived.Test.YtaifeijnedoboaaCbFind
namespace Go.AW
set_option linter.unusedSimpArgs false
set_option linter.unusedVariables false

/-! ### Slots that a loop leaves alone -/
def keepL (φ : AF) : List Nat → List (Nat × AV) → List (Nat × AV)
  | [], l => l
  | d :: ds, l => (d, φ d) :: keepL φ ds l
/-! ### Lengths -/
/-! ### A list that grows -/
/-- A slice that the function alone holds: nil, or a block of its own. -/
def accV (w b : Nat) : List AV → AV
  | [] => .fslice []
  | x :: l => .mslice b 0 (x :: l).length w
def accS (st : Store) (b : Nat) : List AV → Store
  | [] => st
  | x :: l => st.upd b (.cells ((x :: l).flatMap AV.cells))
theorem Drops.accS {st st' : Store} (x : Drops st st') {b : Nat} {l : List AV} (h : l ≠ [] → st' b = none) : Drops (accS st b l) st' := by
  cases l with
  | nil => exact x
  | cons y l => exact x.upd (h (by simp))

/-! ### At the end it is never written again -/
/-- The held list, seen as a slice. -/
def AV.fin (b : Nat) (l : List AV) (r : AV) : AV := if l.isEmpty = true then r.soft else (r.fz b l).soft
/-- The held list is never written again from here on. -/
theorem LessL.fin {φ : AF} {st st' : Store} {L : List (Nat × AV)} (b : Nat) (l : List AV) (hb : l ≠ [] → st b = none) (hj : ∀ e ∈ l, e.isJunk = false) (hE : Even l) (d : Drops st st') (h : hasL (fun d => (φ d).fin b l) L) : LessL φ (accS st b l) L st' := by
  cases l with
  | nil =>
    intro h0 tmps S F
    have e : hasL (fun d => (φ d).soft) L := h
    have T := Less.drop (φ := fun d => (φ d).soft) d
    have F' : FRel h0 st tmps (fun d => (φ d).soft) := fun x => (F x).soft
    obtain ⟨s1, s2, s3⟩ := (T.trans (Less.frL e)) h0 tmps S F'
    exact ⟨s1, s2, s3⟩
  | cons y l =>
    have hst : (accS st b (y :: l)) b = some (.cells ((y :: l).flatMap AV.cells)) := Store.upd_same _ _ _
    have he : (accS st b (y :: l)).erase b = st := Store.erase_upd st b _ (hb (by simp))
    have L1 : Less φ (accS st b (y :: l)) (fun d => (φ d).fz b (y :: l)) st := by
      have := Less.freeze (φ := φ) hst hj hE
      rwa [he] at this
    intro h0 tmps S F
    obtain ⟨a1, a2, a3⟩ := L1 h0 tmps S F
    have F' : FRel h0 st tmps (fun d => ((φ d).fz b (y :: l)).soft) := fun x => (a3 x).soft
    obtain ⟨s1, s2, s3⟩ := ((Less.drop (φ := fun d => ((φ d).fz b (y :: l)).soft) d).trans (Less.frL h)) h0 tmps a1 F'
    exact ⟨s1, a2.trans s2, s3⟩
theorem ACalls.fin {P : Program} {g : FuncId} {args : List AV} {st : Store} {Q : AV → Store → Prop}
    (x : ACalls P g args st (fun r st' => ∃ b l s0, st' = accS s0 b l ∧ (l ≠ [] → s0 b = none) ∧ (∀ e ∈ l, e.isJunk = false) ∧ Even l ∧ Q (r.fin b l) s0)) : ACalls P g args st Q :=
  x.weak fun r st' ⟨b, l, s0, h1, h0, h2, h3, h4⟩ => by
    cases l with
    | nil =>
      exact ⟨r.fin b [], st', (Drops.refl _).weakS, fun h v S y => y.soft, by have e : st' = s0 := h1; rw [e]; exact h4⟩
    | cons e l =>
      have hb := h0 (by simp)
      subst h1
      have h1 : accS s0 b (e :: l) b = some (.cells ((e :: l).flatMap AV.cells)) := by simp only [accS, Store.upd_same]
      have e1 : (accS s0 b (e :: l)).erase b = s0 := by simp only [accS]; exact Store.erase_upd _ _ _ hb
      refine ⟨r.fin b (e :: l), s0, ?_, fun h v S y => ?_, h4⟩
      · have := (Drops.erase' (accS s0 b (e :: l)) b).weakS
        rwa [e1] at this
      · have := y.fz S h1 h2 h3
        rw [e1] at this
        exact this.soft

end Go.AW

/- Values that are held in blocks of their own; calls that leave what is held alone. -/
namespace Go.AW
set_option linter.unusedSimpArgs false
set_option linter.unusedVariables false

/-! ### Nothing of memory that is never written -/
mutual
def AV.solid : AV → Bool
  | .slice _ => false
  | .fslice es => es.isEmpty
  | .pptr _ => false
  | .agg cs => solidL cs
  | .tup vs => solidL vs
  | .func _ cs => solidL cs
  | _ => true
def solidL : List AV → Bool
  | [] => true
  | a :: as => a.solid && solidL as
end
def AO.solid : AO → Prop
  | .cells cs => solidL cs = true
  | .map f => ∀ n a, f n = some a → a.solid = true

section
variable {h : Heap} {st st' : Store}
mutual
theorem VC.anyS : ∀ (a : AV) (cs : List Value), a.solid = true → VC h st a cs → VC h st' a cs
  | .junk, _, _, x => x
  | .undef, _, _, x => x
  | .int _ _, _, _, x => x
  | .bool _, _, _, x => x
  | .str _, _, _, x => x
  | .agg as, cs, s, x => by simp only [VC] at x ⊢; exact VCs.anyS as cs (by simpa [AV.solid] using s) x
  | .tup as, cs, s, x => by
    simp only [VC] at x ⊢
    obtain ⟨vs, e, r⟩ := x
    exact ⟨vs, e, VTs.anyS as vs (by simpa [AV.solid] using s) r⟩
  | .slice es, _, s, _ => by simp [AV.solid] at s
  | .fslice es, cs, s, x => by
    have he : es = [] := by simpa [AV.solid] using s
    subst he
    unfold VC at x ⊢
    rcases x with x | ⟨b, off, e, _⟩
    · exact .inl x
    · exact .inl ⟨⟨_, e⟩, rfl⟩
  | .mslice b off len n, _, _, x => x
  | .nilptr, _, _, x => x
  | .ptr _ _, _, _, x => x
  | .pptr e, _, s, _ => by simp [AV.solid] at s
  | .nilmap, _, _, x => x
  | .map _, _, _, x => x
  | .func _ as, cs, s, x => by
    simp only [VC] at x ⊢
    obtain ⟨vs, e, r⟩ := x
    exact ⟨vs, e, VTs.anyS as vs (by simpa [AV.solid] using s) r⟩
  | .raw _, _, _, x => x
  | .eslice, _, _, x => x
theorem VCs.anyS : ∀ (as : List AV) (cs : List Value), solidL as = true → VCs h st as cs → VCs h st' as cs
  | [], _, _, x => x
  | a :: as, cs, s, x => by
    simp only [VCs] at x ⊢
    simp only [solidL, Bool.and_eq_true] at s
    obtain ⟨c, r, e, x1, x2⟩ := x
    exact ⟨c, r, e, VC.anyS a [c] s.1 x1, VCs.anyS as r s.2 x2⟩
theorem VTs.anyS : ∀ (as : List AV) (cs : List Value), solidL as = true → VTs h st as cs → VTs h st' as cs
  | [], _, _, x => x
  | a :: as, cs, s, x => by
    simp only [VTs] at x ⊢
    simp only [solidL, Bool.and_eq_true] at s
    obtain ⟨v, r, e, x1, x2⟩ := x
    exact ⟨v, r, e, ⟨x1.1, VC.anyS a _ s.1 x1.2⟩, VTs.anyS as r s.2 x2⟩
end
theorem VRel.anyS {a : AV} {v : Value} (s : a.solid = true) (x : VRel h st a v) : VRel h st' a v := by
  cases a <;> first | trivial | exact ⟨x.1, VC.anyS _ _ s x.2⟩
theorem ORel.anyS {b : Nat} : ∀ {o : AO}, o.solid → ORel h st b o → ORel h st' b o
  | .cells as, s, x => by
    obtain ⟨c, t, e, l, vs, x1, x2⟩ := x
    exact ⟨c, t, e, l, vs, x1, VCs.anyS as vs s x2⟩
  | .map f, s, x => by
    obtain ⟨es, cl, e, x1, x2, x3⟩ := x
    refine ⟨es, cl, e, x1, x2, fun n => ?_⟩
    have := x3 n
    split
    · rename_i a ha
      rw [ha] at this
      obtain ⟨e, he, hk, hv⟩ := this
      exact ⟨e, he, hk, hv.anyS (s n a ha)⟩
    · rename_i ha
      rw [ha] at this
      exact this
end

/-! ### A call that sees a part of what is held -/
/-- Behind the call: what was kept from it is as it was. -/
def Store.frame (st s0 s1 : Store) : Store := fun b => match s0 b, st b with
  | none, some o => some o
  | _, _ => s1 b

/-- **The rest stays as it was**: 's0' is the part of the held store that the call sees. -/
theorem ACalls.frame {P : Program} {g : FuncId} {args args' : List AV} {st s0 : Store} {Q : AV → Store → Prop} (D : Drops st s0)
    (x : ACalls P g args s0 (fun r s1 => (∀ b, s0 b = none → s1 b ≠ none → st b = none) → r.solid = true ∧ (∀ b o, s1 b = some o → o.solid) ∧ Q r (st.frame s0 s1)))
    (hv : ∀ h vs, SRel h st → VRelL h st args' vs → VRelL h s0 args vs) : ACalls P g args' st Q := by
  refine ⟨x.1, fun w vs S V => (x.2 w vs (D.srel S) (hv _ _ S V)).mono ?_⟩
  rintro _ w' ⟨v, r, s1, rfl, hr, S1, T, sm, q⟩
  have hfr : ∀ b, s0 b = none → s1 b ≠ none → st b = none := fun b h0 h1 => by
    cases hb : st b with
    | none => rfl
    | some o => exact absurd (T.keep b (S b o hb).1 h0).2 h1
  obtain ⟨hs, ho, hq⟩ := q hfr
  have T' : StepH w.heap st w'.heap (st.frame s0 s1) := by
    refine ⟨T.size, fun b hb e => ?_, T.shape⟩
    obtain ⟨k1, k2⟩ := T.keep b hb ((D b).1 e)
    exact ⟨k1, by simp only [Store.frame, e, k2]; split <;> first | rfl | (rename_i h; cases h)⟩
  refine ⟨v, r, st.frame s0 s1, rfl, hr.anyS hs, fun b o hb => ?_, T', sm, hq⟩
  simp only [Store.frame] at hb
  split at hb
  · rename_i o' h0 h1
    cases hb
    obtain ⟨l, y⟩ := S b _ h1
    exact ⟨Nat.lt_of_lt_of_le l T.size, ORel.mono T' (T.keep b l h0).1 y⟩
  · obtain ⟨l, y⟩ := S1 b o hb
    exact ⟨l, y.anyS (ho b o hb)⟩

def none0' : Store := fun _ => none
theorem Drops.none0' (st : Store) : Drops st none0' := fun _ => ⟨fun _ => rfl, fun _ h => by cases h⟩
/-! ### Held values -/
mutual
/-- 'o' is 'a' with its slices held in the blocks 'bs'. -/
def Own (st : Store) : AV → AV → List Nat → Prop
  | .int k n, o, bs => o = .int k n ∧ bs = []
  | .bool b, o, bs => o = .bool b ∧ bs = []
  | .str s, o, bs => o = .str s ∧ bs = []
  | .agg cs, o, bs => ∃ os, o = .agg os ∧ OwnL st cs os bs
  | .slice es, o, bs => (es = [] ∧ o = .fslice [] ∧ bs = []) ∨ ∃ b bs' os w, o = .mslice b 0 es.length w ∧ bs = b :: bs' ∧ st b = some (.cells (os.flatMap AV.cells)) ∧ OwnL st es os bs' ∧ (∀ e ∈ es, e.width = w)
  | _, _, _ => False
def OwnL (st : Store) : List AV → List AV → List Nat → Prop
  | [], os, bs => os = [] ∧ bs = []
  | a :: as, os, bs => ∃ o os' b1 b2, os = o :: os' ∧ bs = b1 ++ b2 ∧ Own st a o b1 ∧ OwnL st as os' b2
end

theorem OwnL.length {st : Store} : ∀ {as os : List AV} {bs : List Nat}, OwnL st as os bs → os.length = as.length
  | [], os, bs, x => by simp only [OwnL] at x; simp [x.1]
  | a :: as, os, bs, x => by
    simp only [OwnL] at x
    obtain ⟨o, os', b1, b2, rfl, rfl, _, x2⟩ := x
    simp [OwnL.length x2]

theorem Own.shape {st : Store} : ∀ {a o : AV} {bs : List Nat}, Own st a o bs → o.isAgg = a.isAgg ∧ o.width = a.width ∧ o.isJunk = false ∧ (∀ cs, a = .agg cs → ∃ os, o = .agg os)
  | .int k n, o, bs, x => by simp only [Own] at x; rw [x.1]; exact ⟨rfl, rfl, rfl, by simp⟩
  | .bool b, o, bs, x => by simp only [Own] at x; rw [x.1]; exact ⟨rfl, rfl, rfl, by simp⟩
  | .str s, o, bs, x => by simp only [Own] at x; rw [x.1]; exact ⟨rfl, rfl, rfl, by simp⟩
  | .agg cs, o, bs, x => by
    simp only [Own] at x
    obtain ⟨os, rfl, x⟩ := x
    exact ⟨rfl, x.length, rfl, fun _ _ => ⟨os, rfl⟩⟩
  | .slice es, o, bs, x => by
    simp only [Own] at x
    rcases x with ⟨_, rfl, _⟩ | ⟨b, bs', os, w, rfl, _⟩ <;> exact ⟨rfl, rfl, rfl, by simp⟩
  | .junk, _, _, x => x.elim
  | .undef, _, _, x => x.elim
  | .tup _, _, _, x => x.elim
  | .fslice _, _, _, x => x.elim
  | .mslice _ _ _ _, _, _, x => x.elim
  | .nilptr, _, _, x => x.elim
  | .ptr _ _, _, _, x => x.elim
  | .pptr _, _, _, x => x.elim
  | .nilmap, _, _, x => x.elim
  | .map _, _, _, x => x.elim
  | .func _ _, _, _, x => x.elim
  | .raw _, _, _, x => x.elim
  | .eslice, _, _, x => x.elim

section
variable {st st' : Store}
mutual
theorem Own.keep : ∀ (a o : AV) (bs : List Nat), (∀ b ∈ bs, st' b = st b) → Own st a o bs → Own st' a o bs
  | .int k n, o, bs, _, x => x
  | .bool b, o, bs, _, x => x
  | .str s, o, bs, _, x => x
  | .agg cs, o, bs, h, x => by
    simp only [Own] at x ⊢
    obtain ⟨os, e, x⟩ := x
    exact ⟨os, e, OwnL.keep cs os bs h x⟩
  | .slice es, o, bs, h, x => by
    simp only [Own] at x ⊢
    rcases x with x | ⟨b, bs', os, w, e1, rfl, e2, x, e3⟩
    · exact .inl x
    · exact .inr ⟨b, bs', os, w, e1, rfl, (h b (by simp)).trans e2, OwnL.keep es os bs' (fun q hq => h q (by simp [hq])) x, e3⟩
  | .junk, _, _, _, x => x
  | .undef, _, _, _, x => x
  | .tup _, _, _, _, x => x
  | .fslice _, _, _, _, x => x
  | .mslice _ _ _ _, _, _, _, x => x
  | .nilptr, _, _, _, x => x
  | .ptr _ _, _, _, _, x => x
  | .pptr _, _, _, _, x => x
  | .nilmap, _, _, _, x => x
  | .map _, _, _, _, x => x
  | .func _ _, _, _, _, x => x
  | .raw _, _, _, _, x => x
  | .eslice, _, _, _, x => x
theorem OwnL.keep : ∀ (as os : List AV) (bs : List Nat), (∀ b ∈ bs, st' b = st b) → OwnL st as os bs → OwnL st' as os bs
  | [], os, bs, _, x => x
  | a :: as, os, bs, h, x => by
    simp only [OwnL] at x ⊢
    obtain ⟨o, os', b1, b2, e1, rfl, x1, x2⟩ := x
    exact ⟨o, os', b1, b2, e1, rfl, Own.keep a o b1 (fun q hq => h q (by simp [hq])) x1, OwnL.keep as os' b2 (fun q hq => h q (by simp [hq])) x2⟩
end

mutual
theorem Own.solid : ∀ (a o : AV) (bs : List Nat), Own st a o bs → o.solid = true ∧ o.cells.all AV.storable = o.cells.all AV.storable ∧ ∀ b ∈ bs, ∃ cs, st b = some (.cells cs) ∧ solidL cs = true
  | .int k n, o, bs, x => by simp only [Own] at x; rw [x.1, x.2]; exact ⟨rfl, rfl, by simp⟩
  | .bool b, o, bs, x => by simp only [Own] at x; rw [x.1, x.2]; exact ⟨rfl, rfl, by simp⟩
  | .str s, o, bs, x => by simp only [Own] at x; rw [x.1, x.2]; exact ⟨rfl, rfl, by simp⟩
  | .agg cs, o, bs, x => by
    simp only [Own] at x
    obtain ⟨os, rfl, x⟩ := x
    obtain ⟨h1, h2⟩ := OwnL.solid cs os bs x
    exact ⟨by simpa [AV.solid] using h1.1, rfl, h2⟩
  | .slice es, o, bs, x => by
    simp only [Own] at x
    rcases x with ⟨_, rfl, rfl⟩ | ⟨b, bs', os, w, rfl, rfl, e2, x, e3⟩
    · exact ⟨rfl, rfl, by simp⟩
    · obtain ⟨h1, h2⟩ := OwnL.solid es os bs' x
      refine ⟨rfl, rfl, fun q hq => ?_⟩
      rcases List.mem_cons.1 hq with rfl | hq
      · exact ⟨_, e2, h1.2⟩
      · exact h2 q hq
  | .junk, _, _, x => x.elim
  | .undef, _, _, x => x.elim
  | .tup _, _, _, x => x.elim
  | .fslice _, _, _, x => x.elim
  | .mslice _ _ _ _, _, _, x => x.elim
  | .nilptr, _, _, x => x.elim
  | .ptr _ _, _, _, x => x.elim
  | .pptr _, _, _, x => x.elim
  | .nilmap, _, _, x => x.elim
  | .map _, _, _, x => x.elim
  | .func _ _, _, _, x => x.elim
  | .raw _, _, _, x => x.elim
  | .eslice, _, _, x => x.elim
theorem OwnL.solid : ∀ (as os : List AV) (bs : List Nat), OwnL st as os bs → (solidL os = true ∧ solidL (os.flatMap AV.cells) = true) ∧ ∀ b ∈ bs, ∃ cs, st b = some (.cells cs) ∧ solidL cs = true
  | [], os, bs, x => by simp only [OwnL] at x; rw [x.1, x.2]; exact ⟨⟨rfl, rfl⟩, by simp⟩
  | a :: as, os, bs, x => by
    simp only [OwnL] at x
    obtain ⟨o, os', b1, b2, rfl, rfl, x1, x2⟩ := x
    obtain ⟨h1, _, h2⟩ := Own.solid a o b1 x1
    obtain ⟨⟨h3, h4⟩, h5⟩ := OwnL.solid as os' b2 x2
    have happ : ∀ (p q : List AV), solidL p = true → solidL q = true → solidL (p ++ q) = true := by
      intro p q hp hq
      induction p with
      | nil => exact hq
      | cons c p ih => simp only [solidL, Bool.and_eq_true, List.cons_append] at hp ⊢; exact ⟨hp.1, ih hp.2⟩
    have hc : solidL o.cells = true := by cases o <;> first | (simpa [AV.cells, solidL] using h1) | (simpa [AV.cells, AV.solid] using h1)
    refine ⟨⟨by simp [solidL, h1, h3], by rw [List.flatMap_cons]; exact happ _ _ hc h4⟩, fun q hq => ?_⟩
    rcases List.mem_append.1 hq with hq | hq
    · exact h2 q hq
    · exact h5 q hq
end
end

/-! ### What is held, seen as what is never written -/
section
variable {h : Heap} {st s0 : Store}
mutual
theorem Own.view (S : SRel h st) (D : Drops st s0) : ∀ (a o : AV) (bs : List Nat) (cs : List Value), Own st a o bs → (∀ b ∈ bs, s0 b = none) → VC h st o cs → VC h s0 a cs
  | .int k n, o, bs, cs, x, _, y => by simp only [Own] at x; rw [x.1] at y; exact y
  | .bool b, o, bs, cs, x, _, y => by simp only [Own] at x; rw [x.1] at y; exact y
  | .str s, o, bs, cs, x, _, y => by simp only [Own] at x; rw [x.1] at y; exact y
  | .agg as, o, bs, cs, x, hb, y => by
    simp only [Own] at x
    obtain ⟨os, rfl, x⟩ := x
    simp only [VC] at y ⊢
    exact OwnL.viewC S D as os bs cs x hb y
  | .slice es, o, bs, cs, x, hb, y => by
    simp only [Own] at x
    rcases x with ⟨rfl, rfl, rfl⟩ | ⟨b, bs', os, w, rfl, rfl, e2, x, e3⟩
    · unfold VC at y ⊢
      rcases y with y | ⟨b, off, e, _⟩
      · exact .inl y
      · exact .inl ⟨⟨_, e⟩, rfl⟩
    · simp only [VC] at y
      obtain ⟨cap, e, l1, l2, _⟩ := y
      obtain ⟨hlt, c, t, q1, q2, vs, q3, q4⟩ := S b _ e2
      have hsh := OwnL.shapes x
      unfold VC
      refine .inr ⟨b, 0, cap, e, l1, l2, hb b (by simp), hlt, ⟨w, e3⟩, OwnL.viewE S D b es os bs' 0 x (fun q hq => hb q (by simp [hq])) (VEs_of_flat (fun q hq => hsh q hq) q3 q4)⟩
  | .junk, _, _, _, x, _, _ => x.elim
  | .undef, _, _, _, x, _, _ => x.elim
  | .tup _, _, _, _, x, _, _ => x.elim
  | .fslice _, _, _, _, x, _, _ => x.elim
  | .mslice _ _ _ _, _, _, _, x, _, _ => x.elim
  | .nilptr, _, _, _, x, _, _ => x.elim
  | .ptr _ _, _, _, _, x, _, _ => x.elim
  | .pptr _, _, _, _, x, _, _ => x.elim
  | .nilmap, _, _, _, x, _, _ => x.elim
  | .map _, _, _, _, x, _, _ => x.elim
  | .func _ _, _, _, _, x, _, _ => x.elim
  | .raw _, _, _, _, x, _, _ => x.elim
  | .eslice, _, _, _, x, _, _ => x.elim
theorem OwnL.viewC (S : SRel h st) (D : Drops st s0) : ∀ (as os : List AV) (bs : List Nat) (cs : List Value), OwnL st as os bs → (∀ b ∈ bs, s0 b = none) → VCs h st os cs → VCs h s0 as cs
  | [], os, bs, cs, x, _, y => by simp only [OwnL] at x; rw [x.1] at y; exact y
  | a :: as, os, bs, cs, x, hb, y => by
    simp only [OwnL] at x
    obtain ⟨o, os', b1, b2, rfl, rfl, x1, x2⟩ := x
    simp only [VCs] at y ⊢
    obtain ⟨c, r, e, y1, y2⟩ := y
    exact ⟨c, r, e, Own.view S D a o b1 [c] x1 (fun q hq => hb q (by simp [hq])) y1, OwnL.viewC S D as os' b2 r x2 (fun q hq => hb q (by simp [hq])) y2⟩
theorem OwnL.viewE (S : SRel h st) (D : Drops st s0) (b : Nat) : ∀ (as os : List AV) (bs : List Nat) (off : Nat), OwnL st as os bs → (∀ b ∈ bs, s0 b = none) → VEs h st b off os → VEs h s0 b off as
  | [], os, bs, off, x, _, y => by simp only [VEs]
  | a :: as, os, bs, off, x, hb, y => by
    simp only [OwnL] at x
    obtain ⟨o, os', b1, b2, rfl, rfl, x1, x2⟩ := x
    simp only [VEs] at y ⊢
    obtain ⟨⟨cs, y1, y2, y3⟩, y4⟩ := y
    have hw := (Own.shape x1).2.1
    rw [hw] at y2 y4
    exact ⟨⟨cs, y1, y2, Own.view S D a o b1 cs x1 (fun q hq => hb q (by simp [hq])) y3⟩, OwnL.viewE S D b as os' b2 _ x2 (fun q hq => hb q (by simp [hq])) y4⟩
theorem OwnL.shapes : ∀ {as os : List AV} {bs : List Nat}, OwnL st as os bs → ∀ o ∈ os, o.isJunk = false
  | [], os, bs, x => by simp only [OwnL] at x; rw [x.1]; simp
  | a :: as, os, bs, x => by
    simp only [OwnL] at x
    obtain ⟨o, os', b1, b2, rfl, rfl, x1, x2⟩ := x
    intro q hq
    rcases List.mem_cons.1 hq with rfl | hq
    · exact (Own.shape x1).2.2.1
    · exact OwnL.shapes x2 q hq
end
theorem Own.viewV (S : SRel h st) (D : Drops st s0) {a o : AV} {bs : List Nat} {v : Value} (x : Own st a o bs) (hb : ∀ b ∈ bs, s0 b = none) (y : VRel h st o v) : VRel h s0 a v := by
  have hs := x.shape
  have key : o.isAgg = vIsAgg v ∧ VC h st o v.cells.toList := by
    cases o <;> first | exact y | simp [AV.isJunk] at hs
  have z : a.isAgg = vIsAgg v ∧ VC h s0 a v.cells.toList := ⟨hs.1.symm.trans key.1, Own.view S D _ _ _ _ x hb key.2⟩
  cases ha : a <;> rw [ha] at z <;> first | trivial | exact z
end

/-- Each argument: as it is, or held. -/
def Seen (st s0 : Store) : List AV → List AV → Prop
  | [], as => as = []
  | o :: os, as => ∃ a as', as = a :: as' ∧ (o = a ∨ ∃ bs, Own st a o bs ∧ ∀ b ∈ bs, s0 b = none) ∧ Seen st s0 os as'
/-! ### What a function has made -/
def Made (st : Store) (a r : AV) (st' : Store) : Prop := ∃ bs : List Nat, bs.Nodup ∧ (∀ b ∈ bs, st b = none) ∧ Own st' a r bs ∧ ∀ b, b ∉ bs → st' b = st b

/-- What was made is not written again: it is seen as a plain value. -/
theorem ACalls.made {P : Program} {g : FuncId} {args : List AV} {st : Store} {a : AV} (x : ACalls P g args st (Made st a)) : ACalls P g args st (fun r st' => r = a ∧ st' = st) :=
  x.weak fun r st' ⟨bs, _, h2, h3, h4⟩ => by
    have D : Drops st' st := fun b => ⟨fun e => by
      by_cases hb : b ∈ bs
      · exact h2 b hb
      · rw [← h4 b hb]; exact e, fun o e => by
      by_cases hb : b ∈ bs
      · rw [h2 b hb] at e; cases e
      · rw [h4 b hb]; exact e⟩
    exact ⟨a, st, D.weakS, fun h v S y => h3.viewV S D h2 y, rfl, rfl⟩

end Go.AW

/- One element of a held list; held lists that grow or are filled. -/
namespace Go.AW
set_option linter.unusedSimpArgs false
set_option linter.unusedVariables false

theorem OwnL.focus {st : Store} : ∀ {as os : List AV} {bs : List Nat}, OwnL st as os bs → bs.Nodup → ∀ (i : Nat) (a : AV), as[i]? = some a →
    ∃ od o orr bo, os = od ++ o :: orr ∧ od.length = i ∧ Own st a o bo ∧ bo.Nodup ∧ (∀ b ∈ bo, b ∈ bs) ∧
      ∀ (st' : Store) (a' o' : AV), (∀ b ∈ bs, b ∉ bo → st' b = st b) → Own st' a' o' bo → OwnL st' (as.set i a') (od ++ o' :: orr) bs
  | [], os, bs, _, _, i, a, h => by simp at h
  | c :: as, os, bs, x, nd, 0, a, h => by
    simp only [OwnL] at x
    obtain ⟨o, os', b1, b2, rfl, rfl, x1, x2⟩ := x
    simp at h; subst h
    rw [List.nodup_append] at nd
    refine ⟨[], o, os', b1, rfl, rfl, x1, nd.1, fun b hb => by simp [hb], fun st' a' o' hk y => ?_⟩
    simp only [List.set_cons_zero, List.nil_append, OwnL]
    exact ⟨o', os', b1, b2, rfl, rfl, y, OwnL.keep _ _ _ (fun q hq => hk q (by simp [hq]) (fun hq' => nd.2.2 q hq' q hq rfl)) x2⟩
  | c :: as, os, bs, x, nd, i + 1, a, h => by
    simp only [OwnL] at x
    obtain ⟨o, os', b1, b2, rfl, rfl, x1, x2⟩ := x
    rw [List.nodup_append] at nd
    obtain ⟨od, o2, orr, bo, rfl, hl, y1, y2, y3, y4⟩ := OwnL.focus x2 nd.2.1 i a (by simpa using h)
    refine ⟨o :: od, o2, orr, bo, rfl, by simp [hl], y1, y2, fun b hb => by simp [y3 b hb], fun st' a' o' hk y => ?_⟩
    simp only [List.set_cons_succ, List.cons_append, OwnL]
    refine ⟨o, _, b1, b2, rfl, rfl, Own.keep _ _ _ (fun q hq => hk q (by simp [hq]) (fun hq' => nd.2.2 q hq q (y3 q hq') rfl)) x1, y4 st' a' o' (fun q hq hn => hk q (by simp [hq]) hn) y⟩

theorem OwnL.flatLen {st : Store} {w : Nat} : ∀ {as os : List AV} {bs : List Nat}, OwnL st as os bs → (∀ e ∈ as, e.width = w) → (os.flatMap AV.cells).length = as.length * w
  | [], os, bs, x, _ => by simp only [OwnL] at x; rw [x.1]; simp
  | a :: as, os, bs, x, h => by
    simp only [OwnL] at x
    obtain ⟨o, os', b1, b2, rfl, rfl, x1, x2⟩ := x
    have := OwnL.flatLen x2 (fun e he => h e (by simp [he]))
    rw [List.flatMap_cons, List.length_append, this, cells_width, (Own.shape x1).2.1, h a (by simp), List.length_cons, Nat.succ_mul]
    omega

theorem OwnL.take {st : Store} : ∀ {as od or' : List AV} {bs : List Nat}, OwnL st as (od ++ or') bs → ∃ bs', OwnL st (as.take od.length) od bs'
  | as, [], or', bs, _ => ⟨[], by simp [OwnL]⟩
  | [], o :: od, or', bs, x => by simp [OwnL] at x
  | a :: as, o :: od, or', bs, x => by
    simp only [OwnL, List.cons_append] at x
    obtain ⟨o1, os', b1, b2, e, rfl, x1, x2⟩ := x
    obtain ⟨rfl, rfl⟩ := List.cons.inj e
    obtain ⟨bs', h⟩ := OwnL.take x2
    exact ⟨b1 ++ bs', by simp only [List.length_cons, List.take_succ_cons, OwnL]; exact ⟨o, od, b1, bs', rfl, rfl, x1, h⟩⟩

/-- One element of a held list, and the list when that element alone has turned. -/
theorem Own.focus {st : Store} {es : List AV} {o : AV} {bs : List Nat} (x : Own st (.slice es) o bs) (nd : bs.Nodup) {i : Nat} {e : AV} (h : es[i]? = some e) :
    ∃ b bs' w A oe bo B, o = .mslice b 0 es.length w ∧ bs = b :: bs' ∧ st b = some (.cells (A ++ oe.cells ++ B)) ∧ A.length = i * w ∧ Own st e oe bo ∧ bo.Nodup ∧ b ∉ bo ∧ (∀ q ∈ bo, q ∈ bs) ∧ e.width = w ∧ i < es.length ∧
      ∀ (st' : Store) (e' oe' : AV), e'.width = w → (∀ q ∈ bs, q ≠ b → q ∉ bo → st' q = st q) → st' b = some (.cells (A ++ oe'.cells ++ B)) → Own st' e' oe' bo → Own st' (.slice (es.set i e')) o bs := by
  have hi : i < es.length := (List.getElem?_eq_some_iff.1 h).1
  simp only [Own] at x
  rcases x with ⟨rfl, _⟩ | ⟨b, bs', os, w, rfl, rfl, e2, x, e3⟩
  · simp at h
  · rw [List.nodup_cons] at nd
    obtain ⟨od, oe, orr, bo, rfl, hl, y1, y2, y3, y4⟩ := OwnL.focus x nd.2 i e h
    have hA : (od.flatMap AV.cells).length = i * w := by
      obtain ⟨bs2, ht⟩ := OwnL.take x
      rw [ht.flatLen (fun q hq => e3 q (List.mem_of_mem_take hq)), List.length_take, hl, Nat.min_eq_left (by omega)]
    refine ⟨b, bs', w, od.flatMap AV.cells, oe, bo, orr.flatMap AV.cells, rfl, rfl, by rw [e2]; simp, hA, y1, y2, fun hb => nd.1 (y3 b hb), fun q hq => by simp [y3 q hq], e3 e (List.mem_of_getElem? h), hi, ?_⟩
    intro st' e' oe' hw hk hb hO
    simp only [Own]
    refine .inr ⟨b, bs', od ++ oe' :: orr, w, by simp, rfl, by rw [hb]; simp, y4 st' e' oe' (fun q hq hn => hk q (by simp [hq]) (fun hqb => nd.1 (hqb ▸ hq)) hn) hO, fun q hq => ?_⟩
    rcases List.mem_or_eq_of_mem_set hq with hq | rfl
    · exact e3 q hq
    · exact hw

/-! ### Cells in the midst of a block -/
theorem setCells_mid {A C B x : List AV} {n j : Nat} (hA : A.length = n) (hj : j + x.length ≤ C.length) : setCells (A ++ C ++ B) (n + j) x = A ++ setCells C j x ++ B := by
  subst hA
  unfold setCells
  have h1 : (A ++ C ++ B).take (A.length + j) = A ++ C.take j := by
    rw [List.append_assoc, List.take_length_add_append, List.take_append_of_le_length (by omega)]
  have h2 : (A ++ C ++ B).drop (A.length + j + x.length) = C.drop (j + x.length) ++ B := by
    rw [List.append_assoc, Nat.add_assoc, List.drop_length_add_append, List.drop_append_of_le_length (by omega)]
  rw [h1, h2]
  simp
theorem midE {A B : List AV} {n : Nat} (hA : A.length = n) : (∀ (C : List AV) (v : AV) (j : Nat), j < C.length → setCells (A ++ C ++ B) (n + j) [v] = A ++ C.set j v ++ B) ∧ (∀ (C : List AV) (c : Nat), c < C.length → n + c + 1 ≤ (A ++ C ++ B).length) ∧
    (∀ (C : List AV) (c : Nat), c < C.length → (A ++ C ++ B)[n + c]? = C[c]?) ∧ (∀ (C : List AV) (v : AV), 0 < C.length → setCells (A ++ C ++ B) n [v] = A ++ C.set 0 v ++ B) ∧ (∀ (C : List AV), 0 < C.length → n + 1 ≤ (A ++ C ++ B).length) ∧
    ∀ (C : List AV), 0 < C.length → (A ++ C ++ B)[n]? = C[0]? := by
  have k1 : (∀ (C : List AV) (v : AV) (j : Nat), j < C.length → setCells (A ++ C ++ B) (n + j) [v] = A ++ C.set j v ++ B) ∧ (∀ (C : List AV) (c : Nat), c < C.length → n + c + 1 ≤ (A ++ C ++ B).length) ∧ ∀ (C : List AV) (c : Nat), c < C.length → (A ++ C ++ B)[n + c]? = C[c]? := ?_
  · exact ⟨k1.1, k1.2.1, k1.2.2, fun C v h => k1.1 C v 0 h, fun C h => k1.2.1 C 0 h, fun C h => k1.2.2 C 0 h⟩
  refine ⟨fun C v j h => ?_, fun C c h => ?_, fun C c h => ?_⟩
  · rw [setCells_mid hA (by simp; omega), List.set_eq_take_append_cons_drop, if_pos h]
    unfold setCells
    simp
  · simp only [List.length_append]; omega
  · subst hA
    rw [List.append_assoc, List.getElem?_append_right (by omega), Nat.add_sub_cancel_left, List.getElem?_append_left h]

theorem partE {A B C x : List AV} {n w : Nat} (hA : A.length = n) (hC : C.length = w) (hx : x.length = w) : setCells (A ++ C ++ B) n x = A ++ x ++ B ∧ n + w ≤ (A ++ C ++ B).length := by
  have h := setCells_mid (A := A) (C := C) (B := B) (x := x) (n := n) (j := 0) hA (by omega)
  rw [Nat.add_zero] at h
  refine ⟨?_, by simp only [List.length_append]; omega⟩
  rw [h]
  unfold setCells
  simp [hC, hx]

theorem Own.agg_storable {st : Store} : ∀ {cs os : List AV} {bs : List Nat}, OwnL st cs os bs → (∀ c ∈ cs, c.isAgg = false) → os.all AV.storable = true ∧ os.flatMap AV.cells = os
  | [], os, bs, x, _ => by simp only [OwnL] at x; rw [x.1]; simp
  | a :: as, os, bs, x, h => by
    simp only [OwnL] at x
    obtain ⟨o, os', b1, b2, rfl, rfl, x1, x2⟩ := x
    have ih := Own.agg_storable x2 (fun c hc => h c (by simp [hc]))
    have ha := h a (by simp)
    have ho : o.storable = true ∧ o.cells = [o] := by
      cases a <;> simp only [Own] at x1 <;> try exact x1.elim
      case int => rw [x1.1]; exact ⟨rfl, rfl⟩
      case bool => rw [x1.1]; exact ⟨rfl, rfl⟩
      case str => rw [x1.1]; exact ⟨rfl, rfl⟩
      case agg => simp [AV.isAgg] at ha
      case slice => rcases x1 with ⟨_, rfl, _⟩ | ⟨b, bs', os, w, rfl, _⟩ <;> exact ⟨rfl, rfl⟩
    rw [List.all_cons, ho.1, ih.1, List.flatMap_cons, ih.2, ho.2]
    exact ⟨rfl, rfl⟩

/-! ### A held list that grows -/
theorem OwnL.snoc {st st' : Store} {a o : AV} {b2 : List Nat} : ∀ {as os : List AV} {b1 : List Nat}, OwnL st as os b1 → (∀ b ∈ b1, st' b = st b) → Own st' a o b2 → OwnL st' (as ++ [a]) (os ++ [o]) (b1 ++ b2)
  | [], os, b1, x, _, y => by
    simp only [OwnL] at x
    rw [x.1, x.2]
    simp only [List.nil_append, OwnL]
    exact ⟨o, [], b2, [], rfl, by simp, y, rfl, rfl⟩
  | c :: as, os, b1, x, h, y => by
    simp only [OwnL] at x
    obtain ⟨o1, os', b3, b4, rfl, rfl, x1, x2⟩ := x
    simp only [List.cons_append, OwnL]
    exact ⟨o1, os' ++ [o], b3, b4 ++ b2, rfl, by simp, Own.keep _ _ _ (fun q hq => h q (by simp [hq])) x1, OwnL.snoc x2 (fun q hq => h q (by simp [hq])) y⟩

/-! ### A held list that is made and filled -/
/-- The first i elements are there: 'os', held in 'bs'; the block itself is b. -/
def OwnTo (es : List AV) (zs : List AV) (b : Nat) (st : Store) (i : Nat) (p : List AV × List Nat × Store) : Prop :=
  p.1.length = i ∧ OwnL p.2.2 (es.take i) p.1 p.2.1 ∧ p.2.1.Nodup ∧ b ∉ p.2.1 ∧ (∀ q ∈ p.2.1, st q = none) ∧ st b = none ∧ p.2.2 b = some (.cells (p.1.flatMap AV.cells ++ (List.replicate (es.length - i) zs).flatten)) ∧ ∀ q, q ≠ b → q ∉ p.2.1 → p.2.2 q = st q

theorem OwnTo.start {es zs : List AV} {b n : Nat} {st : Store} (hn : st b = none) (hl : n = es.length) : OwnTo es zs b st 0 ([], [], st.upd b (.cells (List.replicate n zs).flatten)) :=
  ⟨rfl, by simp [OwnL], List.nodup_nil, by simp, by simp, hn, by simp [Store.upd_same, hl], fun q h _ => Store.upd_ne _ _ h⟩

theorem OwnTo.done {es zs : List AV} {b n w : Nat} {st : Store} {os : List AV} {bs : List Nat} {s : Store} (h : OwnTo es zs b st n (os, bs, s)) (hl : es.length = n) (hw : ∀ e ∈ es, e.width = w) : Made st (.slice es) (.mslice b 0 n w) s := by
  obtain ⟨h1, h2, h3, h4, h5, h6, h7, h8⟩ := h
  simp only at h1 h2 h3 h4 h5 h7 h8
  rw [List.take_of_length_le (by omega)] at h2
  refine ⟨b :: bs, List.nodup_cons.2 ⟨h4, h3⟩, fun q hq => ?_, ?_, fun q hq => h8 q (fun e => hq (by simp [e])) (fun e => hq (by simp [e]))⟩
  · rcases List.mem_cons.1 hq with rfl | hq
    · exact h6
    · exact h5 q hq
  · simp only [Own]
    refine .inr ⟨b, bs, os, w, by rw [hl], rfl, ?_, h2, hw⟩
    rw [h7, hl]
    simp

theorem OwnTo.step {es zs : List AV} {b i w : Nat} {st : Store} {os : List AV} {bs : List Nat} {s s2 : Store} {e r : AV} (h : OwnTo es zs b st i (os, bs, s)) (hm : Made s e r s2) (he : es[i]? = some e) (hwe : e.width = w) (hw : ∀ e ∈ es, e.width = w) (hz : zs.length = w)
    (hst : e.cells.all AV.storable = true) (hag : e.isAgg = true ∨ e.cells = [e]) :
    ∃ A B, s2 b = some (.cells (A ++ zs ++ B)) ∧ A.length = i * w ∧ r.cells.length = w ∧ r.cells.all AV.storable = true ∧ OwnTo es zs b st (i + 1) (os ++ [r], bs ++ hm.choose, s2.upd b (.cells (A ++ r.cells ++ B))) := by
  obtain ⟨h1, h2, h3, h4, h5, h6, h7, h8⟩ := h
  simp only at h1 h2 h3 h4 h5 h7 h8
  obtain ⟨m1, m2, m3, m4⟩ := hm.choose_spec
  generalize hm.choose = bx at *
  have hi : i < es.length := (List.getElem?_eq_some_iff.1 he).1
  have hbx : b ∉ bx := fun hb => by have := m2 b hb; rw [h7] at this; cases this
  have hs2 : s2 b = s b := m4 b hbx
  have hlt : (os.flatMap AV.cells).length = i * w := by rw [h2.flatLen (fun q hq => hw q (List.mem_of_mem_take hq)), List.length_take, Nat.min_eq_left (by omega)]
  have hsol := OwnL.solid _ _ _ h2
  have hdis : ∀ q ∈ bs, q ∉ bx := fun q hq hx => by
    obtain ⟨cs, e1, _⟩ := hsol.2 q hq
    rw [m2 q hx] at e1; cases e1
  have hrep : (List.replicate (es.length - i) zs).flatten = zs ++ (List.replicate (es.length - (i + 1)) zs).flatten := by
    rw [show es.length - i = (es.length - (i + 1)) + 1 by omega, List.replicate_succ, List.flatten_cons]
  have hb2 : s2 b = some (.cells (os.flatMap AV.cells ++ zs ++ (List.replicate (es.length - (i + 1)) zs).flatten)) := by rw [hs2, h7, hrep, List.append_assoc]
  have hrl : r.cells.length = w := by rw [cells_width, (Own.shape m3).2.1, hwe]
  have hrs : r.cells.all AV.storable = true := by
    cases e <;> simp only [Own] at m3 <;> try exact m3.elim
    case int => rw [m3.1]; rfl
    case bool => rw [m3.1]; rfl
    case str => rw [m3.1]; rfl
    case slice => rcases m3 with ⟨_, rfl, _⟩ | ⟨_, _, _, _, rfl, _⟩ <;> rfl
    case agg cs =>
      obtain ⟨q, rfl, m3⟩ := m3
      refine (Own.agg_storable m3 fun c hc => ?_).1
      have hst : cs.all AV.storable = true := hst
      have := List.all_eq_true.1 hst c hc
      cases c <;> first | rfl | (simp [AV.storable] at this)
  refine ⟨os.flatMap AV.cells, _, hb2, hlt, hrl, hrs, by simp [h1], ?_, ?_, ?_, ?_, h6, ?_, ?_⟩
  · rw [List.take_add_one, he]
    have hne : ∀ q, q ≠ b → (s2.upd b (.cells (os.flatMap AV.cells ++ r.cells ++ (List.replicate (es.length - (i + 1)) zs).flatten))) q = s2 q := fun q hq => Store.upd_ne _ _ hq
    exact OwnL.snoc h2 (fun q hq => (hne q (fun e => h4 (e ▸ hq))).trans (m4 q (hdis q hq))) (Own.keep _ _ _ (fun q hq => hne q (fun e => hbx (e ▸ hq))) m3)
  · exact List.nodup_append.2 ⟨h3, m1, fun a ha c hc e => hdis a ha (e ▸ hc)⟩
  · intro hb
    rcases List.mem_append.1 hb with hb | hb
    · exact h4 hb
    · exact hbx hb
  · intro q hq
    rcases List.mem_append.1 hq with hq | hq
    · exact h5 q hq
    · by_cases hqb : q = b
      · rw [hqb]; exact h6
      · by_cases hqs : q ∈ bs
        · exact h5 q hqs
        · rw [← h8 q hqb hqs]; exact m2 q hq
  · simp only [Store.upd_same]
    simp
  · intro q hq hn
    simp only [List.mem_append, not_or] at hn
    exact (Store.upd_ne _ _ hq).trans ((m4 q hn.2).trans (h8 q hq hn.1))
/-- Made, with blocks left over that nothing holds. -/
def MadeJ (st : Store) (ds : List Nat) (a r : AV) (st' : Store) : Prop := ∃ bs : List Nat, bs.Nodup ∧ (∀ b ∈ bs, st b = none) ∧ (∀ d ∈ ds, st d = none ∧ d ∉ bs) ∧ Own st' a r bs ∧ ∀ b, b ∉ bs → b ∉ ds → st' b = st b
/-! ### What grew, held -/
def accB (b : Nat) : List AV → List Nat
  | [] => []
  | _ :: _ => [b]
/-- Numbers, truth values and texts hold nothing. -/
def AV.flat : AV → Bool
  | .int _ _ | .bool _ | .str _ => true
  | _ => false
theorem OwnL.flat {s : Store} : ∀ {es : List AV}, es.all AV.flat = true → OwnL s es es []
  | [], _ => ⟨rfl, rfl⟩
  | e :: es, h => by
    simp only [List.all_cons, Bool.and_eq_true] at h
    simp only [OwnL]
    refine ⟨e, es, [], [], rfl, rfl, ?_, OwnL.flat h.2⟩
    cases e <;> simp [AV.flat] at h <;> simp [Own]

/-! ### Calls over more that is held -/
theorem Seen.nil {st s0 : Store} : Seen st s0 [] [] := rfl
theorem Seen.same {st s0 : Store} {x : AV} {os as : List AV} (h : Seen st s0 os as) : Seen st s0 (x :: os) (x :: as) := ⟨x, as, rfl, .inl rfl, h⟩
theorem Seen.own {st : Store} {a o : AV} {bs : List Nat} {os as : List AV} (hO : Own st a o bs) (h : Seen st none0' os as) : Seen st none0' (o :: os) (a :: as) := ⟨a, as, rfl, .inr ⟨bs, hO, fun _ _ => rfl⟩, h⟩
theorem ACalls.drop2 {P : Program} {g : FuncId} {args : List AV} {st : Store} {r : AV} (x : ACalls P g args st (fun r' st' => r' = r ∧ Drops st' st)) : ACalls P g args st (fun r' st' => r' = r ∧ st' = st) :=
  (x.mono fun _ _ h => ⟨h.2, h.1⟩).drop
end Go.AW

/- Regions that draw: what looks at no store may float past what writes. -/
namespace Go.AW
set_option linter.unusedSimpArgs false
set_option linter.unusedVariables false

/-- An operation under its guard. -/
def aStepG (P : Program) (ops : Array Oper) (o : Oper) (φ : AF) (st : Store) (K : AV → Store → Prop) : Prop := match aGuard ops φ o with
  | some true => aStep P [] φ st o K
  | some false => K .undef st
  | none => False
section
variable {P : Program}
/-- Any order; the store may turn. -/
def aAnyG (P : Program) (ops : Array Oper) (K : AF → Store → Prop) : Nat → Array Bool → AF → Store → Prop
  | 0, listed, φ, st => Region.ready .any ops listed = [] ∧ K φ st
  | f + 1, listed, φ, st => (Region.ready .any ops listed = [] → K φ st) ∧ ∀ i ∈ Region.ready .any ops listed, ∃ o, ops[i]? = some o ∧ aStepG P ops o φ st (fun r st' => aAnyG P ops K f (listed.setIfInBounds i true) (φ.put o.dst r) st')

/-- An operation that comes to the same over every store. -/
def aFree (P : Program) (ops : Array Oper) (o : Oper) (r : AV) (φ : AF) : Prop := ∀ st, aYield P st ops o r φ
/-- Any order; those in S leave the store as it is. -/
def aAnyS (P : Program) (ops : Array Oper) (S : List Nat) (K : AF → Store → Prop) : Nat → Array Bool → AF → Store → Prop
  | 0, listed, φ, st => Region.ready .any ops listed = [] ∧ K φ st
  | f + 1, listed, φ, st => (Region.ready .any ops listed = [] → K φ st) ∧ ∀ i ∈ Region.ready .any ops listed, ∃ o, ops[i]? = some o ∧
      ((S.contains i = true ∧ ∃ r, aYield P st ops o r φ ∧ aAnyS P ops S K f (listed.setIfInBounds i true) (φ.put o.dst r) st) ∨
       (S.contains i = false ∧ aStepG P ops o φ st (fun r st' => aAnyS P ops S K f (listed.setIfInBounds i true) (φ.put o.dst r) st')))

/-- What is listed came behind what it waits for. -/
def ClosedL (ops : Array Oper) (listed : Array Bool) : Prop := ∀ j o, ops[j]? = some o → listed.getD j false = true → ∀ e ∈ o.after, Region.binds .any e = true → listed.getD e.on false = true
theorem ClosedL.set {ops : Array Oper} {listed : Array Bool} {i : Nat} (h : ClosedL ops listed) (hr : i ∈ Region.ready .any ops listed) : ClosedL ops (listed.setIfInBounds i true) := by
  intro j o ho hl e he hb
  by_cases hji : i = j
  · subst hji
    obtain ⟨_, o', ho', hall⟩ := mem_ready.1 hr
    rw [ho'] at ho; cases ho
    exact getD_set_true (hall e he hb)
  · rw [getD_set_ne false hji] at hl
    exact getD_set_true (h j o ho hl e he hb)
/-- j waits for i. -/
def depB (ops : Array Oper) : Nat → Nat → Nat → Bool
  | 0, _, _ => false
  | f + 1, j, i => match ops[j]? with
    | some o => o.after.any fun e => Region.binds .any e && (e.on == i || depB ops f e.on i)
    | none => false
/-- The store has grown. -/
def ExtS (st s : Store) : Prop := ∀ b o, st b = some o → s b = some o
theorem ExtS.refl (st : Store) : ExtS st st := fun _ _ h => h
theorem ExtS.trans {a b c : Store} (x : ExtS a b) (y : ExtS b c) : ExtS a c := fun q o h => y q o (x q o h)
def allocO (o : Oper) : Bool := match o.op with
  | .alloc _ => true
  | _ => false
/-! ### A plan: 0: nothing else can come; 1: it comes to the same over every store; 2: over this store, and what writes waits for it -/
def stillB (ops : Array Oper) (S : List Nat) (listed : Array Bool) (i : Nat) : Bool := (List.range ops.size).all fun j => listed.getD j true || S.contains j || depB ops ops.size j i
/-- The same, but a variable may still be made. -/
def stillA (ops : Array Oper) (S : List Nat) (listed : Array Bool) (i : Nat) : Bool := (List.range ops.size).all fun j => listed.getD j true || S.contains j || depB ops ops.size j i || ((ops[j]?).map allocO).getD false
def plainAt (ops : Array Oper) (i : Nat) : Bool := ((ops[i]?).map plainOp).getD false
def planB (ops : Array Oper) (S : List Nat) : List (Nat × Nat) → Array Bool → Bool
  | [], listed => (Region.ready .any ops listed).isEmpty
  | (i, 0) :: r, listed => decide (Region.ready .any ops listed = [i]) && !S.contains i && planB ops S r (listed.setIfInBounds i true)
  | (i, 1) :: r, listed => (Region.ready .any ops listed).contains i && Region.free .any ops listed i && S.contains i && planB ops S r (listed.setIfInBounds i true)
  | (i, _) :: r, listed => (Region.ready .any ops listed).contains i && Region.free .any ops listed i && S.contains i && (stillB ops S listed i || (plainAt ops i && stillA ops S listed i)) && planB ops S r (listed.setIfInBounds i true)

def aPlan (P : Program) (ops : Array Oper) (K : AF → Store → Prop) : List (Nat × Nat) → AF → Store → Prop
  | [], φ, st => K φ st
  | (i, 0) :: r, φ, st => ∃ o, ops[i]? = some o ∧ aStepG P ops o φ st (fun v st' => aPlan P ops K r (φ.put o.dst v) st')
  | (i, 1) :: r, φ, st => ∃ o, ops[i]? = some o ∧ ∃ v, aFree P ops o v φ ∧ aPlan P ops K r (φ.put o.dst v) st
  | (i, _) :: r, φ, st => ∃ o, ops[i]? = some o ∧ ∃ v, aYield P st ops o v φ ∧ aPlan P ops K r (φ.put o.dst v) st

/-! ### The plan, evaluated -/
/-- The plan in the words that are evaluated. -/
def aPlanE (P : Program) (ops : Array Oper) (K : AF → Store → Prop) : List (Nat × Nat) → AF → Store → Prop
  | [], φ, st => K φ st
  | (i, 0) :: r, φ, st => match ops[i]? with
    | none => False
    | some o => aOps P [] ops [o] (fun φ' st' => aPlanE P ops K r φ' st') φ st
  | (i, 1) :: r, φ, st => match ops[i]? with
    | none => False
    | some o => if plainOp o = true then aOps P [] ops [o] (fun φ' _ => aPlanE P ops K r φ' st) φ none0' else
      match o.guard, o.op with
      | none, .call { callee := .value f, args, .. } => ∃ v, (∀ s, callV P (φ.eval f) (args.toList.map φ.eval) s (fun r' s' => r' = v ∧ s' = s)) ∧ aPlanE P ops K r (φ.put o.dst v) st
      | _, _ => False
  | (i, _) :: r, φ, st => match ops[i]? with
    | none => False
    | some o => if plainOp o = true then aOps P [] ops [o] (fun φ' _ => aPlanE P ops K r φ' st) φ st else
      match o.guard, o.op with
      | none, .call { callee := .value f, args, .. } => ∃ v, callV P (φ.eval f) (args.toList.map φ.eval) st (fun r' s' => r' = v ∧ s' = st) ∧ aPlanE P ops K r (φ.put o.dst v) st
      | _, _ => False

end

/-- Behind an operation of a plan. -/
def planK (P : Program) (ops : Array Oper) (K : AF → Store → Prop) (r : List (Nat × Nat)) (φ : AF) (st : Store) : Prop := aPlanE P ops K r φ st
def planF (P : Program) (ops : Array Oper) (K : AF → Store → Prop) (r : List (Nat × Nat)) (st : Store) (φ : AF) (_ : Store) : Prop := aPlanE P ops K r φ st
def planC (P : Program) (ops : Array Oper) (K : AF → Store → Prop) (r : List (Nat × Nat)) (φ : AF) (dst : Option Tmp) (st : Store) (v : AV) : Prop := aPlanE P ops K r (φ.put dst v) st
def callF (P : Program) (f : AV) (args : List AV) (K : AV → Prop) : Prop := ∃ v, (∀ s, callV P f args s (fun r' s' => r' = v ∧ s' = s)) ∧ K v
def planO (P : Program) (ops : Array Oper) (K : AF → Store → Prop) (r : List (Nat × Nat)) (φ : AF) (st : Store) : Nat → Option Oper → Prop
  | 0, some o => aOps P [] ops [o] (planK P ops K r) φ st
  | 1, some o => if plainOp o = true then aOps P [] ops [o] (planF P ops K r st) φ none0' else
      match o.guard, o.op with
      | none, .call { callee := .value f, args, .. } => callF P (φ.eval f) (args.toList.map φ.eval) (planC P ops K r φ o.dst st)
      | _, _ => False
  | _, some o => if plainOp o = true then aOps P [] ops [o] (planF P ops K r st) φ st else
      match o.guard, o.op with
      | none, .call { callee := .value f, args, .. } => callH P (φ.eval f) (args.toList.map φ.eval) st (planC P ops K r φ o.dst st)
      | _, _ => False
  | _, none => False
@[congr] theorem cg_aPlanE {P : Program} {ops : Array Oper} {K : AF → Store → Prop} {p : List (Nat × Nat)} {φ φ' : AF} {st st' : Store} (h1 : φ = φ') (h2 : st = st') : aPlanE P ops K p φ st = aPlanE P ops K p φ' st' := by rw [h1, h2]
@[congr] theorem cg_planO {P : Program} {ops : Array Oper} {K : AF → Store → Prop} {p : List (Nat × Nat)} {φ φ' : AF} {st st' : Store} {b : Nat} {o o' : Option Oper} (h1 : φ = φ') (h2 : st = st') (h3 : o = o') : planO P ops K p φ st b o = planO P ops K p φ' st' b o' := by rw [h1, h2, h3]
@[congr] theorem cg_planK {P : Program} {ops : Array Oper} {K : AF → Store → Prop} {p : List (Nat × Nat)} {φ φ' : AF} {st st' : Store} (h1 : φ = φ') (h2 : st = st') : planK P ops K p φ st = planK P ops K p φ' st' := by rw [h1, h2]
@[congr] theorem cg_planF {P : Program} {ops : Array Oper} {K : AF → Store → Prop} {p : List (Nat × Nat)} {φ φ' : AF} {st st' s : Store} (h1 : φ = φ') (h2 : st = st') : planF P ops K p st φ s = planF P ops K p st' φ' s := by rw [h1, h2]
@[congr] theorem cg_planC {P : Program} {ops : Array Oper} {K : AF → Store → Prop} {p : List (Nat × Nat)} {φ φ' : AF} {dst : Option Tmp} {st st' : Store} {v v' : AV} (h1 : φ = φ') (h2 : st = st') (h3 : v = v') : planC P ops K p φ dst st v = planC P ops K p φ' dst st' v' := by rw [h1, h2, h3]
@[congr] theorem cg_callF {P : Program} {f f' : AV} {args args' : List AV} {K : AV → Prop} (h0 : f = f') (h1 : args = args') : callF P f args K = callF P f' args' K := by rw [h0, h1]
end Go.AW

/- Held lists that grow, element by element. -/
namespace Go.AW
set_option linter.unusedSimpArgs false
set_option linter.unusedVariables false

/-- The first i elements are held, in 'os'; the list's own block is b. -/
def GrowTo (es : List AV) (st : Store) (i : Nat) (os : List AV) (bs : List Nat) (b : Nat) (s : Store) : Prop :=
  os.length = i ∧ OwnL s (es.take i) os bs ∧ bs.Nodup ∧ (∀ q ∈ bs, st q = none) ∧ (os ≠ [] → st b = none ∧ b ∉ bs ∧ s b = some (.cells (os.flatMap AV.cells))) ∧ ∀ q, q ∉ bs → (os ≠ [] → q ≠ b) → s q = st q

theorem GrowTo.start {es : List AV} {st : Store} {b : Nat} : GrowTo es st 0 [] [] b st := ⟨rfl, by simp [OwnL], List.nodup_nil, by simp, by simp, fun _ _ _ => rfl⟩

theorem mem_accB {b x : Nat} {l : List AV} : x ∈ accB b l ↔ x = b ∧ l ≠ [] := by cases l <;> simp [accB]

theorem GrowTo.done {es : List AV} {st : Store} {n w : Nat} {os : List AV} {bs : List Nat} {b : Nat} {s : Store} (h : GrowTo es st n os bs b s) (hl : es.length = n) (hw : ∀ e ∈ es, e.width = w) : Made st (.slice es) (accV w b os) s := by
  obtain ⟨h1, h2, h3, h4, h5, h6⟩ := h
  rw [List.take_of_length_le (by omega)] at h2
  refine ⟨accB b os ++ bs, ?_, fun q hq => ?_, ?_, fun q hq => ?_⟩
  · rw [List.nodup_append]
    refine ⟨by cases os <;> simp [accB], h3, fun x hx y hy e => ?_⟩
    obtain ⟨rfl, hne⟩ := mem_accB.1 hx
    exact (h5 hne).2.1 (e ▸ hy)
  · rcases List.mem_append.1 hq with hq | hq
    · obtain ⟨rfl, hne⟩ := mem_accB.1 hq
      exact (h5 hne).1
    · exact h4 q hq
  · cases os with
    | nil =>
      have : es = [] := by simpa using h2.length.symm
      subst this
      simp only [OwnL] at h2
      simp only [Own, accV, accB, h2.2]
      exact .inl ⟨trivial, trivial, rfl⟩
    | cons o os =>
      simp only [Own, accV, accB]
      refine .inr ⟨b, bs, o :: os, w, by rw [h2.length], rfl, (h5 (by simp)).2.2, h2, hw⟩
  · simp only [List.mem_append, mem_accB, not_or, not_and] at hq
    exact h6 q hq.2 (fun hne e => hq.1 e hne)

/-- One element more: made over the store with a block x of the round beside it, then appended; the block is dropped. -/
theorem GrowTo.step {es : List AV} {st : Store} {i : Nat} {os : List AV} {bs bx : List Nat} {b x b' : Nat} {s s2 s' : Store} {o : AO} {e r : AV} (h : GrowTo es st i os bs b s) (hx : s x = none) (he : es[i]? = some e)
    (m1 : bx.Nodup) (m2 : ∀ q ∈ bx, (s.upd x o) q = none) (m3 : Own s2 e r bx) (m4 : ∀ q, q ∉ bx → s2 q = (s.upd x o) q)
    (k1 : s' b' = some (.cells ((os ++ [r]).flatMap AV.cells))) (k2 : b' = b ∧ os ≠ [] ∨ s2 b' = none) (k3 : ∀ q, q ≠ b' → (os ≠ [] → q ≠ b) → s' q = s2 q) (k4 : os ≠ [] → b' ≠ b → s' b = none) :
    GrowTo es st (i + 1) (os ++ [r]) (bs ++ bx) b' (s'.erase x) := by
  obtain ⟨h1, h2, h3, h4, h5, h6⟩ := h
  have hsol := OwnL.solid _ _ _ h2
  have hi : i < es.length := (List.getElem?_eq_some_iff.1 he).1
  have hsome : ∀ q ∈ bs, s q ≠ none := fun q hq => by obtain ⟨cs, e1, _⟩ := hsol.2 q hq; rw [e1]; simp
  have hxbs : x ∉ bs := fun hq => hsome x hq hx
  have hxb : os ≠ [] → x ≠ b := fun hne e => by have := (h5 hne).2.2; rw [← e, hx] at this; cases this
  have hxbx : x ∉ bx := fun hq => by have := m2 x hq; rw [Store.upd_same] at this; cases this
  have hbx : ∀ q ∈ bx, s q = none := fun q hq => by
    have := m2 q hq
    have hne : q ≠ x := fun e => hxbx (e ▸ hq)
    rwa [Store.upd_ne _ _ hne] at this
  have hdis : ∀ q ∈ bs, q ∉ bx := fun q hq hq' => hsome q hq (hbx q hq')
  have hbbx : os ≠ [] → b ∉ bx := fun hne hq => by have := hbx b hq; rw [(h5 hne).2.2] at this; cases this
  have hs2x : s2 x = some o := by rw [m4 x hxbx, Store.upd_same]
  have hs2 : ∀ q, q ∉ bx → q ≠ x → s2 q = s q := fun q h1 h2 => by rw [m4 q h1, Store.upd_ne _ _ h2]
  have hb'x : b' ≠ x := by
    rcases k2 with ⟨rfl, hne⟩ | hn
    · exact Ne.symm (hxb hne)
    · rintro rfl; rw [hs2x] at hn; cases hn
  have hb'bx : b' ∉ bx := by
    rcases k2 with ⟨rfl, hne⟩ | hn
    · exact hbbx hne
    · intro hq
      obtain ⟨cs, e1, _⟩ := (Own.solid _ _ _ m3).2.2 b' hq
      rw [e1] at hn; cases hn
  have hb'bs : b' ∉ bs := by
    rcases k2 with ⟨rfl, hne⟩ | hn
    · exact (h5 hne).2.1
    · intro hq
      rw [hs2 b' hb'bx hb'x] at hn
      exact hsome b' hq hn
  have hst' : st b' = none := by
    rcases k2 with ⟨rfl, hne⟩ | hn
    · exact (h5 hne).1
    · rw [hs2 b' hb'bx hb'x] at hn
      by_cases hbb : os ≠ [] ∧ b' = b
      · rw [hbb.2]; exact (h5 hbb.1).1
      · rw [← h6 b' hb'bs (fun hne e => hbb ⟨hne, e⟩)]; exact hn
  have hb_bs : os ≠ [] → ∀ q ∈ bs, q ≠ b := fun hne q hq e => (h5 hne).2.1 (e ▸ hq)
  have hkeep : ∀ q ∈ bs, (s'.erase x) q = s q := fun q hq => by
    have hqx : q ≠ x := fun e => hxbs (e ▸ hq)
    simp only [Store.erase, hqx, if_false]
    rw [k3 q (fun e => hb'bs (e ▸ hq)) (fun hne => hb_bs hne q hq), hs2 q (hdis q hq) hqx]
  have hkeepx : ∀ q ∈ bx, (s'.erase x) q = s2 q := fun q hq => by
    have hqx : q ≠ x := fun e => hxbx (e ▸ hq)
    simp only [Store.erase, hqx, if_false]
    exact k3 q (fun e => hb'bx (e ▸ hq)) (fun hne e => hbbx hne (e ▸ hq))
  refine ⟨by simp [h1], ?_, List.nodup_append.2 ⟨h3, m1, fun a ha c hc e => hdis a ha (e ▸ hc)⟩, fun q hq => ?_, fun _ => ⟨hst', ?_, ?_⟩, fun q hq hqb => ?_⟩
  · rw [List.take_add_one, he]
    exact OwnL.snoc h2 hkeep (Own.keep _ _ _ hkeepx m3)
  · rcases List.mem_append.1 hq with hq | hq
    · exact h4 q hq
    · by_cases hbb : os ≠ [] ∧ q = b
      · rw [hbb.2]; exact (h5 hbb.1).1
      · by_cases hqs : q ∈ bs
        · exact h4 q hqs
        · rw [← h6 q hqs (fun hne e => hbb ⟨hne, e⟩)]; exact hbx q hq
  · intro hq
    rcases List.mem_append.1 hq with hq | hq
    · exact hb'bs hq
    · exact hb'bx hq
  · simp only [Store.erase, hb'x, if_false]
    exact k1
  · simp only [List.mem_append, not_or] at hq
    have hqb' := hqb (by simp)
    by_cases hqx : q = x
    · subst hqx
      simp only [Store.erase, if_true]
      rw [← h6 q hq.1 hxb, hx]
    · simp only [Store.erase, hqx, if_false]
      by_cases hbb : os ≠ [] ∧ q = b
      · rw [hbb.2, k4 hbb.1 (fun e => hqb' (hbb.2.trans e.symm)), (h5 hbb.1).1]
      · rw [k3 q hqb' (fun hne e => hbb ⟨hne, e⟩), hs2 q hq.2 hqx]
        exact h6 q hq.1 (fun hne e => hbb ⟨hne, e⟩)
/-! ### The end of a function that holds nothing -/
theorem ACalls.done {P : Program} {g : FuncId} {args : List AV} {st : Store} {r : AV} (x : ACalls P g args st (fun r' st' => r'.soft = r ∧ Drops st' st)) : ACalls P g args st (fun r' st' => r' = r ∧ st' = st) :=
  ACalls.drop2 (ACalls.soft x)
/-! ### A loop that fills a list -/
def finL (b : Nat) (l : List AV) : List (Nat × AV) → List (Nat × AV)
  | [] => []
  | p :: r => (p.1, p.2.fin b l) :: finL b l r
end Go.AW

/- Regions that draw: what looks at a part of the store that the region leaves alone may float past what writes. -/
namespace Go.AW
set_option linter.unusedSimpArgs false
set_option linter.unusedVariables false

section
variable {P : Program}
/-- It waits for all in S. -/
def exemptB (ops : Array Oper) (S : List Nat) (j : Nat) : Bool := S.all fun i => depB ops ops.size j i
/-- Any order; those in S leave the store as it is, and see no more of it than s0; the others keep s0, or wait for all in S. -/
def aAnyX (P : Program) (ops : Array Oper) (S : List Nat) (s0 : Store) (K : AF → Store → Prop) : Nat → Array Bool → AF → Store → Prop
  | 0, listed, φ, st => Region.ready .any ops listed = [] ∧ K φ st
  | f + 1, listed, φ, st => (Region.ready .any ops listed = [] → K φ st) ∧ ∀ i ∈ Region.ready .any ops listed, ∃ o, ops[i]? = some o ∧
      ((S.contains i = true ∧ ∃ r, aYield P st ops o r φ ∧ aAnyX P ops S s0 K f (listed.setIfInBounds i true) (φ.put o.dst r) st) ∨
       (S.contains i = false ∧ aStepG P ops o φ st (fun r st' => (exemptB ops S i = true ∨ ExtS s0 st') ∧ aAnyX P ops S s0 K f (listed.setIfInBounds i true) (φ.put o.dst r) st')))
/-! ### A plan: 0: it writes, nothing else can come, it keeps s0; 2: it writes, and waits for all that looks; 1: it looks at s0 alone -/
def planBX (ops : Array Oper) (S : List Nat) : List (Nat × Nat) → Array Bool → Bool
  | [], listed => (Region.ready .any ops listed).isEmpty
  | (i, 0) :: r, listed => decide (Region.ready .any ops listed = [i]) && !S.contains i && planBX ops S r (listed.setIfInBounds i true)
  | (i, 1) :: r, listed => (Region.ready .any ops listed).contains i && Region.free .any ops listed i && S.contains i && planBX ops S r (listed.setIfInBounds i true)
  | (i, _) :: r, listed => decide (Region.ready .any ops listed = [i]) && !S.contains i && exemptB ops S i && planBX ops S r (listed.setIfInBounds i true)
def aPlanX (P : Program) (ops : Array Oper) (s0 : Store) (K : AF → Store → Prop) : List (Nat × Nat) → AF → Store → Prop
  | [], φ, st => K φ st
  | (i, 0) :: r, φ, st => ∃ o, ops[i]? = some o ∧ aStepG P ops o φ st (fun v st' => ExtS s0 st' ∧ aPlanX P ops s0 K r (φ.put o.dst v) st')
  | (i, 1) :: r, φ, st => ∃ o, ops[i]? = some o ∧ ∃ v, (∀ s, ExtS s0 s → aYield P s ops o v φ) ∧ aPlanX P ops s0 K r (φ.put o.dst v) st
  | (i, _) :: r, φ, st => ∃ o, ops[i]? = some o ∧ aStepG P ops o φ st (fun v st' => aPlanX P ops s0 K r (φ.put o.dst v) st')
/-- All looks come before what waits for all of them. -/
def looksFirst : List (Nat × Nat) → Bool
  | [] => true
  | (_, 0) :: r => looksFirst r
  | (_, 1) :: r => looksFirst r
  | (_, _) :: r => r.all fun p => p.2 != 1
/-- The plan in the words that are evaluated. -/
def aPlanXE (P : Program) (ops : Array Oper) (s0 : Store) (K : AF → Store → Prop) : List (Nat × Nat) → AF → Store → Prop
  | [], φ, st => K φ st
  | (i, 0) :: r, φ, st => match ops[i]? with
    | none => False
    | some o => aOps P [] ops [o] (fun φ' st' => ExtS s0 st' ∧ aPlanXE P ops s0 K r φ' st') φ st
  | (i, 1) :: r, φ, st => match ops[i]? with
    | none => False
    | some o => if plainOp o = true then aOps P [] ops [o] (fun φ' _ => aPlanXE P ops s0 K r φ' st) φ s0 else
      match o.guard, o.op with
      | none, .call { callee := .value f, args, .. } => ∃ v, (∀ s, callV P (φ.eval f) (args.toList.map φ.eval) s (fun r' s' => r' = v ∧ s' = s)) ∧ aPlanXE P ops s0 K r (φ.put o.dst v) st
      | _, _ => False
  | (i, _) :: r, φ, st => match ops[i]? with
    | none => False
    | some o => aOps P [] ops [o] (fun φ' st' => aPlanXE P ops s0 K r φ' st') φ st

end

/-- Behind an operation of a plan. -/
def planKX (P : Program) (ops : Array Oper) (s0 : Store) (K : AF → Store → Prop) (r : List (Nat × Nat)) (φ : AF) (st : Store) : Prop := ExtS s0 st ∧ aPlanXE P ops s0 K r φ st
def planJX (P : Program) (ops : Array Oper) (s0 : Store) (K : AF → Store → Prop) (r : List (Nat × Nat)) (φ : AF) (st : Store) : Prop := aPlanXE P ops s0 K r φ st
def planFX (P : Program) (ops : Array Oper) (s0 : Store) (K : AF → Store → Prop) (r : List (Nat × Nat)) (st : Store) (φ : AF) (_ : Store) : Prop := aPlanXE P ops s0 K r φ st
def planCX (P : Program) (ops : Array Oper) (s0 : Store) (K : AF → Store → Prop) (r : List (Nat × Nat)) (φ : AF) (dst : Option Tmp) (st : Store) (v : AV) : Prop := aPlanXE P ops s0 K r (φ.put dst v) st
def planOX (P : Program) (ops : Array Oper) (s0 : Store) (K : AF → Store → Prop) (r : List (Nat × Nat)) (φ : AF) (st : Store) : Nat → Option Oper → Prop
  | 0, some o => aOps P [] ops [o] (planKX P ops s0 K r) φ st
  | 1, some o => if plainOp o = true then aOps P [] ops [o] (planFX P ops s0 K r st) φ s0 else
      match o.guard, o.op with
      | none, .call { callee := .value f, args, .. } => callF P (φ.eval f) (args.toList.map φ.eval) (planCX P ops s0 K r φ o.dst st)
      | _, _ => False
  | _, some o => aOps P [] ops [o] (planJX P ops s0 K r) φ st
  | _, none => False
@[congr] theorem cg_aPlanXE {P : Program} {ops : Array Oper} {s0 : Store} {K : AF → Store → Prop} {p : List (Nat × Nat)} {φ φ' : AF} {st st' : Store} (h1 : φ = φ') (h2 : st = st') : aPlanXE P ops s0 K p φ st = aPlanXE P ops s0 K p φ' st' := by rw [h1, h2]
@[congr] theorem cg_planOX {P : Program} {ops : Array Oper} {s0 : Store} {K : AF → Store → Prop} {p : List (Nat × Nat)} {φ φ' : AF} {st st' : Store} {b : Nat} {o o' : Option Oper} (h1 : φ = φ') (h2 : st = st') (h3 : o = o') : planOX P ops s0 K p φ st b o = planOX P ops s0 K p φ' st' b o' := by rw [h1, h2, h3]
@[congr] theorem cg_planKX {P : Program} {ops : Array Oper} {s0 : Store} {K : AF → Store → Prop} {p : List (Nat × Nat)} {φ φ' : AF} {st st' : Store} (h1 : φ = φ') (h2 : st = st') : planKX P ops s0 K p φ st = planKX P ops s0 K p φ' st' := by rw [h1, h2]
@[congr] theorem cg_planJX {P : Program} {ops : Array Oper} {s0 : Store} {K : AF → Store → Prop} {p : List (Nat × Nat)} {φ φ' : AF} {st st' : Store} (h1 : φ = φ') (h2 : st = st') : planJX P ops s0 K p φ st = planJX P ops s0 K p φ' st' := by rw [h1, h2]
@[congr] theorem cg_planFX {P : Program} {ops : Array Oper} {s0 : Store} {K : AF → Store → Prop} {p : List (Nat × Nat)} {φ φ' : AF} {st st' s : Store} (h1 : φ = φ') (h2 : st = st') : planFX P ops s0 K p st φ s = planFX P ops s0 K p st' φ' s := by rw [h1, h2]
@[congr] theorem cg_planCX {P : Program} {ops : Array Oper} {s0 : Store} {K : AF → Store → Prop} {p : List (Nat × Nat)} {φ φ' : AF} {dst : Option Tmp} {st st' : Store} {v v' : AV} (h1 : φ = φ') (h2 : st = st') (h3 : v = v') : planCX P ops s0 K p φ dst st v = planCX P ops s0 K p φ' dst st' v' := by rw [h1, h2, h3]
/-- Two results in cells. -/
def retCC (K : AV → Store → Prop) (st : Store) : Option AV → Option AV → Prop
  | some r, some s => noJunk [r, s] = true ∧ K (.tup [r, s]) st
  | _, _ => False
@[congr] theorem cg_retCC {K : AV → Store → Prop} {st : Store} {x x' y y' : Option AV} (h1 : x = x') (h2 : y = y') : retCC K st x y = retCC K st x' y' := by rw [h1, h2]
/-- One block of the store. -/
def one (b : Nat) (o : AO) : Store := none0'.upd b o
end Go.AW

/- Lists, terms and proofs as data, and as abstract values. -/
namespace Go.AW
set_option linter.unusedSimpArgs false
set_option linter.unusedVariables false

/-! ### Lists -/
section
variable {α : Type}
def eqL (f : α → α → Bool) : List α → List α → Bool
  | [], [] => true
  | x :: xs, y :: ys => f x y && eqL f xs ys
  | _, _ => false
theorem eqL_eq {f : α → α → Bool} : ∀ {a b : List α}, (∀ x ∈ a, ∀ y, f x y = true ↔ x = y) → (eqL f a b = true ↔ a = b)
  | [], [], _ => by simp [eqL]
  | [], _ :: _, _ => by simp [eqL]
  | _ :: _, [], _ => by simp [eqL]
  | x :: xs, y :: ys, h => by
    simp only [eqL, Bool.and_eq_true, List.cons.injEq, h x (by simp) y, eqL_eq (a := xs) (b := ys) fun z hz => h z (by simp [hz])]

def sumL (f : α → Nat) : List α → Nat
  | [] => 0
  | x :: xs => f x + sumL f xs
theorem sumL_mem {f : α → Nat} : ∀ {l : List α} {x : α}, x ∈ l → f x ≤ sumL f l
  | y :: ys, x, h => by
    simp only [List.mem_cons] at h
    simp only [sumL]
    rcases h with rfl | h
    · omega
    · have := sumL_mem (f := f) h; omega

/-- What is left of an allowance. -/
def szR (left : Int) (n : Nat) : Int := if left < n then -1 else left - n
/-! ### Made and filled -/
/-- The cells of a list of which the first i are there. -/
def filled (av : α → AV) (zs : List AV) (l : List α) (i : Nat) : List AV := ((l.take i).map av).flatMap AV.cells ++ (List.replicate (l.length - i) zs).flatten
end

/-- A term. -/
inductive Tm where
  | mk (kind n : Int) (name : ByteArray) (kids : List Tm)

mutual
def Tm.av : Tm → AV
  | .mk k n s ts => .agg [.int .i64 k, .int .i64 n, .str s, .slice (tmsAv ts)]
def tmsAv : List Tm → List AV
  | [] => []
  | t :: ts => t.av :: tmsAv ts
end
theorem tmsAv_map : ∀ (ts : List Tm), tmsAv ts = ts.map Tm.av
  | [] => rfl
  | t :: ts => by simp only [tmsAv, List.map_cons, tmsAv_map ts]
theorem Tm.av_mk (k n : Int) (s : ByteArray) (ts : List Tm) : (Tm.mk k n s ts).av = .agg [.int .i64 k, .int .i64 n, .str s, .slice (ts.map Tm.av)] := by simp only [Tm.av, tmsAv_map]

mutual
def Tm.same : Tm → Tm → Bool
  | .mk k n s ts, .mk k' n' s' ts' => decide (k = k') && decide (n = n') && decide (s = s') && tmsSame ts ts'
def tmsSame : List Tm → List Tm → Bool
  | [], [] => true
  | t :: ts, t' :: ts' => t.same t' && tmsSame ts ts'
  | _, _ => false
end
theorem tmsSame_eqL : ∀ (a b : List Tm), tmsSame a b = eqL Tm.same a b
  | [], [] => rfl
  | [], _ :: _ => rfl
  | _ :: _, [] => rfl
  | t :: ts, t' :: ts' => by simp only [tmsSame, eqL, tmsSame_eqL ts ts']
theorem Tm.same_mk (k n : Int) (s : ByteArray) (ts : List Tm) (k' n' : Int) (s' : ByteArray) (ts' : List Tm) : (Tm.mk k n s ts).same (Tm.mk k' n' s' ts') = (decide (k = k') && decide (n = n') && decide (s = s') && eqL Tm.same ts ts') := by simp only [Tm.same, tmsSame_eqL]

mutual
/-- What the laws count. -/
def Tm.sz : Tm → Nat
  | .mk _ _ s ts => s.size + (ts.length + tmsSz ts)
def tmsSz : List Tm → Nat
  | [] => 0
  | t :: ts => t.sz + tmsSz ts
end
theorem tmsSz_sum : ∀ (a : List Tm), tmsSz a = sumL Tm.sz a
  | [] => rfl
  | t :: ts => by simp only [tmsSz, sumL, tmsSz_sum ts]
theorem Tm.sz_mk (k n : Int) (s : ByteArray) (ts : List Tm) : (Tm.mk k n s ts).sz = s.size + (ts.length + sumL Tm.sz ts) := by simp only [Tm.sz, tmsSz_sum]

theorem Tm.same_eq : ∀ (a b : Tm), a.same b = true ↔ a = b
  | .mk k n s ts, .mk k' n' s' ts' => by
    have := eqL_eq (f := Tm.same) (a := ts) (b := ts') fun x hx y => Tm.same_eq x y
    simp only [Tm.same_mk, Bool.and_eq_true, decide_eq_true_eq, Tm.mk.injEq, and_assoc, this]
termination_by a => SizeOf.sizeOf a
decreasing_by have := List.sizeOf_lt_of_mem hx; simp only [Tm.mk.sizeOf_spec]; omega
theorem Tm.same_refl (a : Tm) : a.same a = true := (Tm.same_eq a a).2 rfl
theorem Tm.av_agg (t : Tm) : t.av.isAgg = true := by cases t; rfl
theorem Tm.av_width (t : Tm) : t.av.width = 4 := by cases t; rfl
theorem Tm.av_cells (t : Tm) : t.av.cells.length = 4 := by cases t; rfl
theorem Tm.av_store (t : Tm) : t.av.cells.all AV.storable = true := by cases t; rfl
theorem Tm.av_junk (t : Tm) : t.av.isJunk = false := by cases t; rfl

/-- A proof. -/
inductive Pf where
  | mk (goal : Tm) (clause : Int) (kids : List Pf)

mutual
def Pf.av : Pf → AV
  | .mk (.mk k n s ts) c ps => .agg [.int .i64 k, .int .i64 n, .str s, .slice (ts.map Tm.av), .int .i64 c, .slice (pfsAv ps)]
def pfsAv : List Pf → List AV
  | [] => []
  | t :: ts => t.av :: pfsAv ts
end
theorem pfsAv_map : ∀ (ts : List Pf), pfsAv ts = ts.map Pf.av
  | [] => rfl
  | t :: ts => by simp only [pfsAv, List.map_cons, pfsAv_map ts]
theorem Pf.av_mk (k n : Int) (s : ByteArray) (ts : List Tm) (c : Int) (ps : List Pf) : (Pf.mk (.mk k n s ts) c ps).av = .agg [.int .i64 k, .int .i64 n, .str s, .slice (ts.map Tm.av), .int .i64 c, .slice (ps.map Pf.av)] := by simp only [Pf.av, pfsAv_map]

mutual
def Pf.same : Pf → Pf → Bool
  | .mk g c ps, .mk g' c' ps' => g.same g' && decide (c = c') && pfsSame ps ps'
def pfsSame : List Pf → List Pf → Bool
  | [], [] => true
  | t :: ts, t' :: ts' => t.same t' && pfsSame ts ts'
  | _, _ => false
end
theorem pfsSame_eqL : ∀ (a b : List Pf), pfsSame a b = eqL Pf.same a b
  | [], [] => rfl
  | [], _ :: _ => rfl
  | _ :: _, [] => rfl
  | t :: ts, t' :: ts' => by simp only [pfsSame, eqL, pfsSame_eqL ts ts']
theorem Pf.same_mk (g : Tm) (c : Int) (ps : List Pf) (g' : Tm) (c' : Int) (ps' : List Pf) : (Pf.mk g c ps).same (.mk g' c' ps') = (g.same g' && decide (c = c') && eqL Pf.same ps ps') := by simp only [Pf.same, pfsSame_eqL]
mutual
def Pf.sz : Pf → Nat
  | .mk g _ ps => g.sz + (ps.length + pfsSz ps)
def pfsSz : List Pf → Nat
  | [] => 0
  | t :: ts => t.sz + pfsSz ts
end
theorem pfsSz_sum : ∀ (a : List Pf), pfsSz a = sumL Pf.sz a
  | [] => rfl
  | t :: ts => by simp only [pfsSz, sumL, pfsSz_sum ts]
theorem Pf.sz_mk (g : Tm) (c : Int) (ps : List Pf) : (Pf.mk g c ps).sz = g.sz + (ps.length + sumL Pf.sz ps) := by simp only [Pf.sz, pfsSz_sum]
theorem Pf.same_eq : ∀ (a b : Pf), a.same b = true ↔ a = b
  | .mk g c ps, .mk g' c' ps' => by
    have := eqL_eq (f := Pf.same) (a := ps) (b := ps') fun x hx y => Pf.same_eq x y
    simp only [Pf.same_mk, Bool.and_eq_true, decide_eq_true_eq, Pf.mk.injEq, and_assoc, this, Tm.same_eq]
termination_by a => SizeOf.sizeOf a
decreasing_by have := List.sizeOf_lt_of_mem hx; simp only [Pf.mk.sizeOf_spec]; omega
theorem Pf.same_refl (a : Pf) : a.same a = true := (Pf.same_eq a a).2 rfl
theorem Pf.av_agg (t : Pf) : t.av.isAgg = true := by obtain ⟨⟨_, _, _, _⟩, _, _⟩ := t; rfl
theorem Pf.av_width (t : Pf) : t.av.width = 6 := by obtain ⟨⟨_, _, _, _⟩, _, _⟩ := t; rfl
theorem Pf.av_cells (t : Pf) : t.av.cells.length = 6 := by obtain ⟨⟨_, _, _, _⟩, _, _⟩ := t; rfl
theorem Pf.av_store (t : Pf) : t.av.cells.all AV.storable = true := by obtain ⟨⟨_, _, _, _⟩, _, _⟩ := t; rfl
theorem Pf.av_junk (t : Pf) : t.av.isJunk = false := by obtain ⟨⟨_, _, _, _⟩, _, _⟩ := t; rfl
end Go.AW

/- Marks: each field of what is held gets a number of its own. -/
namespace Go.AW
set_option linter.unusedSimpArgs false
set_option linter.unusedVariables false

def mtDigs (k : Nat) (acc : List UInt8) : List UInt8 := if k = 0 then acc else mtDigs (k / 10) (UInt8.ofNat (48 + k % 10) :: acc)
termination_by k
decreasing_by omega
def mt (k : Int) : ByteArray := if k ≤ 0 then ⟨#[109, 48]⟩ else ⟨(109 :: mtDigs k.toNat []).toArray⟩

mutual
def Tm.mks : Tm → Nat
  | .mk _ _ _ ts => 3 + tmsMks ts
def tmsMks : List Tm → Nat
  | [] => 0
  | t :: ts => t.mks + tmsMks ts
end
mutual
def Tm.mark : Tm → Int → Tm
  | .mk _ _ _ ts, j => .mk j (j + 1) (mt (j + 1 + 1)) (tmsMark ts (j + 1 + 1 + 1))
def tmsMark : List Tm → Int → List Tm
  | [], _ => []
  | t :: ts, j => t.mark j :: tmsMark ts (j + t.mks)
end

/-- A list whose elements are marked one behind the other. -/
def markL {α : Type} (mk : α → Int → α) (n : α → Nat) : List α → Int → List α
  | [], _ => []
  | t :: ts, j => mk t j :: markL mk n ts (j + n t)
theorem tmsMark_eq : ∀ (ts : List Tm) (j : Int), tmsMark ts j = markL Tm.mark Tm.mks ts j
  | [], _ => rfl
  | t :: ts, j => by simp only [tmsMark, markL, tmsMark_eq ts]
theorem tmsMks_eq : ∀ (ts : List Tm), tmsMks ts = sumL Tm.mks ts
  | [] => rfl
  | t :: ts => by simp only [tmsMks, sumL, tmsMks_eq ts]
theorem Tm.mark_mk (k n : Int) (s : ByteArray) (ts : List Tm) (j : Int) : (Tm.mk k n s ts).mark j = .mk j (j + 1) (mt (j + 1 + 1)) (markL Tm.mark Tm.mks ts (j + 1 + 1 + 1)) := by simp only [Tm.mark, tmsMark_eq]
theorem Tm.mks_mk (k n : Int) (s : ByteArray) (ts : List Tm) : (Tm.mk k n s ts).mks = 3 + sumL Tm.mks ts := by simp only [Tm.mks, tmsMks_eq]
mutual
def Pf.mks : Pf → Nat
  | .mk g _ ps => g.mks + 1 + pfsMks ps
def pfsMks : List Pf → Nat
  | [] => 0
  | p :: ps => p.mks + pfsMks ps
end
mutual
def Pf.mark : Pf → Int → Pf
  | .mk g _ ps, j => .mk (g.mark j) (j + g.mks) (pfsMark ps (j + g.mks + 1))
def pfsMark : List Pf → Int → List Pf
  | [], _ => []
  | p :: ps, j => p.mark j :: pfsMark ps (j + p.mks)
end
theorem pfsMark_eq : ∀ (ts : List Pf) (j : Int), pfsMark ts j = markL Pf.mark Pf.mks ts j
  | [], _ => rfl
  | t :: ts, j => by simp only [pfsMark, markL, pfsMark_eq ts]
theorem pfsMks_eq : ∀ (ts : List Pf), pfsMks ts = sumL Pf.mks ts
  | [] => rfl
  | t :: ts => by simp only [pfsMks, sumL, pfsMks_eq ts]
theorem Pf.mark_mk (g : Tm) (c : Int) (ps : List Pf) (j : Int) : (Pf.mk g c ps).mark j = .mk (g.mark j) (j + g.mks) (markL Pf.mark Pf.mks ps (j + g.mks + 1)) := by simp only [Pf.mark, pfsMark_eq]
theorem Pf.mks_mk (g : Tm) (c : Int) (ps : List Pf) : (Pf.mk g c ps).mks = g.mks + 1 + sumL Pf.mks ps := by simp only [Pf.mks, pfsMks_eq]

/-! ### Held terms and proofs -/
theorem Own.len {st : Store} {es : List AV} {o : AV} {bs : List Nat} (x : Own st (.slice es) o bs) : (o.fits → es.length ≤ 9223372036854775807) ∧ ∀ (P : Program) (t e : TypeId), P.underlying t = some (.slice e) → aLen P t o = some (.int .i64 (es.length : Int)) := by
  simp only [Own] at x
  rcases x with ⟨rfl, rfl, _⟩ | ⟨b, bs', os, w, rfl, _⟩
  · exact ⟨fun _ => by simp, fun P t e h => by simp [aLen, h]⟩
  · exact ⟨fun h => by simpa [AV.fits] using h, fun P t e h => by simp [aLen, h]⟩
/-- What marking leaves: the same blocks, marked. -/
def Marked (st : Store) (a : AV) (o : AV) (bs : List Nat) (j : Int) (r : AV) (st' : Store) : Prop := r = .int .i64 j ∧ Own st' a o bs ∧ ∀ q, q ∉ bs → st' q = st q

/-! ### Numbers -/
abbrev iv (n : Int) : AV := .int .i64 n
end Go.AW

/- Names and goals as data. -/
namespace Go.AW
/-- Two ways at a condition. -/
def opLevel (s : ByteArray) : Nat :=
  cond (decide (s = ⟨#[61]⟩) || decide (s = ⟨#[92, 61]⟩) || decide (s = ⟨#[61, 61]⟩) || decide (s = ⟨#[60]⟩) || decide (s = ⟨#[62]⟩) || decide (s = ⟨#[61, 60]⟩) || decide (s = ⟨#[62, 61]⟩) || decide (s = ⟨#[61, 58, 61]⟩) || decide (s = ⟨#[105, 115]⟩)) 3 (cond (decide (s = ⟨#[43]⟩) || decide (s = ⟨#[45]⟩)) 2 (cond (decide (s = ⟨#[42]⟩) || decide (s = ⟨#[47, 47]⟩) || decide (s = ⟨#[109, 111, 100]⟩)) 1 0))
def isBuiltin (s : ByteArray) (n : Int) : Bool :=
  cond (decide (s = ⟨#[61]⟩) || decide (s = ⟨#[92, 61]⟩) || decide (s = ⟨#[61, 61]⟩) || decide (s = ⟨#[60]⟩) || decide (s = ⟨#[62]⟩) || decide (s = ⟨#[61, 60]⟩) || decide (s = ⟨#[62, 61]⟩) || decide (s = ⟨#[61, 58, 61]⟩) || decide (s = ⟨#[105, 115]⟩)) (decide (n = 2)) (cond (decide (s = ⟨#[116, 114, 117, 101]⟩) || decide (s = ⟨#[102, 97, 105, 108]⟩)) (decide (n = 0)) (cond (decide (s = ⟨#[118, 97, 114]⟩) || decide (s = ⟨#[110, 111, 110, 118, 97, 114]⟩) || decide (s = ⟨#[97, 116, 111, 109]⟩) || decide (s = ⟨#[105, 110, 116]⟩)) (decide (n = 1)) (cond (decide (s = ⟨#[97, 114, 103]⟩)) (decide (n = 3)) false)))
/-! ### Bytes -/
abbrev sb (s : ByteArray) : List UInt8 := s.data.toList
def letter (c : UInt8) : Bool := decide (97 ≤ c.toNat) && decide (c.toNat ≤ 122)
def letters (s : ByteArray) : Bool := (sb s).all letter && (decide ((1 : Int) ≤ (s.size : Int)) && decide ((s.size : Int) ≤ 6))
end Go.AW
