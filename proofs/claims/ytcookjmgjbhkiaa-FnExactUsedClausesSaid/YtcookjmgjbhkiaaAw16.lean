/- Values that are held in blocks of their own; calls that leave what is held alone. -/
import Derived.Test.YtcookjmgjbhkiaaAw15
namespace Go.AW
set_option linter.unusedSimpArgs false
set_option linter.unusedVariables false

/-! ### Nothing of memory that is never written -/
mutual
def AV.solid : AV → Bool
  | .slice _ => false
  | .fslice es => es.isEmpty
  | .pptr _ => false
  | .agg cs => solidL cs
  | .tup vs => solidL vs
  | .func _ cs => solidL cs
  | _ => true
def solidL : List AV → Bool
  | [] => true
  | a :: as => a.solid && solidL as
end
def AO.solid : AO → Prop
  | .cells cs => solidL cs = true
  | .map f => ∀ n a, f n = some a → a.solid = true

section
variable {h : Heap} {st st' : Store}
mutual
theorem VC.anyS : ∀ (a : AV) (cs : List Value), a.solid = true → VC h st a cs → VC h st' a cs
  | .junk, _, _, x => x
  | .undef, _, _, x => x
  | .int _ _, _, _, x => x
  | .bool _, _, _, x => x
  | .str _, _, _, x => x
  | .agg as, cs, s, x => by simp only [VC] at x ⊢; exact VCs.anyS as cs (by simpa [AV.solid] using s) x
  | .tup as, cs, s, x => by
    simp only [VC] at x ⊢
    obtain ⟨vs, e, r⟩ := x
    exact ⟨vs, e, VTs.anyS as vs (by simpa [AV.solid] using s) r⟩
  | .slice es, _, s, _ => by simp [AV.solid] at s
  | .fslice es, cs, s, x => by
    have he : es = [] := by simpa [AV.solid] using s
    subst he
    unfold VC at x ⊢
    rcases x with x | ⟨b, off, e, _⟩
    · exact .inl x
    · exact .inl ⟨⟨_, e⟩, rfl⟩
  | .mslice b off len n, _, _, x => x
  | .nilptr, _, _, x => x
  | .ptr _ _, _, _, x => x
  | .pptr e, _, s, _ => by simp [AV.solid] at s
  | .nilmap, _, _, x => x
  | .map _, _, _, x => x
  | .func _ as, cs, s, x => by
    simp only [VC] at x ⊢
    obtain ⟨vs, e, r⟩ := x
    exact ⟨vs, e, VTs.anyS as vs (by simpa [AV.solid] using s) r⟩
  | .raw _, _, _, x => x
theorem VCs.anyS : ∀ (as : List AV) (cs : List Value), solidL as = true → VCs h st as cs → VCs h st' as cs
  | [], _, _, x => x
  | a :: as, cs, s, x => by
    simp only [VCs] at x ⊢
    simp only [solidL, Bool.and_eq_true] at s
    obtain ⟨c, r, e, x1, x2⟩ := x
    exact ⟨c, r, e, VC.anyS a [c] s.1 x1, VCs.anyS as r s.2 x2⟩
theorem VTs.anyS : ∀ (as : List AV) (cs : List Value), solidL as = true → VTs h st as cs → VTs h st' as cs
  | [], _, _, x => x
  | a :: as, cs, s, x => by
    simp only [VTs] at x ⊢
    simp only [solidL, Bool.and_eq_true] at s
    obtain ⟨v, r, e, x1, x2⟩ := x
    exact ⟨v, r, e, ⟨x1.1, VC.anyS a _ s.1 x1.2⟩, VTs.anyS as r s.2 x2⟩
end
theorem VRel.anyS {a : AV} {v : Value} (s : a.solid = true) (x : VRel h st a v) : VRel h st' a v := by
  cases a <;> first | trivial | exact ⟨x.1, VC.anyS _ _ s x.2⟩
theorem ORel.anyS {b : Nat} : ∀ {o : AO}, o.solid → ORel h st b o → ORel h st' b o
  | .cells as, s, x => by
    obtain ⟨c, t, e, l, vs, x1, x2⟩ := x
    exact ⟨c, t, e, l, vs, x1, VCs.anyS as vs s x2⟩
  | .map f, s, x => by
    obtain ⟨es, cl, e, x1, x2, x3⟩ := x
    refine ⟨es, cl, e, x1, x2, fun n => ?_⟩
    have := x3 n
    split
    · rename_i a ha
      rw [ha] at this
      obtain ⟨e, he, hk, hv⟩ := this
      exact ⟨e, he, hk, hv.anyS (s n a ha)⟩
    · rename_i ha
      rw [ha] at this
      exact this
end

/-! ### A call that sees a part of what is held -/
/-- Behind the call: what was kept from it is as it was. -/
def Store.frame (st s0 s1 : Store) : Store := fun b => match s0 b, st b with
  | none, some o => some o
  | _, _ => s1 b

/-- **The rest stays as it was**: 's0' is the part of the held store that the call sees. -/
theorem ACalls.frame {P : Program} {g : FuncId} {args args' : List AV} {st s0 : Store} {Q : AV → Store → Prop} (D : Drops st s0)
    (x : ACalls P g args s0 (fun r s1 => (∀ b, s0 b = none → s1 b ≠ none → st b = none) → r.solid = true ∧ (∀ b o, s1 b = some o → o.solid) ∧ Q r (st.frame s0 s1)))
    (hv : ∀ h vs, SRel h st → VRelL h st args' vs → VRelL h s0 args vs) : ACalls P g args' st Q := by
  refine ⟨x.1, fun w vs S V => (x.2 w vs (D.srel S) (hv _ _ S V)).mono ?_⟩
  rintro _ w' ⟨v, r, s1, rfl, hr, S1, T, sm, q⟩
  have hfr : ∀ b, s0 b = none → s1 b ≠ none → st b = none := fun b h0 h1 => by
    cases hb : st b with
    | none => rfl
    | some o => exact absurd (T.keep b (S b o hb).1 h0).2 h1
  obtain ⟨hs, ho, hq⟩ := q hfr
  have T' : StepH w.heap st w'.heap (st.frame s0 s1) := by
    refine ⟨T.size, fun b hb e => ?_, T.shape⟩
    obtain ⟨k1, k2⟩ := T.keep b hb ((D b).1 e)
    exact ⟨k1, by simp only [Store.frame, e, k2]; split <;> first | rfl | (rename_i h; cases h)⟩
  refine ⟨v, r, st.frame s0 s1, rfl, hr.anyS hs, fun b o hb => ?_, T', sm, hq⟩
  simp only [Store.frame] at hb
  split at hb
  · rename_i o' h0 h1
    cases hb
    obtain ⟨l, y⟩ := S b _ h1
    exact ⟨Nat.lt_of_lt_of_le l T.size, ORel.mono T' (T.keep b l h0).1 y⟩
  · obtain ⟨l, y⟩ := S1 b o hb
    exact ⟨l, y.anyS (ho b o hb)⟩

def none0' : Store := fun _ => none
theorem Drops.none0' (st : Store) : Drops st none0' := fun _ => ⟨fun _ => rfl, fun _ h => by cases h⟩
theorem frame_none (st : Store) : st.frame none0' none0' = st := by
  funext b; simp only [Store.frame, none0']; split
  · rename_i h; exact h.symm
  · rename_i h; cases hb : st b with
    | none => rfl
    | some o => exact absurd hb (h o rfl)

/-- A call that writes nothing and returns a number, a truth value, a text. -/
theorem ACalls.frame0 {P : Program} {g : FuncId} {args args' : List AV} {st : Store} {r : AV} (hs : r.solid = true)
    (x : ACalls P g args none0' (fun r' s1 => r' = r ∧ s1 = none0'))
    (hv : ∀ h vs, SRel h st → VRelL h st args' vs → VRelL h none0' args vs) : ACalls P g args' st (fun r' st' => r' = r ∧ st' = st) :=
  ACalls.frame (Drops.none0' st) (x.mono fun r' s1 ⟨e1, e2⟩ _ => ⟨by rw [e1]; exact hs, (by rw [e2]; intro b o h; cases h), e1, by rw [e2, frame_none]⟩) hv

/-! ### Held values -/
mutual
/-- 'o' is 'a' with its slices held in the blocks 'bs'. -/
def Own (st : Store) : AV → AV → List Nat → Prop
  | .int k n, o, bs => o = .int k n ∧ bs = []
  | .bool b, o, bs => o = .bool b ∧ bs = []
  | .str s, o, bs => o = .str s ∧ bs = []
  | .agg cs, o, bs => ∃ os, o = .agg os ∧ OwnL st cs os bs
  | .slice es, o, bs => (es = [] ∧ o = .fslice [] ∧ bs = []) ∨ ∃ b bs' os w, o = .mslice b 0 es.length w ∧ bs = b :: bs' ∧ st b = some (.cells (os.flatMap AV.cells)) ∧ OwnL st es os bs' ∧ (∀ e ∈ es, e.width = w)
  | _, _, _ => False
def OwnL (st : Store) : List AV → List AV → List Nat → Prop
  | [], os, bs => os = [] ∧ bs = []
  | a :: as, os, bs => ∃ o os' b1 b2, os = o :: os' ∧ bs = b1 ++ b2 ∧ Own st a o b1 ∧ OwnL st as os' b2
end

theorem OwnL.length {st : Store} : ∀ {as os : List AV} {bs : List Nat}, OwnL st as os bs → os.length = as.length
  | [], os, bs, x => by simp only [OwnL] at x; simp [x.1]
  | a :: as, os, bs, x => by
    simp only [OwnL] at x
    obtain ⟨o, os', b1, b2, rfl, rfl, _, x2⟩ := x
    simp [OwnL.length x2]

theorem Own.shape {st : Store} : ∀ {a o : AV} {bs : List Nat}, Own st a o bs → o.isAgg = a.isAgg ∧ o.width = a.width ∧ o.isJunk = false ∧ (∀ cs, a = .agg cs → ∃ os, o = .agg os)
  | .int k n, o, bs, x => by simp only [Own] at x; rw [x.1]; exact ⟨rfl, rfl, rfl, by simp⟩
  | .bool b, o, bs, x => by simp only [Own] at x; rw [x.1]; exact ⟨rfl, rfl, rfl, by simp⟩
  | .str s, o, bs, x => by simp only [Own] at x; rw [x.1]; exact ⟨rfl, rfl, rfl, by simp⟩
  | .agg cs, o, bs, x => by
    simp only [Own] at x
    obtain ⟨os, rfl, x⟩ := x
    exact ⟨rfl, x.length, rfl, fun _ _ => ⟨os, rfl⟩⟩
  | .slice es, o, bs, x => by
    simp only [Own] at x
    rcases x with ⟨_, rfl, _⟩ | ⟨b, bs', os, w, rfl, _⟩ <;> exact ⟨rfl, rfl, rfl, by simp⟩
  | .junk, _, _, x => x.elim
  | .undef, _, _, x => x.elim
  | .tup _, _, _, x => x.elim
  | .fslice _, _, _, x => x.elim
  | .mslice _ _ _ _, _, _, x => x.elim
  | .nilptr, _, _, x => x.elim
  | .ptr _ _, _, _, x => x.elim
  | .pptr _, _, _, x => x.elim
  | .nilmap, _, _, x => x.elim
  | .map _, _, _, x => x.elim
  | .func _ _, _, _, x => x.elim
  | .raw _, _, _, x => x.elim

section
variable {st st' : Store}
mutual
theorem Own.keep : ∀ (a o : AV) (bs : List Nat), (∀ b ∈ bs, st' b = st b) → Own st a o bs → Own st' a o bs
  | .int k n, o, bs, _, x => x
  | .bool b, o, bs, _, x => x
  | .str s, o, bs, _, x => x
  | .agg cs, o, bs, h, x => by
    simp only [Own] at x ⊢
    obtain ⟨os, e, x⟩ := x
    exact ⟨os, e, OwnL.keep cs os bs h x⟩
  | .slice es, o, bs, h, x => by
    simp only [Own] at x ⊢
    rcases x with x | ⟨b, bs', os, w, e1, rfl, e2, x, e3⟩
    · exact .inl x
    · exact .inr ⟨b, bs', os, w, e1, rfl, (h b (by simp)).trans e2, OwnL.keep es os bs' (fun q hq => h q (by simp [hq])) x, e3⟩
  | .junk, _, _, _, x => x
  | .undef, _, _, _, x => x
  | .tup _, _, _, _, x => x
  | .fslice _, _, _, _, x => x
  | .mslice _ _ _ _, _, _, _, x => x
  | .nilptr, _, _, _, x => x
  | .ptr _ _, _, _, _, x => x
  | .pptr _, _, _, _, x => x
  | .nilmap, _, _, _, x => x
  | .map _, _, _, _, x => x
  | .func _ _, _, _, _, x => x
  | .raw _, _, _, _, x => x
theorem OwnL.keep : ∀ (as os : List AV) (bs : List Nat), (∀ b ∈ bs, st' b = st b) → OwnL st as os bs → OwnL st' as os bs
  | [], os, bs, _, x => x
  | a :: as, os, bs, h, x => by
    simp only [OwnL] at x ⊢
    obtain ⟨o, os', b1, b2, e1, rfl, x1, x2⟩ := x
    exact ⟨o, os', b1, b2, e1, rfl, Own.keep a o b1 (fun q hq => h q (by simp [hq])) x1, OwnL.keep as os' b2 (fun q hq => h q (by simp [hq])) x2⟩
end

mutual
theorem Own.solid : ∀ (a o : AV) (bs : List Nat), Own st a o bs → o.solid = true ∧ o.cells.all AV.storable = o.cells.all AV.storable ∧ ∀ b ∈ bs, ∃ cs, st b = some (.cells cs) ∧ solidL cs = true
  | .int k n, o, bs, x => by simp only [Own] at x; rw [x.1, x.2]; exact ⟨rfl, rfl, by simp⟩
  | .bool b, o, bs, x => by simp only [Own] at x; rw [x.1, x.2]; exact ⟨rfl, rfl, by simp⟩
  | .str s, o, bs, x => by simp only [Own] at x; rw [x.1, x.2]; exact ⟨rfl, rfl, by simp⟩
  | .agg cs, o, bs, x => by
    simp only [Own] at x
    obtain ⟨os, rfl, x⟩ := x
    obtain ⟨h1, h2⟩ := OwnL.solid cs os bs x
    exact ⟨by simpa [AV.solid] using h1.1, rfl, h2⟩
  | .slice es, o, bs, x => by
    simp only [Own] at x
    rcases x with ⟨_, rfl, rfl⟩ | ⟨b, bs', os, w, rfl, rfl, e2, x, e3⟩
    · exact ⟨rfl, rfl, by simp⟩
    · obtain ⟨h1, h2⟩ := OwnL.solid es os bs' x
      refine ⟨rfl, rfl, fun q hq => ?_⟩
      rcases List.mem_cons.1 hq with rfl | hq
      · exact ⟨_, e2, h1.2⟩
      · exact h2 q hq
  | .junk, _, _, x => x.elim
  | .undef, _, _, x => x.elim
  | .tup _, _, _, x => x.elim
  | .fslice _, _, _, x => x.elim
  | .mslice _ _ _ _, _, _, x => x.elim
  | .nilptr, _, _, x => x.elim
  | .ptr _ _, _, _, x => x.elim
  | .pptr _, _, _, x => x.elim
  | .nilmap, _, _, x => x.elim
  | .map _, _, _, x => x.elim
  | .func _ _, _, _, x => x.elim
  | .raw _, _, _, x => x.elim
theorem OwnL.solid : ∀ (as os : List AV) (bs : List Nat), OwnL st as os bs → (solidL os = true ∧ solidL (os.flatMap AV.cells) = true) ∧ ∀ b ∈ bs, ∃ cs, st b = some (.cells cs) ∧ solidL cs = true
  | [], os, bs, x => by simp only [OwnL] at x; rw [x.1, x.2]; exact ⟨⟨rfl, rfl⟩, by simp⟩
  | a :: as, os, bs, x => by
    simp only [OwnL] at x
    obtain ⟨o, os', b1, b2, rfl, rfl, x1, x2⟩ := x
    obtain ⟨h1, _, h2⟩ := Own.solid a o b1 x1
    obtain ⟨⟨h3, h4⟩, h5⟩ := OwnL.solid as os' b2 x2
    have happ : ∀ (p q : List AV), solidL p = true → solidL q = true → solidL (p ++ q) = true := by
      intro p q hp hq
      induction p with
      | nil => exact hq
      | cons c p ih => simp only [solidL, Bool.and_eq_true, List.cons_append] at hp ⊢; exact ⟨hp.1, ih hp.2⟩
    have hc : solidL o.cells = true := by cases o <;> first | (simpa [AV.cells, solidL] using h1) | (simpa [AV.cells, AV.solid] using h1)
    refine ⟨⟨by simp [solidL, h1, h3], by rw [List.flatMap_cons]; exact happ _ _ hc h4⟩, fun q hq => ?_⟩
    rcases List.mem_append.1 hq with hq | hq
    · exact h2 q hq
    · exact h5 q hq
end
end

/-! ### What is held, seen as what is never written -/
section
variable {h : Heap} {st s0 : Store}
mutual
theorem Own.view (S : SRel h st) (D : Drops st s0) : ∀ (a o : AV) (bs : List Nat) (cs : List Value), Own st a o bs → (∀ b ∈ bs, s0 b = none) → VC h st o cs → VC h s0 a cs
  | .int k n, o, bs, cs, x, _, y => by simp only [Own] at x; rw [x.1] at y; exact y
  | .bool b, o, bs, cs, x, _, y => by simp only [Own] at x; rw [x.1] at y; exact y
  | .str s, o, bs, cs, x, _, y => by simp only [Own] at x; rw [x.1] at y; exact y
  | .agg as, o, bs, cs, x, hb, y => by
    simp only [Own] at x
    obtain ⟨os, rfl, x⟩ := x
    simp only [VC] at y ⊢
    exact OwnL.viewC S D as os bs cs x hb y
  | .slice es, o, bs, cs, x, hb, y => by
    simp only [Own] at x
    rcases x with ⟨rfl, rfl, rfl⟩ | ⟨b, bs', os, w, rfl, rfl, e2, x, e3⟩
    · unfold VC at y ⊢
      rcases y with y | ⟨b, off, e, _⟩
      · exact .inl y
      · exact .inl ⟨⟨_, e⟩, rfl⟩
    · simp only [VC] at y
      obtain ⟨cap, e, l1, l2, _⟩ := y
      obtain ⟨hlt, c, t, q1, q2, vs, q3, q4⟩ := S b _ e2
      have hsh := OwnL.shapes x
      unfold VC
      refine .inr ⟨b, 0, cap, e, l1, l2, hb b (by simp), hlt, ⟨w, e3⟩, OwnL.viewE S D b es os bs' 0 x (fun q hq => hb q (by simp [hq])) (VEs_of_flat (fun q hq => hsh q hq) q3 q4)⟩
  | .junk, _, _, _, x, _, _ => x.elim
  | .undef, _, _, _, x, _, _ => x.elim
  | .tup _, _, _, _, x, _, _ => x.elim
  | .fslice _, _, _, _, x, _, _ => x.elim
  | .mslice _ _ _ _, _, _, _, x, _, _ => x.elim
  | .nilptr, _, _, _, x, _, _ => x.elim
  | .ptr _ _, _, _, _, x, _, _ => x.elim
  | .pptr _, _, _, _, x, _, _ => x.elim
  | .nilmap, _, _, _, x, _, _ => x.elim
  | .map _, _, _, _, x, _, _ => x.elim
  | .func _ _, _, _, _, x, _, _ => x.elim
  | .raw _, _, _, _, x, _, _ => x.elim
theorem OwnL.viewC (S : SRel h st) (D : Drops st s0) : ∀ (as os : List AV) (bs : List Nat) (cs : List Value), OwnL st as os bs → (∀ b ∈ bs, s0 b = none) → VCs h st os cs → VCs h s0 as cs
  | [], os, bs, cs, x, _, y => by simp only [OwnL] at x; rw [x.1] at y; exact y
  | a :: as, os, bs, cs, x, hb, y => by
    simp only [OwnL] at x
    obtain ⟨o, os', b1, b2, rfl, rfl, x1, x2⟩ := x
    simp only [VCs] at y ⊢
    obtain ⟨c, r, e, y1, y2⟩ := y
    exact ⟨c, r, e, Own.view S D a o b1 [c] x1 (fun q hq => hb q (by simp [hq])) y1, OwnL.viewC S D as os' b2 r x2 (fun q hq => hb q (by simp [hq])) y2⟩
theorem OwnL.viewE (S : SRel h st) (D : Drops st s0) (b : Nat) : ∀ (as os : List AV) (bs : List Nat) (off : Nat), OwnL st as os bs → (∀ b ∈ bs, s0 b = none) → VEs h st b off os → VEs h s0 b off as
  | [], os, bs, off, x, _, y => by simp only [VEs]
  | a :: as, os, bs, off, x, hb, y => by
    simp only [OwnL] at x
    obtain ⟨o, os', b1, b2, rfl, rfl, x1, x2⟩ := x
    simp only [VEs] at y ⊢
    obtain ⟨⟨cs, y1, y2, y3⟩, y4⟩ := y
    have hw := (Own.shape x1).2.1
    rw [hw] at y2 y4
    exact ⟨⟨cs, y1, y2, Own.view S D a o b1 cs x1 (fun q hq => hb q (by simp [hq])) y3⟩, OwnL.viewE S D b as os' b2 _ x2 (fun q hq => hb q (by simp [hq])) y4⟩
theorem OwnL.shapes : ∀ {as os : List AV} {bs : List Nat}, OwnL st as os bs → ∀ o ∈ os, o.isJunk = false
  | [], os, bs, x => by simp only [OwnL] at x; rw [x.1]; simp
  | a :: as, os, bs, x => by
    simp only [OwnL] at x
    obtain ⟨o, os', b1, b2, rfl, rfl, x1, x2⟩ := x
    intro q hq
    rcases List.mem_cons.1 hq with rfl | hq
    · exact (Own.shape x1).2.2.1
    · exact OwnL.shapes x2 q hq
end
theorem Own.viewV (S : SRel h st) (D : Drops st s0) {a o : AV} {bs : List Nat} {v : Value} (x : Own st a o bs) (hb : ∀ b ∈ bs, s0 b = none) (y : VRel h st o v) : VRel h s0 a v := by
  have hs := x.shape
  have key : o.isAgg = vIsAgg v ∧ VC h st o v.cells.toList := by
    cases o <;> first | exact y | simp [AV.isJunk] at hs
  have z : a.isAgg = vIsAgg v ∧ VC h s0 a v.cells.toList := ⟨hs.1.symm.trans key.1, Own.view S D _ _ _ _ x hb key.2⟩
  cases ha : a <;> rw [ha] at z <;> first | trivial | exact z
end

/-- Each argument: as it is, or held. -/
def Seen (st s0 : Store) : List AV → List AV → Prop
  | [], as => as = []
  | o :: os, as => ∃ a as', as = a :: as' ∧ (o = a ∨ ∃ bs, Own st a o bs ∧ ∀ b ∈ bs, s0 b = none) ∧ Seen st s0 os as'
theorem Seen.rel {st s0 : Store} (D : Drops st s0) : ∀ {os as : List AV}, Seen st s0 os as → ∀ h vs, SRel h st → VRelL h st os vs → VRelL h s0 as vs
  | [], as, x, h, vs, _, y => by simp only [Seen] at x; rw [x]; exact y
  | o :: os, as, x, h, vs, S, y => by
    simp only [Seen] at x
    obtain ⟨a, as', rfl, x1, x2⟩ := x
    simp only [VRelL] at y ⊢
    obtain ⟨v, r, rfl, y1, y2⟩ := y
    refine ⟨v, r, rfl, ?_, Seen.rel D x2 h r S y2⟩
    rcases x1 with rfl | ⟨bs, x1, hb⟩
    · exact y1.mono (D.step h)
    · exact x1.viewV S D hb y1

/-! ### What a function has made -/
def Made (st : Store) (a r : AV) (st' : Store) : Prop := ∃ bs : List Nat, bs.Nodup ∧ (∀ b ∈ bs, st b = none) ∧ Own st' a r bs ∧ ∀ b, b ∉ bs → st' b = st b

/-- What was made is not written again: it is seen as a plain value. -/
theorem ACalls.made {P : Program} {g : FuncId} {args : List AV} {st : Store} {a : AV} (x : ACalls P g args st (Made st a)) : ACalls P g args st (fun r st' => r = a ∧ st' = st) :=
  x.weak fun r st' ⟨bs, _, h2, h3, h4⟩ => by
    have D : Drops st' st := fun b => ⟨fun e => by
      by_cases hb : b ∈ bs
      · exact h2 b hb
      · rw [← h4 b hb]; exact e, fun o e => by
      by_cases hb : b ∈ bs
      · rw [h2 b hb] at e; cases e
      · rw [h4 b hb]; exact e⟩
    exact ⟨a, st, D.weakS, fun h v S y => h3.viewV S D h2 y, rfl, rfl⟩

/-- A function that makes a value, called over more that is held. -/
theorem ACalls.frameMade {P : Program} {g : FuncId} {args args' : List AV} {st : Store} {a : AV}
    (x : ACalls P g args none0' (Made none0' a))
    (hv : ∀ h vs, SRel h st → VRelL h st args' vs → VRelL h none0' args vs) : ACalls P g args' st (Made st a) := by
  refine ACalls.frame (Drops.none0' st) (x.mono ?_) hv
  rintro r s1 ⟨bs, h1, _, h3, h4⟩ hfr
  have hso := Own.solid _ _ _ h3
  have hbs : ∀ b ∈ bs, st b = none := fun b hb => hfr b rfl (by
    obtain ⟨cs, e, _⟩ := hso.2.2 b hb
    rw [e]; simp)
  have hfb : ∀ b ∈ bs, (st.frame none0' s1) b = s1 b := fun b hb => by simp only [Store.frame, hbs b hb]; split <;> simp_all
  refine ⟨hso.1, fun b o e => ?_, bs, h1, hbs, Own.keep _ _ _ hfb h3, fun b hb => ?_⟩
  · by_cases hb : b ∈ bs
    · obtain ⟨cs, e2, hs⟩ := hso.2.2 b hb
      rw [e] at e2; cases e2; exact hs
    · rw [h4 b hb] at e; cases e
  · have := h4 b hb
    simp only [Store.frame, none0'] at this ⊢
    cases hst : st b with
    | none => exact this
    | some o => rfl
end Go.AW
