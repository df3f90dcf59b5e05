/- Regions that draw: what looks at no store may float past what writes. -/
import Derived.Test.YtcookjmgjbhkiaaAw17
namespace Go.AW
set_option linter.unusedSimpArgs false
set_option linter.unusedVariables false

theorem aAppend_mono {P : Program} {t : TypeId} {st : Store} {s x : AV} {K K' : AV → Store → Prop} (h : ∀ r s, K r s → K' r s) (e : aAppend P t st s x K) : aAppend P t st s x K' := by
  unfold aAppend at *
  split at e
  case h_2 => exact e.elim
  refine ⟨e.1, e.2.1, ?_⟩
  have e := e.2.2
  split at e
  · exact ⟨e.1, e.2.1, e.2.2.1, fun q => h _ _ (e.2.2.2.1 q), fun q b hb => h _ _ (e.2.2.2.2 q b hb)⟩
  · refine ⟨e.1, e.2.1, e.2.2.1, ?_⟩
    have e := e.2.2.2
    split at e
    · exact ⟨e.1, h _ _ e.2.1, fun b hb => h _ _ (e.2.2 b hb)⟩
    · exact e.elim
  · exact e.elim

theorem aStep_mono {P : Program} {mt : List Nat} {φ : AF} {st : Store} {o : Oper} {K K' : AV → Store → Prop} (h : ∀ r s, K r s → K' r s) (e : aStep P mt φ st o K) : aStep P mt φ st o K' := by
  unfold aStep at *
  split at e
  · split at e
    · exact e.mono h
    · exact e.elim
  · split at e
    · exact ⟨e.1, aAppend_mono h e.2⟩
    · exact e.elim
  · split at e
    · rename_i hm
      rw [if_pos hm]
      exact ⟨e.1, fun b hb => h _ _ (e.2 b hb)⟩
    · rename_i hm
      rw [if_neg hm]
      split at e
      · exact h _ _ e
      · exact e.elim
  · split at e
    · exact fun b hb => h _ _ (e b hb)
    · exact e.elim
  · split at e
    · split at e
      · exact ⟨e.1, e.2.1, e.2.2.1, h _ _ e.2.2.2⟩
      · exact e.elim
    · exact e.elim
  · exact fun b hb => h _ _ (e b hb)
  · unfold aMakeSlice at *
    split at e
    · exact ⟨e.1, e.2.1, e.2.2.1, e.2.2.2.1, e.2.2.2.2.1, e.2.2.2.2.2.1, fun b hb => h _ _ (e.2.2.2.2.2.2 b hb)⟩
    · exact e.elim
  · unfold aMapUpdate at *
    split at e
    · split at e
      · exact ⟨e.1, h _ _ e.2⟩
      · exact e.elim
    · exact e.elim
  · split at e
    · exact h _ _ e
    · exact e.elim

/-- An operation under its guard. -/
def aStepG (P : Program) (ops : Array Oper) (o : Oper) (φ : AF) (st : Store) (K : AV → Store → Prop) : Prop := match aGuard ops φ o with
  | some true => aStep P [] φ st o K
  | some false => K .undef st
  | none => False
theorem aStepG_mono {P : Program} {ops : Array Oper} {o : Oper} {φ : AF} {st : Store} {K K' : AV → Store → Prop} (h : ∀ r s, K r s → K' r s) (e : aStepG P ops o φ st K) : aStepG P ops o φ st K' := by
  unfold aStepG at *
  split at e
  · exact aStep_mono h e
  · exact h _ _ e
  · exact e.elim

section
variable {P : Program}
theorem aGuard_put {ops : Array Oper} {oi oj : Oper} (φ : AF) (v : AV) (h : ∀ d, oj.dst = some d → d ∉ oi.looksAt ops) : aGuard ops (φ.put oj.dst v) oi = aGuard ops φ oi := by
  unfold aGuard
  cases hg : oi.guard with
  | none => rfl
  | some gw =>
    obtain ⟨g, want⟩ := gw
    cases ht : (ops[g]?).bind (·.dst) with
    | none => simp only [ht]
    | some t =>
      simp only [ht]
      have : (φ.put oj.dst v) t = φ t := by
        have := put_eval (φ := φ) (dst := oj.dst) (v := v) (x := .tmp t) (fun d hd hxd => h d hd (by
          cases hxd
          simp [Oper.looksAt, hg, ht]))
        exact this
      rw [this]
theorem aStepG_put {ops : Array Oper} {oi oj : Oper} (φ : AF) (v : AV) {st : Store} {K : AV → Store → Prop} (h : ∀ d, oj.dst = some d → d ∉ oi.looksAt ops) : aStepG P ops oi (φ.put oj.dst v) st K ↔ aStepG P ops oi φ st K := by
  have h1 : aStep P [] (φ.put oj.dst v) st oi K = aStep P [] φ st oi K :=
    aStep_congr fun x hx => put_eval fun d hd hxd => h d hd (by
      subst hxd
      exact List.mem_append_left _ (List.mem_filterMap.2 ⟨.tmp d, by simpa using hx, rfl⟩))
  unfold aStepG
  rw [h1, aGuard_put φ v h]

/-- Any order; the store may turn. -/
def aAnyG (P : Program) (ops : Array Oper) (K : AF → Store → Prop) : Nat → Array Bool → AF → Store → Prop
  | 0, listed, φ, st => Region.ready .any ops listed = [] ∧ K φ st
  | f + 1, listed, φ, st => (Region.ready .any ops listed = [] → K φ st) ∧ ∀ i ∈ Region.ready .any ops listed, ∃ o, ops[i]? = some o ∧ aStepG P ops o φ st (fun r st' => aAnyG P ops K f (listed.setIfInBounds i true) (φ.put o.dst r) st')

theorem aStepG_ok {N : Nat} {ops : Array Oper} (hN : ∀ (j d : Nat), (ops[j]?).bind (·.dst) = some d → d < N) {o : Oper} {i : Nat} {a : Act} {w : World} {φ : AF} {st : Store} {G : AV → Store → Prop} {K : Act → World → Prop} {Q : Exit → Act → World → Prop} (hi : ops[i]? = some o)
    (R : Rel N a w φ st) (hd : dstOk N o = true) (y : aStepG P ops o φ st G) (h : ∀ a' w' r st', Rel N a' w' (φ.put o.dst r) st' → StepH w.heap st w'.heap st' → Same w w' → G r st' → K a' w') : wpOp P ops Q i K a w := by
  unfold aStepG at y
  unfold wpOp
  simp only [hi]
  split at y
  · rename_i hg
    rw [if_pos (aGuard_ok R hN hg)]
    refine .inl (aStep_ok R.frame R.store y fun v w' ⟨r', st', x1, x2, x3, x4, x5⟩ => ?_)
    exact h _ _ r' st' (R.put hd x3 x2 x1) x3 x4 x5
  · rename_i hg
    rw [if_neg (by rw [aGuard_ok R hN hg]; simp)]
    exact h _ _ .undef st (R.put (r := .undef) hd (StepH.refl _ _) R.store ⟨rfl, rfl⟩) (StepH.refl _ _) (Same.refl _) y
  · exact y.elim

theorem aAnyG_ok {N : Nat} {ops : Array Oper} (hN : ∀ (j d : Nat), (ops[j]?).bind (·.dst) = some d → d < N) (hD : ∀ o ∈ ops.toList, dstOk N o = true) {K : AF → Store → Prop} {Q : Exit → Act → World → Prop} {w0 : World} {st0 : Store}
    (hK : ∀ φ st a w, K φ st → Rel N a w φ st → StepH w0.heap st0 w.heap st → Same w0 w → Q .normal a w) :
    ∀ (f : Nat) (listed : Array Bool) (φ : AF) (st : Store) (a : Act) (w : World), aAnyG P ops K f listed φ st → Rel N a w φ st → StepH w0.heap st0 w.heap st → Same w0 w → wpAny P .any ops Q f listed a w
  | 0, listed, φ, st, a, w, h, R, T, s => ⟨h.1, hK φ st a w h.2 R T s⟩
  | f + 1, listed, φ, st, a, w, h, R, T, s => by
    refine ⟨fun h0 => hK φ st a w (h.1 h0) R T s, fun i hi => ?_⟩
    obtain ⟨o, ho, y⟩ := h.2 i hi
    exact aStepG_ok hN ho R (hD o (Array.mem_toList_iff.2 (Array.mem_of_getElem? ho))) y fun a' w' r st' R' T' s' g => aAnyG_ok hN hD hK f _ _ _ a' w' g R' (T.trans T') (s.trans s')

/-- An operation that comes to the same over every store. -/
def aFree (P : Program) (ops : Array Oper) (o : Oper) (r : AV) (φ : AF) : Prop := ∀ st, aYield P st ops o r φ
theorem aFree_stepG {ops : Array Oper} {o : Oper} {r : AV} {φ : AF} (h : aFree P ops o r φ) {st : Store} {K : AV → Store → Prop} (k : K r st) : aStepG P ops o φ st K := by
  unfold aStepG
  rcases h st with ⟨hg, hs⟩ | ⟨hg, rfl⟩
  · rw [hg]; exact aStep_mono (fun r' s' ⟨e1, e2⟩ => by rw [e1, e2]; exact k) hs
  · rw [hg]; exact k

theorem aAnyG_first {ops : Array Oper} {i : Nat} {oi : Oper} {v : AV} {K : AF → Store → Prop} (hi : ops[i]? = some oi) :
    ∀ (f : Nat) (listed : Array Bool) (φ : AF) (st : Store),
      (∀ j oj, ops[j]? = some oj → j ≠ i → listed.getD j true = false → (∀ e ∈ oj.after, Region.binds .any e = true → e.on ≠ i) → oi.apart ops oj = true) →
      i ∈ Region.ready .any ops listed → aFree P ops oi v φ →
      aAnyG P ops K f (listed.setIfInBounds i true) (φ.put oi.dst v) st → aAnyG P ops K (f + 1) listed φ st := by
  intro f
  induction f with
  | zero =>
    intro listed φ st _ hr hy H
    refine ⟨fun h => (by rw [h] at hr; cases hr), fun j hj => ?_⟩
    by_cases hji : j = i
    · subst hji; exact ⟨oi, hi, aFree_stepG hy H⟩
    · have := ready_mono hj hji
      rw [H.1] at this
      cases this
  | succ f ih =>
    intro listed φ st hfree hr hy H
    refine ⟨fun h => (by rw [h] at hr; cases hr), fun j hj => ?_⟩
    by_cases hji : j = i
    · subst hji; exact ⟨oi, hi, aFree_stepG hy H⟩
    · obtain ⟨oj, hoj, h1⟩ := H.2 j (ready_mono hj hji)
      obtain ⟨hjun, oj', hoj', hall⟩ := mem_ready.1 hj
      have : oj' = oj := Option.some.inj (hoj'.symm.trans hoj)
      subst this
      have hun := (mem_ready.1 hr).1
      have hnot : ∀ e ∈ oj'.after, Region.binds .any e = true → e.on ≠ i := fun e he hb heq => by
        have h1 := hall e he hb
        rw [heq, getD_both hun] at h1
        cases h1
      obtain ⟨a1, a2, a3⟩ := Oper.apart_spec (hfree j oj' hoj hji hjun hnot)
      have hfree' : ∀ k ok, ops[k]? = some ok → k ≠ i → (listed.setIfInBounds j true).getD k true = false →
          (∀ e ∈ ok.after, Region.binds .any e = true → e.on ≠ i) → oi.apart ops ok = true := fun k ok hk hki hun hno => by
        refine hfree k ok hk hki ?_ hno
        by_cases hjk : j = k
        · subst hjk; exact hjun
        · rw [getD_set_ne true hjk] at hun; exact hun
      refine ⟨oj', hoj, aStepG_mono (fun r st' h2 => ?_) ((aStepG_put φ v a1).1 h1)⟩
      refine ih (listed.setIfInBounds j true) (φ.put oj'.dst r) st' hfree' (ready_mono hr (Ne.symm hji)) (fun s => (aYield_put φ r a3).2 (hy s)) ?_
      rw [Array.setIfInBounds_comm _ _ hji, ← put_comm φ v r a2]
      exact h2

/-! ### A plan: what floats is taken when it can be, what writes when nothing else can come -/
def planB (ops : Array Oper) : List (Nat × Bool) → Array Bool → Bool
  | [], listed => (Region.ready .any ops listed).isEmpty
  | (i, true) :: r, listed => (Region.ready .any ops listed).contains i && Region.free .any ops listed i && planB ops r (listed.setIfInBounds i true)
  | (i, false) :: r, listed => decide (Region.ready .any ops listed = [i]) && planB ops r (listed.setIfInBounds i true)

def aPlan (P : Program) (ops : Array Oper) (K : AF → Store → Prop) : List (Nat × Bool) → AF → Store → Prop
  | [], φ, st => K φ st
  | (i, true) :: r, φ, st => ∃ o, ops[i]? = some o ∧ ∃ v, aFree P ops o v φ ∧ aPlan P ops K r (φ.put o.dst v) st
  | (i, false) :: r, φ, st => ∃ o, ops[i]? = some o ∧ aStepG P ops o φ st (fun v st' => aPlan P ops K r (φ.put o.dst v) st')

theorem aPlan_any {ops : Array Oper} {K : AF → Store → Prop} : ∀ (p : List (Nat × Bool)) (listed : Array Bool) (φ : AF) (st : Store), planB ops p listed = true → aPlan P ops K p φ st → aAnyG P ops K p.length listed φ st
  | [], listed, φ, st, hB, h => ⟨by simpa [planB] using hB, h⟩
  | (i, true) :: r, listed, φ, st, hB, h => by
    simp only [planB, Bool.and_eq_true] at hB
    obtain ⟨⟨hr, hf⟩, hB'⟩ := hB
    obtain ⟨o, ho, v, hv, h'⟩ := h
    exact aAnyG_first ho _ listed φ st (Region.free_spec ho hf) (by simpa using hr) hv (aPlan_any r _ _ _ hB' h')
  | (i, false) :: r, listed, φ, st, hB, h => by
    simp only [planB, Bool.and_eq_true, decide_eq_true_eq] at hB
    obtain ⟨o, ho, h'⟩ := h
    refine ⟨fun h0 => (by rw [hB.1] at h0; cases h0), fun j hj => ?_⟩
    rw [hB.1] at hj
    obtain rfl : j = i := by simpa using hj
    exact ⟨o, ho, aStepG_mono (fun v st' q => aPlan_any r _ _ _ hB.2 q) h'⟩

theorem arun_planR {N : Nat} {id : Nat} {ops : Array Oper} {Q : Exit → AF → Store → Prop} {φ : AF} {st : Store} (p : List (Nat × Bool)) (hm : P.follows .mixedOrders = true) (hok : opsOk N ops = true) (hl : p.length = ops.size) (hB : planB ops p (Array.replicate ops.size false) = true)
    (h : aPlan P ops (Q .normal) p φ st) : ARun P N (.region id ops true) Q φ st := by
  intro a w R
  refine wp_region_any hm ?_
  have R0 : Rel N a { w with drawn := w.drawn + 1 } φ st := ⟨R.size, R.defers, R.frame, R.store⟩
  have := aPlan_any p _ φ st hB h
  rw [hl] at this
  exact aAnyG_ok (opsOk_at hok) (opsOk_dst hok) (w0 := w) (st0 := st) (fun φ' st' a' w' k R' T s => ⟨φ', st', R', T, s, k⟩) _ _ _ _ _ _ this R0 (StepH.refl _ _) ⟨rfl, rfl, rfl⟩

/-! ### The plan, evaluated -/
theorem lookup_any {t : TypeId} {ok : Bool} {x i r : AV} (h : aLookup P none0' t ok x i = some r) (st : Store) : aLookup P st t ok x i = some r := by
  unfold aLookup at *
  split at h
  · simp only [none0'] at h; cases h
  · cases h
theorem load_any {t : TypeId} {x r : AV} (h : aLoad P none0' t x = some r) (st : Store) : aLoad P st t x = some r := by
  unfold aLoad at *
  split at h
  · exact h
  · split at h
    · rename_i h1; simp only [none0'] at h1; cases h1
    · cases h
  · cases h
theorem aVal_any {φ : AF} {o : Oper} {r : AV} (h : aVal P φ none0' o = some r) (st : Store) : aVal P φ st o = some r := by
  obtain ⟨dst, op, type, pos, after, guard⟩ := o
  cases op
  case makeFunc fn a b => cases fn <;> exact h
  case call c =>
    obtain ⟨callee, args, ats⟩ := c
    cases callee
    case builtin b => cases b <;> exact h
    all_goals exact h
  case load => exact load_any h st
  case lookup => exact lookup_any h st
  all_goals exact h

/-- The plan in the words that are evaluated. -/
def aPlanE (P : Program) (ops : Array Oper) (K : AF → Store → Prop) : List (Nat × Bool) → AF → Store → Prop
  | [], φ, st => K φ st
  | (i, true) :: r, φ, st => match ops[i]? with
    | none => False
    | some o => if plainOp o = true then aOps P [] ops [o] (fun φ' _ => aPlanE P ops K r φ' st) φ none0' else
      match o.guard, o.op with
      | none, .call { callee := .value f, args, .. } => ∃ v, (∀ s, callV P (φ.eval f) (args.toList.map φ.eval) s (fun r' s' => r' = v ∧ s' = s)) ∧ aPlanE P ops K r (φ.put o.dst v) st
      | _, _ => False
  | (i, false) :: r, φ, st => match ops[i]? with
    | none => False
    | some o => aOps P [] ops [o] (fun φ' st' => aPlanE P ops K r φ' st') φ st

theorem aPlanE_ok {ops : Array Oper} {K : AF → Store → Prop} : ∀ (p : List (Nat × Bool)) (φ : AF) (st : Store), aPlanE P ops K p φ st → aPlan P ops K p φ st
  | [], _, _, h => h
  | (i, true) :: r, φ, st, h => by
    simp only [aPlanE] at h
    split at h
    · exact h.elim
    · rename_i o ho
      split at h
      · rename_i hp
        simp only [aOps] at h
        split at h
        · rename_i hg
          rw [aStep_plain hp] at h
          split at h
          · rename_i v hv
            exact ⟨o, ho, v, fun s => .inl ⟨hg, by rw [aStep_plain hp, aVal_any hv s]; exact ⟨rfl, rfl⟩⟩, aPlanE_ok r _ _ h⟩
          · exact h.elim
        · rename_i hg
          exact ⟨o, ho, .undef, fun s => .inr ⟨hg, rfl⟩, aPlanE_ok r _ _ h⟩
        · exact h.elim
      · split at h
        · rename_i f args ats hg hop
          obtain ⟨v, h1, h2⟩ := h
          refine ⟨o, ho, v, fun s => .inl ⟨by simp only [aGuard, hg], ?_⟩, aPlanE_ok r _ _ h2⟩
          simp only [aStep, hop]
          exact h1 s
        · exact h.elim
  | (i, false) :: r, φ, st, h => by
    simp only [aPlanE] at h
    split at h
    · exact h.elim
    · rename_i o ho
      refine ⟨o, ho, ?_⟩
      simp only [aOps] at h
      unfold aStepG
      split at h
      · rename_i hg
        rw [hg]
        exact aStep_mono (fun v s q => aPlanE_ok r _ _ q) h
      · rename_i hg
        rw [hg]
        exact aPlanE_ok r _ _ h
      · exact h.elim
end

/-- Behind an operation of a plan. -/
def planK (P : Program) (ops : Array Oper) (K : AF → Store → Prop) (r : List (Nat × Bool)) (φ : AF) (st : Store) : Prop := aPlanE P ops K r φ st
def planF (P : Program) (ops : Array Oper) (K : AF → Store → Prop) (r : List (Nat × Bool)) (st : Store) (φ : AF) (_ : Store) : Prop := aPlanE P ops K r φ st
def planC (P : Program) (ops : Array Oper) (K : AF → Store → Prop) (r : List (Nat × Bool)) (φ : AF) (dst : Option Tmp) (st : Store) (v : AV) : Prop := aPlanE P ops K r (φ.put dst v) st
def callF (P : Program) (f : AV) (args : List AV) (K : AV → Prop) : Prop := ∃ v, (∀ s, callV P f args s (fun r' s' => r' = v ∧ s' = s)) ∧ K v
def planO (P : Program) (ops : Array Oper) (K : AF → Store → Prop) (r : List (Nat × Bool)) (φ : AF) (st : Store) : Bool → Option Oper → Prop
  | true, some o => if plainOp o = true then aOps P [] ops [o] (planF P ops K r st) φ none0' else
      match o.guard, o.op with
      | none, .call { callee := .value f, args, .. } => callF P (φ.eval f) (args.toList.map φ.eval) (planC P ops K r φ o.dst st)
      | _, _ => False
  | false, some o => aOps P [] ops [o] (planK P ops K r) φ st
  | _, none => False
theorem ev_plan0 {P : Program} {ops : Array Oper} {K : AF → Store → Prop} {φ : AF} {st : Store} : aPlanE P ops K [] φ st = K φ st := rfl
theorem ev_plan1 {P : Program} {l : List Oper} {K : AF → Store → Prop} {φ : AF} {st : Store} {i : Nat} {b : Bool} {r : List (Nat × Bool)} : aPlanE P l.toArray K ((i, b) :: r) φ st = planO P l.toArray K r φ st b l[i]? := by
  cases b <;> simp only [aPlanE, List.getElem?_toArray] <;> cases l[i]? <;> rfl
theorem ev_planO {P : Program} {ops : Array Oper} {K : AF → Store → Prop} {φ : AF} {st : Store} {r : List (Nat × Bool)} {o : Oper} : planO P ops K r φ st false (some o) = aOps P [] ops [o] (planK P ops K r) φ st := rfl
theorem ev_planT {P : Program} {ops : Array Oper} {K : AF → Store → Prop} {φ : AF} {st : Store} {r : List (Nat × Bool)} {o : Oper} : planO P ops K r φ st true (some o) = if plainOp o = true then aOps P [] ops [o] (planF P ops K r st) φ none0' else
      match o.guard, o.op with
      | none, .call { callee := .value f, args, .. } => callF P (φ.eval f) (args.toList.map φ.eval) (planC P ops K r φ o.dst st)
      | _, _ => False := rfl
theorem ev_planK {P : Program} {ops : Array Oper} {K : AF → Store → Prop} {φ : AF} {st : Store} {r : List (Nat × Bool)} : planK P ops K r φ st = aPlanE P ops K r φ st := rfl
theorem ev_planF {P : Program} {ops : Array Oper} {K : AF → Store → Prop} {φ : AF} {st s : Store} {r : List (Nat × Bool)} : planF P ops K r st φ s = aPlanE P ops K r φ st := rfl
theorem ev_planC {P : Program} {ops : Array Oper} {K : AF → Store → Prop} {φ : AF} {st : Store} {r : List (Nat × Bool)} {dst : Option Tmp} {v : AV} : planC P ops K r φ dst st v = aPlanE P ops K r (φ.put dst v) st := rfl
theorem callF_mk {P : Program} {g : FuncId} {args : List AV} {r : AV} {K : AV → Prop} (x : ∀ st, ACalls P g args st (fun r' st' => r' = r ∧ st' = st)) (h : K r) : callF P (.func g []) args K := ⟨r, fun st => by show ACalls P g (args ++ []) st _; rw [List.append_nil]; exact x st, h⟩
@[congr] theorem cg_aPlanE {P : Program} {ops : Array Oper} {K : AF → Store → Prop} {p : List (Nat × Bool)} {φ φ' : AF} {st st' : Store} (h1 : φ = φ') (h2 : st = st') : aPlanE P ops K p φ st = aPlanE P ops K p φ' st' := by rw [h1, h2]
@[congr] theorem cg_planO {P : Program} {ops : Array Oper} {K : AF → Store → Prop} {p : List (Nat × Bool)} {φ φ' : AF} {st st' : Store} {b : Bool} {o o' : Option Oper} (h1 : φ = φ') (h2 : st = st') (h3 : o = o') : planO P ops K p φ st b o = planO P ops K p φ' st' b o' := by rw [h1, h2, h3]
@[congr] theorem cg_planK {P : Program} {ops : Array Oper} {K : AF → Store → Prop} {p : List (Nat × Bool)} {φ φ' : AF} {st st' : Store} (h1 : φ = φ') (h2 : st = st') : planK P ops K p φ st = planK P ops K p φ' st' := by rw [h1, h2]
@[congr] theorem cg_planF {P : Program} {ops : Array Oper} {K : AF → Store → Prop} {p : List (Nat × Bool)} {φ φ' : AF} {st st' s : Store} (h1 : φ = φ') (h2 : st = st') : planF P ops K p st φ s = planF P ops K p st' φ' s := by rw [h1, h2]
@[congr] theorem cg_callF {P : Program} {f f' : AV} {args args' : List AV} {K : AV → Prop} (h0 : f = f') (h1 : args = args') : callF P f args K = callF P f' args' K := by rw [h0, h1]
theorem arun_plan {P : Program} {N : Nat} {id : Nat} {l : List Oper} {Q : Exit → AF → Store → Prop} {φ : AF} {st : Store} (p : List (Nat × Bool)) (hm : P.follows .mixedOrders = true) (hok : opsOk N l.toArray = true) (hl : p.length = l.length) (hB : planB l.toArray p (Array.replicate l.length false) = true)
    (h : aPlanE P l.toArray (Q .normal) p φ st) : ARun P N (.region id l.toArray true) Q φ st :=
  arun_planR p hm hok (by simpa using hl) (by simpa using hB) (aPlanE_ok p φ st h)
end Go.AW
