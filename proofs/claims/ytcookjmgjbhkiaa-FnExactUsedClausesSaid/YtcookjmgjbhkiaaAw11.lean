/- Functions, loops, weaker frames. -/
import Derived.Test.YtcookjmgjbhkiaaAw10
namespace Go.AW

/-! ### The results -/
def aRes (P : Program) (φ : AF) (st : Store) : ResultVar → Option AV
  | .tmp t => some (φ t)
  | .cell p t => aLoad P st t (φ p)
def aResults (P : Program) (φ : AF) (st : Store) : List ResultVar → Option (List AV)
  | [] => some []
  | r :: rs => match aRes P φ st r, aResults P φ st rs with
    | some x, some xs => some (x :: xs)
    | _, _ => none
def tupOf (K : AV → Store → Prop) (st : Store) : List AV → Prop
  | [r] => K r st
  | rs => noJunk rs = true ∧ K (.tup rs) st
def retQ (P : Program) (rs : Array ResultVar) (K : AV → Store → Prop) : Exit → AF → Store → Prop
  | .normal, φ, st | .ret, φ, st => match aResults P φ st rs.toList with
    | some xs => tupOf K st xs
    | none => False
  | _, _, _ => False

theorem aRes_run {P : Program} {φ : AF} {st : Store} {w : World} {a : Act} {v : ResultVar} {r : AV} (F : FRel w.heap st a.tmps φ) (S : SRel w.heap st) (e : aRes P φ st v = some r) :
    ∃ u, (match v with | .tmp t => pure (a.tmps.getD t undef) | .cell p t => do loadVar t (← asAddr (a.tmps.getD p undef)) : Sem Value).run P w = .ok u w ∧ VRel w.heap st r u := by
  cases v with
  | tmp t => cases e; exact ⟨_, rfl, F t⟩
  | cell p t =>
    obtain ⟨b, off, u, hv, r1, rv⟩ := aLoad_val (F p) S e
    exact ⟨u, by simp only [hv, asAddr, Sem.run_bind, Sem.run_pure, Result.andThen_ok, r1], rv⟩

theorem aResults_run {P : Program} {φ : AF} {st : Store} {w : World} {a : Act} (F : FRel w.heap st a.tmps φ) (S : SRel w.heap st) : ∀ (l : List ResultVar) (rs : List AV), aResults P φ st l = some rs →
    ∃ us, (l.mapM fun v => (match v with | .tmp t => pure (a.tmps.getD t undef) | .cell p t => do loadVar t (← asAddr (a.tmps.getD p undef)) : Sem Value)).run P w = .ok us w ∧ VRelL w.heap st rs us
  | [], rs, e => by simp only [aResults] at e; cases e; exact ⟨[], rfl, rfl⟩
  | v :: l, rs, e => by
    simp only [aResults] at e
    split at e
    · rename_i x xs hx hxs
      cases e
      obtain ⟨u, u1, u2⟩ := aRes_run F S hx
      obtain ⟨us, v1, v2⟩ := aResults_run F S l xs hxs
      refine ⟨u :: us, ?_, by simp only [VRelL]; exact ⟨u, us, rfl, u2, v2⟩⟩
      rw [List.mapM_cons]
      simp only [Sem.run_bind, u1, Result.andThen_ok, v1, Sem.run_pure]
    · cases e

theorem VRelL.to_VTs {h : Heap} {st : Store} : ∀ {as : List AV} {vs : List Value}, VRelL h st as vs → noJunk as = true → VTs h st as vs
  | [], _, x, _ => by simpa [VTs, VRelL] using x
  | a :: as, vs, x, hj => by
    simp only [VRelL] at x
    obtain ⟨v, r, rfl, x1, x2⟩ := x
    simp [noJunk] at hj
    simp only [VTs]
    exact ⟨v, r, rfl, x1.pair hj.1, VRelL.to_VTs x2 (by simp [noJunk]; exact hj.2)⟩

theorem results_ok {P : Program} {φ : AF} {st : Store} {w : World} {a : Act} {fn : Func} {rs : List AV} {K : AV → Store → Prop} (F : FRel w.heap st a.tmps φ) (S : SRel w.heap st) (e : aResults P φ st fn.results.toList = some rs) (k : tupOf K st rs) :
    ∃ v r, (results fn a.tmps).run P w = .ok v w ∧ VRel w.heap st r v ∧ K r st := by
  obtain ⟨us, u1, u2⟩ := aResults_run F S _ rs e
  have hrun : (results fn a.tmps).run P w = .ok (if h : us.toArray.size = 1 then us.toArray[0] else .tuple us.toArray) w := by
    unfold results
    rw [Array.mapM_eq_mapM_toList]
    simp only [Sem.run_bind, Sem.run_map]
    exact (congrArg (fun r : Result (List Value) => (r.andThen fun a w' => Result.ok a.toArray w').andThen fun a w' => Sem.run P (pure (if h : a.size = 1 then a[0] else Value.tuple a)) w') u1).trans rfl
  match rs, k with
  | [r], k =>
    simp only [VRelL] at u2
    obtain ⟨u, r', rfl, x1, rfl⟩ := u2
    exact ⟨u, r, by rw [hrun]; rfl, x1, k⟩
  | [], k =>
    simp only [VRelL] at u2
    subst u2
    exact ⟨.tuple #[], .tup [], by rw [hrun]; rfl, ⟨rfl, [], rfl, rfl⟩, k.2⟩
  | r1 :: r2 :: rest, k =>
    have h2 := u2
    simp only [VRelL] at u2
    obtain ⟨u, us', rfl, _, v, us'', rfl, _, _⟩ := u2
    exact ⟨.tuple (u :: v :: us'').toArray, .tup (r1 :: r2 :: rest), by rw [hrun]; simp, ⟨rfl, _, rfl, VRelL.to_VTs h2 k.1⟩, k.2⟩

/-! ### A function -/
def argF : Nat → List AV → AF
  | _, [] => AF.bot
  | i, a :: as => (argF (i + 1) as).upd i a

theorem argF_lt : ∀ (as : List AV) (i d : Nat), d < i → argF i as d = .junk
  | [], _, _, _ => rfl
  | a :: as, i, d, h => by
    simp only [argF, AF.upd]
    rw [if_neg (by omega)]
    exact argF_lt as (i + 1) d (by omega)

theorem argF_rel {h : Heap} {st : Store} {tmps : Array Value} : ∀ (as : List AV) (vs : List Value) (i : Nat), VRelL h st as vs → (∀ j v, vs[j]? = some v → tmps.getD (i + j) undef = v) → FRel h st tmps (argF i as)
  | [], _, _, _, _ => fun d => by trivial
  | a :: as, vs, i, x, ht => fun d => by
    simp only [VRelL] at x
    obtain ⟨v, r, rfl, x1, x2⟩ := x
    simp only [argF, AF.upd]
    split
    · rename_i hd
      subst hd
      have := ht 0 v rfl
      rw [Nat.add_zero] at this
      rw [this]; exact x1
    · exact argF_rel as r (i + 1) x2 (fun j u hj => by
        have := ht (j + 1) u (by simpa using hj)
        rw [show i + (j + 1) = i + 1 + j by omega] at this
        exact this) d

theorem VRelL.length {h : Heap} {st : Store} : ∀ {as : List AV} {vs : List Value}, VRelL h st as vs → vs.length = as.length
  | [], vs, x => by simp only [VRelL] at x; simp [x]
  | a :: as, vs, x => by
    simp only [VRelL] at x
    obtain ⟨v, r, rfl, _, x2⟩ := x
    simp [VRelL.length x2]

/-- **A function's contract, from its body.** What is left at the return may be told with less: 'weak'. -/
theorem acalls_of {P : Program} {g : FuncId} {fn : Func} {c : Code} {args : List AV} {st : Store} {K : AV → Store → Prop} (mt : List Nat) (hf : P.funcs[g]? = some fn) (hb : fn.body = some c) (hn : (fn.name == "runtime.NumGoroutine") = false)
    (hok : codeOk fn.ntmps c = true) (hargs : args.length ≤ fn.ntmps) (e : aCode P fn.ntmps mt c (retQ P fn.results K) (argF 0 args) st) : ACalls P g args st K := by
  refine ⟨⟨fn, hf, by simp [hb], hn⟩, fun w vs S V => ?_⟩
  have hl := V.length
  have R : Rel fn.ntmps { tmps := vs.toArray ++ Array.replicate (fn.ntmps - vs.toArray.size) undef, defers := [] } w (argF 0 args) st := by
    refine ⟨by simp; omega, rfl, argF_rel args vs 0 V fun j v hj => ?_, S⟩
    obtain ⟨hjl, hjv⟩ := List.getElem?_eq_some_iff.1 hj
    simp [Array.getElem?_append, hjl, hjv]
  refine calls_of_wp hf hb (wp_mono (aCode_ok c _ _ st hok e _ w R) ?_)
  rintro ex a' w' ⟨φ', st', R', T, s, q⟩
  have fin : (match aResults P φ' st' fn.results.toList with | some xs => tupOf K st' xs | none => False) → a'.defers = [] ∧ ∃ v, (results fn a'.tmps).run P w' = .ok v w' ∧
      (∃ v2 r st2, (Ending.returned v) = .returned v2 ∧ VRel w'.heap st2 r v2 ∧ SRel w'.heap st2 ∧ StepH w.heap st w'.heap st2 ∧ Same w w' ∧ K r st2) := by
    intro q
    split at q
    · rename_i xs hx
      obtain ⟨v, r, r1, r2, r3⟩ := results_ok R'.frame R'.store hx q
      exact ⟨R'.defers, v, r1, v, r, st', rfl, r2, R'.store, T, s, r3⟩
    · cases q
  cases ex with
  | normal => exact fin q
  | ret => exact fin q
  | _ => exact q.elim

/-- Told with less: values that say less, a smaller store. -/
def Weak (st : Store) (r : AV) (st' : Store) (r' : AV) : Prop := ∀ (h : Heap) (v : Value), SRel h st → VRel h st r v → VRel h st' r' v
def WeakS (st st' : Store) : Prop := ∀ (h : Heap), SRel h st → SRel h st' ∧ StepH h st h st'

theorem ACalls.weak {P : Program} {g : FuncId} {args : List AV} {st : Store} {Q Q' : AV → Store → Prop} (x : ACalls P g args st Q) (h : ∀ r st', Q r st' → ∃ r2 st2, WeakS st' st2 ∧ Weak st' r st2 r2 ∧ Q' r2 st2) : ACalls P g args st Q' :=
  ⟨x.1, fun w vs S V => (x.2 w vs S V).mono fun _ _ ⟨v, r, st', e, a, b, c, d, q⟩ =>
    let ⟨r2, st2, h1, h2, h3⟩ := h r st' q
    ⟨v, r2, st2, e, h2 _ v b a, (h1 _ b).1, c.trans (h1 _ b).2, d, h3⟩⟩

/-- Called with values that say more. -/
theorem ACalls.args {P : Program} {g : FuncId} {args args' : List AV} {st : Store} {Q : AV → Store → Prop} (x : ACalls P g args' st Q) (h : ∀ (hp : Heap) (vs : List Value), SRel hp st → VRelL hp st args vs → VRelL hp st args' vs) : ACalls P g args st Q :=
  ⟨x.1, fun w vs S V => x.2 w vs S (h _ vs S V)⟩

/-! ### Weaker frames -/
def Less (φ : AF) (st : Store) (φ' : AF) (st' : Store) : Prop := ∀ (h : Heap) (tmps : Array Value), SRel h st → FRel h st tmps φ → SRel h st' ∧ StepH h st h st' ∧ FRel h st' tmps φ'

theorem ARun.less {P : Program} {N : Nat} {c : Code} {Q : Exit → AF → Store → Prop} {φ φ' : AF} {st st' : Store} (L : Less φ st φ' st') (x : ARun P N c Q φ' st') : ARun P N c Q φ st := fun a w R => by
  obtain ⟨h1, h2, h3⟩ := L w.heap a.tmps R.store R.frame
  exact wp_mono (x a w ⟨R.size, R.defers, h3, h1⟩) fun _ _ _ y => y.mono h2 (Same.refl _)

theorem Less.refl (φ : AF) (st : Store) : Less φ st φ st := fun _ _ S F => ⟨S, StepH.refl _ _, F⟩
theorem Less.trans {φ φ' φ'' : AF} {st st' st'' : Store} (x : Less φ st φ' st') (y : Less φ' st' φ'' st'') : Less φ st φ'' st'' := fun h t S F =>
  let ⟨a, b, c⟩ := x h t S F
  let ⟨a', b', c'⟩ := y h t a c
  ⟨a', b.trans b', c'⟩
theorem Less.bot (φ : AF) (st : Store) : Less φ st AF.bot st := fun _ _ S _ => ⟨S, StepH.refl _ _, fun _ => trivial⟩
/-- The frame on the right knows one slot more. -/
theorem Less.upd {φ φ' : AF} {st : Store} (x : Less φ st φ' st) {d : Nat} {v : AV} (e : φ d = v) : Less φ st (φ'.upd d v) st := fun h t S F => by
  obtain ⟨a, b, c⟩ := x h t S F
  refine ⟨a, b, fun y => ?_⟩
  simp only [AF.upd]
  split
  · rename_i hy; subst hy; rw [← e]; exact F y
  · exact c y
theorem Less.updW {φ φ' : AF} {st : Store} (x : Less φ st φ' st) {d : Nat} {v : AV} (e : Weak st (φ d) st v) : Less φ st (φ'.upd d v) st := fun h t S F => by
  obtain ⟨a, b, c⟩ := x h t S F
  refine ⟨a, b, fun y => ?_⟩
  simp only [AF.upd]
  split
  · rename_i hy; subst hy; exact e h _ S (F y)
  · exact c y

/-! ### Loops -/
/-- What a round is to come to. -/
def loopQ (k : AF → Store → Prop) (Q : Exit → AF → Store → Prop) : Exit → AF → Store → Prop
  | .normal, φ, st => k φ st
  | e, φ, st => Q e φ st

theorem arun_loop {P : Program} {N : Nat} {c : Code} {Q : Exit → AF → Store → Prop} {φ : AF} {st : Store} {α : Type} (inv : α → Prop) (fr : α → AF) (so : α → Store) (μ : α → Nat)
    (h0 : ∃ s, inv s ∧ Less φ st (fr s) (so s))
    (h1 : ∀ s, inv s → ARun P N c (loopQ (fun φ' st' => ∃ s', μ s' < μ s ∧ inv s' ∧ Less φ' st' (fr s') (so s')) Q) (fr s) (so s)) : ARun P N (.loop c) Q φ st := by
  have key : ∀ n s, μ s = n → inv s → ∀ a w, Rel N a w (fr s) (so s) → ∀ b k cs,
      ∃ e a' w', Lift N w (so s) Q e a' w' ∧ Arrives P (lone (b.at a (.code c :: .inLoop c :: k)) cs w) b k cs e a' w' := by
    intro n
    induction n using Nat.strongRecOn with
    | _ n ih =>
      intro s hn hI a w R b k cs
      obtain ⟨e, a₁, w₁, hq, harr⟩ := h1 s hI a w R b (.inLoop c :: k) cs
      obtain ⟨φ', st', R', T, sm, q⟩ := hq
      cases e with
      | normal =>
        obtain ⟨s', hlt, hI', L⟩ := q
        obtain ⟨l1, l2, l3⟩ := L w₁.heap a₁.tmps R'.store R'.frame
        obtain ⟨e₂, a₂, w₂, hq₂, harr₂⟩ := ih (μ s') (hn ▸ hlt) s' rfl hI' a₁ w₁ ⟨R'.size, R'.defers, l3, l1⟩ b k cs
        exact ⟨e₂, a₂, w₂, hq₂.mono (T.trans l2) sm, .of_steps (Steps.trans harr (.one step_inLoop)) harr₂⟩
      | exit id => exact ⟨_, a₁, w₁, ⟨φ', st', R', T, sm, q⟩, .pass (x := .inLoop c) rfl (fun _ _ => .inl (by simp)) harr⟩
      | goto l => exact ⟨_, a₁, w₁, ⟨φ', st', R', T, sm, q⟩, .pass (x := .inLoop c) rfl (fun _ _ => .inl (by simp)) harr⟩
      | ret => exact ⟨_, a₁, w₁, ⟨φ', st', R', T, sm, q⟩, .pass (x := .inLoop c) rfl (fun _ _ => .inl (by simp)) harr⟩
      | panic ch => exact ⟨_, a₁, w₁, ⟨φ', st', R', T, sm, q⟩, .pass (x := .inLoop c) rfl (fun _ _ => .inl (by simp)) harr⟩
      | outgrown => exact ⟨_, a₁, w₁, ⟨φ', st', R', T, sm, q⟩, .pass (x := .inLoop c) rfl (fun _ _ => .inl (by simp)) harr⟩
  obtain ⟨s, hI, L⟩ := h0
  refine ARun.less L fun a w R b k cs => ?_
  obtain ⟨e, a', w', hq, harr⟩ := key _ s rfl hI a w R b k cs
  exact ⟨e, a', w', hq, .of_steps (.one step_loop) harr⟩

end Go.AW
