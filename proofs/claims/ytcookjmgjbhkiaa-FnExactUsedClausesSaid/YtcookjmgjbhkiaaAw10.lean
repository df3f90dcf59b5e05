/- Lists of operations, regions, code. -/
import Derived.Test.YtcookjmgjbhkiaaAw9
import Derived.StillTail
namespace Go.AW

def isMut (mt : List Nat) : Option Tmp → Bool
  | some d => mt.contains d
  | none => false

/-- One operation, with the owned store. 'mt': the boxes that are owned. -/
def aStep (P : Program) (mt : List Nat) (φ : AF) (st : Store) (o : Oper) (K : AV → Store → Prop) : Prop :=
  match o.op with
  | .call { callee := .value f, args, .. } => match φ.eval f with
    | .func g caps => ACalls P g (args.toList.map φ.eval ++ caps) st K
    | _ => False
  | .call { callee := .builtin .append, args, argTypes } => match args.toList, argTypes.toList with
    | [s, x], [t, t'] => t = t' ∧ aAppend P t st (φ.eval s) (φ.eval x) K
    | _, _ => False
  | .box t x => if isMut mt o.dst = true then
      (φ.eval x).isJunk = false ∧ ∀ b, st b = none → K (.ptr b 0) (st.upd b (.cells (φ.eval x).cells))
    else match aBox P t (φ.eval x) with | some r => K r st | none => False
  | .alloc t => match zI P t with
    | some zs => ∀ b, st b = none → K (.ptr b 0) (st.upd b (.cells zs))
    | none => False
  | .store t p x => match φ.eval p with
    | .ptr b q => match st b, tI P t with
      | some (.cells cs), some (_, sz) => (φ.eval x).cells.length = sz ∧ q + sz ≤ cs.length ∧ (φ.eval x).cells.all AV.storable = true ∧ K .undef (st.upd b (.cells (setCells cs q (φ.eval x).cells)))
      | _, _ => False
    | _ => False
  | .makeMap _ none => ∀ b, st b = none → K (.map b) (st.upd b (.map fun _ => none))
  | .makeSlice t n c => aMakeSlice P t st (φ.eval n) (φ.eval c) K
  | .mapUpdate t m k x => aMapUpdate P t st (φ.eval m) (φ.eval k) (φ.eval x) K
  | _ => match aVal P φ st o with | some r => K r st | none => False

/-- The operation has been done: a plain value. -/
theorem Took.of_yld {st : Store} {w : World} {r : AV} {x : Result Next} {K : AV → Store → Prop} (y : Yld st w r x) (S : SRel w.heap st) (k : K r st) : ∃ v w', x = .ok (.value v) w' ∧ Took st w K v w' := by
  obtain ⟨v, w', e, hv, E, hS⟩ := y
  exact ⟨v, w', e, r, st, hv, S.ext E, E.step st, hS, k⟩

theorem callFunc_run {P : Program} {g : FuncId} (h : Enters P g) (args : Array Value) (w : World) : (callFunc g args).run P w = .ok (.enter g args) w := by
  obtain ⟨fn, h1, h2, h3⟩ := h
  have hb : fn.body.isNone = false := by cases hb : fn.body <;> simp_all
  simp only [callFunc, Sem.run_bind, run_program, Result.andThen_ok, h1, h3, hb, Bool.false_eq_true, if_false, Sem.run_pure]

theorem aStep_ok {P : Program} {mt : List Nat} {st : Store} {w : World} {a : Act} {φ : AF} {o : Oper} {K : AV → Store → Prop} {next : Act → World → Prop} {Q : Exit → Act → World → Prop} (F : FRel w.heap st a.tmps φ) (S : SRel w.heap st)
    (e : aStep P mt φ st o K) (hn : ∀ v w', Took st w K v w' → next (a.put o.dst v) w') : o.wp P a w next Q := by
  have val : (∃ v w', (execOp a.eval o).run P w = .ok (.value v) w' ∧ Took st w K v w') → o.wp P a w next Q := by
    rintro ⟨v, w', h1, h2⟩
    simp only [Oper.wp, h1, Oper.upon]
    exact hn v w' h2
  have skp : (∃ w', (execOp a.eval o).run P w = .ok .skip w' ∧ Took st w K Go.undef w') → o.wp P a w next Q := by
    rintro ⟨w', h1, h2⟩
    simp only [Oper.wp, h1, Oper.upon]
    exact hn _ w' h2
  unfold aStep at e
  split at e
  case h_1 f args ats ho =>
    split at e
    case h_2 => cases e
    rename_i g caps hf
    have yf := VRel.eval F f
    rw [hf] at yf
    obtain ⟨cvs, hv, hc⟩ := yf.func_of
    obtain ⟨hE, hcall⟩ := e
    have hargs := (VRelL.eval F args.toList).append (VRelL.of_VTs hc)
    have hrun : (execOp a.eval o).run P w = .ok (.enter g (args.toList.map a.eval ++ cvs).toArray) w := by
      have : #[] ++ Array.map a.eval args ++ cvs.toArray = (args.toList.map a.eval ++ cvs).toArray := by apply Array.ext'; simp
      simp only [execOp, ho, resolve, hv, Deferred.ofValue, Sem.run_bind, Sem.run_pure, Result.andThen_ok, invoke, this, callFunc_run hE]
    simp only [Oper.wp, hrun, Oper.upon]
    refine (hcall w _ S hargs).mono ?_
    rintro e' w' ⟨v, r, st', rfl, x1, x2, x3, x4, x5⟩
    exact hn v w' ⟨r, st', x1, x2, x3, x4, x5⟩
  case h_2 args ats ho =>
    split at e
    case h_2 => cases e
    rename_i s x t t' hx ht
    obtain ⟨rfl, e⟩ := e
    obtain rfl : args = #[s, x] := by rw [← Array.toArray_toList (xs := args), hx]
    obtain rfl : ats = #[t, t] := by rw [← Array.toArray_toList (xs := ats), ht]
    exact val (append_took ho F S e)
  case h_3 t x ho =>
    split at e
    · obtain ⟨hj, hK⟩ := e
      have y := VRel.eval F x
      exact val ⟨_, _, by simp [execOp, ho, Instr.box, newVar, newRow], newVar_took (t := t) S (y.cells (by rintro h; rw [h] at hj; simp [AV.isJunk] at hj)) hK⟩
    · split at e
      · rename_i r hr; exact val (Took.of_yld (box_ok ho F S hr) S e)
      · cases e
  case h_4 t ho =>
    split at e
    case h_2 => cases e
    rename_i zs hz
    obtain ⟨z, z1, z2⟩ := zI_run (P := P) hz w.heap st w
    exact val ⟨_, _, by simp [execOp, ho, Instr.alloc, newVar, newRow, z1], newVar_took (t := t) S z2 e⟩
  case h_5 t p x ho =>
    split at e
    case h_2 => cases e
    rename_i b q hp
    split at e
    case h_2 => cases e
    rename_i cs ag sz hs hT
    obtain ⟨e1, e2, e3, hK⟩ := e
    have yp := VRel.eval F p
    rw [hp] at yp
    obtain ⟨w', r1, r2, r3, r4⟩ := store_took S hT hs (VRel.eval F x) e1 e2 e3
    exact skp ⟨w', by simp [execOp, ho, yp.ptr_of, r1], .undef, _, ⟨rfl, rfl⟩, r2, r3, r4, hK⟩
  case h_6 t ho => exact val (makeMap_took ho S e)
  case h_7 t n c ho => exact val (makeSlice_took ho F S e)
  case h_8 t m k x ho => exact skp (mapUpdate_took ho F S e)
  case h_9 =>
    split at e
    · rename_i r hr; exact val (Took.of_yld (aVal_ok F S hr) S e)
    · cases e

/-- Is the operation wanted, as far as the frame tells. -/
def aGuard (ops : Array Oper) (φ : AF) (o : Oper) : Option Bool :=
  match o.guard with
  | none => some true
  | some (j, want) => match (ops[j]?).bind (·.dst) with
    | none => some false
    | some d => match φ d with
      | .bool b => some (b == want)
      | .undef => some false
      | _ => none

structure Rel (N : Nat) (a : Act) (w : World) (φ : AF) (st : Store) : Prop where
  size : a.tmps.size = N
  defers : a.defers = []
  frame : FRel w.heap st a.tmps φ
  store : SRel w.heap st

theorem aGuard_ok {N : Nat} {a : Act} {w : World} {φ : AF} {st : Store} {ops : Array Oper} {o : Oper} {b : Bool} (R : Rel N a w φ st) (hN : ∀ (j d : Nat), (ops[j]?).bind (·.dst) = some d → d < N) (e : aGuard ops φ o = some b) : Region.wanted o (yielded ops a.tmps) = b := by
  unfold aGuard at e
  unfold Region.wanted
  split at e
  · rename_i hg; rw [hg]; exact Option.some.inj e
  · rename_i j want hg
    rw [hg]
    simp only
    split at e
    · rename_i hd
      cases e
      simp [yielded, hd]
    · rename_i d hd
      have hdn : d < a.tmps.size := by rw [R.size]; exact hN j d hd
      have y := R.frame d
      split at e
      · rename_i c hc
        rw [hc] at y
        have := y.bool_of
        simp [hdn] at this
        cases e
        simp [yielded, hd, hdn, this]
      · rename_i hc
        rw [hc] at y
        have := y.undef_of
        simp [hdn] at this
        cases e
        simp [yielded, hd, hdn, this, Go.undef]
      · cases e

def dstOk (N : Nat) (o : Oper) : Bool := match o.dst with | some d => decide (d < N) | none => true

theorem Rel.put {N : Nat} {a : Act} {w w' : World} {φ : AF} {st st' : Store} {o : Oper} {r : AV} {v : Value} (R : Rel N a w φ st) (hd : dstOk N o = true) (T : StepH w.heap st w'.heap st') (S : SRel w'.heap st') (y : VRel w'.heap st' r v) :
    Rel N (a.put o.dst v) w' (φ.put o.dst r) st' := by
  unfold dstOk at hd
  cases ho : o.dst with
  | none => exact ⟨R.size, R.defers, R.frame.mono T, S⟩
  | some d =>
    rw [ho] at hd
    have hlt : d < a.tmps.size := by rw [R.size]; simpa using hd
    exact ⟨by simp [Act.put, R.size], R.defers, FRel.set (R.frame.mono T) hlt y, S⟩

/-- Operation after operation. -/
def aOps (P : Program) (mt : List Nat) (ops : Array Oper) : List Oper → (AF → Store → Prop) → AF → Store → Prop
  | [], K, φ, st => K φ st
  | o :: rest, K, φ, st => match aGuard ops φ o with
    | some true => aStep P mt φ st o (fun r st' => aOps P mt ops rest K (φ.put o.dst r) st')
    | some false => aOps P mt ops rest K (φ.put o.dst .undef) st
    | none => False

/-- The concrete form of what is to hold at an exit. -/
def Lift (N : Nat) (w : World) (st : Store) (Q : Exit → AF → Store → Prop) : Exit → Act → World → Prop :=
  fun e a' w' => ∃ φ' st', Rel N a' w' φ' st' ∧ StepH w.heap st w'.heap st' ∧ Same w w' ∧ Q e φ' st'

theorem aOps_ok {P : Program} {mt : List Nat} {ops : Array Oper} {N : Nat} (hN : ∀ (j d : Nat), (ops[j]?).bind (·.dst) = some d → d < N) {Q : Exit → Act → World → Prop} :
    ∀ (l : List Oper) (K : AF → Store → Prop) (φ : AF) (st : Store) (a : Act) (w : World), (∀ o ∈ l, dstOk N o = true) → Rel N a w φ st → aOps P mt ops l K φ st →
      (∀ a' w' φ' st', Rel N a' w' φ' st' → StepH w.heap st w'.heap st' → Same w w' → K φ' st' → Q .normal a' w') → wpList P ops Q l a w
  | [], K, φ, st, a, w, _, R, e, h => h a w φ st R (StepH.refl _ _) (Same.refl _) e
  | o :: l, K, φ, st, a, w, hd, R, e, h => by
    have hdo := hd o (by simp)
    unfold aOps at e
    split at e
    · rename_i hg
      have hw := aGuard_ok R hN hg
      unfold wpList
      rw [if_pos hw]
      refine .inl (aStep_ok R.frame R.store e fun v w' ⟨r, st', x1, x2, x3, x4, x5⟩ => ?_)
      exact aOps_ok hN l K _ st' _ w' (fun o ho => hd o (by simp [ho])) (R.put hdo x3 x2 x1) x5
        fun a2 w2 φ2 st2 R2 T2 s2 k2 => h a2 w2 φ2 st2 R2 (x3.trans T2) (x4.trans s2) k2
    · rename_i hg
      have hw := aGuard_ok R hN hg
      unfold wpList
      rw [if_neg (by rw [hw]; simp)]
      exact aOps_ok hN l K _ st _ w (fun o ho => hd o (by simp [ho])) (R.put (r := .undef) hdo (StepH.refl _ _) R.store ⟨rfl, rfl⟩) e h
    · cases e

/-! ### Code -/
/-- What a draw, or a loop, or anything else asks of the machine. -/
def ARun (P : Program) (N : Nat) (c : Code) (Q : Exit → AF → Store → Prop) (φ : AF) (st : Store) : Prop :=
  ∀ a w, Rel N a w φ st → c.wp P (Lift N w st Q) a w

def thenQ (k : AF → Store → Prop) (Q : Exit → AF → Store → Prop) : Exit → AF → Store → Prop
  | .normal, φ, st => k φ st
  | e, φ, st => Q e φ st
def blockQ (id : Nat) (Q : Exit → AF → Store → Prop) : Exit → AF → Store → Prop
  | .exit i, φ, st => if i = id then Q .normal φ st else Q (.exit i) φ st
  | e, φ, st => Q e φ st

/-- Two ways. -/
def aCond (c : AV) (k₁ k₂ : AF → Store → Prop) (φ : AF) (st : Store) : Prop :=
  match c with
  | .bool b => (b = true → k₁ φ st) ∧ (b = false → k₂ φ st)
  | _ => False

def aCode (P : Program) (N : Nat) (mt : List Nat) : Code → (Exit → AF → Store → Prop) → AF → Store → Prop
  | .skip, Q, φ, st => Q .normal φ st
  | .region id ops draw, Q, φ, st => if draw then ARun P N (.region id ops true) Q φ st else aOps P mt ops ops.toList (Q .normal) φ st
  | .seq x y, Q, φ, st => aCode P N mt x (thenQ (aCode P N mt y Q) Q) φ st
  | .cond c x y, Q, φ, st => aCond (φ.eval c) (aCode P N mt x Q) (aCode P N mt y Q) φ st
  | .block id x, Q, φ, st => aCode P N mt x (blockQ id Q) φ st
  | .loop x, Q, φ, st => ARun P N (.loop x) Q φ st
  | .exit id, Q, φ, st => Q (.exit id) φ st
  | .ret, Q, φ, st => Q .ret φ st
  | c, Q, φ, st => ARun P N c Q φ st

def opsOk (N : Nat) (ops : Array Oper) : Bool := ops.all (dstOk N)
def codeOk (N : Nat) : Code → Bool
  | .region _ ops _ => opsOk N ops
  | .seq x y => codeOk N x && codeOk N y
  | .cond _ x y => codeOk N x && codeOk N y
  | .block _ x => codeOk N x
  | .loop x => codeOk N x
  | _ => true

theorem opsOk_dst {N : Nat} {ops : Array Oper} (h : opsOk N ops = true) : ∀ o ∈ ops.toList, dstOk N o = true := by
  intro o ho
  exact Array.all_eq_true_iff_forall_mem.1 h o (Array.mem_toList_iff.1 ho)

theorem opsOk_at {N : Nat} {ops : Array Oper} (h : opsOk N ops = true) : ∀ (j d : Nat), (ops[j]?).bind (·.dst) = some d → d < N := by
  intro j d e
  cases hj : ops[j]? with
  | none => rw [hj] at e; cases e
  | some o =>
    rw [hj] at e
    have := opsOk_dst h o (Array.mem_toList_iff.2 (Array.mem_of_getElem? hj))
    unfold dstOk at this
    simp only [Option.bind_some] at e
    rw [e] at this
    simpa using this

theorem Lift.mono {N : Nat} {w w' : World} {st st' : Store} {Q : Exit → AF → Store → Prop} (T : StepH w.heap st w'.heap st') (s : Same w w') {e : Exit} {a : Act} {w2 : World} (x : Lift N w' st' Q e a w2) : Lift N w st Q e a w2 := by
  obtain ⟨φ', st2, R, T2, s2, q⟩ := x
  exact ⟨φ', st2, R, T.trans T2, s.trans s2, q⟩

theorem aCode_ok {P : Program} {N : Nat} {mt : List Nat} : ∀ (c : Code) (Q : Exit → AF → Store → Prop) (φ : AF) (st : Store), codeOk N c = true → aCode P N mt c Q φ st → ARun P N c Q φ st
  | .skip, Q, φ, st, _, e => fun a w R => wp_skip ⟨φ, st, R, StepH.refl _ _, Same.refl _, e⟩
  | .region id ops draw, Q, φ, st, hc, e => fun a w R => by
    simp only [aCode] at e
    cases draw with
    | true => exact e a w R
    | false =>
      simp only [Bool.false_eq_true, if_false] at e
      exact wp_region_list (aOps_ok (opsOk_at hc) ops.toList _ φ st a w (opsOk_dst hc) R e fun a' w' φ' st' R' T s k => ⟨φ', st', R', T, s, k⟩)
  | .seq x y, Q, φ, st, hc, e => fun a w R => by
    simp only [codeOk, Bool.and_eq_true] at hc
    refine wp_seq (wp_mono (aCode_ok x _ φ st hc.1 e a w R) ?_)
    rintro ex a' w' ⟨φ', st', R', T, s, q⟩
    cases ex with
    | normal => exact wp_mono (aCode_ok y Q φ' st' hc.2 q a' w' R') fun _ _ _ h => h.mono T s
    | _ => exact ⟨φ', st', R', T, s, q⟩
  | .cond c x y, Q, φ, st, hc, e => fun a w R => by
    simp only [codeOk, Bool.and_eq_true] at hc
    simp only [aCode, aCond] at e
    split at e
    case h_2 => cases e
    rename_i b hb
    have yc := VRel.eval R.frame c
    rw [hb] at yc
    refine wp_cond_split yc.bool_of (fun h => ?_) (fun h => ?_)
    · exact aCode_ok x Q φ st hc.1 (e.1 h) a w R
    · exact aCode_ok y Q φ st hc.2 (e.2 h) a w R
  | .block id x, Q, φ, st, hc, e => fun a w R => by
    refine wp_block (wp_mono (aCode_ok x _ φ st hc e a w R) ?_)
    rintro ex a' w' ⟨φ', st', R', T, s, q⟩
    cases ex with
    | exit i =>
      simp only [Exit.inBlock, blockQ] at q ⊢
      split <;> rename_i h
      · rw [if_pos h] at q; exact ⟨φ', st', R', T, s, q⟩
      · rw [if_neg h] at q; exact ⟨φ', st', R', T, s, q⟩
    | _ => exact ⟨φ', st', R', T, s, q⟩
  | .loop x, Q, φ, st, _, e => e
  | .exit id, Q, φ, st, _, e => fun a w R => wp_exit ⟨φ, st, R, StepH.refl _ _, Same.refl _, e⟩
  | .ret, Q, φ, st, _, e => fun a w R => wp_ret ⟨φ, st, R, StepH.refl _ _, Same.refl _, e⟩
  | .rangeFunc .., Q, φ, st, _, e => e
  | .scope _, Q, φ, st, _, e => e
  | .label _, Q, φ, st, _, e => e
  | .goto _, Q, φ, st, _, e => e
  | .refuse _, Q, φ, st, _, e => e

end Go.AW
