/- The rules by which the code is evaluated: equations for simp. -/
import Derived.Test.YtaifeijnedoboaaCbFinb
namespace Go.AW

section
variable {P : Program} {N : Nat} {mt : List Nat} {Q : Exit → AF → Store → Prop} {φ : AF} {st : Store} {x y : Code} {ops : Array Oper} {id : Nat}

/-- A region's operations, one by one; with a variable's making and its only writing in one step, if asked for. -/
def regK (P : Program) (mt : List Nat) (l : List Oper) (Q : Exit → AF → Store → Prop) (φ : AF) (st : Store) : Bool → Prop
  | true => aOpsZ P mt l.toArray l (Q .normal) φ st
  | false => aOps P mt l.toArray l (Q .normal) φ st
/-- The return, by the list of the result variables. -/
def retL (P : Program) (rs : List ResultVar) (K : AV → Store → Prop) (φ : AF) (st : Store) : Prop :=
  match aResults P φ st rs with
  | some xs => tupOf K st xs
  | none => False
/-- A result in memory. -/
def onSome (k : AV → Prop) : Option AV → Prop
  | some r => k r
  | none => False
/-! ### Operations -/
/-- What comes behind an operation that yields a value. -/
def opsK (P : Program) (mt : List Nat) (ops : Array Oper) (rest : List Oper) (K : AF → Store → Prop) (φ : AF) (dst : Option Tmp) (st : Store) : Option AV → Prop
  | some r => aOps P mt ops rest K (φ.put dst r) st
  | none => False
/-- What comes behind a call. -/
def opsC (P : Program) (mt : List Nat) (ops : Array Oper) (rest : List Oper) (K : AF → Store → Prop) (φ : AF) (dst : Option Tmp) (r : AV) (st : Store) : Prop := aOps P mt ops rest K (φ.put dst r) st
/-- An operation under a guard. -/
def opsG (P : Program) (mt : List Nat) (ops : Array Oper) (o : Oper) (rest : List Oper) (K : AF → Store → Prop) (φ : AF) (st : Store) : Option Bool → Prop
  | some true => aOps P mt ops ({ o with guard := none } :: rest) K φ st
  | some false => aOps P mt ops rest K (φ.put o.dst .undef) st
  | none => False

def gd (ops : Array Oper) (φ : AF) (j : Nat) (want : Bool) : Option Bool :=
  match (ops[j]?).bind (·.dst) with
  | none => some false
  | some d => match φ d with
    | .bool b => some (b == want)
    | .undef => some false
    | _ => none

section
variable {rest : List Oper} {K : AF → Store → Prop} {dst : Option Tmp} {type : TypeId} {pos : String} {after : Array Edge}
def aPick : AV → AV → AV → Option AV
  | .bool b, x, y => some (if b then x else y)
  | _, _, _ => none
def aNil : AV → Option AV
  | .ptr b q => some (.ptr b q)
  | .pptr e => some (.pptr e)
  | _ => none
def aFld (P : Program) (t f : Nat) (x : AV) : Option AV := match fI P t f, x with | some (off, ag, sz), .agg cs => sub ag cs off sz | _, _ => none
def aExt (x : AV) (i : Nat) : Option AV := match x with | .tup vs => vs[i]? | _ => none
def aFn (g : FuncId) (cs : List AV) : Option AV := if noJunk cs = true then some (.func g cs) else none
def callV (P : Program) (f : AV) (args : List AV) (st : Store) (K : AV → Store → Prop) : Prop := match f with | .func g caps => ACalls P g (args ++ caps) st K | _ => False
def boxK (P : Program) (m : Bool) (t : TypeId) (x : AV) (st : Store) (K : AV → Store → Prop) (k : Option AV → Prop) : Prop :=
  if m = true then x.isJunk = false ∧ ∀ b, st b = none → K (.ptr b 0) (st.upd b (.cells x.cells)) else k (aBox P t x)
def allocK (zs : Option (List AV)) (st : Store) (K : AV → Store → Prop) : Prop := match zs with | some zs => ∀ b, st b = none → K (.ptr b 0) (st.upd b (.cells zs)) | none => False
def storeK (P : Program) (t : TypeId) (p x : AV) (st : Store) (K : AV → Store → Prop) : Prop :=
  match p with
  | .ptr b q => match st b, tI P t with
    | some (.cells cs), some (_, sz) => x.cells.length = sz ∧ q + sz ≤ cs.length ∧ x.cells.all AV.storable = true ∧ K .undef (st.upd b (.cells (setCells cs q x.cells)))
    | _, _ => False
  | _ => False

/-! ### Values -/
end
end

/-! ### Where simp need not look -/
@[congr] theorem cg_aCode {P : Program} {N : Nat} {mt : List Nat} {c : Code} {Q : Exit → AF → Store → Prop} {φ φ' : AF} {st st' : Store} (h1 : φ = φ') (h2 : st = st') : aCode P N mt c Q φ st = aCode P N mt c Q φ' st' := by rw [h1, h2]
@[congr] theorem cg_aOps {P : Program} {mt : List Nat} {ops : Array Oper} {l : List Oper} {K : AF → Store → Prop} {φ φ' : AF} {st st' : Store} (h1 : φ = φ') (h2 : st = st') : aOps P mt ops l K φ st = aOps P mt ops l K φ' st' := by rw [h1, h2]
@[congr] theorem cg_opsK {P : Program} {mt : List Nat} {ops : Array Oper} {l : List Oper} {K : AF → Store → Prop} {φ : AF} {st : Store} {dst : Option Tmp} {x x' : Option AV} (h1 : x = x') : opsK P mt ops l K φ dst st x = opsK P mt ops l K φ dst st x' := by rw [h1]
@[congr] theorem cg_opsG {P : Program} {mt : List Nat} {ops : Array Oper} {o : Oper} {l : List Oper} {K : AF → Store → Prop} {φ : AF} {st : Store} {x x' : Option Bool} (h1 : x = x') : opsG P mt ops o l K φ st x = opsG P mt ops o l K φ st x' := by rw [h1]
@[congr] theorem cg_opsC {P : Program} {mt : List Nat} {ops : Array Oper} {l : List Oper} {K : AF → Store → Prop} {φ : AF} {dst : Option Tmp} {r r' : AV} {st st' : Store} (h1 : r = r') (h2 : st = st') : opsC P mt ops l K φ dst r st = opsC P mt ops l K φ dst r' st' := by rw [h1, h2]
@[congr] theorem cg_thenQ {k : AF → Store → Prop} {Q : Exit → AF → Store → Prop} {e : Exit} {φ : AF} {st : Store} : thenQ k Q e φ st = thenQ k Q e φ st := rfl
@[congr] theorem cg_blockQ {id : Nat} {Q : Exit → AF → Store → Prop} {e : Exit} {φ : AF} {st : Store} : blockQ id Q e φ st = blockQ id Q e φ st := rfl
@[congr] theorem cg_loopQ {k : AF → Store → Prop} {Q : Exit → AF → Store → Prop} {e : Exit} {φ : AF} {st : Store} : loopQ k Q e φ st = loopQ k Q e φ st := rfl
@[congr] theorem cg_retQ {P : Program} {rs : Array ResultVar} {K : AV → Store → Prop} {e : Exit} {φ : AF} {st : Store} : retQ P rs K e φ st = retQ P rs K e φ st := rfl
@[congr] theorem cg_retL {P : Program} {rs rs' : List ResultVar} {K : AV → Store → Prop} {φ : AF} {st : Store} (h1 : rs = rs') : retL P rs K φ st = retL P rs' K φ st := by rw [h1]
@[congr] theorem cg_aCond {c c' : AV} {k₁ k₂ : AF → Store → Prop} {φ : AF} {st : Store} (h1 : c = c') : aCond c k₁ k₂ φ st = aCond c' k₁ k₂ φ st := by rw [h1]
@[congr] theorem cg_ARun {P : Program} {N : Nat} {c : Code} {Q : Exit → AF → Store → Prop} {φ φ' : AF} {st st' : Store} (h1 : φ = φ') (h2 : st = st') : ARun P N c Q φ st = ARun P N c Q φ' st' := by rw [h1, h2]
@[congr] theorem cg_ACalls {P : Program} {g : FuncId} {args args' : List AV} {st st' : Store} {K : AV → Store → Prop} (h1 : args = args') (h2 : st = st') : ACalls P g args st K = ACalls P g args' st' K := by rw [h1, h2]
@[congr] theorem cg_callV {P : Program} {f f' : AV} {args args' : List AV} {st st' : Store} {K : AV → Store → Prop} (h0 : f = f') (h1 : args = args') (h2 : st = st') : callV P f args st K = callV P f' args' st' K := by rw [h0, h1, h2]
@[congr] theorem cg_boxK {P : Program} {m m' : Bool} {t : TypeId} {x x' : AV} {st st' : Store} {K : AV → Store → Prop} {k : Option AV → Prop} (h0 : m = m') (h1 : x = x') (h2 : st = st') : boxK P m t x st K k = boxK P m' t x' st' K k := by rw [h0, h1, h2]
@[congr] theorem cg_allocK {zs zs' : Option (List AV)} {st st' : Store} {K : AV → Store → Prop} (h1 : zs = zs') (h2 : st = st') : allocK zs st K = allocK zs' st' K := by rw [h1, h2]
@[congr] theorem cg_storeK {P : Program} {t : TypeId} {p p' x x' : AV} {st st' : Store} {K : AV → Store → Prop} (h0 : p = p') (h1 : x = x') (h2 : st = st') : storeK P t p x st K = storeK P t p' x' st' K := by rw [h0, h1, h2]
@[congr] theorem cg_aAppend {P : Program} {t : TypeId} {s s' x x' : AV} {st st' : Store} {K : AV → Store → Prop} (h0 : s = s') (h1 : x = x') (h2 : st = st') : aAppend P t st s x K = aAppend P t st' s' x' K := by rw [h0, h1, h2]
@[congr] theorem cg_aMakeSlice {P : Program} {t : TypeId} {s s' x x' : AV} {st st' : Store} {K : AV → Store → Prop} (h0 : s = s') (h1 : x = x') (h2 : st = st') : aMakeSlice P t st s x K = aMakeSlice P t st' s' x' K := by rw [h0, h1, h2]
@[congr] theorem cg_aMapUpdate {P : Program} {t : TypeId} {m m' s s' x x' : AV} {st st' : Store} {K : AV → Store → Prop} (h : m = m') (h0 : s = s') (h1 : x = x') (h2 : st = st') : aMapUpdate P t st m s x K = aMapUpdate P t st' m' s' x' K := by rw [h, h0, h1, h2]
@[congr] theorem cg_aHead {P : Program} {st st' : Store} {ops : Array Oper} {l : List Oper} {K : AF → Prop} {φ φ' : AF} (h1 : φ = φ') (h2 : st = st') : aHead P st ops l K φ = aHead P st' ops l K φ' := by rw [h1, h2]

/-! ### A variable's making and its only writing in one step -/
def isAllocOp : Op → Bool
  | .alloc _ => true
  | _ => false
def isStoreOp : Op → Bool
  | .store _ _ _ => true
  | _ => false
def zK (P : Program) (mt : List Nat) (ops : Array Oper) (rest : List Oper) (K : AF → Store → Prop) (φ : AF) (st : Store) : Prop := aOpsZ P mt ops rest K φ st
def zF (P : Program) (mt : List Nat) (ops : Array Oper) (rest : List Oper) (K : AF → Store → Prop) (φ : AF) (d : Nat) (st : Store) (r : AV) : Prop := aOpsZ P mt ops rest K (φ.upd d r) st
def fuseG (x : AV) (K : AV → Prop) : Option (List AV) → Option (Bool × Nat) → Prop
  | some zs, some (_, sz) => zs.length = sz ∧ x.width = sz ∧ x.cells.all AV.storable = true ∧ x.isJunk = false ∧ K (.pptr x)
  | _, _ => False
def zM (P : Program) (mt : List Nat) (ops : Array Oper) (o : Oper) (s : Oper) (rest : List Oper) (K : AF → Store → Prop) (φ : AF) (st : Store) (d : Nat) (t : TypeId) (x : AV) : Bool → Prop
  | true => aOps P mt ops [o] (zK P mt ops (s :: rest) K) φ st
  | false => fuseG x (zF P mt ops rest K φ d st) (zI P t) (tI P t)
section
variable {P : Program} {mt : List Nat} {ops : Array Oper} {rest : List Oper} {K : AF → Store → Prop} {φ : AF} {st : Store} {dst dst' : Option Tmp} {type type' : TypeId} {pos pos' : String} {after after' : Array Edge} {g g' : Option (Nat × Bool)} {op op' : Op}
def zM3 (P : Program) (mt : List Nat) (ops : Array Oper) (o : Oper) (os : List Oper) (rest : List Oper) (K : AF → Store → Prop) (φ φ' : AF) (st : Store) (d : Nat) (t : TypeId) (x : AV) : Bool → Prop
  | true => aOps P mt ops [o] (zK P mt ops (os ++ rest) K) φ st
  | false => fuseG x (zF P mt ops rest K φ' d st) (zI P t) (tI P t)
def isAssignOp : Op → Bool
  | .assign _ => true
  | _ => false
@[congr] theorem cg_zM3 {o : Oper} {os : List Oper} {φ' φ2 φ2' : AF} {st' : Store} {d : Nat} {t : TypeId} {x x' : AV} {b b' : Bool} (h1 : φ = φ') (h0 : φ2 = φ2') (h2 : st = st') (h3 : x = x') (h4 : b = b') : zM3 P mt ops o os rest K φ φ2 st d t x b = zM3 P mt ops o os rest K φ' φ2' st' d t x' b' := by rw [h1, h0, h2, h3, h4]
@[congr] theorem cg_aOpsZ {l : List Oper} {φ' : AF} {st' : Store} (h1 : φ = φ') (h2 : st = st') : aOpsZ P mt ops l K φ st = aOpsZ P mt ops l K φ' st' := by rw [h1, h2]
@[congr] theorem cg_zK {l : List Oper} {φ' : AF} {st' : Store} (h1 : φ = φ') (h2 : st = st') : zK P mt ops l K φ st = zK P mt ops l K φ' st' := by rw [h1, h2]
@[congr] theorem cg_zF {l : List Oper} {φ' : AF} {st' : Store} {d : Nat} {r r' : AV} (h1 : φ = φ') (h2 : st = st') (h3 : r = r') : zF P mt ops l K φ d st r = zF P mt ops l K φ' d st' r' := by rw [h1, h2, h3]
@[congr] theorem cg_fuseG {x x' : AV} {k : AV → Prop} {a a' : Option (List AV)} {b b' : Option (Bool × Nat)} (h0 : x = x') (h1 : a = a') (h2 : b = b') : fuseG x k a b = fuseG x' k a' b' := by rw [h0, h1, h2]
@[congr] theorem cg_zM {o s : Oper} {φ' : AF} {st' : Store} {d : Nat} {t : TypeId} {x x' : AV} {b b' : Bool} (h1 : φ = φ') (h2 : st = st') (h3 : x = x') (h4 : b = b') : zM P mt ops o s rest K φ st d t x b = zM P mt ops o s rest K φ' st' d t x' b' := by rw [h1, h2, h3, h4]
@[congr] theorem cg_regK {l : List Oper} {Q : Exit → AF → Store → Prop} {φ' : AF} {st' : Store} {b b' : Bool} (h1 : φ = φ') (h2 : st = st') (h3 : b = b') : regK P mt l Q φ st b = regK P mt l Q φ' st' b' := by rw [h1, h2, h3]
end
end Go.AW
