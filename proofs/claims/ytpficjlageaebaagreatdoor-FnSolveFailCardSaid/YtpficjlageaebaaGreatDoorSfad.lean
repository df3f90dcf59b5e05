/- The rules by which the code is evaluated: equations for simp. -/
import Derived.Test.YtpficjlageaebaaGreatDoorSfac
set_option linter.unusedSimpArgs false
set_option linter.unusedVariables false
set_option maxRecDepth 100000
namespace Go.AW
section
variable {P : Program} {N : Nat} {mt : List Nat} {Q : Exit → AF → aB → Prop} {φ : AF} {st : aB} {x y : Code} {ops : Array Oper} {id : Nat}
theorem ZP : fV P N mt .skip Q φ st = Q .normal φ st := rfl
theorem aIU : fV P N mt (.seq x y) Q φ st = fV P N mt x (EF (fV P N mt y Q) Q) φ st := rfl
def DW (P : Program) (mt : List Nat) (l : List Oper) (Q : Exit → AF → aB → Prop) (φ : AF) (st : aB) : Bool → Prop
 | true => fX P mt l.toArray l (Q .normal) φ st
 | false => bB P mt l.toArray l (Q .normal) φ st
theorem aLL {l : List Oper} : fV P N mt (.region id l.toArray false) Q φ st = DW P mt l Q φ st (mt.contains 1000000) := by
 simp only [fV, jD, dZ]
 cases mt.contains 1000000 <;> rfl
theorem aA5 {l : List Oper} : DW P mt l Q φ st true = fX P mt l.toArray l (Q .normal) φ st := rfl
theorem aGX {l : List Oper} : DW P mt l Q φ st false = bB P mt l.toArray l (Q .normal) φ st := rfl
theorem UU : fV P N mt (.region id ops true) Q φ st = gH P N (.region id ops true) Q φ st := by simp [fV]
theorem VJ {c : Operand} : fV P N mt (.cond c x y) Q φ st = uA (φ.eval c) (fV P N mt x Q) (fV P N mt y Q) φ st := rfl
theorem aE7 : fV P N mt (.block id x) Q φ st = fV P N mt x (CR id Q) φ st := rfl
theorem aJF : fV P N mt (.loop x) Q φ st = gH P N (.loop x) Q φ st := rfl
theorem aLD : fV P N mt (.exit id) Q φ st = Q (.exit id) φ st := rfl
theorem aH4 : fV P N mt .ret Q φ st = Q .ret φ st := rfl
theorem aG1 {k₁ k₂ : AF → aB → Prop} : uA (.bool true) k₁ k₂ φ st = k₁ φ st := by simp [uA]
theorem Y4 {k₁ k₂ : AF → aB → Prop} : uA (.bool false) k₁ k₂ φ st = k₂ φ st := by simp [uA]
theorem aG3 {k : AF → aB → Prop} : EF k Q .normal φ st = k φ st := rfl
theorem SF {k : AF → aB → Prop} : EF k Q (.exit id) φ st = Q (.exit id) φ st := rfl
theorem WH {k : AF → aB → Prop} : EF k Q .ret φ st = Q .ret φ st := rfl
theorem aBS : CR id Q .normal φ st = Q .normal φ st := rfl
theorem aKU {i : Nat} : CR id Q (.exit i) φ st = if i = id then Q .normal φ st else Q (.exit i) φ st := rfl
theorem aBG : CR id Q .ret φ st = Q .ret φ st := rfl
theorem aLN {k : AF → aB → Prop} : oP k Q .normal φ st = k φ st := rfl
theorem aHA {k : AF → aB → Prop} : oP k Q (.exit id) φ st = Q (.exit id) φ st := rfl
theorem aHZ {k : AF → aB → Prop} : oP k Q .ret φ st = Q .ret φ st := rfl
def mO (P : Program) (rs : List ResultVar) (K : AV → aB → Prop) (φ : AF) (st : aB) : Prop :=
 match pR P φ st rs with
 | some xs => DT K st xs
 | none => False
theorem aGM {rs : Array ResultVar} {K : AV → aB → Prop} : EN P rs K .ret φ st = mO P rs.toList K φ st := rfl
theorem aDK {rs : Array ResultVar} {K : AV → aB → Prop} : EN P rs K .normal φ st = mO P rs.toList K φ st := rfl
theorem aCV {t : Tmp} {K : AV → aB → Prop} : mO P [.tmp t] K φ st = K (φ t) st := rfl
theorem aKR {K : AV → aB → Prop} : mO P [] K φ st = K (.tup []) st := by simp [mO, pR, DT, kB]
theorem VP {t u : Tmp} {K : AV → aB → Prop} : mO P [.tmp t, .tmp u] K φ st = (kB [φ t, φ u] = true ∧ K (.tup [φ t, φ u]) st) := rfl
theorem YK {t u v : Tmp} {K : AV → aB → Prop} : mO P [.tmp t, .tmp u, .tmp v] K φ st = (kB [φ t, φ u, φ v] = true ∧ K (.tup [φ t, φ u, φ v]) st) := rfl
theorem aEW {t u v w : Tmp} {K : AV → aB → Prop} : mO P [.tmp t, .tmp u, .tmp v, .tmp w] K φ st = (kB [φ t, φ u, φ v, φ w] = true ∧ K (.tup [φ t, φ u, φ v, φ w]) st) := rfl
def IB (k : AV → Prop) : Option AV → Prop
 | some r => k r
 | none => False
theorem aIV {p : Tmp} {t : TypeId} {K : AV → aB → Prop} : mO P [.cell p t] K φ st = IB (fun r => K r st) (g7 P st t (φ p)) := by
 simp only [mO, pR, BO]
 cases g7 P st t (φ p) <;> rfl
theorem XE {p u : Tmp} {t : TypeId} {K : AV → aB → Prop} : mO P [.cell p t, .tmp u] K φ st = IB (fun r => kB [r, φ u] = true ∧ K (.tup [r, φ u]) st) (g7 P st t (φ p)) := by
 simp only [mO, pR, BO]
 cases g7 P st t (φ p) <;> rfl
theorem VB {u p : Tmp} {t : TypeId} {K : AV → aB → Prop} : mO P [.tmp u, .cell p t] K φ st = IB (fun r => kB [φ u, r] = true ∧ K (.tup [φ u, r]) st) (g7 P st t (φ p)) := by
 simp only [mO, pR, BO]
 cases g7 P st t (φ p) <;> rfl
theorem SO {k : AV → Prop} {r : AV} : IB k (some r) = k r := rfl
def jR (P : Program) (mt : List Nat) (ops : Array Oper) (rest : List Oper) (K : AF → aB → Prop) (φ : AF) (dst : Option Tmp) (st : aB) : Option AV → Prop
 | some r => bB P mt ops rest K (φ.put dst r) st
 | none => False
def oG (P : Program) (mt : List Nat) (ops : Array Oper) (rest : List Oper) (K : AF → aB → Prop) (φ : AF) (dst : Option Tmp) (r : AV) (st : aB) : Prop := bB P mt ops rest K (φ.put dst r) st
def uE (P : Program) (mt : List Nat) (ops : Array Oper) (o : Oper) (rest : List Oper) (K : AF → aB → Prop) (φ : AF) (st : aB) : Option Bool → Prop
 | some true => bB P mt ops ({ o with guard := none } :: rest) K φ st
 | some false => bB P mt ops rest K (φ.put o.dst .undef) st
 | none => False
def gd (ops : Array Oper) (φ : AF) (j : Nat) (want : Bool) : Option Bool :=
 match (ops[j]?).bind (·.dst) with
 | none => some false
 | some d => match φ d with
  | .bool b => some (b == want)
  | .undef => some false
  | _ => none
section
variable {rest : List Oper} {K : AF → aB → Prop} {dst : Option Tmp} {type : TypeId} {pos : String} {after : Array Edge}
theorem U9 : bB P mt ops [] K φ st = K φ st := rfl
theorem aHF {op : Op} {j : Nat} {want : Bool} : bB P mt ops (⟨dst, op, type, pos, after, some (j, want)⟩ :: rest) K φ st = uE P mt ops ⟨dst, op, type, pos, after, some (j, want)⟩ rest K φ st (gd ops φ j want) := by
 simp only [bB]
 have h1 : jB ops φ ⟨dst, op, type, pos, after, some (j, want)⟩ = gd ops φ j want := rfl
 rw [h1]
 cases gd ops φ j want with
 | none => rfl
 | some b => cases b <;> simp [uE, bB, jB, eX, kO]
theorem aID {r : AV} : oG P mt ops rest K φ dst r st = bB P mt ops rest K (φ.put dst r) st := rfl
theorem aLP {r : AV} : jR P mt ops rest K φ dst st (some r) = bB P mt ops rest K (φ.put dst r) st := rfl
theorem aJY {op : Op} {g : Option (Nat × Bool)} : uE P mt ops ⟨dst, op, type, pos, after, g⟩ rest K φ st (some true) = bB P mt ops (⟨dst, op, type, pos, after, none⟩ :: rest) K φ st := rfl
theorem V0 {op : Op} {g : Option (Nat × Bool)} : uE P mt ops ⟨dst, op, type, pos, after, g⟩ rest K φ st (some false) = bB P mt ops rest K (φ.put dst .undef) st := rfl
theorem k7 {o : Oper} (hg : o.guard = none) (e : ∀ K', eX P mt φ st o K' = match kO P φ st o with | some r => K' r st | none => False) : bB P mt ops (o :: rest) K φ st = jR P mt ops rest K φ o.dst st (kO P φ st o) := by
 simp only [bB, jB, hg, e]
 cases kO P φ st o <;> rfl
def FI : AV → AV → AV → Option AV
 | .bool b, x, y => some (if b then x else y)
 | _, _, _ => none
def xM : AV → Option AV
 | .ptr b q => some (.ptr b q)
 | .pptr e => some (.pptr e)
 | _ => none
def F8 (P : Program) (t f : Nat) (x : AV) : Option AV := match fI P t f, x with | some (off, ag, sz), .agg cs => sub ag cs off sz | _, _ => none
def yI (x : AV) (i : Nat) : Option AV := match x with | .tup vs => vs[i]? | _ => none
def HS (g : FuncId) (cs : List AV) : Option AV := if kB cs = true then some (.func g cs) else none
def rN (P : Program) (f : AV) (args : List AV) (st : aB) (K : AV → aB → Prop) : Prop := match f with | .func g dS => aD P g (args ++ dS) st K | _ => False
def wI (P : Program) (m : Bool) (t : TypeId) (x : AV) (st : aB) (K : AV → aB → Prop) (k : Option AV → Prop) : Prop :=
 if m = true then x.cB = false ∧ ∀ b, st b = none → K (.ptr b 0) (st.aC b (.cells x.cells)) else k (uQ P t x)
def G6 (zs : Option (List AV)) (st : aB) (K : AV → aB → Prop) : Prop := match zs with | some zs => ∀ b, st b = none → K (.ptr b 0) (st.aC b (.cells zs)) | none => False
def IE (P : Program) (t : TypeId) (p x : AV) (st : aB) (K : AV → aB → Prop) : Prop :=
 match p with
 | .ptr b q => match st b, tI P t with
  | some (.cells cs), some (_, sz) => x.cells.length = sz ∧ q + sz ≤ cs.length ∧ x.cells.all AV.storable = true ∧ K .undef (st.aC b (.cells (aK cs q x.cells)))
  | _, _ => False
 | _ => False
theorem YO {x : Operand} : bB P mt ops (⟨dst, .move x, type, pos, after, none⟩ :: rest) K φ st = bB P mt ops rest K (φ.put dst (φ.eval x)) st := rfl
theorem TV {x : Operand} : bB P mt ops (⟨dst, .assign x, type, pos, after, none⟩ :: rest) K φ st = bB P mt ops rest K (φ.put dst (φ.eval x)) st := rfl
theorem VD {c x y : Operand} : bB P mt ops (⟨dst, .pick c x y, type, pos, after, none⟩ :: rest) K φ st = jR P mt ops rest K φ dst st (FI (φ.eval c) (φ.eval x) (φ.eval y)) := by
 rw [k7 rfl fun _ => rfl]
 simp only [kO]
 cases φ.eval c <;> rfl
theorem WZ {op : BinOp} {t t' : TypeId} {x y : Operand} : bB P mt ops (⟨dst, .binOp op t x y t', type, pos, after, none⟩ :: rest) K φ st = jR P mt ops rest K φ dst st (d6 P op t (φ.eval x) (φ.eval y)) := k7 rfl fun _ => rfl
theorem ZE {op : UnOp} {t : TypeId} {x : Operand} : bB P mt ops (⟨dst, .unOp op t x, type, pos, after, none⟩ :: rest) K φ st = jR P mt ops rest K φ dst st (GS op (φ.eval x)) := k7 rfl fun _ => rfl
theorem aJL {x : Operand} : bB P mt ops (⟨dst, .nilCheck x, type, pos, after, none⟩ :: rest) K φ st = jR P mt ops rest K φ dst st (xM (φ.eval x)) := by
 rw [k7 rfl fun _ => rfl]
 try rfl
theorem aIO {t f : Nat} {x : Operand} : bB P mt ops (⟨dst, .fieldAddr t x f, type, pos, after, none⟩ :: rest) K φ st = jR P mt ops rest K φ dst st (qS P t f (φ.eval x)) := k7 rfl fun _ => rfl
theorem R7 {t : TypeId} {x : Operand} : bB P mt ops (⟨dst, .load t x, type, pos, after, none⟩ :: rest) K φ st = jR P mt ops rest K φ dst st (g7 P st t (φ.eval x)) := k7 rfl fun _ => rfl
theorem ZD {t f : Nat} {x : Operand} : bB P mt ops (⟨dst, .field t x f, type, pos, after, none⟩ :: rest) K φ st = jR P mt ops rest K φ dst st (F8 P t f (φ.eval x)) := by
 rw [k7 rfl fun _ => rfl]
 try rfl
theorem aJD {t : TypeId} {x i : Operand} : bB P mt ops (⟨dst, .indexAddr t x i, type, pos, after, none⟩ :: rest) K φ st = jR P mt ops rest K φ dst st (dJ P t (φ.eval x) (φ.eval i)) := k7 rfl fun _ => rfl
theorem aCI {t : TypeId} {x i : Operand} : bB P mt ops (⟨dst, .index t x i, type, pos, after, none⟩ :: rest) K φ st = jR P mt ops rest K φ dst st (CW P t (φ.eval x) (φ.eval i)) := k7 rfl fun _ => rfl
theorem UW {t : TypeId} {x : Operand} {lo hi mx : Option Operand} : bB P mt ops (⟨dst, .slice t x lo hi mx, type, pos, after, none⟩ :: rest) K φ st = jR P mt ops rest K φ dst st (iG P φ t (φ.eval x) lo hi mx) := k7 rfl fun _ => rfl
theorem aDI {x : Operand} {i : Nat} : bB P mt ops (⟨dst, .extract x i, type, pos, after, none⟩ :: rest) K φ st = jR P mt ops rest K φ dst st (yI (φ.eval x) i) := by
 rw [k7 rfl fun _ => rfl]
 try rfl
theorem Y8 {g : FuncId} {dS : Array Operand} : bB P mt ops (⟨dst, .makeFunc (.func g) #[] dS, type, pos, after, none⟩ :: rest) K φ st = jR P mt ops rest K φ dst st (HS g (dS.toList.map φ.eval)) := by
 rw [k7 rfl fun _ => rfl]
 congr 1
 simp [kO, HS]
theorem UM {t : TypeId} {ps : Array (Nat × Operand)} : bB P mt ops (⟨dst, .build t ps, type, pos, after, none⟩ :: rest) K φ st = jR P mt ops rest K φ dst st (vR P φ t ps) := k7 rfl fun _ => rfl
theorem aHM {t : TypeId} {n : Nat} {ps : Array (Nat × Operand)} : bB P mt ops (⟨dst, .buildSlice t n ps, type, pos, after, none⟩ :: rest) K φ st = jR P mt ops rest K φ dst st (yA P φ t n ps) := k7 rfl fun _ => rfl
theorem YH {t u : TypeId} {x : Operand} : bB P mt ops (⟨dst, .convert t u x, type, pos, after, none⟩ :: rest) K φ st = jR P mt ops rest K φ dst st (sV P t u (φ.eval x)) := k7 rfl fun _ => rfl
theorem aC2 {t : TypeId} {x i : Operand} {ok : Bool} : bB P mt ops (⟨dst, .lookup t x i ok, type, pos, after, none⟩ :: rest) K φ st = jR P mt ops rest K φ dst st (oI P st t ok (φ.eval x) (φ.eval i)) := k7 rfl fun _ => rfl
theorem aJ4 {x : Operand} {t : TypeId} : bB P mt ops (⟨dst, .call { callee := .builtin .len, args := #[x], argTypes := #[t] }, type, pos, after, none⟩ :: rest) K φ st = jR P mt ops rest K φ dst st (nS P t (φ.eval x)) := k7 rfl fun _ => rfl
theorem ZV {f : Operand} {args : List Operand} {ats : Array TypeId} : bB P mt ops (⟨dst, .call { callee := .value f, args := args.toArray, argTypes := ats }, type, pos, after, none⟩ :: rest) K φ st = rN P (φ.eval f) (args.map φ.eval) st (oG P mt ops rest K φ dst) := rfl
theorem XG {x y : Operand} {ts : Array TypeId} : bB P mt ops (⟨dst, .call { callee := .builtin .max, args := #[x, y], argTypes := ts }, type, pos, after, none⟩ :: rest) K φ st = jR P mt ops rest K φ dst st (wK (φ.eval x) (φ.eval y)) := k7 rfl fun _ => rfl
theorem aAL {x y : Operand} {ts : Array TypeId} : bB P mt ops (⟨dst, .call { callee := .builtin .min, args := #[x, y], argTypes := ts }, type, pos, after, none⟩ :: rest) K φ st = jR P mt ops rest K φ dst st (BM (φ.eval x) (φ.eval y)) := k7 rfl fun _ => rfl
theorem ZF {s x : Operand} {t t' : TypeId} : bB P mt ops (⟨dst, .call { callee := .builtin .append, args := #[s, x], argTypes := #[t, t'] }, type, pos, after, none⟩ :: rest) K φ st = (if t = t' then jO P t st (φ.eval s) (φ.eval x) (oG P mt ops rest K φ dst) else sB P t t' st (φ.eval s) (φ.eval x) (oG P mt ops rest K φ dst)) := rfl
theorem SQ {m k : Operand} {t t' : TypeId} : bB P mt ops (⟨dst, .call { callee := .builtin .delete, args := #[m, k], argTypes := #[t, t'] }, type, pos, after, none⟩ :: rest) K φ st = zP P t st (φ.eval m) (φ.eval k) (oG P mt ops rest K φ dst) := rfl
theorem aKA {t : TypeId} {x : Operand} : bB P mt ops (⟨dst, .box t x, type, pos, after, none⟩ :: rest) K φ st = wI P (z6 mt dst) t (φ.eval x) st (oG P mt ops rest K φ dst) (jR P mt ops rest K φ dst st) := by
 simp only [bB, jB, eX, wI, oG]
 split
 · rfl
 · cases uQ P t (φ.eval x) <;> rfl
theorem WG {t : TypeId} : bB P mt ops (⟨dst, .alloc t, type, pos, after, none⟩ :: rest) K φ st = G6 (zI P t) st (oG P mt ops rest K φ dst) := rfl
theorem aHS {t : TypeId} {p x : Operand} : bB P mt ops (⟨dst, .store t p x, type, pos, after, none⟩ :: rest) K φ st = IE P t (φ.eval p) (φ.eval x) st (oG P mt ops rest K φ dst) := rfl
theorem aEL {t : TypeId} : bB P mt ops (⟨dst, .makeMap t none, type, pos, after, none⟩ :: rest) K φ st = ∀ b, st b = none → oG P mt ops rest K φ dst (.map b) (st.aC b (.map fun _ => none)) := rfl
theorem aLI {t : TypeId} {n c : Operand} : bB P mt ops (⟨dst, .makeSlice t n c, type, pos, after, none⟩ :: rest) K φ st = wQ P t st (φ.eval n) (φ.eval c) (oG P mt ops rest K φ dst) := rfl
theorem aKF {t : TypeId} {m k x : Operand} : bB P mt ops (⟨dst, .mapUpdate t m k x, type, pos, after, none⟩ :: rest) K φ st = sE P t st (φ.eval m) (φ.eval k) (φ.eval x) (oG P mt ops rest K φ dst) := rfl
theorem aIM {t : Tmp} : φ.eval (.tmp t) = φ t := rfl
theorem W4 {k : IntKind} {n : Int} : φ.eval (.const (.int k n)) = .int k n := rfl
theorem VO {b : Bool} : φ.eval (.const (.bool b)) = .bool b := rfl
theorem TE : φ.eval (.const (.slice none 0 0)) = .fslice [] := rfl
theorem aKJ : φ.eval (.const (.pointer none)) = .nilptr := rfl
theorem aC8 : φ.eval (.const (.map none)) = .nilmap := rfl
theorem aCT {g : FuncId} : φ.eval (.func g) = .func g [] := rfl
theorem aBX {l : List UInt8} : φ.eval (.const (.string ⟨l.toArray⟩)) = if l.length ≤ 9223372036854775807 then .str ⟨l.toArray⟩ else .junk := by
 simp [AF.eval, ofConst, ByteArray.size, maxLen]
theorem YS {d e : Nat} {v : AV} : (φ.aC d v) e = if e = d then v else φ e := rfl
theorem aHG {d : Nat} {v : AV} : φ.put (some d) v = φ.aC d v := rfl
theorem TT {v : AV} : φ.put none v = φ := rfl
theorem aCB {i : Nat} : tG i [] = AF.bot := rfl
theorem aAF {i : Nat} {a : AV} {as : List AV} : tG i (a :: as) = (tG (i + 1) as).aC i a := rfl
theorem aJ8 {P : Program} {t : TypeId} {k : IntKind} {a b : Int} : d6 P .add t (.int k a) (.int k b) = some (.int k (k.wrap (a + b))) := by simp [d6, kC]
theorem U6 {P : Program} {t : TypeId} {k : IntKind} {a b : Int} : d6 P .sub t (.int k a) (.int k b) = some (.int k (k.wrap (a - b))) := by simp [d6, kC]
theorem aBK {P : Program} {t : TypeId} {k : IntKind} {a b : Int} : d6 P .mul t (.int k a) (.int k b) = some (.int k (k.wrap (a * b))) := by simp [d6, kC]
theorem aH1 {P : Program} {t : TypeId} {k : IntKind} {a b : Int} : d6 P .quo t (.int k a) (.int k b) = if b = 0 then none else some (.int k (k.wrap (a.tdiv b))) := by simp [d6, kC]
theorem YF {P : Program} {t : TypeId} {k : IntKind} {a b : Int} : d6 P .rem t (.int k a) (.int k b) = if b = 0 then none else some (.int k (a.tmod b)) := by simp [d6, kC]
theorem aAO {P : Program} {t : TypeId} {k : IntKind} {a b : Int} : d6 P .eql t (.int k a) (.int k b) = some (.bool (decide (a = b))) := by simp [d6, kC]
theorem aIW {P : Program} {t : TypeId} {k : IntKind} {a b : Int} : d6 P .neq t (.int k a) (.int k b) = some (.bool (!decide (a = b))) := by simp [d6, kC]
theorem aL4 {P : Program} {t : TypeId} {k : IntKind} {a b : Int} : d6 P .lss t (.int k a) (.int k b) = some (.bool (decide (a < b))) := by simp [d6, kC]
theorem aCG {P : Program} {t : TypeId} {k : IntKind} {a b : Int} : d6 P .leq t (.int k a) (.int k b) = some (.bool (decide (a ≤ b))) := by simp [d6, kC]
theorem aHK {P : Program} {t : TypeId} {k : IntKind} {a b : Int} : d6 P .gtr t (.int k a) (.int k b) = some (.bool (decide (b < a))) := by simp [d6, kC]
theorem ZJ {P : Program} {t : TypeId} {k : IntKind} {a b : Int} : d6 P .geq t (.int k a) (.int k b) = some (.bool (decide (b ≤ a))) := by simp [d6, kC]
theorem aEO {P : Program} {t : TypeId} {k : IntKind} {a b : Int} : d6 P .xor t (.int k a) (.int k b) = some (.int k (FE k a b)) := by simp [d6, kC]
theorem aFN {P : Program} {t : TypeId} {k : IntKind} {a b : Int} : d6 P .and t (.int k a) (.int k b) = some (.int k (QB k a b)) := by simp [d6, kC]
theorem aGP {P : Program} {t : TypeId} {k : IntKind} {a b : Int} : d6 P .or t (.int k a) (.int k b) = some (.int k (PD k a b)) := by simp [d6, kC]
theorem aHT {k : IntKind} {a b : Int} : wK (.int k a) (.int k b) = some (.int k (if a < b then b else a)) := by simp [wK]
theorem W8 {k : IntKind} {a b : Int} : BM (.int k a) (.int k b) = some (.int k (if b < a then b else a)) := by simp [BM]
theorem aFS {P : Program} {t : TypeId} {a b : ByteArray} : d6 P .eql t (.str a) (.str b) = some (.bool (decide (a = b))) := by simp [d6, kC]
theorem TA {P : Program} {t : TypeId} {a b : ByteArray} : d6 P .neq t (.str a) (.str b) = some (.bool (!decide (a = b))) := by simp [d6, kC]
theorem X0 {P : Program} {t : TypeId} {a b : ByteArray} : d6 P .add t (.str a) (.str b) = if a.size + b.size ≤ maxLen then some (.str (a ++ b)) else none := by simp [d6, kC]
theorem S7 {P : Program} {t : TypeId} {a b : ByteArray} : d6 P .lss t (.str a) (.str b) = some (.bool (Op.bytesLess a.toList b.toList)) := by simp [d6, kC]
theorem aIJ {P : Program} {t : TypeId} {a b : ByteArray} : d6 P .gtr t (.str a) (.str b) = some (.bool (!(Op.bytesLess a.toList b.toList || decide (a = b)))) := by simp [d6, kC]
theorem SA {P : Program} {t : TypeId} {a b : Bool} (h : P.underlying t = some .bool) : d6 P .eql t (.bool a) (.bool b) = some (.bool (a == b)) := by simp [d6, h]
theorem aHX {P : Program} {t : TypeId} {a b : Bool} (h : P.underlying t = some .bool) : d6 P .neq t (.bool a) (.bool b) = some (.bool (!(a == b))) := by simp [d6, h]
theorem aA2 {b : Bool} : GS .not (.bool b) = some (.bool (!b)) := rfl
theorem X4 {k : IntKind} {n : Int} : GS .neg (.int k n) = some (.int k (k.wrap (0 - n))) := rfl
end
end
@[congr] theorem a1S {P : Program} {N : Nat} {mt : List Nat} {c : Code} {Q : Exit → AF → aB → Prop} {φ φ' : AF} {st st' : aB} (h1 : φ = φ') (h2 : st = st') : fV P N mt c Q φ st = fV P N mt c Q φ' st' := by rw [h1, h2]
@[congr] theorem a2P {P : Program} {mt : List Nat} {ops : Array Oper} {l : List Oper} {K : AF → aB → Prop} {φ φ' : AF} {st st' : aB} (h1 : φ = φ') (h2 : st = st') : bB P mt ops l K φ st = bB P mt ops l K φ' st' := by rw [h1, h2]
@[congr] theorem a00 {P : Program} {mt : List Nat} {ops : Array Oper} {l : List Oper} {K : AF → aB → Prop} {φ : AF} {st : aB} {dst : Option Tmp} {x x' : Option AV} (h1 : x = x') : jR P mt ops l K φ dst st x = jR P mt ops l K φ dst st x' := by rw [h1]
@[congr] theorem a1P {P : Program} {mt : List Nat} {ops : Array Oper} {o : Oper} {l : List Oper} {K : AF → aB → Prop} {φ : AF} {st : aB} {x x' : Option Bool} (h1 : x = x') : uE P mt ops o l K φ st x = uE P mt ops o l K φ st x' := by rw [h1]
@[congr] theorem a14 {P : Program} {mt : List Nat} {ops : Array Oper} {l : List Oper} {K : AF → aB → Prop} {φ : AF} {dst : Option Tmp} {r r' : AV} {st st' : aB} (h1 : r = r') (h2 : st = st') : oG P mt ops l K φ dst r st = oG P mt ops l K φ dst r' st' := by rw [h1, h2]
@[congr] theorem a2W {c c' : AV} {k₁ k₂ : AF → aB → Prop} {φ : AF} {st : aB} (h1 : c = c') : uA c k₁ k₂ φ st = uA c' k₁ k₂ φ st := by rw [h1]
@[congr] theorem a2C {P : Program} {N : Nat} {c : Code} {Q : Exit → AF → aB → Prop} {φ φ' : AF} {st st' : aB} (h1 : φ = φ') (h2 : st = st') : gH P N c Q φ st = gH P N c Q φ' st' := by rw [h1, h2]
@[congr] theorem a2X {P : Program} {g : FuncId} {args args' : List AV} {st st' : aB} {K : AV → aB → Prop} (h1 : args = args') (h2 : st = st') : aD P g args st K = aD P g args' st' K := by rw [h1, h2]
@[congr] theorem a05 {P : Program} {f f' : AV} {args args' : List AV} {st st' : aB} {K : AV → aB → Prop} (h0 : f = f') (h1 : args = args') (h2 : st = st') : rN P f args st K = rN P f' args' st' K := by rw [h0, h1, h2]
@[congr] theorem a2B {P : Program} {m m' : Bool} {t : TypeId} {x x' : AV} {st st' : aB} {K : AV → aB → Prop} {k : Option AV → Prop} (h0 : m = m') (h1 : x = x') (h2 : st = st') : wI P m t x st K k = wI P m' t x' st' K k := by rw [h0, h1, h2]
@[congr] theorem a2O {zs zs' : Option (List AV)} {st st' : aB} {K : AV → aB → Prop} (h1 : zs = zs') (h2 : st = st') : G6 zs st K = G6 zs' st' K := by rw [h1, h2]
@[congr] theorem a1E {P : Program} {t : TypeId} {p p' x x' : AV} {st st' : aB} {K : AV → aB → Prop} (h0 : p = p') (h1 : x = x') (h2 : st = st') : IE P t p x st K = IE P t p' x' st' K := by rw [h0, h1, h2]
@[congr] theorem a1H {x x' y y' : AV} (h0 : x = x') (h1 : y = y') : wK x y = wK x' y' := by rw [h0, h1]
@[congr] theorem a2D {P : Program} {t t' : TypeId} {s s' x x' : AV} {st st' : aB} {K : AV → aB → Prop} (h0 : s = s') (h1 : x = x') (h2 : st = st') : sB P t t' st s x K = sB P t t' st' s' x' K := by rw [h0, h1, h2]
@[congr] theorem a24 {P : Program} {t : TypeId} {s s' x x' : AV} {st st' : aB} {K : AV → aB → Prop} (h0 : s = s') (h1 : x = x') (h2 : st = st') : jO P t st s x K = jO P t st' s' x' K := by rw [h0, h1, h2]
@[congr] theorem a17 {P : Program} {t : TypeId} {s s' x x' : AV} {st st' : aB} {K : AV → aB → Prop} (h0 : s = s') (h1 : x = x') (h2 : st = st') : wQ P t st s x K = wQ P t st' s' x' K := by rw [h0, h1, h2]
@[congr] theorem a2H {P : Program} {t : TypeId} {m m' s s' x x' : AV} {st st' : aB} {K : AV → aB → Prop} (h : m = m') (h0 : s = s') (h1 : x = x') (h2 : st = st') : sE P t st m s x K = sE P t st' m' s' x' K := by rw [h, h0, h1, h2]
theorem aKV {P : Program} {g : FuncId} {dS args : List AV} {st : aB} {K : AV → aB → Prop} : rN P (.func g dS) args st K = aD P g (args ++ dS) st K := rfl
theorem W9 {P : Program} {t : TypeId} {x : AV} {st : aB} {K : AV → aB → Prop} {k : Option AV → Prop} : wI P false t x st K k = k (uQ P t x) := by simp [wI]
theorem aJQ {P : Program} {t : TypeId} {x : AV} {st : aB} {K : AV → aB → Prop} {k : Option AV → Prop} : wI P true t x st K k = (x.cB = false ∧ ∀ b, st b = none → K (.ptr b 0) (st.aC b (.cells x.cells))) := by simp [wI]
theorem UQ {zs : List AV} {st : aB} {K : AV → aB → Prop} : G6 (some zs) st K = ∀ b, st b = none → K (.ptr b 0) (st.aC b (.cells zs)) := rfl
theorem ZT {P : Program} {t : TypeId} {b q : Nat} {x : AV} {st : aB} {K : AV → aB → Prop} : IE P t (.ptr b q) x st K = match st b, tI P t with
 | some (.cells cs), some (_, sz) => x.cells.length = sz ∧ q + sz ≤ cs.length ∧ x.cells.all AV.storable = true ∧ K .undef (st.aC b (.cells (aK cs q x.cells)))
 | _, _ => False := rfl
def jJ : Op → Bool
 | .alloc _ => true
 | _ => false
def jA : Op → Bool
 | .store _ _ _ => true
 | _ => false
def zK (P : Program) (mt : List Nat) (ops : Array Oper) (rest : List Oper) (K : AF → aB → Prop) (φ : AF) (st : aB) : Prop := fX P mt ops rest K φ st
def zF (P : Program) (mt : List Nat) (ops : Array Oper) (rest : List Oper) (K : AF → aB → Prop) (φ : AF) (d : Nat) (st : aB) (r : AV) : Prop := fX P mt ops rest K (φ.aC d r) st
def uP (x : AV) (K : AV → Prop) : Option (List AV) → Option (Bool × Nat) → Prop
 | some zs, some (_, sz) => zs.length = sz ∧ x.width = sz ∧ x.cells.all AV.storable = true ∧ x.cB = false ∧ K (.pptr x)
 | _, _ => False
def zM (P : Program) (mt : List Nat) (ops : Array Oper) (o : Oper) (s : Oper) (rest : List Oper) (K : AF → aB → Prop) (φ : AF) (st : aB) (d : Nat) (t : TypeId) (x : AV) : Bool → Prop
 | true => bB P mt ops [o] (zK P mt ops (s :: rest) K) φ st
 | false => uP x (zF P mt ops rest K φ d st) (zI P t) (tI P t)
section
variable {P : Program} {mt : List Nat} {ops : Array Oper} {rest : List Oper} {K : AF → aB → Prop} {φ : AF} {st : aB} {dst BB : Option Tmp} {type tC : TypeId} {pos pos' : String} {after tH : Array Edge} {g g' : Option (Nat × Bool)} {op op' : Op}
theorem KY : zK P mt ops rest K φ st = fX P mt ops rest K φ st := rfl
theorem T0 {d : Nat} {r : AV} : zF P mt ops rest K φ d st r = fX P mt ops rest K (φ.aC d r) st := rfl
theorem WX : fX P mt ops [] K φ st = K φ st := by rw [fX]
theorem JL (h : jJ op = false) : fX P mt ops (⟨dst, op, type, pos, after, g⟩ :: rest) K φ st = bB P mt ops [⟨dst, op, type, pos, after, g⟩] (zK P mt ops rest K) φ st := by
 rw [fX]
 · rfl
 · intro d t ty ps af t' d' x ty' ps' af' r e1 e2
   cases e1
   cases h
 · intro d t ty ps af e y ty2 ps2 af2 t' d' x ty' ps' af' r e1 e2
   cases e1
   cases h
theorem HH {t : TypeId} {x : AV} {k : AV → Prop} : BF P t x k = uP x k (zI P t) (tI P t) := by
 unfold BF uP
 simp only [vE]
 cases zI P t <;> cases tI P t <;> rfl
theorem ZG {x : AV} {k : AV → Prop} {zs : List AV} {ag : Bool} {sz : Nat} : uP x k (some zs) (some (ag, sz)) = (zs.length = sz ∧ x.width = sz ∧ x.cells.all AV.storable = true ∧ x.cB = false ∧ k (.pptr x)) := rfl
theorem J4 {d : Nat} {t : TypeId} {x : Operand} : fX P mt ops (⟨some d, .alloc t, type, pos, after, none⟩ :: ⟨none, .store t (.tmp d) x, tC, pos', tH, none⟩ :: rest) K φ st =
 zM P mt ops ⟨some d, .alloc t, type, pos, after, none⟩ ⟨none, .store t (.tmp d) x, tC, pos', tH, none⟩ rest K φ st d t (φ.eval x) (mt.contains d || oT x d) := by
 rw [fX]
 cases h : (mt.contains d || oT x d) with
 | true =>
  rw [aE (by simp)]
  show _ = bB P mt ops _ (fun φ' st' => zK P mt ops _ K φ' st') φ st
  simp only [KY, JL (K := K) (rest := rest) (op := .store t (.tmp d) x) rfl]
  rfl
 | false =>
  rw [aG ⟨rfl, rfl, rfl⟩, HH]
  try rfl
theorem aIK {o s : Oper} {d : Nat} {t : TypeId} {x : AV} : zM P mt ops o s rest K φ st d t x true = bB P mt ops [o] (zK P mt ops (s :: rest) K) φ st := rfl
theorem aDG {o s : Oper} {d : Nat} {t : TypeId} {x : AV} : zM P mt ops o s rest K φ st d t x false = uP x (zF P mt ops rest K φ d st) (zI P t) (tI P t) := rfl
def EL (P : Program) (mt : List Nat) (ops : Array Oper) (o : Oper) (os : List Oper) (rest : List Oper) (K : AF → aB → Prop) (φ φ' : AF) (st : aB) (d : Nat) (t : TypeId) (x : AV) : Bool → Prop
 | true => bB P mt ops [o] (zK P mt ops (os ++ rest) K) φ st
 | false => uP x (zF P mt ops rest K φ' d st) (zI P t) (tI P t)
theorem aAR {o : Oper} {os : List Oper} {φ' : AF} {d : Nat} {t : TypeId} {x : AV} : EL P mt ops o os rest K φ φ' st d t x false = uP x (zF P mt ops rest K φ' d st) (zI P t) (tI P t) := rfl
theorem aHY {o : Oper} {os : List Oper} {φ' : AF} {d : Nat} {t : TypeId} {x : AV} : EL P mt ops o os rest K φ φ' st d t x true = bB P mt ops [o] (zK P mt ops (os ++ rest) K) φ st := rfl
theorem aYW {d e : Nat} {t : TypeId} {x y : Operand} {type2 : TypeId} {vD : String} {FA : Array Edge} : fX P mt ops (⟨some d, .alloc t, type, pos, after, none⟩ :: ⟨some e, .assign y, type2, vD, FA, none⟩ :: ⟨none, .store t (.tmp d) x, tC, pos', tH, none⟩ :: rest) K φ st =
 EL P mt ops ⟨some d, .alloc t, type, pos, after, none⟩ [⟨some e, .assign y, type2, vD, FA, none⟩, ⟨none, .store t (.tmp d) x, tC, pos', tH, none⟩] rest K φ (φ.aC e (φ.eval y)) st d t ((φ.aC e (φ.eval y)).eval x) (mt.contains d || oT x d || oT y d || d == e) := by
 rw [fX]
 cases h : (mt.contains d || oT x d || oT y d || d == e) with
 | true =>
  rw [aE (by simp)]
  show _ = bB P mt ops _ (fun φ' st' => zK P mt ops _ K φ' st') φ st
  simp only [KY, fF, eR, JL (K := K) (op := .assign y) rfl]
  rfl
 | false =>
  rw [aG ⟨rfl, rfl, rfl⟩, HH]
  try rfl
def jQ : Op → Bool
 | .assign _ => true
 | _ => false
theorem aF9 {t : TypeId} (h : jA op' = false) (h2 : jQ op' = false) : fX P mt ops (⟨dst, .alloc t, type, pos, after, g⟩ :: ⟨BB, op', tC, pos', tH, g'⟩ :: rest) K φ st = bB P mt ops [⟨dst, .alloc t, type, pos, after, g⟩] (zK P mt ops (⟨BB, op', tC, pos', tH, g'⟩ :: rest) K) φ st := by
 rw [fX]
 · rfl
 · intro d t ty ps af t' d' x ty' ps' af' r e1 e2
   cases e2
   cases h
 · intro d t ty ps af e y ty2 ps2 af2 t' d' x ty' ps' af' r e1 e2
   cases e2
   cases h2
theorem ST {t : TypeId} : fX P mt ops [⟨dst, .alloc t, type, pos, after, g⟩] K φ st = bB P mt ops [⟨dst, .alloc t, type, pos, after, g⟩] (zK P mt ops [] K) φ st := by
 rw [fX]
 · rfl
 · intro d t ty ps af t' d' x ty' ps' af' r e1 e2
   cases e2
 · intro d t ty ps af e y ty2 ps2 af2 t' d' x ty' ps' af' r e1 e2
   cases e2
theorem aBA {t : TypeId} {y : Operand} : fX P mt ops [⟨dst, .alloc t, type, pos, after, g⟩, ⟨BB, .assign y, tC, pos', tH, g'⟩] K φ st = bB P mt ops [⟨dst, .alloc t, type, pos, after, g⟩] (zK P mt ops [⟨BB, .assign y, tC, pos', tH, g'⟩] K) φ st := by
 rw [fX]
 · rfl
 · intro d t ty ps af t' d' x ty' ps' af' r e1 e2
   cases e2
 · intro d t ty ps af e y ty2 ps2 af2 t' d' x ty' ps' af' r e1 e2
   cases e2
theorem aKQ {t : TypeId} {y : Operand} {XO : Option Tmp} {op2 : Op} {type2 : TypeId} {vD : String} {FA : Array Edge} {g2 : Option (Nat × Bool)} (h : jA op2 = false) : fX P mt ops (⟨dst, .alloc t, type, pos, after, g⟩ :: ⟨BB, .assign y, tC, pos', tH, g'⟩ :: ⟨XO, op2, type2, vD, FA, g2⟩ :: rest) K φ st = bB P mt ops [⟨dst, .alloc t, type, pos, after, g⟩] (zK P mt ops (⟨BB, .assign y, tC, pos', tH, g'⟩ :: ⟨XO, op2, type2, vD, FA, g2⟩ :: rest) K) φ st := by
 rw [fX]
 · rfl
 · intro d t ty ps af t' d' x ty' ps' af' r e1 e2
   cases e2
 · intro d t ty ps af e y ty2 ps2 af2 t' d' x ty' ps' af' r e1 e2
   cases e2
   cases h
theorem XS {d e : Nat} : oT (.tmp e) d = (e == d) := rfl
theorem aCS {v : Value} {d : Nat} : oT (.const v) d = false := rfl
theorem YR {x : Operand} : jJ (.move x) = false := rfl
theorem WU {x : Operand} : jA (.move x) = false := rfl
theorem SL {x : Operand} : jJ (.assign x) = false := rfl
theorem aHB {x : Operand} : jA (.assign x) = false := rfl
theorem aFX {c x y : Operand} : jJ (.pick c x y) = false := rfl
theorem XY {c x y : Operand} : jA (.pick c x y) = false := rfl
theorem aG2 {op : BinOp} {t : TypeId} {x y : Operand} {t' : TypeId} : jJ (.binOp op t x y t') = false := rfl
theorem WQ {op : BinOp} {t : TypeId} {x y : Operand} {t' : TypeId} : jA (.binOp op t x y t') = false := rfl
theorem aA3 {op : UnOp} {t : TypeId} {x : Operand} : jJ (.unOp op t x) = false := rfl
theorem aEE {op : UnOp} {t : TypeId} {x : Operand} : jA (.unOp op t x) = false := rfl
theorem SD {x : Operand} : jJ (.nilCheck x) = false := rfl
theorem aK6 {x : Operand} : jA (.nilCheck x) = false := rfl
theorem aLJ {t f : Nat} {x : Operand} : jJ (.fieldAddr t x f) = false := rfl
theorem aJ5 {t f : Nat} {x : Operand} : jA (.fieldAddr t x f) = false := rfl
theorem aAQ {t : TypeId} {x : Operand} : jJ (.load t x) = false := rfl
theorem TU {t : TypeId} {x : Operand} : jA (.load t x) = false := rfl
theorem aFK {t : TypeId} {p x : Operand} : jJ (.store t p x) = false := rfl
theorem VU {t f : Nat} {x : Operand} : jJ (.field t x f) = false := rfl
theorem aFM {t f : Nat} {x : Operand} : jA (.field t x f) = false := rfl
theorem aCQ {t : TypeId} {x i : Operand} : jJ (.indexAddr t x i) = false := rfl
theorem ZX {t : TypeId} {x i : Operand} : jA (.indexAddr t x i) = false := rfl
theorem aEH {t : TypeId} {x i : Operand} : jJ (.index t x i) = false := rfl
theorem aFD {t : TypeId} {x i : Operand} : jA (.index t x i) = false := rfl
theorem Z1 {t : TypeId} {x : Operand} {lo hi mx : Option Operand} : jJ (.slice t x lo hi mx) = false := rfl
theorem UX {t : TypeId} {x : Operand} {lo hi mx : Option Operand} : jA (.slice t x lo hi mx) = false := rfl
theorem X6 {x : Operand} {i : Nat} : jJ (.extract x i) = false := rfl
theorem UY {x : Operand} {i : Nat} : jA (.extract x i) = false := rfl
theorem aBD {t : TypeId} {ps : Array (Nat × Operand)} : jJ (.build t ps) = false := rfl
theorem aHL {t : TypeId} {ps : Array (Nat × Operand)} : jA (.build t ps) = false := rfl
theorem ZN {t : TypeId} {n : Nat} {ps : Array (Nat × Operand)} : jJ (.buildSlice t n ps) = false := rfl
theorem aK9 {t : TypeId} {n : Nat} {ps : Array (Nat × Operand)} : jA (.buildSlice t n ps) = false := rfl
theorem Z3 {t u : TypeId} {x : Operand} : jJ (.convert t u x) = false := rfl
theorem aJV {t u : TypeId} {x : Operand} : jA (.convert t u x) = false := rfl
theorem aD9 {t : TypeId} {x i : Operand} {ok : Bool} : jJ (.lookup t x i ok) = false := rfl
theorem aB4 {t : TypeId} {x i : Operand} {ok : Bool} : jA (.lookup t x i ok) = false := rfl
theorem aCF {c : _} : jJ (.call c) = false := rfl
theorem aJR {c : _} : jA (.call c) = false := rfl
theorem VQ {t : TypeId} {x : Operand} : jJ (.box t x) = false := rfl
theorem aKM {t : TypeId} {x : Operand} : jA (.box t x) = false := rfl
theorem aK4 {t : _} {x : _} : jJ (.makeMap t x) = false := rfl
theorem aDT {t : _} {x : _} : jA (.makeMap t x) = false := rfl
theorem aD3 {t : TypeId} {n c : Operand} : jJ (.makeSlice t n c) = false := rfl
theorem TO {t : TypeId} {n c : Operand} : jA (.makeSlice t n c) = false := rfl
theorem VS {t : TypeId} {m k x : Operand} : jJ (.mapUpdate t m k x) = false := rfl
theorem Z9 {t : TypeId} {m k x : Operand} : jA (.mapUpdate t m k x) = false := rfl
theorem aG4 {f : _} {a : _} {b : _} : jJ (.makeFunc f a b) = false := rfl
theorem aGV {f : _} {a : _} {b : _} : jA (.makeFunc f a b) = false := rfl
theorem TB {t : TypeId} : jA (.alloc t) = false := rfl
theorem aC3 {x : Operand} : jQ (.move x) = false := rfl
theorem aIS {c x y : Operand} : jQ (.pick c x y) = false := rfl
theorem WY {op : BinOp} {t : TypeId} {x y : Operand} {t' : TypeId} : jQ (.binOp op t x y t') = false := rfl
theorem aGQ {op : UnOp} {t : TypeId} {x : Operand} : jQ (.unOp op t x) = false := rfl
theorem V8 {x : Operand} : jQ (.nilCheck x) = false := rfl
theorem aCJ {t f : Nat} {x : Operand} : jQ (.fieldAddr t x f) = false := rfl
theorem aB2 {t : TypeId} {x : Operand} : jQ (.load t x) = false := rfl
theorem aED {t f : Nat} {x : Operand} : jQ (.field t x f) = false := rfl
theorem TX {t : TypeId} {x i : Operand} : jQ (.indexAddr t x i) = false := rfl
theorem aH3 {t : TypeId} {x i : Operand} : jQ (.index t x i) = false := rfl
theorem S6 {t : TypeId} {x : Operand} {lo hi mx : Option Operand} : jQ (.slice t x lo hi mx) = false := rfl
theorem YX {x : Operand} {i : Nat} : jQ (.extract x i) = false := rfl
theorem aLU {t : TypeId} {ps : Array (Nat × Operand)} : jQ (.build t ps) = false := rfl
theorem aJB {t : TypeId} {n : Nat} {ps : Array (Nat × Operand)} : jQ (.buildSlice t n ps) = false := rfl
theorem Y0 {t u : TypeId} {x : Operand} : jQ (.convert t u x) = false := rfl
theorem XN {t : TypeId} {x i : Operand} {ok : Bool} : jQ (.lookup t x i ok) = false := rfl
theorem aHO {c : _} : jQ (.call c) = false := rfl
theorem aDC {t : TypeId} {x : Operand} : jQ (.box t x) = false := rfl
theorem aBI {t : _} {x : _} : jQ (.makeMap t x) = false := rfl
theorem V3 {t : TypeId} {n c : Operand} : jQ (.makeSlice t n c) = false := rfl
theorem aGZ {t : TypeId} {m k x : Operand} : jQ (.mapUpdate t m k x) = false := rfl
theorem Y2 {f : _} {a : _} {b : _} : jQ (.makeFunc f a b) = false := rfl
theorem aLZ {t : TypeId} : jQ (.alloc t) = false := rfl
@[congr] theorem a1D {o : Oper} {os : List Oper} {φ' φ2 φ2' : AF} {st' : aB} {d : Nat} {t : TypeId} {x x' : AV} {b b' : Bool} (h1 : φ = φ') (h0 : φ2 = φ2') (h2 : st = st') (h3 : x = x') (h4 : b = b') : EL P mt ops o os rest K φ φ2 st d t x b = EL P mt ops o os rest K φ' φ2' st' d t x' b' := by rw [h1, h0, h2, h3, h4]
@[congr] theorem a1K {x x' : AV} {k : AV → Prop} {a a' : Option (List AV)} {b b' : Option (Bool × Nat)} (h0 : x = x') (h1 : a = a') (h2 : b = b') : uP x k a b = uP x' k a' b' := by rw [h0, h1, h2]
@[congr] theorem a2A {o s : Oper} {φ' : AF} {st' : aB} {d : Nat} {t : TypeId} {x x' : AV} {b b' : Bool} (h1 : φ = φ') (h2 : st = st') (h3 : x = x') (h4 : b = b') : zM P mt ops o s rest K φ st d t x b = zM P mt ops o s rest K φ' st' d t x' b' := by rw [h1, h2, h3, h4]
@[congr] theorem a2Y {l : List Oper} {Q : Exit → AF → aB → Prop} {φ' : AF} {st' : aB} {b b' : Bool} (h1 : φ = φ') (h2 : st = st') (h3 : b = b') : DW P mt l Q φ st b = DW P mt l Q φ' st' b' := by rw [h1, h2, h3]
end
end Go.AW
