/- The rules by which the code is evaluated: equations for simp. -/
import Derived.Test.YtpficjlageaebaaGreatDoorSfuc
set_option linter.unusedSimpArgs false
set_option linter.unusedVariables false
set_option maxRecDepth 100000
namespace Go.AW
section
variable {P : Program} {N : Nat} {mt : List Nat} {Q : Exit → AF → aB → Prop} {φ : AF} {st : aB} {x y : Code} {ops : Array Oper} {id : Nat}
theorem aDD : fT P N mt .skip Q φ st = Q .normal φ st := rfl
theorem TW : fT P N mt (.seq x y) Q φ st = fT P N mt x (EK (fT P N mt y Q) Q) φ st := rfl
def FU (P : Program) (mt : List Nat) (l : List Oper) (Q : Exit → AF → aB → Prop) (φ : AF) (st : aB) : Bool → Prop
 | true => fX P mt l.toArray l (Q .normal) φ st
 | false => bB P mt l.toArray l (Q .normal) φ st
theorem U9 {l : List Oper} : fT P N mt (.region id l.toArray false) Q φ st = FU P mt l Q φ st (mt.contains 1000000) := by
 simp only [fT, jM, d6]
 cases mt.contains 1000000 <;> rfl
theorem aLU {l : List Oper} : FU P mt l Q φ st true = fX P mt l.toArray l (Q .normal) φ st := rfl
theorem aJW {l : List Oper} : FU P mt l Q φ st false = bB P mt l.toArray l (Q .normal) φ st := rfl
theorem aF3 : fT P N mt (.region id ops true) Q φ st = gH P N (.region id ops true) Q φ st := by simp [fT]
theorem TO {c : Operand} : fT P N mt (.cond c x y) Q φ st = u7 (φ.eval c) (fT P N mt x Q) (fT P N mt y Q) φ st := rfl
theorem XB : fT P N mt (.block id x) Q φ st = fT P N mt x (CS id Q) φ st := rfl
theorem aEG : fT P N mt (.loop x) Q φ st = gH P N (.loop x) Q φ st := rfl
theorem SF : fT P N mt (.exit id) Q φ st = Q (.exit id) φ st := rfl
theorem aG7 : fT P N mt .ret Q φ st = Q .ret φ st := rfl
theorem X6 {k₁ k₂ : AF → aB → Prop} : u7 (.bool true) k₁ k₂ φ st = k₁ φ st := by simp [u7]
theorem aIM {k₁ k₂ : AF → aB → Prop} : u7 (.bool false) k₁ k₂ φ st = k₂ φ st := by simp [u7]
theorem aIF {k : AF → aB → Prop} : EK k Q .normal φ st = k φ st := rfl
theorem aA2 {k : AF → aB → Prop} : EK k Q (.exit id) φ st = Q (.exit id) φ st := rfl
theorem aFX {k : AF → aB → Prop} : EK k Q .ret φ st = Q .ret φ st := rfl
theorem aDH : CS id Q .normal φ st = Q .normal φ st := rfl
theorem YZ {i : Nat} : CS id Q (.exit i) φ st = if i = id then Q .normal φ st else Q (.exit i) φ st := rfl
theorem aD3 : CS id Q .ret φ st = Q .ret φ st := rfl
theorem YQ {k : AF → aB → Prop} : n6 k Q .normal φ st = k φ st := rfl
theorem aCD {k : AF → aB → Prop} : n6 k Q (.exit id) φ st = Q (.exit id) φ st := rfl
theorem SB {k : AF → aB → Prop} : n6 k Q .ret φ st = Q .ret φ st := rfl
def l7 (P : Program) (rs : List ResultVar) (K : AV → aB → Prop) (φ : AF) (st : aB) : Prop :=
 match pS P φ st rs with
 | some xs => F0 K st xs
 | none => False
theorem TD {rs : Array ResultVar} {K : AV → aB → Prop} : E8 P rs K .ret φ st = l7 P rs.toList K φ st := rfl
theorem aHV {rs : Array ResultVar} {K : AV → aB → Prop} : E8 P rs K .normal φ st = l7 P rs.toList K φ st := rfl
theorem aKH {t : Tmp} {K : AV → aB → Prop} : l7 P [.tmp t] K φ st = K (φ t) st := rfl
theorem X7 {K : AV → aB → Prop} : l7 P [] K φ st = K (.tup []) st := by simp [l7, pS, F0, j5]
theorem aE9 {t u : Tmp} {K : AV → aB → Prop} : l7 P [.tmp t, .tmp u] K φ st = (j5 [φ t, φ u] = true ∧ K (.tup [φ t, φ u]) st) := rfl
theorem aHI {t u v : Tmp} {K : AV → aB → Prop} : l7 P [.tmp t, .tmp u, .tmp v] K φ st = (j5 [φ t, φ u, φ v] = true ∧ K (.tup [φ t, φ u, φ v]) st) := rfl
theorem XK {t u v w : Tmp} {K : AV → aB → Prop} : l7 P [.tmp t, .tmp u, .tmp v, .tmp w] K φ st = (j5 [φ t, φ u, φ v, φ w] = true ∧ K (.tup [φ t, φ u, φ v, φ w]) st) := rfl
def J2 (k : AV → Prop) : Option AV → Prop
 | some r => k r
 | none => False
theorem YN {p : Tmp} {t : TypeId} {K : AV → aB → Prop} : l7 P [.cell p t] K φ st = J2 (fun r => K r st) (g7 P st t (φ p)) := by
 simp only [l7, pS, A2]
 cases g7 P st t (φ p) <;> rfl
theorem aLG {p u : Tmp} {t : TypeId} {K : AV → aB → Prop} : l7 P [.cell p t, .tmp u] K φ st = J2 (fun r => j5 [r, φ u] = true ∧ K (.tup [r, φ u]) st) (g7 P st t (φ p)) := by
 simp only [l7, pS, A2]
 cases g7 P st t (φ p) <;> rfl
theorem aEJ {u p : Tmp} {t : TypeId} {K : AV → aB → Prop} : l7 P [.tmp u, .cell p t] K φ st = J2 (fun r => j5 [φ u, r] = true ∧ K (.tup [φ u, r]) st) (g7 P st t (φ p)) := by
 simp only [l7, pS, A2]
 cases g7 P st t (φ p) <;> rfl
theorem VI {k : AV → Prop} {r : AV} : J2 k (some r) = k r := rfl
def jR (P : Program) (mt : List Nat) (ops : Array Oper) (rest : List Oper) (K : AF → aB → Prop) (φ : AF) (dst : Option Tmp) (st : aB) : Option AV → Prop
 | some r => bB P mt ops rest K (φ.put dst r) st
 | none => False
def n9 (P : Program) (mt : List Nat) (ops : Array Oper) (rest : List Oper) (K : AF → aB → Prop) (φ : AF) (dst : Option Tmp) (r : AV) (st : aB) : Prop := bB P mt ops rest K (φ.put dst r) st
def t8 (P : Program) (mt : List Nat) (ops : Array Oper) (o : Oper) (rest : List Oper) (K : AF → aB → Prop) (φ : AF) (st : aB) : Option Bool → Prop
 | some true => bB P mt ops ({ o with guard := none } :: rest) K φ st
 | some false => bB P mt ops rest K (φ.put o.dst .undef) st
 | none => False
def gd (ops : Array Oper) (φ : AF) (j : Nat) (want : Bool) : Option Bool :=
 match (ops[j]?).bind (·.dst) with
 | none => some false
 | some d => match φ d with
  | .bool b => some (b == want)
  | .undef => some false
  | _ => none
section
variable {rest : List Oper} {K : AF → aB → Prop} {dst : Option Tmp} {type : TypeId} {pos : String} {after : Array Edge}
theorem aAA : bB P mt ops [] K φ st = K φ st := rfl
theorem aBM {op : Op} {j : Nat} {want : Bool} : bB P mt ops (⟨dst, op, type, pos, after, some (j, want)⟩ :: rest) K φ st = t8 P mt ops ⟨dst, op, type, pos, after, some (j, want)⟩ rest K φ st (gd ops φ j want) := by
 simp only [bB]
 have h1 : jA ops φ ⟨dst, op, type, pos, after, some (j, want)⟩ = gd ops φ j want := rfl
 rw [h1]
 cases gd ops φ j want with
 | none => rfl
 | some b => cases b <;> simp [t8, bB, jA, eX, kG]
theorem aG8 {r : AV} : n9 P mt ops rest K φ dst r st = bB P mt ops rest K (φ.put dst r) st := rfl
theorem ZY {r : AV} : jR P mt ops rest K φ dst st (some r) = bB P mt ops rest K (φ.put dst r) st := rfl
theorem Z7 {op : Op} {g : Option (Nat × Bool)} : t8 P mt ops ⟨dst, op, type, pos, after, g⟩ rest K φ st (some true) = bB P mt ops (⟨dst, op, type, pos, after, none⟩ :: rest) K φ st := rfl
theorem aA1 {op : Op} {g : Option (Nat × Bool)} : t8 P mt ops ⟨dst, op, type, pos, after, g⟩ rest K φ st (some false) = bB P mt ops rest K (φ.put dst .undef) st := rfl
theorem kV {o : Oper} (hg : o.guard = none) (e : ∀ K', eX P mt φ st o K' = match kG P φ st o with | some r => K' r st | none => False) : bB P mt ops (o :: rest) K φ st = jR P mt ops rest K φ o.dst st (kG P φ st o) := by
 simp only [bB, jA, hg, e]
 cases kG P φ st o <;> rfl
def E0 : AV → AV → AV → Option AV
 | .bool b, x, y => some (if b then x else y)
 | _, _, _ => none
def w4 : AV → Option AV
 | .ptr b q => some (.ptr b q)
 | .pptr e => some (.pptr e)
 | _ => none
def DU (P : Program) (t f : Nat) (x : AV) : Option AV := match fI P t f, x with | some (off, ag, sz), .agg cs => sub ag cs off sz | _, _ => none
def y6 (x : AV) (i : Nat) : Option AV := match x with | .tup vs => vs[i]? | _ => none
def JD (g : FuncId) (cs : List AV) : Option AV := if j5 cs = true then some (.func g cs) else none
def q9 (P : Program) (f : AV) (args : List AV) (st : aB) (K : AV → aB → Prop) : Prop := match f with | .func g dU => aD P g (args ++ dU) st K | _ => False
def xF (P : Program) (m : Bool) (t : TypeId) (x : AV) (st : aB) (K : AV → aB → Prop) (k : Option AV → Prop) : Prop :=
 if m = true then x.cC = false ∧ ∀ b, st b = none → K (.ptr b 0) (st.aC b (.cells x.cells)) else k (vE P t x)
def KA (zs : Option (List AV)) (st : aB) (K : AV → aB → Prop) : Prop := match zs with | some zs => ∀ b, st b = none → K (.ptr b 0) (st.aC b (.cells zs)) | none => False
def IZ (P : Program) (t : TypeId) (p x : AV) (st : aB) (K : AV → aB → Prop) : Prop :=
 match p with
 | .ptr b q => match st b, tI P t with
  | some (.cells cs), some (_, sz) => x.cells.length = sz ∧ q + sz ≤ cs.length ∧ x.cells.all AV.storable = true ∧ K .undef (st.aC b (.cells (aK cs q x.cells)))
  | _, _ => False
 | _ => False
theorem aLW {x : Operand} : bB P mt ops (⟨dst, .move x, type, pos, after, none⟩ :: rest) K φ st = bB P mt ops rest K (φ.put dst (φ.eval x)) st := rfl
theorem aH3 {x : Operand} : bB P mt ops (⟨dst, .assign x, type, pos, after, none⟩ :: rest) K φ st = bB P mt ops rest K (φ.put dst (φ.eval x)) st := rfl
theorem aBE {c x y : Operand} : bB P mt ops (⟨dst, .pick c x y, type, pos, after, none⟩ :: rest) K φ st = jR P mt ops rest K φ dst st (E0 (φ.eval c) (φ.eval x) (φ.eval y)) := by
 rw [kV rfl fun _ => rfl]
 simp only [kG]
 cases φ.eval c <;> rfl
theorem ZT {op : BinOp} {t t' : TypeId} {x y : Operand} : bB P mt ops (⟨dst, .binOp op t x y t', type, pos, after, none⟩ :: rest) K φ st = jR P mt ops rest K φ dst st (d4 P op t (φ.eval x) (φ.eval y)) := kV rfl fun _ => rfl
theorem VX {op : UnOp} {t : TypeId} {x : Operand} : bB P mt ops (⟨dst, .unOp op t x, type, pos, after, none⟩ :: rest) K φ st = jR P mt ops rest K φ dst st (EQ op (φ.eval x)) := kV rfl fun _ => rfl
theorem aJP {x : Operand} : bB P mt ops (⟨dst, .nilCheck x, type, pos, after, none⟩ :: rest) K φ st = jR P mt ops rest K φ dst st (w4 (φ.eval x)) := by
 rw [kV rfl fun _ => rfl]
 try rfl
theorem aG3 {t f : Nat} {x : Operand} : bB P mt ops (⟨dst, .fieldAddr t x f, type, pos, after, none⟩ :: rest) K φ st = jR P mt ops rest K φ dst st (qI P t f (φ.eval x)) := kV rfl fun _ => rfl
theorem aI6 {t : TypeId} {x : Operand} : bB P mt ops (⟨dst, .load t x, type, pos, after, none⟩ :: rest) K φ st = jR P mt ops rest K φ dst st (g7 P st t (φ.eval x)) := kV rfl fun _ => rfl
theorem aD7 {t f : Nat} {x : Operand} : bB P mt ops (⟨dst, .field t x f, type, pos, after, none⟩ :: rest) K φ st = jR P mt ops rest K φ dst st (DU P t f (φ.eval x)) := by
 rw [kV rfl fun _ => rfl]
 try rfl
theorem aCZ {t : TypeId} {x i : Operand} : bB P mt ops (⟨dst, .indexAddr t x i, type, pos, after, none⟩ :: rest) K φ st = jR P mt ops rest K φ dst st (dJ P t (φ.eval x) (φ.eval i)) := kV rfl fun _ => rfl
theorem aCM {t : TypeId} {x i : Operand} : bB P mt ops (⟨dst, .index t x i, type, pos, after, none⟩ :: rest) K φ st = jR P mt ops rest K φ dst st (CC P t (φ.eval x) (φ.eval i)) := kV rfl fun _ => rfl
theorem aEH {t : TypeId} {x : Operand} {lo hi mx : Option Operand} : bB P mt ops (⟨dst, .slice t x lo hi mx, type, pos, after, none⟩ :: rest) K φ st = jR P mt ops rest K φ dst st (gW P φ t (φ.eval x) lo hi mx) := kV rfl fun _ => rfl
theorem RN {x : Operand} {i : Nat} : bB P mt ops (⟨dst, .extract x i, type, pos, after, none⟩ :: rest) K φ st = jR P mt ops rest K φ dst st (y6 (φ.eval x) i) := by
 rw [kV rfl fun _ => rfl]
 try rfl
theorem aBX {g : FuncId} {dU : Array Operand} : bB P mt ops (⟨dst, .makeFunc (.func g) #[] dU, type, pos, after, none⟩ :: rest) K φ st = jR P mt ops rest K φ dst st (JD g (dU.toList.map φ.eval)) := by
 rw [kV rfl fun _ => rfl]
 congr 1
 simp [kG, JD]
theorem aBP {t : TypeId} {ps : Array (Nat × Operand)} : bB P mt ops (⟨dst, .build t ps, type, pos, after, none⟩ :: rest) K φ st = jR P mt ops rest K φ dst st (w7 P φ t ps) := kV rfl fun _ => rfl
theorem TC {t : TypeId} {n : Nat} {ps : Array (Nat × Operand)} : bB P mt ops (⟨dst, .buildSlice t n ps, type, pos, after, none⟩ :: rest) K φ st = jR P mt ops rest K φ dst st (yU P φ t n ps) := kV rfl fun _ => rfl
theorem aES {t u : TypeId} {x : Operand} : bB P mt ops (⟨dst, .convert t u x, type, pos, after, none⟩ :: rest) K φ st = jR P mt ops rest K φ dst st (sT P t u (φ.eval x)) := kV rfl fun _ => rfl
theorem aJ1 {t : TypeId} {x i : Operand} {ok : Bool} : bB P mt ops (⟨dst, .lookup t x i ok, type, pos, after, none⟩ :: rest) K φ st = jR P mt ops rest K φ dst st (oQ P st t ok (φ.eval x) (φ.eval i)) := kV rfl fun _ => rfl
theorem aD9 {x : Operand} {t : TypeId} : bB P mt ops (⟨dst, .call { callee := .builtin .len, args := #[x], argTypes := #[t] }, type, pos, after, none⟩ :: rest) K φ st = jR P mt ops rest K φ dst st (nI P t (φ.eval x)) := kV rfl fun _ => rfl
theorem aCC {f : Operand} {args : List Operand} {ats : Array TypeId} : bB P mt ops (⟨dst, .call { callee := .value f, args := args.toArray, argTypes := ats }, type, pos, after, none⟩ :: rest) K φ st = q9 P (φ.eval f) (args.map φ.eval) st (n9 P mt ops rest K φ dst) := rfl
theorem aHT {x y : Operand} {ts : Array TypeId} : bB P mt ops (⟨dst, .call { callee := .builtin .max, args := #[x, y], argTypes := ts }, type, pos, after, none⟩ :: rest) K φ st = jR P mt ops rest K φ dst st (xB (φ.eval x) (φ.eval y)) := kV rfl fun _ => rfl
theorem TS {x y : Operand} {ts : Array TypeId} : bB P mt ops (⟨dst, .call { callee := .builtin .min, args := #[x, y], argTypes := ts }, type, pos, after, none⟩ :: rest) K φ st = jR P mt ops rest K φ dst st (AX (φ.eval x) (φ.eval y)) := kV rfl fun _ => rfl
theorem aDI {s x : Operand} {t t' : TypeId} : bB P mt ops (⟨dst, .call { callee := .builtin .append, args := #[s, x], argTypes := #[t, t'] }, type, pos, after, none⟩ :: rest) K φ st = (if t = t' then j3 P t st (φ.eval s) (φ.eval x) (n9 P mt ops rest K φ dst) else rF P t t' st (φ.eval s) (φ.eval x) (n9 P mt ops rest K φ dst)) := rfl
theorem aGC {m k : Operand} {t t' : TypeId} : bB P mt ops (⟨dst, .call { callee := .builtin .delete, args := #[m, k], argTypes := #[t, t'] }, type, pos, after, none⟩ :: rest) K φ st = xQ P t st (φ.eval m) (φ.eval k) (n9 P mt ops rest K φ dst) := rfl
theorem aAR {t : TypeId} {x : Operand} : bB P mt ops (⟨dst, .box t x, type, pos, after, none⟩ :: rest) K φ st = xF P (zO mt dst) t (φ.eval x) st (n9 P mt ops rest K φ dst) (jR P mt ops rest K φ dst st) := by
 simp only [bB, jA, eX, xF, n9]
 split
 · rfl
 · cases vE P t (φ.eval x) <;> rfl
theorem aEC {t : TypeId} : bB P mt ops (⟨dst, .alloc t, type, pos, after, none⟩ :: rest) K φ st = KA (zI P t) st (n9 P mt ops rest K φ dst) := rfl
theorem YD {t : TypeId} {p x : Operand} : bB P mt ops (⟨dst, .store t p x, type, pos, after, none⟩ :: rest) K φ st = IZ P t (φ.eval p) (φ.eval x) st (n9 P mt ops rest K φ dst) := rfl
theorem aHF {t : TypeId} : bB P mt ops (⟨dst, .makeMap t none, type, pos, after, none⟩ :: rest) K φ st = ∀ b, st b = none → n9 P mt ops rest K φ dst (.map b) (st.aC b (.map fun _ => none)) := rfl
theorem aFS {t : TypeId} {n c : Operand} : bB P mt ops (⟨dst, .makeSlice t n c, type, pos, after, none⟩ :: rest) K φ st = wL P t st (φ.eval n) (φ.eval c) (n9 P mt ops rest K φ dst) := rfl
theorem V8 {t : TypeId} {m k x : Operand} : bB P mt ops (⟨dst, .mapUpdate t m k x, type, pos, after, none⟩ :: rest) K φ st = rZ P t st (φ.eval m) (φ.eval k) (φ.eval x) (n9 P mt ops rest K φ dst) := rfl
theorem RX {t : Tmp} : φ.eval (.tmp t) = φ t := rfl
theorem aJ8 {k : IntKind} {n : Int} : φ.eval (.const (.int k n)) = .int k n := rfl
theorem aAQ {b : Bool} : φ.eval (.const (.bool b)) = .bool b := rfl
theorem RV : φ.eval (.const (.slice none 0 0)) = .fslice [] := rfl
theorem XE : φ.eval (.const (.pointer none)) = .nilptr := rfl
theorem aID : φ.eval (.const (.map none)) = .nilmap := rfl
theorem aDU {g : FuncId} : φ.eval (.func g) = .func g [] := rfl
theorem aKG {l : List UInt8} : φ.eval (.const (.string ⟨l.toArray⟩)) = if l.length ≤ 9223372036854775807 then .str ⟨l.toArray⟩ else .junk := by
 simp [AF.eval, ofConst, ByteArray.size, maxLen]
theorem WO {d e : Nat} {v : AV} : (φ.aC d v) e = if e = d then v else φ e := rfl
theorem WM {d : Nat} {v : AV} : φ.put (some d) v = φ.aC d v := rfl
theorem aEO {v : AV} : φ.put none v = φ := rfl
theorem aEA {i : Nat} : sJ i [] = AF.bot := rfl
theorem aBH {i : Nat} {a : AV} {as : List AV} : sJ i (a :: as) = (sJ (i + 1) as).aC i a := rfl
theorem R7 {P : Program} {t : TypeId} {k : IntKind} {a b : Int} : d4 P .add t (.int k a) (.int k b) = some (.int k (k.wrap (a + b))) := by simp [d4, j7]
theorem aG2 {P : Program} {t : TypeId} {k : IntKind} {a b : Int} : d4 P .sub t (.int k a) (.int k b) = some (.int k (k.wrap (a - b))) := by simp [d4, j7]
theorem UY {P : Program} {t : TypeId} {k : IntKind} {a b : Int} : d4 P .mul t (.int k a) (.int k b) = some (.int k (k.wrap (a * b))) := by simp [d4, j7]
theorem SL {P : Program} {t : TypeId} {k : IntKind} {a b : Int} : d4 P .quo t (.int k a) (.int k b) = if b = 0 then none else some (.int k (k.wrap (a.tdiv b))) := by simp [d4, j7]
theorem V4 {P : Program} {t : TypeId} {k : IntKind} {a b : Int} : d4 P .rem t (.int k a) (.int k b) = if b = 0 then none else some (.int k (a.tmod b)) := by simp [d4, j7]
theorem aH8 {P : Program} {t : TypeId} {k : IntKind} {a b : Int} : d4 P .eql t (.int k a) (.int k b) = some (.bool (decide (a = b))) := by simp [d4, j7]
theorem aG0 {P : Program} {t : TypeId} {k : IntKind} {a b : Int} : d4 P .neq t (.int k a) (.int k b) = some (.bool (!decide (a = b))) := by simp [d4, j7]
theorem aAN {P : Program} {t : TypeId} {k : IntKind} {a b : Int} : d4 P .lss t (.int k a) (.int k b) = some (.bool (decide (a < b))) := by simp [d4, j7]
theorem aBF {P : Program} {t : TypeId} {k : IntKind} {a b : Int} : d4 P .leq t (.int k a) (.int k b) = some (.bool (decide (a ≤ b))) := by simp [d4, j7]
theorem V3 {P : Program} {t : TypeId} {k : IntKind} {a b : Int} : d4 P .gtr t (.int k a) (.int k b) = some (.bool (decide (b < a))) := by simp [d4, j7]
theorem ZP {P : Program} {t : TypeId} {k : IntKind} {a b : Int} : d4 P .geq t (.int k a) (.int k b) = some (.bool (decide (b ≤ a))) := by simp [d4, j7]
theorem aHO {P : Program} {t : TypeId} {k : IntKind} {a b : Int} : d4 P .xor t (.int k a) (.int k b) = some (.int k (D9 k a b)) := by simp [d4, j7]
theorem aFO {P : Program} {t : TypeId} {k : IntKind} {a b : Int} : d4 P .and t (.int k a) (.int k b) = some (.int k (P2 k a b)) := by simp [d4, j7]
theorem UC {P : Program} {t : TypeId} {k : IntKind} {a b : Int} : d4 P .or t (.int k a) (.int k b) = some (.int k (N5 k a b)) := by simp [d4, j7]
theorem aHB {k : IntKind} {a b : Int} : xB (.int k a) (.int k b) = some (.int k (if a < b then b else a)) := by simp [xB]
theorem SR {k : IntKind} {a b : Int} : AX (.int k a) (.int k b) = some (.int k (if b < a then b else a)) := by simp [AX]
theorem aIK {P : Program} {t : TypeId} {a b : ByteArray} : d4 P .eql t (.str a) (.str b) = some (.bool (decide (a = b))) := by simp [d4, j7]
theorem aCA {P : Program} {t : TypeId} {a b : ByteArray} : d4 P .neq t (.str a) (.str b) = some (.bool (!decide (a = b))) := by simp [d4, j7]
theorem XV {P : Program} {t : TypeId} {a b : ByteArray} : d4 P .add t (.str a) (.str b) = if a.size + b.size ≤ maxLen then some (.str (a ++ b)) else none := by simp [d4, j7]
theorem VO {P : Program} {t : TypeId} {a b : ByteArray} : d4 P .lss t (.str a) (.str b) = some (.bool (Op.bytesLess a.toList b.toList)) := by simp [d4, j7]
theorem aDV {P : Program} {t : TypeId} {a b : ByteArray} : d4 P .gtr t (.str a) (.str b) = some (.bool (!(Op.bytesLess a.toList b.toList || decide (a = b)))) := by simp [d4, j7]
theorem TE {P : Program} {t : TypeId} {a b : Bool} (h : P.underlying t = some .bool) : d4 P .eql t (.bool a) (.bool b) = some (.bool (a == b)) := by simp [d4, h]
theorem Y4 {P : Program} {t : TypeId} {a b : Bool} (h : P.underlying t = some .bool) : d4 P .neq t (.bool a) (.bool b) = some (.bool (!(a == b))) := by simp [d4, h]
theorem XJ {b : Bool} : EQ .not (.bool b) = some (.bool (!b)) := rfl
theorem Z3 {k : IntKind} {n : Int} : EQ .neg (.int k n) = some (.int k (k.wrap (0 - n))) := rfl
end
end
@[congr] theorem a04 {P : Program} {N : Nat} {mt : List Nat} {c : Code} {Q : Exit → AF → aB → Prop} {φ φ' : AF} {st st' : aB} (h1 : φ = φ') (h2 : st = st') : fT P N mt c Q φ st = fT P N mt c Q φ' st' := by rw [h1, h2]
@[congr] theorem a0H {P : Program} {mt : List Nat} {ops : Array Oper} {l : List Oper} {K : AF → aB → Prop} {φ φ' : AF} {st st' : aB} (h1 : φ = φ') (h2 : st = st') : bB P mt ops l K φ st = bB P mt ops l K φ' st' := by rw [h1, h2]
@[congr] theorem a1K {P : Program} {mt : List Nat} {ops : Array Oper} {l : List Oper} {K : AF → aB → Prop} {φ : AF} {st : aB} {dst : Option Tmp} {x x' : Option AV} (h1 : x = x') : jR P mt ops l K φ dst st x = jR P mt ops l K φ dst st x' := by rw [h1]
@[congr] theorem a2I {P : Program} {mt : List Nat} {ops : Array Oper} {o : Oper} {l : List Oper} {K : AF → aB → Prop} {φ : AF} {st : aB} {x x' : Option Bool} (h1 : x = x') : t8 P mt ops o l K φ st x = t8 P mt ops o l K φ st x' := by rw [h1]
@[congr] theorem a1R {P : Program} {mt : List Nat} {ops : Array Oper} {l : List Oper} {K : AF → aB → Prop} {φ : AF} {dst : Option Tmp} {r r' : AV} {st st' : aB} (h1 : r = r') (h2 : st = st') : n9 P mt ops l K φ dst r st = n9 P mt ops l K φ dst r' st' := by rw [h1, h2]
@[congr] theorem a1G {c c' : AV} {k₁ k₂ : AF → aB → Prop} {φ : AF} {st : aB} (h1 : c = c') : u7 c k₁ k₂ φ st = u7 c' k₁ k₂ φ st := by rw [h1]
@[congr] theorem a06 {P : Program} {N : Nat} {c : Code} {Q : Exit → AF → aB → Prop} {φ φ' : AF} {st st' : aB} (h1 : φ = φ') (h2 : st = st') : gH P N c Q φ st = gH P N c Q φ' st' := by rw [h1, h2]
@[congr] theorem a1C {P : Program} {g : FuncId} {args args' : List AV} {st st' : aB} {K : AV → aB → Prop} (h1 : args = args') (h2 : st = st') : aD P g args st K = aD P g args' st' K := by rw [h1, h2]
@[congr] theorem a2B {P : Program} {f f' : AV} {args args' : List AV} {st st' : aB} {K : AV → aB → Prop} (h0 : f = f') (h1 : args = args') (h2 : st = st') : q9 P f args st K = q9 P f' args' st' K := by rw [h0, h1, h2]
@[congr] theorem a1Y {P : Program} {m m' : Bool} {t : TypeId} {x x' : AV} {st st' : aB} {K : AV → aB → Prop} {k : Option AV → Prop} (h0 : m = m') (h1 : x = x') (h2 : st = st') : xF P m t x st K k = xF P m' t x' st' K k := by rw [h0, h1, h2]
@[congr] theorem a03 {zs zs' : Option (List AV)} {st st' : aB} {K : AV → aB → Prop} (h1 : zs = zs') (h2 : st = st') : KA zs st K = KA zs' st' K := by rw [h1, h2]
@[congr] theorem a0N {P : Program} {t : TypeId} {p p' x x' : AV} {st st' : aB} {K : AV → aB → Prop} (h0 : p = p') (h1 : x = x') (h2 : st = st') : IZ P t p x st K = IZ P t p' x' st' K := by rw [h0, h1, h2]
@[congr] theorem a1Q {x x' y y' : AV} (h0 : x = x') (h1 : y = y') : xB x y = xB x' y' := by rw [h0, h1]
@[congr] theorem a1T {P : Program} {t t' : TypeId} {s s' x x' : AV} {st st' : aB} {K : AV → aB → Prop} (h0 : s = s') (h1 : x = x') (h2 : st = st') : rF P t t' st s x K = rF P t t' st' s' x' K := by rw [h0, h1, h2]
@[congr] theorem a1X {P : Program} {t : TypeId} {s s' x x' : AV} {st st' : aB} {K : AV → aB → Prop} (h0 : s = s') (h1 : x = x') (h2 : st = st') : j3 P t st s x K = j3 P t st' s' x' K := by rw [h0, h1, h2]
@[congr] theorem a0E {P : Program} {t : TypeId} {s s' x x' : AV} {st st' : aB} {K : AV → aB → Prop} (h0 : s = s') (h1 : x = x') (h2 : st = st') : wL P t st s x K = wL P t st' s' x' K := by rw [h0, h1, h2]
@[congr] theorem a1E {P : Program} {t : TypeId} {m m' s s' x x' : AV} {st st' : aB} {K : AV → aB → Prop} (h : m = m') (h0 : s = s') (h1 : x = x') (h2 : st = st') : rZ P t st m s x K = rZ P t st' m' s' x' K := by rw [h, h0, h1, h2]
theorem aIQ {P : Program} {g : FuncId} {dU args : List AV} {st : aB} {K : AV → aB → Prop} : q9 P (.func g dU) args st K = aD P g (args ++ dU) st K := rfl
theorem SG {P : Program} {t : TypeId} {x : AV} {st : aB} {K : AV → aB → Prop} {k : Option AV → Prop} : xF P false t x st K k = k (vE P t x) := by simp [xF]
theorem aGJ {P : Program} {t : TypeId} {x : AV} {st : aB} {K : AV → aB → Prop} {k : Option AV → Prop} : xF P true t x st K k = (x.cC = false ∧ ∀ b, st b = none → K (.ptr b 0) (st.aC b (.cells x.cells))) := by simp [xF]
theorem aAS {zs : List AV} {st : aB} {K : AV → aB → Prop} : KA (some zs) st K = ∀ b, st b = none → K (.ptr b 0) (st.aC b (.cells zs)) := rfl
theorem UO {P : Program} {t : TypeId} {b q : Nat} {x : AV} {st : aB} {K : AV → aB → Prop} : IZ P t (.ptr b q) x st K = match st b, tI P t with
 | some (.cells cs), some (_, sz) => x.cells.length = sz ∧ q + sz ≤ cs.length ∧ x.cells.all AV.storable = true ∧ K .undef (st.aC b (.cells (aK cs q x.cells)))
 | _, _ => False := rfl
def jJ : Op → Bool
 | .alloc _ => true
 | _ => false
def iV : Op → Bool
 | .store _ _ _ => true
 | _ => false
def zK (P : Program) (mt : List Nat) (ops : Array Oper) (rest : List Oper) (K : AF → aB → Prop) (φ : AF) (st : aB) : Prop := fX P mt ops rest K φ st
def zF (P : Program) (mt : List Nat) (ops : Array Oper) (rest : List Oper) (K : AF → aB → Prop) (φ : AF) (d : Nat) (st : aB) (r : AV) : Prop := fX P mt ops rest K (φ.aC d r) st
def u9 (x : AV) (K : AV → Prop) : Option (List AV) → Option (Bool × Nat) → Prop
 | some zs, some (_, sz) => zs.length = sz ∧ x.width = sz ∧ x.cells.all AV.storable = true ∧ x.cC = false ∧ K (.pptr x)
 | _, _ => False
def zM (P : Program) (mt : List Nat) (ops : Array Oper) (o : Oper) (s : Oper) (rest : List Oper) (K : AF → aB → Prop) (φ : AF) (st : aB) (d : Nat) (t : TypeId) (x : AV) : Bool → Prop
 | true => bB P mt ops [o] (zK P mt ops (s :: rest) K) φ st
 | false => u9 x (zF P mt ops rest K φ d st) (zI P t) (tI P t)
section
variable {P : Program} {mt : List Nat} {ops : Array Oper} {rest : List Oper} {K : AF → aB → Prop} {φ : AF} {st : aB} {dst AQ : Option Tmp} {type sW : TypeId} {pos pos' : String} {after tK : Array Edge} {g g' : Option (Nat × Bool)} {op op' : Op}
theorem IT : zK P mt ops rest K φ st = fX P mt ops rest K φ st := rfl
theorem US {d : Nat} {r : AV} : zF P mt ops rest K φ d st r = fX P mt ops rest K (φ.aC d r) st := rfl
theorem ZG : fX P mt ops [] K φ st = K φ st := by rw [fX]
theorem IY (h : jJ op = false) : fX P mt ops (⟨dst, op, type, pos, after, g⟩ :: rest) K φ st = bB P mt ops [⟨dst, op, type, pos, after, g⟩] (zK P mt ops rest K) φ st := by
 rw [fX]
 · rfl
 · intro d t ty ps af t' d' x ty' ps' af' r e1 e2
   cases e1
   cases h
 · intro d t ty ps af e y ty2 ps2 af2 t' d' x ty' ps' af' r e1 e2
   cases e1
   cases h
theorem HR {t : TypeId} {x : AV} {k : AV → Prop} : AZ P t x k = u9 x k (zI P t) (tI P t) := by
 unfold AZ u9
 simp only [uK]
 cases zI P t <;> cases tI P t <;> rfl
theorem aIL {x : AV} {k : AV → Prop} {zs : List AV} {ag : Bool} {sz : Nat} : u9 x k (some zs) (some (ag, sz)) = (zs.length = sz ∧ x.width = sz ∧ x.cells.all AV.storable = true ∧ x.cC = false ∧ k (.pptr x)) := rfl
theorem J9 {d : Nat} {t : TypeId} {x : Operand} : fX P mt ops (⟨some d, .alloc t, type, pos, after, none⟩ :: ⟨none, .store t (.tmp d) x, sW, pos', tK, none⟩ :: rest) K φ st =
 zM P mt ops ⟨some d, .alloc t, type, pos, after, none⟩ ⟨none, .store t (.tmp d) x, sW, pos', tK, none⟩ rest K φ st d t (φ.eval x) (mt.contains d || oB x d) := by
 rw [fX]
 cases h : (mt.contains d || oB x d) with
 | true =>
  rw [aE (by simp)]
  show _ = bB P mt ops _ (fun φ' st' => zK P mt ops _ K φ' st') φ st
  simp only [IT, IY (K := K) (rest := rest) (op := .store t (.tmp d) x) rfl]
  rfl
 | false =>
  rw [aG ⟨rfl, rfl, rfl⟩, HR]
  try rfl
theorem aB2 {o s : Oper} {d : Nat} {t : TypeId} {x : AV} : zM P mt ops o s rest K φ st d t x true = bB P mt ops [o] (zK P mt ops (s :: rest) K) φ st := rfl
theorem UJ {o s : Oper} {d : Nat} {t : TypeId} {x : AV} : zM P mt ops o s rest K φ st d t x false = u9 x (zF P mt ops rest K φ d st) (zI P t) (tI P t) := rfl
def EU (P : Program) (mt : List Nat) (ops : Array Oper) (o : Oper) (os : List Oper) (rest : List Oper) (K : AF → aB → Prop) (φ φ' : AF) (st : aB) (d : Nat) (t : TypeId) (x : AV) : Bool → Prop
 | true => bB P mt ops [o] (zK P mt ops (os ++ rest) K) φ st
 | false => u9 x (zF P mt ops rest K φ' d st) (zI P t) (tI P t)
theorem aJR {o : Oper} {os : List Oper} {φ' : AF} {d : Nat} {t : TypeId} {x : AV} : EU P mt ops o os rest K φ φ' st d t x false = u9 x (zF P mt ops rest K φ' d st) (zI P t) (tI P t) := rfl
theorem aDF {o : Oper} {os : List Oper} {φ' : AF} {d : Nat} {t : TypeId} {x : AV} : EU P mt ops o os rest K φ φ' st d t x true = bB P mt ops [o] (zK P mt ops (os ++ rest) K) φ st := rfl
theorem aWF {d e : Nat} {t : TypeId} {x y : Operand} {type2 : TypeId} {tT : String} {E2 : Array Edge} : fX P mt ops (⟨some d, .alloc t, type, pos, after, none⟩ :: ⟨some e, .assign y, type2, tT, E2, none⟩ :: ⟨none, .store t (.tmp d) x, sW, pos', tK, none⟩ :: rest) K φ st =
 EU P mt ops ⟨some d, .alloc t, type, pos, after, none⟩ [⟨some e, .assign y, type2, tT, E2, none⟩, ⟨none, .store t (.tmp d) x, sW, pos', tK, none⟩] rest K φ (φ.aC e (φ.eval y)) st d t ((φ.aC e (φ.eval y)).eval x) (mt.contains d || oB x d || oB y d || d == e) := by
 rw [fX]
 cases h : (mt.contains d || oB x d || oB y d || d == e) with
 | true =>
  rw [aE (by simp)]
  show _ = bB P mt ops _ (fun φ' st' => zK P mt ops _ K φ' st') φ st
  simp only [IT, fF, eR, IY (K := K) (op := .assign y) rfl]
  rfl
 | false =>
  rw [aG ⟨rfl, rfl, rfl⟩, HR]
  try rfl
def jU : Op → Bool
 | .assign _ => true
 | _ => false
theorem RM {t : TypeId} (h : iV op' = false) (h2 : jU op' = false) : fX P mt ops (⟨dst, .alloc t, type, pos, after, g⟩ :: ⟨AQ, op', sW, pos', tK, g'⟩ :: rest) K φ st = bB P mt ops [⟨dst, .alloc t, type, pos, after, g⟩] (zK P mt ops (⟨AQ, op', sW, pos', tK, g'⟩ :: rest) K) φ st := by
 rw [fX]
 · rfl
 · intro d t ty ps af t' d' x ty' ps' af' r e1 e2
   cases e2
   cases h
 · intro d t ty ps af e y ty2 ps2 af2 t' d' x ty' ps' af' r e1 e2
   cases e2
   cases h2
theorem W4 {t : TypeId} : fX P mt ops [⟨dst, .alloc t, type, pos, after, g⟩] K φ st = bB P mt ops [⟨dst, .alloc t, type, pos, after, g⟩] (zK P mt ops [] K) φ st := by
 rw [fX]
 · rfl
 · intro d t ty ps af t' d' x ty' ps' af' r e1 e2
   cases e2
 · intro d t ty ps af e y ty2 ps2 af2 t' d' x ty' ps' af' r e1 e2
   cases e2
theorem aER {t : TypeId} {y : Operand} : fX P mt ops [⟨dst, .alloc t, type, pos, after, g⟩, ⟨AQ, .assign y, sW, pos', tK, g'⟩] K φ st = bB P mt ops [⟨dst, .alloc t, type, pos, after, g⟩] (zK P mt ops [⟨AQ, .assign y, sW, pos', tK, g'⟩] K) φ st := by
 rw [fX]
 · rfl
 · intro d t ty ps af t' d' x ty' ps' af' r e1 e2
   cases e2
 · intro d t ty ps af e y ty2 ps2 af2 t' d' x ty' ps' af' r e1 e2
   cases e2
theorem TP {t : TypeId} {y : Operand} {aH9 : Option Tmp} {op2 : Op} {type2 : TypeId} {tT : String} {E2 : Array Edge} {g2 : Option (Nat × Bool)} (h : iV op2 = false) : fX P mt ops (⟨dst, .alloc t, type, pos, after, g⟩ :: ⟨AQ, .assign y, sW, pos', tK, g'⟩ :: ⟨aH9, op2, type2, tT, E2, g2⟩ :: rest) K φ st = bB P mt ops [⟨dst, .alloc t, type, pos, after, g⟩] (zK P mt ops (⟨AQ, .assign y, sW, pos', tK, g'⟩ :: ⟨aH9, op2, type2, tT, E2, g2⟩ :: rest) K) φ st := by
 rw [fX]
 · rfl
 · intro d t ty ps af t' d' x ty' ps' af' r e1 e2
   cases e2
 · intro d t ty ps af e y ty2 ps2 af2 t' d' x ty' ps' af' r e1 e2
   cases e2
   cases h
theorem aJA {d e : Nat} : oB (.tmp e) d = (e == d) := rfl
theorem aHG {v : Value} {d : Nat} : oB (.const v) d = false := rfl
theorem aJT {x : Operand} : jJ (.move x) = false := rfl
theorem TQ {x : Operand} : iV (.move x) = false := rfl
theorem UR {x : Operand} : jJ (.assign x) = false := rfl
theorem aFD {x : Operand} : iV (.assign x) = false := rfl
theorem aGN {c x y : Operand} : jJ (.pick c x y) = false := rfl
theorem W1 {c x y : Operand} : iV (.pick c x y) = false := rfl
theorem aHC {op : BinOp} {t : TypeId} {x y : Operand} {t' : TypeId} : jJ (.binOp op t x y t') = false := rfl
theorem aB3 {op : BinOp} {t : TypeId} {x y : Operand} {t' : TypeId} : iV (.binOp op t x y t') = false := rfl
theorem aLY {op : UnOp} {t : TypeId} {x : Operand} : jJ (.unOp op t x) = false := rfl
theorem X2 {op : UnOp} {t : TypeId} {x : Operand} : iV (.unOp op t x) = false := rfl
theorem aAV {x : Operand} : jJ (.nilCheck x) = false := rfl
theorem aII {x : Operand} : iV (.nilCheck x) = false := rfl
theorem aAZ {t f : Nat} {x : Operand} : jJ (.fieldAddr t x f) = false := rfl
theorem T7 {t f : Nat} {x : Operand} : iV (.fieldAddr t x f) = false := rfl
theorem XF {t : TypeId} {x : Operand} : jJ (.load t x) = false := rfl
theorem aLS {t : TypeId} {x : Operand} : iV (.load t x) = false := rfl
theorem aDY {t : TypeId} {p x : Operand} : jJ (.store t p x) = false := rfl
theorem UB {t f : Nat} {x : Operand} : jJ (.field t x f) = false := rfl
theorem aFC {t f : Nat} {x : Operand} : iV (.field t x f) = false := rfl
theorem aIP {t : TypeId} {x i : Operand} : jJ (.indexAddr t x i) = false := rfl
theorem aJL {t : TypeId} {x i : Operand} : iV (.indexAddr t x i) = false := rfl
theorem aBA {t : TypeId} {x i : Operand} : jJ (.index t x i) = false := rfl
theorem XT {t : TypeId} {x i : Operand} : iV (.index t x i) = false := rfl
theorem aCI {t : TypeId} {x : Operand} {lo hi mx : Option Operand} : jJ (.slice t x lo hi mx) = false := rfl
theorem aK6 {t : TypeId} {x : Operand} {lo hi mx : Option Operand} : iV (.slice t x lo hi mx) = false := rfl
theorem T8 {x : Operand} {i : Nat} : jJ (.extract x i) = false := rfl
theorem aFE {x : Operand} {i : Nat} : iV (.extract x i) = false := rfl
theorem aB1 {t : TypeId} {ps : Array (Nat × Operand)} : jJ (.build t ps) = false := rfl
theorem aIH {t : TypeId} {ps : Array (Nat × Operand)} : iV (.build t ps) = false := rfl
theorem aKI {t : TypeId} {n : Nat} {ps : Array (Nat × Operand)} : jJ (.buildSlice t n ps) = false := rfl
theorem aEM {t : TypeId} {n : Nat} {ps : Array (Nat × Operand)} : iV (.buildSlice t n ps) = false := rfl
theorem aGO {t u : TypeId} {x : Operand} : jJ (.convert t u x) = false := rfl
theorem aF4 {t u : TypeId} {x : Operand} : iV (.convert t u x) = false := rfl
theorem aEY {t : TypeId} {x i : Operand} {ok : Bool} : jJ (.lookup t x i ok) = false := rfl
theorem aGP {t : TypeId} {x i : Operand} {ok : Bool} : iV (.lookup t x i ok) = false := rfl
theorem aB7 {c : _} : jJ (.call c) = false := rfl
theorem aLN {c : _} : iV (.call c) = false := rfl
theorem aIS {t : TypeId} {x : Operand} : jJ (.box t x) = false := rfl
theorem aDC {t : TypeId} {x : Operand} : iV (.box t x) = false := rfl
theorem YT {t : _} {x : _} : jJ (.makeMap t x) = false := rfl
theorem aGD {t : _} {x : _} : iV (.makeMap t x) = false := rfl
theorem RT {t : TypeId} {n c : Operand} : jJ (.makeSlice t n c) = false := rfl
theorem aCV {t : TypeId} {n c : Operand} : iV (.makeSlice t n c) = false := rfl
theorem X0 {t : TypeId} {m k x : Operand} : jJ (.mapUpdate t m k x) = false := rfl
theorem X5 {t : TypeId} {m k x : Operand} : iV (.mapUpdate t m k x) = false := rfl
theorem VB {f : _} {a : _} {b : _} : jJ (.makeFunc f a b) = false := rfl
theorem aIR {f : _} {a : _} {b : _} : iV (.makeFunc f a b) = false := rfl
theorem RY {t : TypeId} : iV (.alloc t) = false := rfl
theorem SH {x : Operand} : jU (.move x) = false := rfl
theorem aKX {c x y : Operand} : jU (.pick c x y) = false := rfl
theorem aLK {op : BinOp} {t : TypeId} {x y : Operand} {t' : TypeId} : jU (.binOp op t x y t') = false := rfl
theorem aLJ {op : UnOp} {t : TypeId} {x : Operand} : jU (.unOp op t x) = false := rfl
theorem aIX {x : Operand} : jU (.nilCheck x) = false := rfl
theorem aBI {t f : Nat} {x : Operand} : jU (.fieldAddr t x f) = false := rfl
theorem aEB {t : TypeId} {x : Operand} : jU (.load t x) = false := rfl
theorem VP {t f : Nat} {x : Operand} : jU (.field t x f) = false := rfl
theorem aCT {t : TypeId} {x i : Operand} : jU (.indexAddr t x i) = false := rfl
theorem aAJ {t : TypeId} {x i : Operand} : jU (.index t x i) = false := rfl
theorem TY {t : TypeId} {x : Operand} {lo hi mx : Option Operand} : jU (.slice t x lo hi mx) = false := rfl
theorem aGY {x : Operand} {i : Nat} : jU (.extract x i) = false := rfl
theorem aCF {t : TypeId} {ps : Array (Nat × Operand)} : jU (.build t ps) = false := rfl
theorem WB {t : TypeId} {n : Nat} {ps : Array (Nat × Operand)} : jU (.buildSlice t n ps) = false := rfl
theorem aAH {t u : TypeId} {x : Operand} : jU (.convert t u x) = false := rfl
theorem XZ {t : TypeId} {x i : Operand} {ok : Bool} : jU (.lookup t x i ok) = false := rfl
theorem aJK {c : _} : jU (.call c) = false := rfl
theorem RH {t : TypeId} {x : Operand} : jU (.box t x) = false := rfl
theorem aH1 {t : _} {x : _} : jU (.makeMap t x) = false := rfl
theorem RP {t : TypeId} {n c : Operand} : jU (.makeSlice t n c) = false := rfl
theorem aAI {t : TypeId} {m k x : Operand} : jU (.mapUpdate t m k x) = false := rfl
theorem T6 {f : _} {a : _} {b : _} : jU (.makeFunc f a b) = false := rfl
theorem aJO {t : TypeId} : jU (.alloc t) = false := rfl
@[congr] theorem a1A {o : Oper} {os : List Oper} {φ' φ2 φ2' : AF} {st' : aB} {d : Nat} {t : TypeId} {x x' : AV} {b b' : Bool} (h1 : φ = φ') (h0 : φ2 = φ2') (h2 : st = st') (h3 : x = x') (h4 : b = b') : EU P mt ops o os rest K φ φ2 st d t x b = EU P mt ops o os rest K φ' φ2' st' d t x' b' := by rw [h1, h0, h2, h3, h4]
@[congr] theorem a0J {x x' : AV} {k : AV → Prop} {a a' : Option (List AV)} {b b' : Option (Bool × Nat)} (h0 : x = x') (h1 : a = a') (h2 : b = b') : u9 x k a b = u9 x' k a' b' := by rw [h0, h1, h2]
@[congr] theorem a14 {o s : Oper} {φ' : AF} {st' : aB} {d : Nat} {t : TypeId} {x x' : AV} {b b' : Bool} (h1 : φ = φ') (h2 : st = st') (h3 : x = x') (h4 : b = b') : zM P mt ops o s rest K φ st d t x b = zM P mt ops o s rest K φ' st' d t x' b' := by rw [h1, h2, h3, h4]
@[congr] theorem a2K {l : List Oper} {Q : Exit → AF → aB → Prop} {φ' : AF} {st' : aB} {b b' : Bool} (h1 : φ = φ') (h2 : st = st') (h3 : b = b') : FU P mt l Q φ st b = FU P mt l Q φ' st' b' := by rw [h1, h2, h3]
end
end Go.AW
