/- The rules by which the code is evaluated: equations for simp. -/
import Derived.Test.YtpficjlageaebaaGreatDoorSpfc
set_option linter.unusedSimpArgs false
set_option linter.unusedVariables false
set_option maxRecDepth 100000
namespace Go.AW
section
variable {P : Program} {N : Nat} {mt : List Nat} {Q : Exit → AF → aB → Prop} {φ : AF} {st : aB} {x y : Code} {ops : Array Oper} {id : Nat}
theorem aIU : fU P N mt .skip Q φ st = Q .normal φ st := rfl
theorem aKX : fU P N mt (.seq x y) Q φ st = fU P N mt x (DA (fU P N mt y Q) Q) φ st := rfl
def F3 (P : Program) (mt : List Nat) (l : List Oper) (Q : Exit → AF → aB → Prop) (φ : AF) (st : aB) : Bool → Prop
 | true => fW P mt l.toArray l (Q .normal) φ st
 | false => bB P mt l.toArray l (Q .normal) φ st
theorem aAA {l : List Oper} : fU P N mt (.region id l.toArray false) Q φ st = F3 P mt l Q φ st (mt.contains 1000000) := by
 simp only [fU, jM, d6]
 cases mt.contains 1000000 <;> rfl
theorem ZW {l : List Oper} : F3 P mt l Q φ st true = fW P mt l.toArray l (Q .normal) φ st := rfl
theorem aI6 {l : List Oper} : F3 P mt l Q φ st false = bB P mt l.toArray l (Q .normal) φ st := rfl
theorem aB7 : fU P N mt (.region id ops true) Q φ st = gH P N (.region id ops true) Q φ st := by simp [fU]
theorem aF5 {c : Operand} : fU P N mt (.cond c x y) Q φ st = tP (φ.eval c) (fU P N mt x Q) (fU P N mt y Q) φ st := rfl
theorem aEX : fU P N mt (.block id x) Q φ st = fU P N mt x (A2 id Q) φ st := rfl
theorem Y2 : fU P N mt (.loop x) Q φ st = gH P N (.loop x) Q φ st := rfl
theorem Y5 : fU P N mt (.exit id) Q φ st = Q (.exit id) φ st := rfl
theorem U4 : fU P N mt .ret Q φ st = Q .ret φ st := rfl
theorem aAZ {k₁ k₂ : AF → aB → Prop} : tP (.bool true) k₁ k₂ φ st = k₁ φ st := by simp [tP]
theorem UO {k₁ k₂ : AF → aB → Prop} : tP (.bool false) k₁ k₂ φ st = k₂ φ st := by simp [tP]
theorem aET {k : AF → aB → Prop} : DA k Q .normal φ st = k φ st := rfl
theorem aKT {k : AF → aB → Prop} : DA k Q (.exit id) φ st = Q (.exit id) φ st := rfl
theorem aFP {k : AF → aB → Prop} : DA k Q .ret φ st = Q .ret φ st := rfl
theorem aAM : A2 id Q .normal φ st = Q .normal φ st := rfl
theorem aG2 {i : Nat} : A2 id Q (.exit i) φ st = if i = id then Q .normal φ st else Q (.exit i) φ st := rfl
theorem aA7 : A2 id Q .ret φ st = Q .ret φ st := rfl
theorem aA1 {k : AF → aB → Prop} : n0 k Q .normal φ st = k φ st := rfl
theorem aL2 {k : AF → aB → Prop} : n0 k Q (.exit id) φ st = Q (.exit id) φ st := rfl
theorem XP {k : AF → aB → Prop} : n0 k Q .ret φ st = Q .ret φ st := rfl
def l8 (P : Program) (rs : List ResultVar) (K : AV → aB → Prop) (φ : AF) (st : aB) : Prop :=
 match pL P φ st rs with
 | some xs => EP K st xs
 | none => False
theorem TB {rs : Array ResultVar} {K : AV → aB → Prop} : DI P rs K .ret φ st = l8 P rs.toList K φ st := rfl
theorem aIR {rs : Array ResultVar} {K : AV → aB → Prop} : DI P rs K .normal φ st = l8 P rs.toList K φ st := rfl
theorem aBM {t : Tmp} {K : AV → aB → Prop} : l8 P [.tmp t] K φ st = K (φ t) st := rfl
theorem XJ {K : AV → aB → Prop} : l8 P [] K φ st = K (.tup []) st := by simp [l8, pL, EP, j8]
theorem WA {t u : Tmp} {K : AV → aB → Prop} : l8 P [.tmp t, .tmp u] K φ st = (j8 [φ t, φ u] = true ∧ K (.tup [φ t, φ u]) st) := rfl
theorem aGC {t u v : Tmp} {K : AV → aB → Prop} : l8 P [.tmp t, .tmp u, .tmp v] K φ st = (j8 [φ t, φ u, φ v] = true ∧ K (.tup [φ t, φ u, φ v]) st) := rfl
theorem TC {t u v w : Tmp} {K : AV → aB → Prop} : l8 P [.tmp t, .tmp u, .tmp v, .tmp w] K φ st = (j8 [φ t, φ u, φ v, φ w] = true ∧ K (.tup [φ t, φ u, φ v, φ w]) st) := rfl
def H7 (k : AV → Prop) : Option AV → Prop
 | some r => k r
 | none => False
theorem TM {p : Tmp} {t : TypeId} {K : AV → aB → Prop} : l8 P [.cell p t] K φ st = H7 (fun r => K r st) (gZ P st t (φ p)) := by
 simp only [l8, pL, CQ]
 cases gZ P st t (φ p) <;> rfl
theorem aA4 {p u : Tmp} {t : TypeId} {K : AV → aB → Prop} : l8 P [.cell p t, .tmp u] K φ st = H7 (fun r => j8 [r, φ u] = true ∧ K (.tup [r, φ u]) st) (gZ P st t (φ p)) := by
 simp only [l8, pL, CQ]
 cases gZ P st t (φ p) <;> rfl
theorem U7 {u p : Tmp} {t : TypeId} {K : AV → aB → Prop} : l8 P [.tmp u, .cell p t] K φ st = H7 (fun r => j8 [φ u, r] = true ∧ K (.tup [φ u, r]) st) (gZ P st t (φ p)) := by
 simp only [l8, pL, CQ]
 cases gZ P st t (φ p) <;> rfl
theorem XB {k : AV → Prop} {r : AV} : H7 k (some r) = k r := rfl
def jO (P : Program) (mt : List Nat) (ops : Array Oper) (rest : List Oper) (K : AF → aB → Prop) (φ : AF) (dst : Option Tmp) (st : aB) : Option AV → Prop
 | some r => bB P mt ops rest K (φ.put dst r) st
 | none => False
def n7 (P : Program) (mt : List Nat) (ops : Array Oper) (rest : List Oper) (K : AF → aB → Prop) (φ : AF) (dst : Option Tmp) (r : AV) (st : aB) : Prop := bB P mt ops rest K (φ.put dst r) st
def vE (P : Program) (mt : List Nat) (ops : Array Oper) (o : Oper) (rest : List Oper) (K : AF → aB → Prop) (φ : AF) (st : aB) : Option Bool → Prop
 | some true => bB P mt ops ({ o with guard := none } :: rest) K φ st
 | some false => bB P mt ops rest K (φ.put o.dst .undef) st
 | none => False
def gd (ops : Array Oper) (φ : AF) (j : Nat) (want : Bool) : Option Bool :=
 match (ops[j]?).bind (·.dst) with
 | none => some false
 | some d => match φ d with
  | .bool b => some (b == want)
  | .undef => some false
  | _ => none
section
variable {rest : List Oper} {K : AF → aB → Prop} {dst : Option Tmp} {type : TypeId} {pos : String} {after : Array Edge}
theorem aHB : bB P mt ops [] K φ st = K φ st := rfl
theorem aKJ {op : Op} {j : Nat} {want : Bool} : bB P mt ops (⟨dst, op, type, pos, after, some (j, want)⟩ :: rest) K φ st = vE P mt ops ⟨dst, op, type, pos, after, some (j, want)⟩ rest K φ st (gd ops φ j want) := by
 simp only [bB]
 have h1 : iY ops φ ⟨dst, op, type, pos, after, some (j, want)⟩ = gd ops φ j want := rfl
 rw [h1]
 cases gd ops φ j want with
 | none => rfl
 | some b => cases b <;> simp [vE, bB, iY, eX, kI]
theorem ZU {r : AV} : n7 P mt ops rest K φ dst r st = bB P mt ops rest K (φ.put dst r) st := rfl
theorem VZ {r : AV} : jO P mt ops rest K φ dst st (some r) = bB P mt ops rest K (φ.put dst r) st := rfl
theorem RX {op : Op} {g : Option (Nat × Bool)} : vE P mt ops ⟨dst, op, type, pos, after, g⟩ rest K φ st (some true) = bB P mt ops (⟨dst, op, type, pos, after, none⟩ :: rest) K φ st := rfl
theorem X8 {op : Op} {g : Option (Nat × Bool)} : vE P mt ops ⟨dst, op, type, pos, after, g⟩ rest K φ st (some false) = bB P mt ops rest K (φ.put dst .undef) st := rfl
theorem kU {o : Oper} (hg : o.guard = none) (e : ∀ K', eX P mt φ st o K' = match kI P φ st o with | some r => K' r st | none => False) : bB P mt ops (o :: rest) K φ st = jO P mt ops rest K φ o.dst st (kI P φ st o) := by
 simp only [bB, iY, hg, e]
 cases kI P φ st o <;> rfl
def EL : AV → AV → AV → Option AV
 | .bool b, x, y => some (if b then x else y)
 | _, _, _ => none
def wM : AV → Option AV
 | .ptr b q => some (.ptr b q)
 | .pptr e => some (.pptr e)
 | _ => none
def F9 (P : Program) (t f : Nat) (x : AV) : Option AV := match fI P t f, x with | some (off, ag, sz), .agg cs => sub ag cs off sz | _, _ => none
def yQ (x : AV) (i : Nat) : Option AV := match x with | .tup vs => vs[i]? | _ => none
def J2 (g : FuncId) (cs : List AV) : Option AV := if j8 cs = true then some (.func g cs) else none
def rI (P : Program) (f : AV) (args : List AV) (st : aB) (K : AV → aB → Prop) : Prop := match f with | .func g dU => aD P g (args ++ dU) st K | _ => False
def wS (P : Program) (m : Bool) (t : TypeId) (x : AV) (st : aB) (K : AV → aB → Prop) (k : Option AV → Prop) : Prop :=
 if m = true then x.cC = false ∧ ∀ b, st b = none → K (.ptr b 0) (st.aC b (.cells x.cells)) else k (uQ P t x)
def HW (zs : Option (List AV)) (st : aB) (K : AV → aB → Prop) : Prop := match zs with | some zs => ∀ b, st b = none → K (.ptr b 0) (st.aC b (.cells zs)) | none => False
def IV (P : Program) (t : TypeId) (p x : AV) (st : aB) (K : AV → aB → Prop) : Prop :=
 match p with
 | .ptr b q => match st b, tI P t with
  | some (.cells cs), some (_, sz) => x.cells.length = sz ∧ q + sz ≤ cs.length ∧ x.cells.all AV.storable = true ∧ K .undef (st.aC b (.cells (aK cs q x.cells)))
  | _, _ => False
 | _ => False
theorem XX {x : Operand} : bB P mt ops (⟨dst, .move x, type, pos, after, none⟩ :: rest) K φ st = bB P mt ops rest K (φ.put dst (φ.eval x)) st := rfl
theorem WI {x : Operand} : bB P mt ops (⟨dst, .assign x, type, pos, after, none⟩ :: rest) K φ st = bB P mt ops rest K (φ.put dst (φ.eval x)) st := rfl
theorem aFW {c x y : Operand} : bB P mt ops (⟨dst, .pick c x y, type, pos, after, none⟩ :: rest) K φ st = jO P mt ops rest K φ dst st (EL (φ.eval c) (φ.eval x) (φ.eval y)) := by
 rw [kU rfl fun _ => rfl]
 simp only [kI]
 cases φ.eval c <;> rfl
theorem TA {op : BinOp} {t t' : TypeId} {x y : Operand} : bB P mt ops (⟨dst, .binOp op t x y t', type, pos, after, none⟩ :: rest) K φ st = jO P mt ops rest K φ dst st (d4 P op t (φ.eval x) (φ.eval y)) := kU rfl fun _ => rfl
theorem TE {op : UnOp} {t : TypeId} {x : Operand} : bB P mt ops (⟨dst, .unOp op t x, type, pos, after, none⟩ :: rest) K φ st = jO P mt ops rest K φ dst st (ER op (φ.eval x)) := kU rfl fun _ => rfl
theorem XG {x : Operand} : bB P mt ops (⟨dst, .nilCheck x, type, pos, after, none⟩ :: rest) K φ st = jO P mt ops rest K φ dst st (wM (φ.eval x)) := by
 rw [kU rfl fun _ => rfl]
 try rfl
theorem aJ1 {t f : Nat} {x : Operand} : bB P mt ops (⟨dst, .fieldAddr t x f, type, pos, after, none⟩ :: rest) K φ st = jO P mt ops rest K φ dst st (qE P t f (φ.eval x)) := kU rfl fun _ => rfl
theorem aLK {t : TypeId} {x : Operand} : bB P mt ops (⟨dst, .load t x, type, pos, after, none⟩ :: rest) K φ st = jO P mt ops rest K φ dst st (gZ P st t (φ.eval x)) := kU rfl fun _ => rfl
theorem aBA {t f : Nat} {x : Operand} : bB P mt ops (⟨dst, .field t x f, type, pos, after, none⟩ :: rest) K φ st = jO P mt ops rest K φ dst st (F9 P t f (φ.eval x)) := by
 rw [kU rfl fun _ => rfl]
 try rfl
theorem UU {t : TypeId} {x i : Operand} : bB P mt ops (⟨dst, .indexAddr t x i, type, pos, after, none⟩ :: rest) K φ st = jO P mt ops rest K φ dst st (dJ P t (φ.eval x) (φ.eval i)) := kU rfl fun _ => rfl
theorem aH8 {t : TypeId} {x i : Operand} : bB P mt ops (⟨dst, .index t x i, type, pos, after, none⟩ :: rest) K φ st = jO P mt ops rest K φ dst st (CP P t (φ.eval x) (φ.eval i)) := kU rfl fun _ => rfl
theorem aDT {t : TypeId} {x : Operand} {lo hi mx : Option Operand} : bB P mt ops (⟨dst, .slice t x lo hi mx, type, pos, after, none⟩ :: rest) K φ st = jO P mt ops rest K φ dst st (gW P φ t (φ.eval x) lo hi mx) := kU rfl fun _ => rfl
theorem aLZ {x : Operand} {i : Nat} : bB P mt ops (⟨dst, .extract x i, type, pos, after, none⟩ :: rest) K φ st = jO P mt ops rest K φ dst st (yQ (φ.eval x) i) := by
 rw [kU rfl fun _ => rfl]
 try rfl
theorem aKH {g : FuncId} {dU : Array Operand} : bB P mt ops (⟨dst, .makeFunc (.func g) #[] dU, type, pos, after, none⟩ :: rest) K φ st = jO P mt ops rest K φ dst st (J2 g (dU.toList.map φ.eval)) := by
 rw [kU rfl fun _ => rfl]
 congr 1
 simp [kI, J2]
theorem Y3 {t : TypeId} {ps : Array (Nat × Operand)} : bB P mt ops (⟨dst, .build t ps, type, pos, after, none⟩ :: rest) K φ st = jO P mt ops rest K φ dst st (vT P φ t ps) := kU rfl fun _ => rfl
theorem WL {t : TypeId} {n : Nat} {ps : Array (Nat × Operand)} : bB P mt ops (⟨dst, .buildSlice t n ps, type, pos, after, none⟩ :: rest) K φ st = jO P mt ops rest K φ dst st (yD P φ t n ps) := kU rfl fun _ => rfl
theorem aB0 {t u : TypeId} {x : Operand} : bB P mt ops (⟨dst, .convert t u x, type, pos, after, none⟩ :: rest) K φ st = jO P mt ops rest K φ dst st (sI P t u (φ.eval x)) := kU rfl fun _ => rfl
theorem aL0 {t : TypeId} {x i : Operand} {ok : Bool} : bB P mt ops (⟨dst, .lookup t x i ok, type, pos, after, none⟩ :: rest) K φ st = jO P mt ops rest K φ dst st (oC P st t ok (φ.eval x) (φ.eval i)) := kU rfl fun _ => rfl
theorem aC4 {x : Operand} {t : TypeId} : bB P mt ops (⟨dst, .call { callee := .builtin .len, args := #[x], argTypes := #[t] }, type, pos, after, none⟩ :: rest) K φ st = jO P mt ops rest K φ dst st (nP P t (φ.eval x)) := kU rfl fun _ => rfl
theorem aGV {f : Operand} {args : List Operand} {ats : Array TypeId} : bB P mt ops (⟨dst, .call { callee := .value f, args := args.toArray, argTypes := ats }, type, pos, after, none⟩ :: rest) K φ st = rI P (φ.eval f) (args.map φ.eval) st (n7 P mt ops rest K φ dst) := rfl
theorem aL1 {x y : Operand} {ts : Array TypeId} : bB P mt ops (⟨dst, .call { callee := .builtin .max, args := #[x, y], argTypes := ts }, type, pos, after, none⟩ :: rest) K φ st = jO P mt ops rest K φ dst st (wB (φ.eval x) (φ.eval y)) := kU rfl fun _ => rfl
theorem aCF {x y : Operand} {ts : Array TypeId} : bB P mt ops (⟨dst, .call { callee := .builtin .min, args := #[x, y], argTypes := ts }, type, pos, after, none⟩ :: rest) K φ st = jO P mt ops rest K φ dst st (A9 (φ.eval x) (φ.eval y)) := kU rfl fun _ => rfl
theorem aJR {s x : Operand} {t t' : TypeId} : bB P mt ops (⟨dst, .call { callee := .builtin .append, args := #[s, x], argTypes := #[t, t'] }, type, pos, after, none⟩ :: rest) K φ st = (if t = t' then jX P t st (φ.eval s) (φ.eval x) (n7 P mt ops rest K φ dst) else rC P t t' st (φ.eval s) (φ.eval x) (n7 P mt ops rest K φ dst)) := rfl
theorem aLI {m k : Operand} {t t' : TypeId} : bB P mt ops (⟨dst, .call { callee := .builtin .delete, args := #[m, k], argTypes := #[t, t'] }, type, pos, after, none⟩ :: rest) K φ st = yR P t st (φ.eval m) (φ.eval k) (n7 P mt ops rest K φ dst) := rfl
theorem aDM {t : TypeId} {x : Operand} : bB P mt ops (⟨dst, .box t x, type, pos, after, none⟩ :: rest) K φ st = wS P (yP mt dst) t (φ.eval x) st (n7 P mt ops rest K φ dst) (jO P mt ops rest K φ dst st) := by
 simp only [bB, iY, eX, wS, n7]
 split
 · rfl
 · cases uQ P t (φ.eval x) <;> rfl
theorem aJF {t : TypeId} : bB P mt ops (⟨dst, .alloc t, type, pos, after, none⟩ :: rest) K φ st = HW (zI P t) st (n7 P mt ops rest K φ dst) := rfl
theorem aGM {t : TypeId} {p x : Operand} : bB P mt ops (⟨dst, .store t p x, type, pos, after, none⟩ :: rest) K φ st = IV P t (φ.eval p) (φ.eval x) st (n7 P mt ops rest K φ dst) := rfl
theorem aHG {t : TypeId} : bB P mt ops (⟨dst, .makeMap t none, type, pos, after, none⟩ :: rest) K φ st = ∀ b, st b = none → n7 P mt ops rest K φ dst (.map b) (st.aC b (.map fun _ => none)) := rfl
theorem VU {t : TypeId} {n c : Operand} : bB P mt ops (⟨dst, .makeSlice t n c, type, pos, after, none⟩ :: rest) K φ st = w4 P t st (φ.eval n) (φ.eval c) (n7 P mt ops rest K φ dst) := rfl
theorem X1 {t : TypeId} {m k x : Operand} : bB P mt ops (⟨dst, .mapUpdate t m k x, type, pos, after, none⟩ :: rest) K φ st = rD P t st (φ.eval m) (φ.eval k) (φ.eval x) (n7 P mt ops rest K φ dst) := rfl
theorem Z8 {t : Tmp} : φ.eval (.tmp t) = φ t := rfl
theorem aHX {k : IntKind} {n : Int} : φ.eval (.const (.int k n)) = .int k n := rfl
theorem ZS {b : Bool} : φ.eval (.const (.bool b)) = .bool b := rfl
theorem SM : φ.eval (.const (.slice none 0 0)) = .fslice [] := rfl
theorem aD4 : φ.eval (.const (.pointer none)) = .nilptr := rfl
theorem aER : φ.eval (.const (.map none)) = .nilmap := rfl
theorem ZP {g : FuncId} : φ.eval (.func g) = .func g [] := rfl
theorem SL {l : List UInt8} : φ.eval (.const (.string ⟨l.toArray⟩)) = if l.length ≤ 9223372036854775807 then .str ⟨l.toArray⟩ else .junk := by
 simp [AF.eval, ofConst, ByteArray.size, maxLen]
theorem aFE {d e : Nat} {v : AV} : (φ.aC d v) e = if e = d then v else φ e := rfl
theorem WP {d : Nat} {v : AV} : φ.put (some d) v = φ.aC d v := rfl
theorem aIG {v : AV} : φ.put none v = φ := rfl
theorem W6 {i : Nat} : sP i [] = AF.bot := rfl
theorem aIJ {i : Nat} {a : AV} {as : List AV} : sP i (a :: as) = (sP (i + 1) as).aC i a := rfl
theorem YW {P : Program} {t : TypeId} {k : IntKind} {a b : Int} : d4 P .add t (.int k a) (.int k b) = some (.int k (k.wrap (a + b))) := by simp [d4, j6]
theorem Z7 {P : Program} {t : TypeId} {k : IntKind} {a b : Int} : d4 P .sub t (.int k a) (.int k b) = some (.int k (k.wrap (a - b))) := by simp [d4, j6]
theorem WY {P : Program} {t : TypeId} {k : IntKind} {a b : Int} : d4 P .mul t (.int k a) (.int k b) = some (.int k (k.wrap (a * b))) := by simp [d4, j6]
theorem S9 {P : Program} {t : TypeId} {k : IntKind} {a b : Int} : d4 P .quo t (.int k a) (.int k b) = if b = 0 then none else some (.int k (k.wrap (a.tdiv b))) := by simp [d4, j6]
theorem SY {P : Program} {t : TypeId} {k : IntKind} {a b : Int} : d4 P .rem t (.int k a) (.int k b) = if b = 0 then none else some (.int k (a.tmod b)) := by simp [d4, j6]
theorem TY {P : Program} {t : TypeId} {k : IntKind} {a b : Int} : d4 P .eql t (.int k a) (.int k b) = some (.bool (decide (a = b))) := by simp [d4, j6]
theorem aHH {P : Program} {t : TypeId} {k : IntKind} {a b : Int} : d4 P .neq t (.int k a) (.int k b) = some (.bool (!decide (a = b))) := by simp [d4, j6]
theorem X9 {P : Program} {t : TypeId} {k : IntKind} {a b : Int} : d4 P .lss t (.int k a) (.int k b) = some (.bool (decide (a < b))) := by simp [d4, j6]
theorem aB2 {P : Program} {t : TypeId} {k : IntKind} {a b : Int} : d4 P .leq t (.int k a) (.int k b) = some (.bool (decide (a ≤ b))) := by simp [d4, j6]
theorem SK {P : Program} {t : TypeId} {k : IntKind} {a b : Int} : d4 P .gtr t (.int k a) (.int k b) = some (.bool (decide (b < a))) := by simp [d4, j6]
theorem aJX {P : Program} {t : TypeId} {k : IntKind} {a b : Int} : d4 P .geq t (.int k a) (.int k b) = some (.bool (decide (b ≤ a))) := by simp [d4, j6]
theorem aE5 {P : Program} {t : TypeId} {k : IntKind} {a b : Int} : d4 P .xor t (.int k a) (.int k b) = some (.int k (E3 k a b)) := by simp [d4, j6]
theorem aD5 {P : Program} {t : TypeId} {k : IntKind} {a b : Int} : d4 P .and t (.int k a) (.int k b) = some (.int k (MK k a b)) := by simp [d4, j6]
theorem UR {P : Program} {t : TypeId} {k : IntKind} {a b : Int} : d4 P .or t (.int k a) (.int k b) = some (.int k (MD k a b)) := by simp [d4, j6]
theorem aGU {k : IntKind} {a b : Int} : wB (.int k a) (.int k b) = some (.int k (if a < b then b else a)) := by simp [wB]
theorem aH9 {k : IntKind} {a b : Int} : A9 (.int k a) (.int k b) = some (.int k (if b < a then b else a)) := by simp [A9]
theorem aFG {P : Program} {t : TypeId} {a b : ByteArray} : d4 P .eql t (.str a) (.str b) = some (.bool (decide (a = b))) := by simp [d4, j6]
theorem aD9 {P : Program} {t : TypeId} {a b : ByteArray} : d4 P .neq t (.str a) (.str b) = some (.bool (!decide (a = b))) := by simp [d4, j6]
theorem aLO {P : Program} {t : TypeId} {a b : ByteArray} : d4 P .add t (.str a) (.str b) = if a.size + b.size ≤ maxLen then some (.str (a ++ b)) else none := by simp [d4, j6]
theorem U9 {P : Program} {t : TypeId} {a b : ByteArray} : d4 P .lss t (.str a) (.str b) = some (.bool (Op.bytesLess a.toList b.toList)) := by simp [d4, j6]
theorem aEV {P : Program} {t : TypeId} {a b : ByteArray} : d4 P .gtr t (.str a) (.str b) = some (.bool (!(Op.bytesLess a.toList b.toList || decide (a = b)))) := by simp [d4, j6]
theorem aCV {P : Program} {t : TypeId} {a b : Bool} (h : P.underlying t = some .bool) : d4 P .eql t (.bool a) (.bool b) = some (.bool (a == b)) := by simp [d4, h]
theorem UJ {P : Program} {t : TypeId} {a b : Bool} (h : P.underlying t = some .bool) : d4 P .neq t (.bool a) (.bool b) = some (.bool (!(a == b))) := by simp [d4, h]
theorem aKS {b : Bool} : ER .not (.bool b) = some (.bool (!b)) := rfl
theorem XI {k : IntKind} {n : Int} : ER .neg (.int k n) = some (.int k (k.wrap (0 - n))) := rfl
end
end
@[congr] theorem a0U {P : Program} {N : Nat} {mt : List Nat} {c : Code} {Q : Exit → AF → aB → Prop} {φ φ' : AF} {st st' : aB} (h1 : φ = φ') (h2 : st = st') : fU P N mt c Q φ st = fU P N mt c Q φ' st' := by rw [h1, h2]
@[congr] theorem a2E {P : Program} {mt : List Nat} {ops : Array Oper} {l : List Oper} {K : AF → aB → Prop} {φ φ' : AF} {st st' : aB} (h1 : φ = φ') (h2 : st = st') : bB P mt ops l K φ st = bB P mt ops l K φ' st' := by rw [h1, h2]
@[congr] theorem a1F {P : Program} {mt : List Nat} {ops : Array Oper} {l : List Oper} {K : AF → aB → Prop} {φ : AF} {st : aB} {dst : Option Tmp} {x x' : Option AV} (h1 : x = x') : jO P mt ops l K φ dst st x = jO P mt ops l K φ dst st x' := by rw [h1]
@[congr] theorem a1N {P : Program} {mt : List Nat} {ops : Array Oper} {o : Oper} {l : List Oper} {K : AF → aB → Prop} {φ : AF} {st : aB} {x x' : Option Bool} (h1 : x = x') : vE P mt ops o l K φ st x = vE P mt ops o l K φ st x' := by rw [h1]
@[congr] theorem a06 {P : Program} {mt : List Nat} {ops : Array Oper} {l : List Oper} {K : AF → aB → Prop} {φ : AF} {dst : Option Tmp} {r r' : AV} {st st' : aB} (h1 : r = r') (h2 : st = st') : n7 P mt ops l K φ dst r st = n7 P mt ops l K φ dst r' st' := by rw [h1, h2]
@[congr] theorem a2G {c c' : AV} {k₁ k₂ : AF → aB → Prop} {φ : AF} {st : aB} (h1 : c = c') : tP c k₁ k₂ φ st = tP c' k₁ k₂ φ st := by rw [h1]
@[congr] theorem a0L {P : Program} {N : Nat} {c : Code} {Q : Exit → AF → aB → Prop} {φ φ' : AF} {st st' : aB} (h1 : φ = φ') (h2 : st = st') : gH P N c Q φ st = gH P N c Q φ' st' := by rw [h1, h2]
@[congr] theorem a0F {P : Program} {g : FuncId} {args args' : List AV} {st st' : aB} {K : AV → aB → Prop} (h1 : args = args') (h2 : st = st') : aD P g args st K = aD P g args' st' K := by rw [h1, h2]
@[congr] theorem a2I {P : Program} {f f' : AV} {args args' : List AV} {st st' : aB} {K : AV → aB → Prop} (h0 : f = f') (h1 : args = args') (h2 : st = st') : rI P f args st K = rI P f' args' st' K := by rw [h0, h1, h2]
@[congr] theorem a1Q {P : Program} {m m' : Bool} {t : TypeId} {x x' : AV} {st st' : aB} {K : AV → aB → Prop} {k : Option AV → Prop} (h0 : m = m') (h1 : x = x') (h2 : st = st') : wS P m t x st K k = wS P m' t x' st' K k := by rw [h0, h1, h2]
@[congr] theorem a1U {zs zs' : Option (List AV)} {st st' : aB} {K : AV → aB → Prop} (h1 : zs = zs') (h2 : st = st') : HW zs st K = HW zs' st' K := by rw [h1, h2]
@[congr] theorem a0P {P : Program} {t : TypeId} {p p' x x' : AV} {st st' : aB} {K : AV → aB → Prop} (h0 : p = p') (h1 : x = x') (h2 : st = st') : IV P t p x st K = IV P t p' x' st' K := by rw [h0, h1, h2]
@[congr] theorem a0O {x x' y y' : AV} (h0 : x = x') (h1 : y = y') : wB x y = wB x' y' := by rw [h0, h1]
@[congr] theorem a0J {P : Program} {t t' : TypeId} {s s' x x' : AV} {st st' : aB} {K : AV → aB → Prop} (h0 : s = s') (h1 : x = x') (h2 : st = st') : rC P t t' st s x K = rC P t t' st' s' x' K := by rw [h0, h1, h2]
@[congr] theorem a1Y {P : Program} {t : TypeId} {s s' x x' : AV} {st st' : aB} {K : AV → aB → Prop} (h0 : s = s') (h1 : x = x') (h2 : st = st') : jX P t st s x K = jX P t st' s' x' K := by rw [h0, h1, h2]
@[congr] theorem a05 {P : Program} {t : TypeId} {s s' x x' : AV} {st st' : aB} {K : AV → aB → Prop} (h0 : s = s') (h1 : x = x') (h2 : st = st') : w4 P t st s x K = w4 P t st' s' x' K := by rw [h0, h1, h2]
@[congr] theorem a1C {P : Program} {t : TypeId} {m m' s s' x x' : AV} {st st' : aB} {K : AV → aB → Prop} (h : m = m') (h0 : s = s') (h1 : x = x') (h2 : st = st') : rD P t st m s x K = rD P t st' m' s' x' K := by rw [h, h0, h1, h2]
theorem ZR {P : Program} {g : FuncId} {dU args : List AV} {st : aB} {K : AV → aB → Prop} : rI P (.func g dU) args st K = aD P g (args ++ dU) st K := rfl
theorem aF0 {P : Program} {t : TypeId} {x : AV} {st : aB} {K : AV → aB → Prop} {k : Option AV → Prop} : wS P false t x st K k = k (uQ P t x) := by simp [wS]
theorem aFL {P : Program} {t : TypeId} {x : AV} {st : aB} {K : AV → aB → Prop} {k : Option AV → Prop} : wS P true t x st K k = (x.cC = false ∧ ∀ b, st b = none → K (.ptr b 0) (st.aC b (.cells x.cells))) := by simp [wS]
theorem aCY {zs : List AV} {st : aB} {K : AV → aB → Prop} : HW (some zs) st K = ∀ b, st b = none → K (.ptr b 0) (st.aC b (.cells zs)) := rfl
theorem aHI {P : Program} {t : TypeId} {b q : Nat} {x : AV} {st : aB} {K : AV → aB → Prop} : IV P t (.ptr b q) x st K = match st b, tI P t with
 | some (.cells cs), some (_, sz) => x.cells.length = sz ∧ q + sz ≤ cs.length ∧ x.cells.all AV.storable = true ∧ K .undef (st.aC b (.cells (aK cs q x.cells)))
 | _, _ => False := rfl
def jL : Op → Bool
 | .alloc _ => true
 | _ => false
def jA : Op → Bool
 | .store _ _ _ => true
 | _ => false
def zK (P : Program) (mt : List Nat) (ops : Array Oper) (rest : List Oper) (K : AF → aB → Prop) (φ : AF) (st : aB) : Prop := fW P mt ops rest K φ st
def zF (P : Program) (mt : List Nat) (ops : Array Oper) (rest : List Oper) (K : AF → aB → Prop) (φ : AF) (d : Nat) (st : aB) (r : AV) : Prop := fW P mt ops rest K (φ.aC d r) st
def uC (x : AV) (K : AV → Prop) : Option (List AV) → Option (Bool × Nat) → Prop
 | some zs, some (_, sz) => zs.length = sz ∧ x.width = sz ∧ x.cells.all AV.storable = true ∧ x.cC = false ∧ K (.pptr x)
 | _, _ => False
def zM (P : Program) (mt : List Nat) (ops : Array Oper) (o : Oper) (s : Oper) (rest : List Oper) (K : AF → aB → Prop) (φ : AF) (st : aB) (d : Nat) (t : TypeId) (x : AV) : Bool → Prop
 | true => bB P mt ops [o] (zK P mt ops (s :: rest) K) φ st
 | false => uC x (zF P mt ops rest K φ d st) (zI P t) (tI P t)
section
variable {P : Program} {mt : List Nat} {ops : Array Oper} {rest : List Oper} {K : AF → aB → Prop} {φ : AF} {st : aB} {dst z7 : Option Tmp} {type sZ : TypeId} {pos pos' : String} {after tB : Array Edge} {g g' : Option (Nat × Bool)} {op op' : Op}
theorem J0 : zK P mt ops rest K φ st = fW P mt ops rest K φ st := rfl
theorem TW {d : Nat} {r : AV} : zF P mt ops rest K φ d st r = fW P mt ops rest K (φ.aC d r) st := rfl
theorem VM : fW P mt ops [] K φ st = K φ st := by rw [fW]
theorem IM (h : jL op = false) : fW P mt ops (⟨dst, op, type, pos, after, g⟩ :: rest) K φ st = bB P mt ops [⟨dst, op, type, pos, after, g⟩] (zK P mt ops rest K) φ st := by
 rw [fW]
 · rfl
 · intro d t ty ps af t' d' x ty' ps' af' r e1 e2
   cases e1
   cases h
 · intro d t ty ps af e y ty2 ps2 af2 t' d' x ty' ps' af' r e1 e2
   cases e1
   cases h
theorem HU {t : TypeId} {x : AV} {k : AV → Prop} : A8 P t x k = uC x k (zI P t) (tI P t) := by
 unfold A8 uC
 simp only [uZ]
 cases zI P t <;> cases tI P t <;> rfl
theorem S0 {x : AV} {k : AV → Prop} {zs : List AV} {ag : Bool} {sz : Nat} : uC x k (some zs) (some (ag, sz)) = (zs.length = sz ∧ x.width = sz ∧ x.cells.all AV.storable = true ∧ x.cC = false ∧ k (.pptr x)) := rfl
theorem HS {d : Nat} {t : TypeId} {x : Operand} : fW P mt ops (⟨some d, .alloc t, type, pos, after, none⟩ :: ⟨none, .store t (.tmp d) x, sZ, pos', tB, none⟩ :: rest) K φ st =
 zM P mt ops ⟨some d, .alloc t, type, pos, after, none⟩ ⟨none, .store t (.tmp d) x, sZ, pos', tB, none⟩ rest K φ st d t (φ.eval x) (mt.contains d || oK x d) := by
 rw [fW]
 cases h : (mt.contains d || oK x d) with
 | true =>
  rw [aE (by simp)]
  show _ = bB P mt ops _ (fun φ' st' => zK P mt ops _ K φ' st') φ st
  simp only [J0, IM (K := K) (rest := rest) (op := .store t (.tmp d) x) rfl]
  rfl
 | false =>
  rw [aG ⟨rfl, rfl, rfl⟩, HU]
  try rfl
theorem X5 {o s : Oper} {d : Nat} {t : TypeId} {x : AV} : zM P mt ops o s rest K φ st d t x true = bB P mt ops [o] (zK P mt ops (s :: rest) K) φ st := rfl
theorem aBU {o s : Oper} {d : Nat} {t : TypeId} {x : AV} : zM P mt ops o s rest K φ st d t x false = uC x (zF P mt ops rest K φ d st) (zI P t) (tI P t) := rfl
def E6 (P : Program) (mt : List Nat) (ops : Array Oper) (o : Oper) (os : List Oper) (rest : List Oper) (K : AF → aB → Prop) (φ φ' : AF) (st : aB) (d : Nat) (t : TypeId) (x : AV) : Bool → Prop
 | true => bB P mt ops [o] (zK P mt ops (os ++ rest) K) φ st
 | false => uC x (zF P mt ops rest K φ' d st) (zI P t) (tI P t)
theorem aFQ {o : Oper} {os : List Oper} {φ' : AF} {d : Nat} {t : TypeId} {x : AV} : E6 P mt ops o os rest K φ φ' st d t x false = uC x (zF P mt ops rest K φ' d st) (zI P t) (tI P t) := rfl
theorem VT {o : Oper} {os : List Oper} {φ' : AF} {d : Nat} {t : TypeId} {x : AV} : E6 P mt ops o os rest K φ φ' st d t x true = bB P mt ops [o] (zK P mt ops (os ++ rest) K) φ st := rfl
theorem aQK {d e : Nat} {t : TypeId} {x y : Operand} {type2 : TypeId} {t9 : String} {GD : Array Edge} : fW P mt ops (⟨some d, .alloc t, type, pos, after, none⟩ :: ⟨some e, .assign y, type2, t9, GD, none⟩ :: ⟨none, .store t (.tmp d) x, sZ, pos', tB, none⟩ :: rest) K φ st =
 E6 P mt ops ⟨some d, .alloc t, type, pos, after, none⟩ [⟨some e, .assign y, type2, t9, GD, none⟩, ⟨none, .store t (.tmp d) x, sZ, pos', tB, none⟩] rest K φ (φ.aC e (φ.eval y)) st d t ((φ.aC e (φ.eval y)).eval x) (mt.contains d || oK x d || oK y d || d == e) := by
 rw [fW]
 cases h : (mt.contains d || oK x d || oK y d || d == e) with
 | true =>
  rw [aE (by simp)]
  show _ = bB P mt ops _ (fun φ' st' => zK P mt ops _ K φ' st') φ st
  simp only [J0, fF, eR, IM (K := K) (op := .assign y) rfl]
  rfl
 | false =>
  rw [aG ⟨rfl, rfl, rfl⟩, HU]
  try rfl
def jT : Op → Bool
 | .assign _ => true
 | _ => false
theorem ZE {t : TypeId} (h : jA op' = false) (h2 : jT op' = false) : fW P mt ops (⟨dst, .alloc t, type, pos, after, g⟩ :: ⟨z7, op', sZ, pos', tB, g'⟩ :: rest) K φ st = bB P mt ops [⟨dst, .alloc t, type, pos, after, g⟩] (zK P mt ops (⟨z7, op', sZ, pos', tB, g'⟩ :: rest) K) φ st := by
 rw [fW]
 · rfl
 · intro d t ty ps af t' d' x ty' ps' af' r e1 e2
   cases e2
   cases h
 · intro d t ty ps af e y ty2 ps2 af2 t' d' x ty' ps' af' r e1 e2
   cases e2
   cases h2
theorem UT {t : TypeId} : fW P mt ops [⟨dst, .alloc t, type, pos, after, g⟩] K φ st = bB P mt ops [⟨dst, .alloc t, type, pos, after, g⟩] (zK P mt ops [] K) φ st := by
 rw [fW]
 · rfl
 · intro d t ty ps af t' d' x ty' ps' af' r e1 e2
   cases e2
 · intro d t ty ps af e y ty2 ps2 af2 t' d' x ty' ps' af' r e1 e2
   cases e2
theorem aIM {t : TypeId} {y : Operand} : fW P mt ops [⟨dst, .alloc t, type, pos, after, g⟩, ⟨z7, .assign y, sZ, pos', tB, g'⟩] K φ st = bB P mt ops [⟨dst, .alloc t, type, pos, after, g⟩] (zK P mt ops [⟨z7, .assign y, sZ, pos', tB, g'⟩] K) φ st := by
 rw [fW]
 · rfl
 · intro d t ty ps af t' d' x ty' ps' af' r e1 e2
   cases e2
 · intro d t ty ps af e y ty2 ps2 af2 t' d' x ty' ps' af' r e1 e2
   cases e2
theorem aAP {t : TypeId} {y : Operand} {Z1 : Option Tmp} {op2 : Op} {type2 : TypeId} {t9 : String} {GD : Array Edge} {g2 : Option (Nat × Bool)} (h : jA op2 = false) : fW P mt ops (⟨dst, .alloc t, type, pos, after, g⟩ :: ⟨z7, .assign y, sZ, pos', tB, g'⟩ :: ⟨Z1, op2, type2, t9, GD, g2⟩ :: rest) K φ st = bB P mt ops [⟨dst, .alloc t, type, pos, after, g⟩] (zK P mt ops (⟨z7, .assign y, sZ, pos', tB, g'⟩ :: ⟨Z1, op2, type2, t9, GD, g2⟩ :: rest) K) φ st := by
 rw [fW]
 · rfl
 · intro d t ty ps af t' d' x ty' ps' af' r e1 e2
   cases e2
 · intro d t ty ps af e y ty2 ps2 af2 t' d' x ty' ps' af' r e1 e2
   cases e2
   cases h
theorem aLC {d e : Nat} : oK (.tmp e) d = (e == d) := rfl
theorem ZI {v : Value} {d : Nat} : oK (.const v) d = false := rfl
theorem Z4 {x : Operand} : jL (.move x) = false := rfl
theorem aFV {x : Operand} : jA (.move x) = false := rfl
theorem ST {x : Operand} : jL (.assign x) = false := rfl
theorem YM {x : Operand} : jA (.assign x) = false := rfl
theorem aLF {c x y : Operand} : jL (.pick c x y) = false := rfl
theorem W8 {c x y : Operand} : jA (.pick c x y) = false := rfl
theorem YL {op : BinOp} {t : TypeId} {x y : Operand} {t' : TypeId} : jL (.binOp op t x y t') = false := rfl
theorem aGJ {op : BinOp} {t : TypeId} {x y : Operand} {t' : TypeId} : jA (.binOp op t x y t') = false := rfl
theorem UG {op : UnOp} {t : TypeId} {x : Operand} : jL (.unOp op t x) = false := rfl
theorem VP {op : UnOp} {t : TypeId} {x : Operand} : jA (.unOp op t x) = false := rfl
theorem aKQ {x : Operand} : jL (.nilCheck x) = false := rfl
theorem WU {x : Operand} : jA (.nilCheck x) = false := rfl
theorem aGL {t f : Nat} {x : Operand} : jL (.fieldAddr t x f) = false := rfl
theorem aKE {t f : Nat} {x : Operand} : jA (.fieldAddr t x f) = false := rfl
theorem WZ {t : TypeId} {x : Operand} : jL (.load t x) = false := rfl
theorem aAJ {t : TypeId} {x : Operand} : jA (.load t x) = false := rfl
theorem aK9 {t : TypeId} {p x : Operand} : jL (.store t p x) = false := rfl
theorem aDH {t f : Nat} {x : Operand} : jL (.field t x f) = false := rfl
theorem aHQ {t f : Nat} {x : Operand} : jA (.field t x f) = false := rfl
theorem aJM {t : TypeId} {x i : Operand} : jL (.indexAddr t x i) = false := rfl
theorem aEL {t : TypeId} {x i : Operand} : jA (.indexAddr t x i) = false := rfl
theorem aC7 {t : TypeId} {x i : Operand} : jL (.index t x i) = false := rfl
theorem aFF {t : TypeId} {x i : Operand} : jA (.index t x i) = false := rfl
theorem aJL {t : TypeId} {x : Operand} {lo hi mx : Option Operand} : jL (.slice t x lo hi mx) = false := rfl
theorem UY {t : TypeId} {x : Operand} {lo hi mx : Option Operand} : jA (.slice t x lo hi mx) = false := rfl
theorem aCW {x : Operand} {i : Nat} : jL (.extract x i) = false := rfl
theorem aIZ {x : Operand} {i : Nat} : jA (.extract x i) = false := rfl
theorem aKM {t : TypeId} {ps : Array (Nat × Operand)} : jL (.build t ps) = false := rfl
theorem aKF {t : TypeId} {ps : Array (Nat × Operand)} : jA (.build t ps) = false := rfl
theorem aEW {t : TypeId} {n : Nat} {ps : Array (Nat × Operand)} : jL (.buildSlice t n ps) = false := rfl
theorem aLS {t : TypeId} {n : Nat} {ps : Array (Nat × Operand)} : jA (.buildSlice t n ps) = false := rfl
theorem aFM {t u : TypeId} {x : Operand} : jL (.convert t u x) = false := rfl
theorem aA9 {t u : TypeId} {x : Operand} : jA (.convert t u x) = false := rfl
theorem Z0 {t : TypeId} {x i : Operand} {ok : Bool} : jL (.lookup t x i ok) = false := rfl
theorem aH2 {t : TypeId} {x i : Operand} {ok : Bool} : jA (.lookup t x i ok) = false := rfl
theorem aK3 {c : _} : jL (.call c) = false := rfl
theorem XH {c : _} : jA (.call c) = false := rfl
theorem T8 {t : TypeId} {x : Operand} : jL (.box t x) = false := rfl
theorem aJB {t : TypeId} {x : Operand} : jA (.box t x) = false := rfl
theorem aD8 {t : _} {x : _} : jL (.makeMap t x) = false := rfl
theorem aGT {t : _} {x : _} : jA (.makeMap t x) = false := rfl
theorem SO {t : TypeId} {n c : Operand} : jL (.makeSlice t n c) = false := rfl
theorem VG {t : TypeId} {n c : Operand} : jA (.makeSlice t n c) = false := rfl
theorem aE7 {t : TypeId} {m k x : Operand} : jL (.mapUpdate t m k x) = false := rfl
theorem aJH {t : TypeId} {m k x : Operand} : jA (.mapUpdate t m k x) = false := rfl
theorem aG0 {f : _} {a : _} {b : _} : jL (.makeFunc f a b) = false := rfl
theorem V8 {f : _} {a : _} {b : _} : jA (.makeFunc f a b) = false := rfl
theorem SW {t : TypeId} : jA (.alloc t) = false := rfl
theorem YN {x : Operand} : jT (.move x) = false := rfl
theorem aLD {c x y : Operand} : jT (.pick c x y) = false := rfl
theorem RY {op : BinOp} {t : TypeId} {x y : Operand} {t' : TypeId} : jT (.binOp op t x y t') = false := rfl
theorem aE9 {op : UnOp} {t : TypeId} {x : Operand} : jT (.unOp op t x) = false := rfl
theorem SU {x : Operand} : jT (.nilCheck x) = false := rfl
theorem VJ {t f : Nat} {x : Operand} : jT (.fieldAddr t x f) = false := rfl
theorem ZJ {t : TypeId} {x : Operand} : jT (.load t x) = false := rfl
theorem SN {t f : Nat} {x : Operand} : jT (.field t x f) = false := rfl
theorem UW {t : TypeId} {x i : Operand} : jT (.indexAddr t x i) = false := rfl
theorem aFI {t : TypeId} {x i : Operand} : jT (.index t x i) = false := rfl
theorem aEH {t : TypeId} {x : Operand} {lo hi mx : Option Operand} : jT (.slice t x lo hi mx) = false := rfl
theorem aES {x : Operand} {i : Nat} : jT (.extract x i) = false := rfl
theorem aCC {t : TypeId} {ps : Array (Nat × Operand)} : jT (.build t ps) = false := rfl
theorem aBJ {t : TypeId} {n : Nat} {ps : Array (Nat × Operand)} : jT (.buildSlice t n ps) = false := rfl
theorem TG {t u : TypeId} {x : Operand} : jT (.convert t u x) = false := rfl
theorem VH {t : TypeId} {x i : Operand} {ok : Bool} : jT (.lookup t x i ok) = false := rfl
theorem RK {c : _} : jT (.call c) = false := rfl
theorem XV {t : TypeId} {x : Operand} : jT (.box t x) = false := rfl
theorem ZN {t : _} {x : _} : jT (.makeMap t x) = false := rfl
theorem SQ {t : TypeId} {n c : Operand} : jT (.makeSlice t n c) = false := rfl
theorem aAD {t : TypeId} {m k x : Operand} : jT (.mapUpdate t m k x) = false := rfl
theorem aHR {f : _} {a : _} {b : _} : jT (.makeFunc f a b) = false := rfl
theorem aDI {t : TypeId} : jT (.alloc t) = false := rfl
@[congr] theorem a1P {o : Oper} {os : List Oper} {φ' φ2 φ2' : AF} {st' : aB} {d : Nat} {t : TypeId} {x x' : AV} {b b' : Bool} (h1 : φ = φ') (h0 : φ2 = φ2') (h2 : st = st') (h3 : x = x') (h4 : b = b') : E6 P mt ops o os rest K φ φ2 st d t x b = E6 P mt ops o os rest K φ' φ2' st' d t x' b' := by rw [h1, h0, h2, h3, h4]
@[congr] theorem a11 {x x' : AV} {k : AV → Prop} {a a' : Option (List AV)} {b b' : Option (Bool × Nat)} (h0 : x = x') (h1 : a = a') (h2 : b = b') : uC x k a b = uC x' k a' b' := by rw [h0, h1, h2]
@[congr] theorem a15 {o s : Oper} {φ' : AF} {st' : aB} {d : Nat} {t : TypeId} {x x' : AV} {b b' : Bool} (h1 : φ = φ') (h2 : st = st') (h3 : x = x') (h4 : b = b') : zM P mt ops o s rest K φ st d t x b = zM P mt ops o s rest K φ' st' d t x' b' := by rw [h1, h2, h3, h4]
@[congr] theorem a01 {l : List Oper} {Q : Exit → AF → aB → Prop} {φ' : AF} {st' : aB} {b b' : Bool} (h1 : φ = φ') (h2 : st = st') (h3 : b = b') : F3 P mt l Q φ st b = F3 P mt l Q φ' st' b' := by rw [h1, h2, h3]
end
end Go.AW
