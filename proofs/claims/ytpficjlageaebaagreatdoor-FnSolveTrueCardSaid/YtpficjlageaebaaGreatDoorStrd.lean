/- The rules by which the code is evaluated: equations for simp. -/
import Derived.Test.YtpficjlageaebaaGreatDoorStrc
set_option linter.unusedSimpArgs false
set_option linter.unusedVariables false
set_option maxRecDepth 100000
namespace Go.AW
section
variable {P : Program} {N : Nat} {mt : List Nat} {Q : Exit → AF → aB → Prop} {φ : AF} {st : aB} {x y : Code} {ops : Array Oper} {id : Nat}
theorem aDE : fX P N mt .skip Q φ st = Q .normal φ st := rfl
theorem V3 : fX P N mt (.seq x y) Q φ st = fX P N mt x (EY (fX P N mt y Q) Q) φ st := rfl
def FA (P : Program) (mt : List Nat) (l : List Oper) (Q : Exit → AF → aB → Prop) (φ : AF) (st : aB) : Bool → Prop
 | true => fW P mt l.toArray l (Q .normal) φ st
 | false => bB P mt l.toArray l (Q .normal) φ st
theorem TJ {l : List Oper} : fX P N mt (.region id l.toArray false) Q φ st = FA P mt l Q φ st (mt.contains 1000000) := by
 simp only [fX, jC, dZ]
 cases mt.contains 1000000 <;> rfl
theorem XJ {l : List Oper} : FA P mt l Q φ st true = fW P mt l.toArray l (Q .normal) φ st := rfl
theorem aCH {l : List Oper} : FA P mt l Q φ st false = bB P mt l.toArray l (Q .normal) φ st := rfl
theorem RQ : fX P N mt (.region id ops true) Q φ st = gD P N (.region id ops true) Q φ st := by simp [fX]
theorem aCT {c : Operand} : fX P N mt (.cond c x y) Q φ st = tZ (φ.eval c) (fX P N mt x Q) (fX P N mt y Q) φ st := rfl
theorem aBI : fX P N mt (.block id x) Q φ st = fX P N mt x (C4 id Q) φ st := rfl
theorem aK3 : fX P N mt (.loop x) Q φ st = gD P N (.loop x) Q φ st := rfl
theorem aE9 : fX P N mt (.exit id) Q φ st = Q (.exit id) φ st := rfl
theorem aFE : fX P N mt .ret Q φ st = Q .ret φ st := rfl
theorem U7 {k₁ k₂ : AF → aB → Prop} : tZ (.bool true) k₁ k₂ φ st = k₁ φ st := by simp [tZ]
theorem ZB {k₁ k₂ : AF → aB → Prop} : tZ (.bool false) k₁ k₂ φ st = k₂ φ st := by simp [tZ]
theorem TG {k : AF → aB → Prop} : EY k Q .normal φ st = k φ st := rfl
theorem aD1 {k : AF → aB → Prop} : EY k Q (.exit id) φ st = Q (.exit id) φ st := rfl
theorem WM {k : AF → aB → Prop} : EY k Q .ret φ st = Q .ret φ st := rfl
theorem aJS : C4 id Q .normal φ st = Q .normal φ st := rfl
theorem aGA {i : Nat} : C4 id Q (.exit i) φ st = if i = id then Q .normal φ st else Q (.exit i) φ st := rfl
theorem aKB : C4 id Q .ret φ st = Q .ret φ st := rfl
theorem aFL {k : AF → aB → Prop} : oI k Q .normal φ st = k φ st := rfl
theorem aCA {k : AF → aB → Prop} : oI k Q (.exit id) φ st = Q (.exit id) φ st := rfl
theorem XT {k : AF → aB → Prop} : oI k Q .ret φ st = Q .ret φ st := rfl
def mK (P : Program) (rs : List ResultVar) (K : AV → aB → Prop) (φ : AF) (st : aB) : Prop :=
 match oY P φ st rs with
 | some xs => EV K st xs
 | none => False
theorem R9 {rs : Array ResultVar} {K : AV → aB → Prop} : EH P rs K .ret φ st = mK P rs.toList K φ st := rfl
theorem S9 {rs : Array ResultVar} {K : AV → aB → Prop} : EH P rs K .normal φ st = mK P rs.toList K φ st := rfl
theorem ZS {t : Tmp} {K : AV → aB → Prop} : mK P [.tmp t] K φ st = K (φ t) st := rfl
theorem aFN {K : AV → aB → Prop} : mK P [] K φ st = K (.tup []) st := by simp [mK, oY, EV, kB]
theorem aDW {t u : Tmp} {K : AV → aB → Prop} : mK P [.tmp t, .tmp u] K φ st = (kB [φ t, φ u] = true ∧ K (.tup [φ t, φ u]) st) := rfl
theorem S0 {t u v : Tmp} {K : AV → aB → Prop} : mK P [.tmp t, .tmp u, .tmp v] K φ st = (kB [φ t, φ u, φ v] = true ∧ K (.tup [φ t, φ u, φ v]) st) := rfl
theorem TI {t u v w : Tmp} {K : AV → aB → Prop} : mK P [.tmp t, .tmp u, .tmp v, .tmp w] K φ st = (kB [φ t, φ u, φ v, φ w] = true ∧ K (.tup [φ t, φ u, φ v, φ w]) st) := rfl
def JK (k : AV → Prop) : Option AV → Prop
 | some r => k r
 | none => False
theorem aHW {p : Tmp} {t : TypeId} {K : AV → aB → Prop} : mK P [.cell p t] K φ st = JK (fun r => K r st) (gY P st t (φ p)) := by
 simp only [mK, oY, CS]
 cases gY P st t (φ p) <;> rfl
theorem aCL {p u : Tmp} {t : TypeId} {K : AV → aB → Prop} : mK P [.cell p t, .tmp u] K φ st = JK (fun r => kB [r, φ u] = true ∧ K (.tup [r, φ u]) st) (gY P st t (φ p)) := by
 simp only [mK, oY, CS]
 cases gY P st t (φ p) <;> rfl
theorem VJ {u p : Tmp} {t : TypeId} {K : AV → aB → Prop} : mK P [.tmp u, .cell p t] K φ st = JK (fun r => kB [φ u, r] = true ∧ K (.tup [φ u, r]) st) (gY P st t (φ p)) := by
 simp only [mK, oY, CS]
 cases gY P st t (φ p) <;> rfl
theorem aEK {k : AV → Prop} {r : AV} : JK k (some r) = k r := rfl
def jQ (P : Program) (mt : List Nat) (ops : Array Oper) (rest : List Oper) (K : AF → aB → Prop) (φ : AF) (dst : Option Tmp) (st : aB) : Option AV → Prop
 | some r => bB P mt ops rest K (φ.put dst r) st
 | none => False
def oS (P : Program) (mt : List Nat) (ops : Array Oper) (rest : List Oper) (K : AF → aB → Prop) (φ : AF) (dst : Option Tmp) (r : AV) (st : aB) : Prop := bB P mt ops rest K (φ.put dst r) st
def uY (P : Program) (mt : List Nat) (ops : Array Oper) (o : Oper) (rest : List Oper) (K : AF → aB → Prop) (φ : AF) (st : aB) : Option Bool → Prop
 | some true => bB P mt ops ({ o with guard := none } :: rest) K φ st
 | some false => bB P mt ops rest K (φ.put o.dst .undef) st
 | none => False
def gd (ops : Array Oper) (φ : AF) (j : Nat) (want : Bool) : Option Bool :=
 match (ops[j]?).bind (·.dst) with
 | none => some false
 | some d => match φ d with
  | .bool b => some (b == want)
  | .undef => some false
  | _ => none
section
variable {rest : List Oper} {K : AF → aB → Prop} {dst : Option Tmp} {type : TypeId} {pos : String} {after : Array Edge}
theorem TN : bB P mt ops [] K φ st = K φ st := rfl
theorem ZD {op : Op} {j : Nat} {want : Bool} : bB P mt ops (⟨dst, op, type, pos, after, some (j, want)⟩ :: rest) K φ st = uY P mt ops ⟨dst, op, type, pos, after, some (j, want)⟩ rest K φ st (gd ops φ j want) := by
 simp only [bB]
 have h1 : i9 ops φ ⟨dst, op, type, pos, after, some (j, want)⟩ = gd ops φ j want := rfl
 rw [h1]
 cases gd ops φ j want with
 | none => rfl
 | some b => cases b <;> simp [uY, bB, i9, eX, kP]
theorem aFB {r : AV} : oS P mt ops rest K φ dst r st = bB P mt ops rest K (φ.put dst r) st := rfl
theorem V9 {r : AV} : jQ P mt ops rest K φ dst st (some r) = bB P mt ops rest K (φ.put dst r) st := rfl
theorem UD {op : Op} {g : Option (Nat × Bool)} : uY P mt ops ⟨dst, op, type, pos, after, g⟩ rest K φ st (some true) = bB P mt ops (⟨dst, op, type, pos, after, none⟩ :: rest) K φ st := rfl
theorem aEW {op : Op} {g : Option (Nat × Bool)} : uY P mt ops ⟨dst, op, type, pos, after, g⟩ rest K φ st (some false) = bB P mt ops rest K (φ.put dst .undef) st := rfl
theorem kT {o : Oper} (hg : o.guard = none) (e : ∀ K', eX P mt φ st o K' = match kP P φ st o with | some r => K' r st | none => False) : bB P mt ops (o :: rest) K φ st = jQ P mt ops rest K φ o.dst st (kP P φ st o) := by
 simp only [bB, i9, hg, e]
 cases kP P φ st o <;> rfl
def F3 : AV → AV → AV → Option AV
 | .bool b, x, y => some (if b then x else y)
 | _, _, _ => none
def wZ : AV → Option AV
 | .ptr b q => some (.ptr b q)
 | .pptr e => some (.pptr e)
 | _ => none
def EE (P : Program) (t f : Nat) (x : AV) : Option AV := match fI P t f, x with | some (off, ag, sz), .agg cs => sub ag cs off sz | _, _ => none
def zN (x : AV) (i : Nat) : Option AV := match x with | .tup vs => vs[i]? | _ => none
def HA (g : FuncId) (cs : List AV) : Option AV := if kB cs = true then some (.func g cs) else none
def sA (P : Program) (f : AV) (args : List AV) (st : aB) (K : AV → aB → Prop) : Prop := match f with | .func g dS => aD P g (args ++ dS) st K | _ => False
def wR (P : Program) (m : Bool) (t : TypeId) (x : AV) (st : aB) (K : AV → aB → Prop) (k : Option AV → Prop) : Prop :=
 if m = true then x.cB = false ∧ ∀ b, st b = none → K (.ptr b 0) (st.aC b (.cells x.cells)) else k (uM P t x)
def HS (zs : Option (List AV)) (st : aB) (K : AV → aB → Prop) : Prop := match zs with | some zs => ∀ b, st b = none → K (.ptr b 0) (st.aC b (.cells zs)) | none => False
def KD (P : Program) (t : TypeId) (p x : AV) (st : aB) (K : AV → aB → Prop) : Prop :=
 match p with
 | .ptr b q => match st b, tI P t with
  | some (.cells cs), some (_, sz) => x.cells.length = sz ∧ q + sz ≤ cs.length ∧ x.cells.all AV.storable = true ∧ K .undef (st.aC b (.cells (aK cs q x.cells)))
  | _, _ => False
 | _ => False
theorem aIT {x : Operand} : bB P mt ops (⟨dst, .move x, type, pos, after, none⟩ :: rest) K φ st = bB P mt ops rest K (φ.put dst (φ.eval x)) st := rfl
theorem aKF {x : Operand} : bB P mt ops (⟨dst, .assign x, type, pos, after, none⟩ :: rest) K φ st = bB P mt ops rest K (φ.put dst (φ.eval x)) st := rfl
theorem aHE {c x y : Operand} : bB P mt ops (⟨dst, .pick c x y, type, pos, after, none⟩ :: rest) K φ st = jQ P mt ops rest K φ dst st (F3 (φ.eval c) (φ.eval x) (φ.eval y)) := by
 rw [kT rfl fun _ => rfl]
 simp only [kP]
 cases φ.eval c <;> rfl
theorem T6 {op : BinOp} {t t' : TypeId} {x y : Operand} : bB P mt ops (⟨dst, .binOp op t x y t', type, pos, after, none⟩ :: rest) K φ st = jQ P mt ops rest K φ dst st (d5 P op t (φ.eval x) (φ.eval y)) := kT rfl fun _ => rfl
theorem aK4 {op : UnOp} {t : TypeId} {x : Operand} : bB P mt ops (⟨dst, .unOp op t x, type, pos, after, none⟩ :: rest) K φ st = jQ P mt ops rest K φ dst st (FY op (φ.eval x)) := kT rfl fun _ => rfl
theorem YH {x : Operand} : bB P mt ops (⟨dst, .nilCheck x, type, pos, after, none⟩ :: rest) K φ st = jQ P mt ops rest K φ dst st (wZ (φ.eval x)) := by
 rw [kT rfl fun _ => rfl]
 try rfl
theorem aA3 {t f : Nat} {x : Operand} : bB P mt ops (⟨dst, .fieldAddr t x f, type, pos, after, none⟩ :: rest) K φ st = jQ P mt ops rest K φ dst st (qH P t f (φ.eval x)) := kT rfl fun _ => rfl
theorem ZJ {t : TypeId} {x : Operand} : bB P mt ops (⟨dst, .load t x, type, pos, after, none⟩ :: rest) K φ st = jQ P mt ops rest K φ dst st (gY P st t (φ.eval x)) := kT rfl fun _ => rfl
theorem aDO {t f : Nat} {x : Operand} : bB P mt ops (⟨dst, .field t x f, type, pos, after, none⟩ :: rest) K φ st = jQ P mt ops rest K φ dst st (EE P t f (φ.eval x)) := by
 rw [kT rfl fun _ => rfl]
 try rfl
theorem aLV {t : TypeId} {x i : Operand} : bB P mt ops (⟨dst, .indexAddr t x i, type, pos, after, none⟩ :: rest) K φ st = jQ P mt ops rest K φ dst st (dJ P t (φ.eval x) (φ.eval i)) := kT rfl fun _ => rfl
theorem TF {t : TypeId} {x i : Operand} : bB P mt ops (⟨dst, .index t x i, type, pos, after, none⟩ :: rest) K φ st = jQ P mt ops rest K φ dst st (CO P t (φ.eval x) (φ.eval i)) := kT rfl fun _ => rfl
theorem aKK {t : TypeId} {x : Operand} {lo hi mx : Option Operand} : bB P mt ops (⟨dst, .slice t x lo hi mx, type, pos, after, none⟩ :: rest) K φ st = jQ P mt ops rest K φ dst st (iL P φ t (φ.eval x) lo hi mx) := kT rfl fun _ => rfl
theorem UQ {x : Operand} {i : Nat} : bB P mt ops (⟨dst, .extract x i, type, pos, after, none⟩ :: rest) K φ st = jQ P mt ops rest K φ dst st (zN (φ.eval x) i) := by
 rw [kT rfl fun _ => rfl]
 try rfl
theorem UT {g : FuncId} {dS : Array Operand} : bB P mt ops (⟨dst, .makeFunc (.func g) #[] dS, type, pos, after, none⟩ :: rest) K φ st = jQ P mt ops rest K φ dst st (HA g (dS.toList.map φ.eval)) := by
 rw [kT rfl fun _ => rfl]
 congr 1
 simp [kP, HA]
theorem aJ9 {t : TypeId} {ps : Array (Nat × Operand)} : bB P mt ops (⟨dst, .build t ps, type, pos, after, none⟩ :: rest) K φ st = jQ P mt ops rest K φ dst st (v8 P φ t ps) := kT rfl fun _ => rfl
theorem aHN {t : TypeId} {n : Nat} {ps : Array (Nat × Operand)} : bB P mt ops (⟨dst, .buildSlice t n ps, type, pos, after, none⟩ :: rest) K φ st = jQ P mt ops rest K φ dst st (zY P φ t n ps) := kT rfl fun _ => rfl
theorem aJ5 {t u : TypeId} {x : Operand} : bB P mt ops (⟨dst, .convert t u x, type, pos, after, none⟩ :: rest) K φ st = jQ P mt ops rest K φ dst st (sP P t u (φ.eval x)) := kT rfl fun _ => rfl
theorem aJK {t : TypeId} {x i : Operand} {ok : Bool} : bB P mt ops (⟨dst, .lookup t x i ok, type, pos, after, none⟩ :: rest) K φ st = jQ P mt ops rest K φ dst st (oK P st t ok (φ.eval x) (φ.eval i)) := kT rfl fun _ => rfl
theorem aB8 {x : Operand} {t : TypeId} : bB P mt ops (⟨dst, .call { callee := .builtin .len, args := #[x], argTypes := #[t] }, type, pos, after, none⟩ :: rest) K φ st = jQ P mt ops rest K φ dst st (nF P t (φ.eval x)) := kT rfl fun _ => rfl
theorem SF {f : Operand} {args : List Operand} {ats : Array TypeId} : bB P mt ops (⟨dst, .call { callee := .value f, args := args.toArray, argTypes := ats }, type, pos, after, none⟩ :: rest) K φ st = sA P (φ.eval f) (args.map φ.eval) st (oS P mt ops rest K φ dst) := rfl
theorem YV {x y : Operand} {ts : Array TypeId} : bB P mt ops (⟨dst, .call { callee := .builtin .max, args := #[x, y], argTypes := ts }, type, pos, after, none⟩ :: rest) K φ st = jQ P mt ops rest K φ dst st (xG (φ.eval x) (φ.eval y)) := kT rfl fun _ => rfl
theorem aHY {x y : Operand} {ts : Array TypeId} : bB P mt ops (⟨dst, .call { callee := .builtin .min, args := #[x, y], argTypes := ts }, type, pos, after, none⟩ :: rest) K φ st = jQ P mt ops rest K φ dst st (BZ (φ.eval x) (φ.eval y)) := kT rfl fun _ => rfl
theorem aHM {s x : Operand} {t t' : TypeId} : bB P mt ops (⟨dst, .call { callee := .builtin .append, args := #[s, x], argTypes := #[t, t'] }, type, pos, after, none⟩ :: rest) K φ st = (if t = t' then jI P t st (φ.eval s) (φ.eval x) (oS P mt ops rest K φ dst) else rG P t t' st (φ.eval s) (φ.eval x) (oS P mt ops rest K φ dst)) := rfl
theorem aHQ {m k : Operand} {t t' : TypeId} : bB P mt ops (⟨dst, .call { callee := .builtin .delete, args := #[m, k], argTypes := #[t, t'] }, type, pos, after, none⟩ :: rest) K φ st = y7 P t st (φ.eval m) (φ.eval k) (oS P mt ops rest K φ dst) := rfl
theorem YO {t : TypeId} {x : Operand} : bB P mt ops (⟨dst, .box t x, type, pos, after, none⟩ :: rest) K φ st = wR P (yQ mt dst) t (φ.eval x) st (oS P mt ops rest K φ dst) (jQ P mt ops rest K φ dst st) := by
 simp only [bB, i9, eX, wR, oS]
 split
 · rfl
 · cases uM P t (φ.eval x) <;> rfl
theorem aHV {t : TypeId} : bB P mt ops (⟨dst, .alloc t, type, pos, after, none⟩ :: rest) K φ st = HS (zI P t) st (oS P mt ops rest K φ dst) := rfl
theorem UR {t : TypeId} {p x : Operand} : bB P mt ops (⟨dst, .store t p x, type, pos, after, none⟩ :: rest) K φ st = KD P t (φ.eval p) (φ.eval x) st (oS P mt ops rest K φ dst) := rfl
theorem aLC {t : TypeId} : bB P mt ops (⟨dst, .makeMap t none, type, pos, after, none⟩ :: rest) K φ st = ∀ b, st b = none → oS P mt ops rest K φ dst (.map b) (st.aC b (.map fun _ => none)) := rfl
theorem UZ {t : TypeId} {n c : Operand} : bB P mt ops (⟨dst, .makeSlice t n c, type, pos, after, none⟩ :: rest) K φ st = wJ P t st (φ.eval n) (φ.eval c) (oS P mt ops rest K φ dst) := rfl
theorem V0 {t : TypeId} {m k x : Operand} : bB P mt ops (⟨dst, .mapUpdate t m k x, type, pos, after, none⟩ :: rest) K φ st = rS P t st (φ.eval m) (φ.eval k) (φ.eval x) (oS P mt ops rest K φ dst) := rfl
theorem VD {t : Tmp} : φ.eval (.tmp t) = φ t := rfl
theorem XL {k : IntKind} {n : Int} : φ.eval (.const (.int k n)) = .int k n := rfl
theorem aHS {b : Bool} : φ.eval (.const (.bool b)) = .bool b := rfl
theorem VF : φ.eval (.const (.slice none 0 0)) = .fslice [] := rfl
theorem XK : φ.eval (.const (.pointer none)) = .nilptr := rfl
theorem aD2 : φ.eval (.const (.map none)) = .nilmap := rfl
theorem ZK {g : FuncId} : φ.eval (.func g) = .func g [] := rfl
theorem aCE {l : List UInt8} : φ.eval (.const (.string ⟨l.toArray⟩)) = if l.length ≤ 9223372036854775807 then .str ⟨l.toArray⟩ else .junk := by
 simp [AF.eval, ofConst, ByteArray.size, maxLen]
theorem R7 {d e : Nat} {v : AV} : (φ.aC d v) e = if e = d then v else φ e := rfl
theorem aJ7 {d : Nat} {v : AV} : φ.put (some d) v = φ.aC d v := rfl
theorem aJ3 {v : AV} : φ.put none v = φ := rfl
theorem aLI {i : Nat} : sM i [] = AF.bot := rfl
theorem X7 {i : Nat} {a : AV} {as : List AV} : sM i (a :: as) = (sM (i + 1) as).aC i a := rfl
theorem XW {P : Program} {t : TypeId} {k : IntKind} {a b : Int} : d5 P .add t (.int k a) (.int k b) = some (.int k (k.wrap (a + b))) := by simp [d5, kA]
theorem aK9 {P : Program} {t : TypeId} {k : IntKind} {a b : Int} : d5 P .sub t (.int k a) (.int k b) = some (.int k (k.wrap (a - b))) := by simp [d5, kA]
theorem aKD {P : Program} {t : TypeId} {k : IntKind} {a b : Int} : d5 P .mul t (.int k a) (.int k b) = some (.int k (k.wrap (a * b))) := by simp [d5, kA]
theorem aAX {P : Program} {t : TypeId} {k : IntKind} {a b : Int} : d5 P .quo t (.int k a) (.int k b) = if b = 0 then none else some (.int k (k.wrap (a.tdiv b))) := by simp [d5, kA]
theorem UH {P : Program} {t : TypeId} {k : IntKind} {a b : Int} : d5 P .rem t (.int k a) (.int k b) = if b = 0 then none else some (.int k (a.tmod b)) := by simp [d5, kA]
theorem aBC {P : Program} {t : TypeId} {k : IntKind} {a b : Int} : d5 P .eql t (.int k a) (.int k b) = some (.bool (decide (a = b))) := by simp [d5, kA]
theorem aHX {P : Program} {t : TypeId} {k : IntKind} {a b : Int} : d5 P .neq t (.int k a) (.int k b) = some (.bool (!decide (a = b))) := by simp [d5, kA]
theorem WD {P : Program} {t : TypeId} {k : IntKind} {a b : Int} : d5 P .lss t (.int k a) (.int k b) = some (.bool (decide (a < b))) := by simp [d5, kA]
theorem aFM {P : Program} {t : TypeId} {k : IntKind} {a b : Int} : d5 P .leq t (.int k a) (.int k b) = some (.bool (decide (a ≤ b))) := by simp [d5, kA]
theorem aBH {P : Program} {t : TypeId} {k : IntKind} {a b : Int} : d5 P .gtr t (.int k a) (.int k b) = some (.bool (decide (b < a))) := by simp [d5, kA]
theorem aEV {P : Program} {t : TypeId} {k : IntKind} {a b : Int} : d5 P .geq t (.int k a) (.int k b) = some (.bool (decide (b ≤ a))) := by simp [d5, kA]
theorem SW {P : Program} {t : TypeId} {k : IntKind} {a b : Int} : d5 P .xor t (.int k a) (.int k b) = some (.int k (E8 k a b)) := by simp [d5, kA]
theorem aBY {P : Program} {t : TypeId} {k : IntKind} {a b : Int} : d5 P .and t (.int k a) (.int k b) = some (.int k (O8 k a b)) := by simp [d5, kA]
theorem VY {P : Program} {t : TypeId} {k : IntKind} {a b : Int} : d5 P .or t (.int k a) (.int k b) = some (.int k (P5 k a b)) := by simp [d5, kA]
theorem SM {k : IntKind} {a b : Int} : xG (.int k a) (.int k b) = some (.int k (if a < b then b else a)) := by simp [xG]
theorem aAZ {k : IntKind} {a b : Int} : BZ (.int k a) (.int k b) = some (.int k (if b < a then b else a)) := by simp [BZ]
theorem YB {P : Program} {t : TypeId} {a b : ByteArray} : d5 P .eql t (.str a) (.str b) = some (.bool (decide (a = b))) := by simp [d5, kA]
theorem aLY {P : Program} {t : TypeId} {a b : ByteArray} : d5 P .neq t (.str a) (.str b) = some (.bool (!decide (a = b))) := by simp [d5, kA]
theorem aJQ {P : Program} {t : TypeId} {a b : ByteArray} : d5 P .add t (.str a) (.str b) = if a.size + b.size ≤ maxLen then some (.str (a ++ b)) else none := by simp [d5, kA]
theorem WL {P : Program} {t : TypeId} {a b : ByteArray} : d5 P .lss t (.str a) (.str b) = some (.bool (Op.bytesLess a.toList b.toList)) := by simp [d5, kA]
theorem aDT {P : Program} {t : TypeId} {a b : ByteArray} : d5 P .gtr t (.str a) (.str b) = some (.bool (!(Op.bytesLess a.toList b.toList || decide (a = b)))) := by simp [d5, kA]
theorem aJR {P : Program} {t : TypeId} {a b : Bool} (h : P.underlying t = some .bool) : d5 P .eql t (.bool a) (.bool b) = some (.bool (a == b)) := by simp [d5, h]
theorem aHG {P : Program} {t : TypeId} {a b : Bool} (h : P.underlying t = some .bool) : d5 P .neq t (.bool a) (.bool b) = some (.bool (!(a == b))) := by simp [d5, h]
theorem YL {b : Bool} : FY .not (.bool b) = some (.bool (!b)) := rfl
theorem aLG {k : IntKind} {n : Int} : FY .neg (.int k n) = some (.int k (k.wrap (0 - n))) := rfl
end
end
@[congr] theorem a1H {P : Program} {N : Nat} {mt : List Nat} {c : Code} {Q : Exit → AF → aB → Prop} {φ φ' : AF} {st st' : aB} (h1 : φ = φ') (h2 : st = st') : fX P N mt c Q φ st = fX P N mt c Q φ' st' := by rw [h1, h2]
@[congr] theorem a06 {P : Program} {mt : List Nat} {ops : Array Oper} {l : List Oper} {K : AF → aB → Prop} {φ φ' : AF} {st st' : aB} (h1 : φ = φ') (h2 : st = st') : bB P mt ops l K φ st = bB P mt ops l K φ' st' := by rw [h1, h2]
@[congr] theorem a2U {P : Program} {mt : List Nat} {ops : Array Oper} {l : List Oper} {K : AF → aB → Prop} {φ : AF} {st : aB} {dst : Option Tmp} {x x' : Option AV} (h1 : x = x') : jQ P mt ops l K φ dst st x = jQ P mt ops l K φ dst st x' := by rw [h1]
@[congr] theorem a04 {P : Program} {mt : List Nat} {ops : Array Oper} {o : Oper} {l : List Oper} {K : AF → aB → Prop} {φ : AF} {st : aB} {x x' : Option Bool} (h1 : x = x') : uY P mt ops o l K φ st x = uY P mt ops o l K φ st x' := by rw [h1]
@[congr] theorem a1Z {P : Program} {mt : List Nat} {ops : Array Oper} {l : List Oper} {K : AF → aB → Prop} {φ : AF} {dst : Option Tmp} {r r' : AV} {st st' : aB} (h1 : r = r') (h2 : st = st') : oS P mt ops l K φ dst r st = oS P mt ops l K φ dst r' st' := by rw [h1, h2]
@[congr] theorem a2G {c c' : AV} {k₁ k₂ : AF → aB → Prop} {φ : AF} {st : aB} (h1 : c = c') : tZ c k₁ k₂ φ st = tZ c' k₁ k₂ φ st := by rw [h1]
@[congr] theorem a2Y {P : Program} {N : Nat} {c : Code} {Q : Exit → AF → aB → Prop} {φ φ' : AF} {st st' : aB} (h1 : φ = φ') (h2 : st = st') : gD P N c Q φ st = gD P N c Q φ' st' := by rw [h1, h2]
@[congr] theorem a2X {P : Program} {g : FuncId} {args args' : List AV} {st st' : aB} {K : AV → aB → Prop} (h1 : args = args') (h2 : st = st') : aD P g args st K = aD P g args' st' K := by rw [h1, h2]
@[congr] theorem a1I {P : Program} {f f' : AV} {args args' : List AV} {st st' : aB} {K : AV → aB → Prop} (h0 : f = f') (h1 : args = args') (h2 : st = st') : sA P f args st K = sA P f' args' st' K := by rw [h0, h1, h2]
@[congr] theorem a07 {P : Program} {m m' : Bool} {t : TypeId} {x x' : AV} {st st' : aB} {K : AV → aB → Prop} {k : Option AV → Prop} (h0 : m = m') (h1 : x = x') (h2 : st = st') : wR P m t x st K k = wR P m' t x' st' K k := by rw [h0, h1, h2]
@[congr] theorem a2C {zs zs' : Option (List AV)} {st st' : aB} {K : AV → aB → Prop} (h1 : zs = zs') (h2 : st = st') : HS zs st K = HS zs' st' K := by rw [h1, h2]
@[congr] theorem a2E {P : Program} {t : TypeId} {p p' x x' : AV} {st st' : aB} {K : AV → aB → Prop} (h0 : p = p') (h1 : x = x') (h2 : st = st') : KD P t p x st K = KD P t p' x' st' K := by rw [h0, h1, h2]
@[congr] theorem a00 {x x' y y' : AV} (h0 : x = x') (h1 : y = y') : xG x y = xG x' y' := by rw [h0, h1]
@[congr] theorem a17 {P : Program} {t t' : TypeId} {s s' x x' : AV} {st st' : aB} {K : AV → aB → Prop} (h0 : s = s') (h1 : x = x') (h2 : st = st') : rG P t t' st s x K = rG P t t' st' s' x' K := by rw [h0, h1, h2]
@[congr] theorem a19 {P : Program} {t : TypeId} {s s' x x' : AV} {st st' : aB} {K : AV → aB → Prop} (h0 : s = s') (h1 : x = x') (h2 : st = st') : jI P t st s x K = jI P t st' s' x' K := by rw [h0, h1, h2]
@[congr] theorem a10 {P : Program} {t : TypeId} {s s' x x' : AV} {st st' : aB} {K : AV → aB → Prop} (h0 : s = s') (h1 : x = x') (h2 : st = st') : wJ P t st s x K = wJ P t st' s' x' K := by rw [h0, h1, h2]
@[congr] theorem a2Z {P : Program} {t : TypeId} {m m' s s' x x' : AV} {st st' : aB} {K : AV → aB → Prop} (h : m = m') (h0 : s = s') (h1 : x = x') (h2 : st = st') : rS P t st m s x K = rS P t st' m' s' x' K := by rw [h, h0, h1, h2]
theorem S4 {P : Program} {g : FuncId} {dS args : List AV} {st : aB} {K : AV → aB → Prop} : sA P (.func g dS) args st K = aD P g (args ++ dS) st K := rfl
theorem aHR {P : Program} {t : TypeId} {x : AV} {st : aB} {K : AV → aB → Prop} {k : Option AV → Prop} : wR P false t x st K k = k (uM P t x) := by simp [wR]
theorem aC4 {P : Program} {t : TypeId} {x : AV} {st : aB} {K : AV → aB → Prop} {k : Option AV → Prop} : wR P true t x st K k = (x.cB = false ∧ ∀ b, st b = none → K (.ptr b 0) (st.aC b (.cells x.cells))) := by simp [wR]
theorem aKG {zs : List AV} {st : aB} {K : AV → aB → Prop} : HS (some zs) st K = ∀ b, st b = none → K (.ptr b 0) (st.aC b (.cells zs)) := rfl
theorem W9 {P : Program} {t : TypeId} {b q : Nat} {x : AV} {st : aB} {K : AV → aB → Prop} : KD P t (.ptr b q) x st K = match st b, tI P t with
 | some (.cells cs), some (_, sz) => x.cells.length = sz ∧ q + sz ≤ cs.length ∧ x.cells.all AV.storable = true ∧ K .undef (st.aC b (.cells (aK cs q x.cells)))
 | _, _ => False := rfl
def jG : Op → Bool
 | .alloc _ => true
 | _ => false
def iY : Op → Bool
 | .store _ _ _ => true
 | _ => false
def zK (P : Program) (mt : List Nat) (ops : Array Oper) (rest : List Oper) (K : AF → aB → Prop) (φ : AF) (st : aB) : Prop := fW P mt ops rest K φ st
def zF (P : Program) (mt : List Nat) (ops : Array Oper) (rest : List Oper) (K : AF → aB → Prop) (φ : AF) (d : Nat) (st : aB) (r : AV) : Prop := fW P mt ops rest K (φ.aC d r) st
def vI (x : AV) (K : AV → Prop) : Option (List AV) → Option (Bool × Nat) → Prop
 | some zs, some (_, sz) => zs.length = sz ∧ x.width = sz ∧ x.cells.all AV.storable = true ∧ x.cB = false ∧ K (.pptr x)
 | _, _ => False
def zM (P : Program) (mt : List Nat) (ops : Array Oper) (o : Oper) (s : Oper) (rest : List Oper) (K : AF → aB → Prop) (φ : AF) (st : aB) (d : Nat) (t : TypeId) (x : AV) : Bool → Prop
 | true => bB P mt ops [o] (zK P mt ops (s :: rest) K) φ st
 | false => vI x (zF P mt ops rest K φ d st) (zI P t) (tI P t)
section
variable {P : Program} {mt : List Nat} {ops : Array Oper} {rest : List Oper} {K : AF → aB → Prop} {φ : AF} {st : aB} {dst BF : Option Tmp} {type tN : TypeId} {pos pos' : String} {after sY : Array Edge} {g g' : Option (Nat × Bool)} {op op' : Op}
theorem HB : zK P mt ops rest K φ st = fW P mt ops rest K φ st := rfl
theorem Z3 {d : Nat} {r : AV} : zF P mt ops rest K φ d st r = fW P mt ops rest K (φ.aC d r) st := rfl
theorem aL4 : fW P mt ops [] K φ st = K φ st := by rw [fW]
theorem JF (h : jG op = false) : fW P mt ops (⟨dst, op, type, pos, after, g⟩ :: rest) K φ st = bB P mt ops [⟨dst, op, type, pos, after, g⟩] (zK P mt ops rest K) φ st := by
 rw [fW]
 · rfl
 · intro d t ty ps af t' d' x ty' ps' af' r e1 e2
   cases e1
   cases h
 · intro d t ty ps af e y ty2 ps2 af2 t' d' x ty' ps' af' r e1 e2
   cases e1
   cases h
theorem HL {t : TypeId} {x : AV} {k : AV → Prop} : BO P t x k = vI x k (zI P t) (tI P t) := by
 unfold BO vI
 simp only [uX]
 cases zI P t <;> cases tI P t <;> rfl
theorem aJ4 {x : AV} {k : AV → Prop} {zs : List AV} {ag : Bool} {sz : Nat} : vI x k (some zs) (some (ag, sz)) = (zs.length = sz ∧ x.width = sz ∧ x.cells.all AV.storable = true ∧ x.cB = false ∧ k (.pptr x)) := rfl
theorem JZ {d : Nat} {t : TypeId} {x : Operand} : fW P mt ops (⟨some d, .alloc t, type, pos, after, none⟩ :: ⟨none, .store t (.tmp d) x, tN, pos', sY, none⟩ :: rest) K φ st =
 zM P mt ops ⟨some d, .alloc t, type, pos, after, none⟩ ⟨none, .store t (.tmp d) x, tN, pos', sY, none⟩ rest K φ st d t (φ.eval x) (mt.contains d || oF x d) := by
 rw [fW]
 cases h : (mt.contains d || oF x d) with
 | true =>
  rw [aE (by simp)]
  show _ = bB P mt ops _ (fun φ' st' => zK P mt ops _ K φ' st') φ st
  simp only [HB, JF (K := K) (rest := rest) (op := .store t (.tmp d) x) rfl]
  rfl
 | false =>
  rw [aG ⟨rfl, rfl, rfl⟩, HL]
  try rfl
theorem aJW {o s : Oper} {d : Nat} {t : TypeId} {x : AV} : zM P mt ops o s rest K φ st d t x true = bB P mt ops [o] (zK P mt ops (s :: rest) K) φ st := rfl
theorem UE {o s : Oper} {d : Nat} {t : TypeId} {x : AV} : zM P mt ops o s rest K φ st d t x false = vI x (zF P mt ops rest K φ d st) (zI P t) (tI P t) := rfl
def EU (P : Program) (mt : List Nat) (ops : Array Oper) (o : Oper) (os : List Oper) (rest : List Oper) (K : AF → aB → Prop) (φ φ' : AF) (st : aB) (d : Nat) (t : TypeId) (x : AV) : Bool → Prop
 | true => bB P mt ops [o] (zK P mt ops (os ++ rest) K) φ st
 | false => vI x (zF P mt ops rest K φ' d st) (zI P t) (tI P t)
theorem RU {o : Oper} {os : List Oper} {φ' : AF} {d : Nat} {t : TypeId} {x : AV} : EU P mt ops o os rest K φ φ' st d t x false = vI x (zF P mt ops rest K φ' d st) (zI P t) (tI P t) := rfl
theorem aIK {o : Oper} {os : List Oper} {φ' : AF} {d : Nat} {t : TypeId} {x : AV} : EU P mt ops o os rest K φ φ' st d t x true = bB P mt ops [o] (zK P mt ops (os ++ rest) K) φ st := rfl
theorem aYL {d e : Nat} {t : TypeId} {x y : Operand} {type2 : TypeId} {vE : String} {F4 : Array Edge} : fW P mt ops (⟨some d, .alloc t, type, pos, after, none⟩ :: ⟨some e, .assign y, type2, vE, F4, none⟩ :: ⟨none, .store t (.tmp d) x, tN, pos', sY, none⟩ :: rest) K φ st =
 EU P mt ops ⟨some d, .alloc t, type, pos, after, none⟩ [⟨some e, .assign y, type2, vE, F4, none⟩, ⟨none, .store t (.tmp d) x, tN, pos', sY, none⟩] rest K φ (φ.aC e (φ.eval y)) st d t ((φ.aC e (φ.eval y)).eval x) (mt.contains d || oF x d || oF y d || d == e) := by
 rw [fW]
 cases h : (mt.contains d || oF x d || oF y d || d == e) with
 | true =>
  rw [aE (by simp)]
  show _ = bB P mt ops _ (fun φ' st' => zK P mt ops _ K φ' st') φ st
  simp only [HB, fF, eR, JF (K := K) (op := .assign y) rfl]
  rfl
 | false =>
  rw [aG ⟨rfl, rfl, rfl⟩, HL]
  try rfl
def jS : Op → Bool
 | .assign _ => true
 | _ => false
theorem aIP {t : TypeId} (h : iY op' = false) (h2 : jS op' = false) : fW P mt ops (⟨dst, .alloc t, type, pos, after, g⟩ :: ⟨BF, op', tN, pos', sY, g'⟩ :: rest) K φ st = bB P mt ops [⟨dst, .alloc t, type, pos, after, g⟩] (zK P mt ops (⟨BF, op', tN, pos', sY, g'⟩ :: rest) K) φ st := by
 rw [fW]
 · rfl
 · intro d t ty ps af t' d' x ty' ps' af' r e1 e2
   cases e2
   cases h
 · intro d t ty ps af e y ty2 ps2 af2 t' d' x ty' ps' af' r e1 e2
   cases e2
   cases h2
theorem aJB {t : TypeId} : fW P mt ops [⟨dst, .alloc t, type, pos, after, g⟩] K φ st = bB P mt ops [⟨dst, .alloc t, type, pos, after, g⟩] (zK P mt ops [] K) φ st := by
 rw [fW]
 · rfl
 · intro d t ty ps af t' d' x ty' ps' af' r e1 e2
   cases e2
 · intro d t ty ps af e y ty2 ps2 af2 t' d' x ty' ps' af' r e1 e2
   cases e2
theorem UJ {t : TypeId} {y : Operand} : fW P mt ops [⟨dst, .alloc t, type, pos, after, g⟩, ⟨BF, .assign y, tN, pos', sY, g'⟩] K φ st = bB P mt ops [⟨dst, .alloc t, type, pos, after, g⟩] (zK P mt ops [⟨BF, .assign y, tN, pos', sY, g'⟩] K) φ st := by
 rw [fW]
 · rfl
 · intro d t ty ps af t' d' x ty' ps' af' r e1 e2
   cases e2
 · intro d t ty ps af e y ty2 ps2 af2 t' d' x ty' ps' af' r e1 e2
   cases e2
theorem aCF {t : TypeId} {y : Operand} {aAG : Option Tmp} {op2 : Op} {type2 : TypeId} {vE : String} {F4 : Array Edge} {g2 : Option (Nat × Bool)} (h : iY op2 = false) : fW P mt ops (⟨dst, .alloc t, type, pos, after, g⟩ :: ⟨BF, .assign y, tN, pos', sY, g'⟩ :: ⟨aAG, op2, type2, vE, F4, g2⟩ :: rest) K φ st = bB P mt ops [⟨dst, .alloc t, type, pos, after, g⟩] (zK P mt ops (⟨BF, .assign y, tN, pos', sY, g'⟩ :: ⟨aAG, op2, type2, vE, F4, g2⟩ :: rest) K) φ st := by
 rw [fW]
 · rfl
 · intro d t ty ps af t' d' x ty' ps' af' r e1 e2
   cases e2
 · intro d t ty ps af e y ty2 ps2 af2 t' d' x ty' ps' af' r e1 e2
   cases e2
   cases h
theorem XH {d e : Nat} : oF (.tmp e) d = (e == d) := rfl
theorem aB7 {v : Value} {d : Nat} : oF (.const v) d = false := rfl
theorem TU {x : Operand} : jG (.move x) = false := rfl
theorem WV {x : Operand} : iY (.move x) = false := rfl
theorem RT {x : Operand} : jG (.assign x) = false := rfl
theorem aG0 {x : Operand} : iY (.assign x) = false := rfl
theorem T9 {c x y : Operand} : jG (.pick c x y) = false := rfl
theorem ZW {c x y : Operand} : iY (.pick c x y) = false := rfl
theorem aG6 {op : BinOp} {t : TypeId} {x y : Operand} {t' : TypeId} : jG (.binOp op t x y t') = false := rfl
theorem aGX {op : BinOp} {t : TypeId} {x y : Operand} {t' : TypeId} : iY (.binOp op t x y t') = false := rfl
theorem ZN {op : UnOp} {t : TypeId} {x : Operand} : jG (.unOp op t x) = false := rfl
theorem ZY {op : UnOp} {t : TypeId} {x : Operand} : iY (.unOp op t x) = false := rfl
theorem aAL {x : Operand} : jG (.nilCheck x) = false := rfl
theorem aIQ {x : Operand} : iY (.nilCheck x) = false := rfl
theorem aBE {t f : Nat} {x : Operand} : jG (.fieldAddr t x f) = false := rfl
theorem aEX {t f : Nat} {x : Operand} : iY (.fieldAddr t x f) = false := rfl
theorem aI2 {t : TypeId} {x : Operand} : jG (.load t x) = false := rfl
theorem UP {t : TypeId} {x : Operand} : iY (.load t x) = false := rfl
theorem aCG {t : TypeId} {p x : Operand} : jG (.store t p x) = false := rfl
theorem aEP {t f : Nat} {x : Operand} : jG (.field t x f) = false := rfl
theorem aIG {t f : Nat} {x : Operand} : iY (.field t x f) = false := rfl
theorem ZT {t : TypeId} {x i : Operand} : jG (.indexAddr t x i) = false := rfl
theorem UU {t : TypeId} {x i : Operand} : iY (.indexAddr t x i) = false := rfl
theorem SA {t : TypeId} {x i : Operand} : jG (.index t x i) = false := rfl
theorem aCR {t : TypeId} {x i : Operand} : iY (.index t x i) = false := rfl
theorem VA {t : TypeId} {x : Operand} {lo hi mx : Option Operand} : jG (.slice t x lo hi mx) = false := rfl
theorem aFO {t : TypeId} {x : Operand} {lo hi mx : Option Operand} : iY (.slice t x lo hi mx) = false := rfl
theorem aKN {x : Operand} {i : Nat} : jG (.extract x i) = false := rfl
theorem aBT {x : Operand} {i : Nat} : iY (.extract x i) = false := rfl
theorem aGK {t : TypeId} {ps : Array (Nat × Operand)} : jG (.build t ps) = false := rfl
theorem aF8 {t : TypeId} {ps : Array (Nat × Operand)} : iY (.build t ps) = false := rfl
theorem aKZ {t : TypeId} {n : Nat} {ps : Array (Nat × Operand)} : jG (.buildSlice t n ps) = false := rfl
theorem U3 {t : TypeId} {n : Nat} {ps : Array (Nat × Operand)} : iY (.buildSlice t n ps) = false := rfl
theorem Y7 {t u : TypeId} {x : Operand} : jG (.convert t u x) = false := rfl
theorem aAP {t u : TypeId} {x : Operand} : iY (.convert t u x) = false := rfl
theorem YS {t : TypeId} {x i : Operand} {ok : Bool} : jG (.lookup t x i ok) = false := rfl
theorem aDJ {t : TypeId} {x i : Operand} {ok : Bool} : iY (.lookup t x i ok) = false := rfl
theorem X4 {c : _} : jG (.call c) = false := rfl
theorem aBZ {c : _} : iY (.call c) = false := rfl
theorem aHB {t : TypeId} {x : Operand} : jG (.box t x) = false := rfl
theorem W6 {t : TypeId} {x : Operand} : iY (.box t x) = false := rfl
theorem aH8 {t : _} {x : _} : jG (.makeMap t x) = false := rfl
theorem VS {t : _} {x : _} : iY (.makeMap t x) = false := rfl
theorem U5 {t : TypeId} {n c : Operand} : jG (.makeSlice t n c) = false := rfl
theorem aA5 {t : TypeId} {n c : Operand} : iY (.makeSlice t n c) = false := rfl
theorem SJ {t : TypeId} {m k x : Operand} : jG (.mapUpdate t m k x) = false := rfl
theorem aFY {t : TypeId} {m k x : Operand} : iY (.mapUpdate t m k x) = false := rfl
theorem aJP {f : _} {a : _} {b : _} : jG (.makeFunc f a b) = false := rfl
theorem YD {f : _} {a : _} {b : _} : iY (.makeFunc f a b) = false := rfl
theorem aHA {t : TypeId} : iY (.alloc t) = false := rfl
theorem aC6 {x : Operand} : jS (.move x) = false := rfl
theorem aFJ {c x y : Operand} : jS (.pick c x y) = false := rfl
theorem RP {op : BinOp} {t : TypeId} {x y : Operand} {t' : TypeId} : jS (.binOp op t x y t') = false := rfl
theorem aE3 {op : UnOp} {t : TypeId} {x : Operand} : jS (.unOp op t x) = false := rfl
theorem aK6 {x : Operand} : jS (.nilCheck x) = false := rfl
theorem WR {t f : Nat} {x : Operand} : jS (.fieldAddr t x f) = false := rfl
theorem XP {t : TypeId} {x : Operand} : jS (.load t x) = false := rfl
theorem aBD {t f : Nat} {x : Operand} : jS (.field t x f) = false := rfl
theorem aEO {t : TypeId} {x i : Operand} : jS (.indexAddr t x i) = false := rfl
theorem aGJ {t : TypeId} {x i : Operand} : jS (.index t x i) = false := rfl
theorem aEG {t : TypeId} {x : Operand} {lo hi mx : Option Operand} : jS (.slice t x lo hi mx) = false := rfl
theorem aCB {x : Operand} {i : Nat} : jS (.extract x i) = false := rfl
theorem aHP {t : TypeId} {ps : Array (Nat × Operand)} : jS (.build t ps) = false := rfl
theorem WG {t : TypeId} {n : Nat} {ps : Array (Nat × Operand)} : jS (.buildSlice t n ps) = false := rfl
theorem ZG {t u : TypeId} {x : Operand} : jS (.convert t u x) = false := rfl
theorem aG8 {t : TypeId} {x i : Operand} {ok : Bool} : jS (.lookup t x i ok) = false := rfl
theorem XX {c : _} : jS (.call c) = false := rfl
theorem YJ {t : TypeId} {x : Operand} : jS (.box t x) = false := rfl
theorem ZA {t : _} {x : _} : jS (.makeMap t x) = false := rfl
theorem aBG {t : TypeId} {n c : Operand} : jS (.makeSlice t n c) = false := rfl
theorem X2 {t : TypeId} {m k x : Operand} : jS (.mapUpdate t m k x) = false := rfl
theorem aA1 {f : _} {a : _} {b : _} : jS (.makeFunc f a b) = false := rfl
theorem aH3 {t : TypeId} : jS (.alloc t) = false := rfl
@[congr] theorem a15 {o : Oper} {os : List Oper} {φ' φ2 φ2' : AF} {st' : aB} {d : Nat} {t : TypeId} {x x' : AV} {b b' : Bool} (h1 : φ = φ') (h0 : φ2 = φ2') (h2 : st = st') (h3 : x = x') (h4 : b = b') : EU P mt ops o os rest K φ φ2 st d t x b = EU P mt ops o os rest K φ' φ2' st' d t x' b' := by rw [h1, h0, h2, h3, h4]
@[congr] theorem a1F {x x' : AV} {k : AV → Prop} {a a' : Option (List AV)} {b b' : Option (Bool × Nat)} (h0 : x = x') (h1 : a = a') (h2 : b = b') : vI x k a b = vI x' k a' b' := by rw [h0, h1, h2]
@[congr] theorem a1S {o s : Oper} {φ' : AF} {st' : aB} {d : Nat} {t : TypeId} {x x' : AV} {b b' : Bool} (h1 : φ = φ') (h2 : st = st') (h3 : x = x') (h4 : b = b') : zM P mt ops o s rest K φ st d t x b = zM P mt ops o s rest K φ' st' d t x' b' := by rw [h1, h2, h3, h4]
@[congr] theorem a2V {l : List Oper} {Q : Exit → AF → aB → Prop} {φ' : AF} {st' : aB} {b b' : Bool} (h1 : φ = φ') (h2 : st = st') (h3 : b = b') : FA P mt l Q φ st b = FA P mt l Q φ' st' b' := by rw [h1, h2, h3]
end
end Go.AW
