/- The rules by which the code is evaluated: equations for simp. -/
import Derived.Test.YtepkgoabhlnkbaaGreatDoorSesc
set_option linter.unusedSimpArgs false
set_option linter.unusedVariables false
set_option maxRecDepth 100000
namespace Go.AW
section
variable {P : Program} {N : Nat} {mt : List Nat} {Q : Exit → AF → zy7 → Prop} {φ : AF} {st : zy7} {x y : Code} {ops : Array Oper} {id : Nat}
theorem ev_skip : aCode P N mt .skip Q φ st = Q .normal φ st := rfl
theorem ev_seq : aCode P N mt (.seq x y) Q φ st = aCode P N mt x (thenQ (aCode P N mt y Q) Q) φ st := rfl
def regK (P : Program) (mt : List Nat) (l : List Oper) (Q : Exit → AF → zy7 → Prop) (φ : AF) (st : zy7) : Bool → Prop
 | true => aOpsZ P mt l.toArray l (Q .normal) φ st
 | false => aOps P mt l.toArray l (Q .normal) φ st
theorem ev_region {l : List Oper} : aCode P N mt (.region id l.toArray false) Q φ st = regK P mt l Q φ st (mt.contains 1000000) := by
 simp only [aCode, Bool.false_eq_true, if_false]
 cases mt.contains 1000000 <;> rfl
theorem ev_regT {l : List Oper} : regK P mt l Q φ st true = aOpsZ P mt l.toArray l (Q .normal) φ st := rfl
theorem ev_regF {l : List Oper} : regK P mt l Q φ st false = aOps P mt l.toArray l (Q .normal) φ st := rfl
theorem ev_draw : aCode P N mt (.region id ops true) Q φ st = ARun P N (.region id ops true) Q φ st := by simp [aCode]
theorem ev_cond {c : Operand} : aCode P N mt (.cond c x y) Q φ st = aCond (φ.eval c) (aCode P N mt x Q) (aCode P N mt y Q) φ st := rfl
theorem ev_block : aCode P N mt (.block id x) Q φ st = aCode P N mt x (blockQ id Q) φ st := rfl
theorem ev_loop : aCode P N mt (.loop x) Q φ st = ARun P N (.loop x) Q φ st := rfl
theorem ev_exit : aCode P N mt (.exit id) Q φ st = Q (.exit id) φ st := rfl
theorem ev_ret : aCode P N mt .ret Q φ st = Q .ret φ st := rfl
theorem ev_true {k₁ k₂ : AF → zy7 → Prop} : aCond (.bool true) k₁ k₂ φ st = k₁ φ st := by simp [aCond]
theorem ev_false {k₁ k₂ : AF → zy7 → Prop} : aCond (.bool false) k₁ k₂ φ st = k₂ φ st := by simp [aCond]
theorem ev_then_normal {k : AF → zy7 → Prop} : thenQ k Q .normal φ st = k φ st := rfl
theorem ev_then_exit {k : AF → zy7 → Prop} : thenQ k Q (.exit id) φ st = Q (.exit id) φ st := rfl
theorem ev_then_ret {k : AF → zy7 → Prop} : thenQ k Q .ret φ st = Q .ret φ st := rfl
theorem ev_block_normal : blockQ id Q .normal φ st = Q .normal φ st := rfl
theorem ev_block_exit {i : Nat} : blockQ id Q (.exit i) φ st = if i = id then Q .normal φ st else Q (.exit i) φ st := rfl
theorem ev_block_ret : blockQ id Q .ret φ st = Q .ret φ st := rfl
theorem ev_loop_normal {k : AF → zy7 → Prop} : loopQ k Q .normal φ st = k φ st := rfl
theorem ev_loop_exit {k : AF → zy7 → Prop} : loopQ k Q (.exit id) φ st = Q (.exit id) φ st := rfl
theorem ev_loop_ret {k : AF → zy7 → Prop} : loopQ k Q .ret φ st = Q .ret φ st := rfl
def retL (P : Program) (rs : List ResultVar) (K : AV → zy7 → Prop) (φ : AF) (st : zy7) : Prop :=
 match aResults P φ st rs with
 | some xs => tupOf K st xs
 | none => False
theorem ev_retQ_ret {rs : Array ResultVar} {K : AV → zy7 → Prop} : retQ P rs K .ret φ st = retL P rs.toList K φ st := rfl
theorem ev_retQ_normal {rs : Array ResultVar} {K : AV → zy7 → Prop} : retQ P rs K .normal φ st = retL P rs.toList K φ st := rfl
theorem ev_ret1 {t : Tmp} {K : AV → zy7 → Prop} : retL P [.tmp t] K φ st = K (φ t) st := rfl
theorem ev_ret0 {K : AV → zy7 → Prop} : retL P [] K φ st = K (.tup []) st := by simp [retL, aResults, tupOf, zq1]
theorem ev_ret2 {t u : Tmp} {K : AV → zy7 → Prop} : retL P [.tmp t, .tmp u] K φ st = (zq1 [φ t, φ u] = true ∧ K (.tup [φ t, φ u]) st) := rfl
theorem ev_ret3 {t u v : Tmp} {K : AV → zy7 → Prop} : retL P [.tmp t, .tmp u, .tmp v] K φ st = (zq1 [φ t, φ u, φ v] = true ∧ K (.tup [φ t, φ u, φ v]) st) := rfl
def onSome (k : AV → Prop) : Option AV → Prop
 | some r => k r
 | none => False
theorem ev_retC {p : Tmp} {t : TypeId} {K : AV → zy7 → Prop} : retL P [.cell p t] K φ st = onSome (fun r => K r st) (zq2 P st t (φ p)) := by
 simp only [retL, aResults, aRes]
 cases zq2 P st t (φ p) <;> rfl
theorem ev_retC2 {p u : Tmp} {t : TypeId} {K : AV → zy7 → Prop} : retL P [.cell p t, .tmp u] K φ st = onSome (fun r => zq1 [r, φ u] = true ∧ K (.tup [r, φ u]) st) (zq2 P st t (φ p)) := by
 simp only [retL, aResults, aRes]
 cases zq2 P st t (φ p) <;> rfl
theorem ev_retCT {u p : Tmp} {t : TypeId} {K : AV → zy7 → Prop} : retL P [.tmp u, .cell p t] K φ st = onSome (fun r => zq1 [φ u, r] = true ∧ K (.tup [φ u, r]) st) (zq2 P st t (φ p)) := by
 simp only [retL, aResults, aRes]
 cases zq2 P st t (φ p) <;> rfl
theorem ev_onSome {k : AV → Prop} {r : AV} : onSome k (some r) = k r := rfl
def opsK (P : Program) (mt : List Nat) (ops : Array Oper) (rest : List Oper) (K : AF → zy7 → Prop) (φ : AF) (dst : Option Tmp) (st : zy7) : Option AV → Prop
 | some r => aOps P mt ops rest K (φ.put dst r) st
 | none => False
def opsC (P : Program) (mt : List Nat) (ops : Array Oper) (rest : List Oper) (K : AF → zy7 → Prop) (φ : AF) (dst : Option Tmp) (r : AV) (st : zy7) : Prop := aOps P mt ops rest K (φ.put dst r) st
def opsG (P : Program) (mt : List Nat) (ops : Array Oper) (o : Oper) (rest : List Oper) (K : AF → zy7 → Prop) (φ : AF) (st : zy7) : Option Bool → Prop
 | some true => aOps P mt ops ({ o with guard := none } :: rest) K φ st
 | some false => aOps P mt ops rest K (φ.put o.dst .undef) st
 | none => False
def gd (ops : Array Oper) (φ : AF) (j : Nat) (want : Bool) : Option Bool :=
 match (ops[j]?).bind (·.dst) with
 | none => some false
 | some d => match φ d with
  | .bool b => some (b == want)
  | .undef => some false
  | _ => none
section
variable {rest : List Oper} {K : AF → zy7 → Prop} {dst : Option Tmp} {type : TypeId} {pos : String} {after : Array Edge}
theorem ev_nil : aOps P mt ops [] K φ st = K φ st := rfl
theorem ev_guard {op : Op} {j : Nat} {want : Bool} : aOps P mt ops (⟨dst, op, type, pos, after, some (j, want)⟩ :: rest) K φ st = opsG P mt ops ⟨dst, op, type, pos, after, some (j, want)⟩ rest K φ st (gd ops φ j want) := by
 simp only [aOps]
 have h1 : aGuard ops φ ⟨dst, op, type, pos, after, some (j, want)⟩ = gd ops φ j want := rfl
 rw [h1]
 cases gd ops φ j want with
 | none => rfl
 | some b => cases b <;> simp [opsG, aOps, aGuard, aStep, aVal]
theorem ev_C {r : AV} : opsC P mt ops rest K φ dst r st = aOps P mt ops rest K (φ.put dst r) st := rfl
theorem ev_K_some {r : AV} : opsK P mt ops rest K φ dst st (some r) = aOps P mt ops rest K (φ.put dst r) st := rfl
theorem ev_G_true {op : Op} {g : Option (Nat × Bool)} : opsG P mt ops ⟨dst, op, type, pos, after, g⟩ rest K φ st (some true) = aOps P mt ops (⟨dst, op, type, pos, after, none⟩ :: rest) K φ st := rfl
theorem ev_G_false {op : Op} {g : Option (Nat × Bool)} : opsG P mt ops ⟨dst, op, type, pos, after, g⟩ rest K φ st (some false) = aOps P mt ops rest K (φ.put dst .undef) st := rfl
theorem opsK_of {o : Oper} (hg : o.guard = none) (e : ∀ K', aStep P mt φ st o K' = match aVal P φ st o with | some r => K' r st | none => False) : aOps P mt ops (o :: rest) K φ st = opsK P mt ops rest K φ o.dst st (aVal P φ st o) := by
 simp only [aOps, aGuard, hg, e]
 cases aVal P φ st o <;> rfl
def zw2 : AV → AV → AV → Option AV
 | .bool b, x, y => some (if b then x else y)
 | _, _, _ => none
def zx3 : AV → Option AV
 | .ptr b q => some (.ptr b q)
 | .pptr e => some (.pptr e)
 | _ => none
def zy3 (P : Program) (t f : Nat) (x : AV) : Option AV := match fI P t f, x with | some (off, ag, sz), .agg cs => sub ag cs off sz | _, _ => none
def zw3 (x : AV) (i : Nat) : Option AV := match x with | .tup vs => vs[i]? | _ => none
def aFn (g : FuncId) (cs : List AV) : Option AV := if zq1 cs = true then some (.func g cs) else none
def callV (P : Program) (f : AV) (args : List AV) (st : zy7) (K : AV → zy7 → Prop) : Prop := match f with | .func g caps => zq7 P g (args ++ caps) st K | _ => False
def boxK (P : Program) (m : Bool) (t : TypeId) (x : AV) (st : zy7) (K : AV → zy7 → Prop) (k : Option AV → Prop) : Prop :=
 if m = true then x.isJunk = false ∧ ∀ b, st b = none → K (.ptr b 0) (st.upd b (.cells x.cells)) else k (zq3 P t x)
def allocK (zs : Option (List AV)) (st : zy7) (K : AV → zy7 → Prop) : Prop := match zs with | some zs => ∀ b, st b = none → K (.ptr b 0) (st.upd b (.cells zs)) | none => False
def storeK (P : Program) (t : TypeId) (p x : AV) (st : zy7) (K : AV → zy7 → Prop) : Prop :=
 match p with
 | .ptr b q => match st b, tI P t with
  | some (.cells cs), some (_, sz) => x.cells.length = sz ∧ q + sz ≤ cs.length ∧ x.cells.all AV.storable = true ∧ K .undef (st.upd b (.cells (zy4 cs q x.cells)))
  | _, _ => False
 | _ => False
theorem ev_move {x : Operand} : aOps P mt ops (⟨dst, .move x, type, pos, after, none⟩ :: rest) K φ st = aOps P mt ops rest K (φ.put dst (φ.eval x)) st := rfl
theorem ev_assign {x : Operand} : aOps P mt ops (⟨dst, .assign x, type, pos, after, none⟩ :: rest) K φ st = aOps P mt ops rest K (φ.put dst (φ.eval x)) st := rfl
theorem ev_pick {c x y : Operand} : aOps P mt ops (⟨dst, .pick c x y, type, pos, after, none⟩ :: rest) K φ st = opsK P mt ops rest K φ dst st (zw2 (φ.eval c) (φ.eval x) (φ.eval y)) := by
 rw [opsK_of rfl fun _ => rfl]
 simp only [aVal]
 cases φ.eval c <;> rfl
theorem ev_binOp {op : BinOp} {t t' : TypeId} {x y : Operand} : aOps P mt ops (⟨dst, .binOp op t x y t', type, pos, after, none⟩ :: rest) K φ st = opsK P mt ops rest K φ dst st (aBinT P op t (φ.eval x) (φ.eval y)) := opsK_of rfl fun _ => rfl
theorem ev_unOp {op : UnOp} {t : TypeId} {x : Operand} : aOps P mt ops (⟨dst, .unOp op t x, type, pos, after, none⟩ :: rest) K φ st = opsK P mt ops rest K φ dst st (aUn op (φ.eval x)) := opsK_of rfl fun _ => rfl
theorem ev_nilCheck {x : Operand} : aOps P mt ops (⟨dst, .nilCheck x, type, pos, after, none⟩ :: rest) K φ st = opsK P mt ops rest K φ dst st (zx3 (φ.eval x)) := by
 rw [opsK_of rfl fun _ => rfl]
 rfl
theorem ev_fieldAddr {t f : Nat} {x : Operand} : aOps P mt ops (⟨dst, .fieldAddr t x f, type, pos, after, none⟩ :: rest) K φ st = opsK P mt ops rest K φ dst st (zy1 P t f (φ.eval x)) := opsK_of rfl fun _ => rfl
theorem ev_load {t : TypeId} {x : Operand} : aOps P mt ops (⟨dst, .load t x, type, pos, after, none⟩ :: rest) K φ st = opsK P mt ops rest K φ dst st (zq2 P st t (φ.eval x)) := opsK_of rfl fun _ => rfl
theorem ev_field {t f : Nat} {x : Operand} : aOps P mt ops (⟨dst, .field t x f, type, pos, after, none⟩ :: rest) K φ st = opsK P mt ops rest K φ dst st (zy3 P t f (φ.eval x)) := by
 rw [opsK_of rfl fun _ => rfl]
 rfl
theorem ev_indexAddr {t : TypeId} {x i : Operand} : aOps P mt ops (⟨dst, .indexAddr t x i, type, pos, after, none⟩ :: rest) K φ st = opsK P mt ops rest K φ dst st (aIndexAddr P t (φ.eval x) (φ.eval i)) := opsK_of rfl fun _ => rfl
theorem ev_index {t : TypeId} {x i : Operand} : aOps P mt ops (⟨dst, .index t x i, type, pos, after, none⟩ :: rest) K φ st = opsK P mt ops rest K φ dst st (aIndex P t (φ.eval x) (φ.eval i)) := opsK_of rfl fun _ => rfl
theorem ev_slice {t : TypeId} {x : Operand} {lo hi mx : Option Operand} : aOps P mt ops (⟨dst, .slice t x lo hi mx, type, pos, after, none⟩ :: rest) K φ st = opsK P mt ops rest K φ dst st (aSlice P φ t (φ.eval x) lo hi mx) := opsK_of rfl fun _ => rfl
theorem ev_extract {x : Operand} {i : Nat} : aOps P mt ops (⟨dst, .extract x i, type, pos, after, none⟩ :: rest) K φ st = opsK P mt ops rest K φ dst st (zw3 (φ.eval x) i) := by
 rw [opsK_of rfl fun _ => rfl]
 rfl
theorem ev_makeFunc {g : FuncId} {caps : Array Operand} : aOps P mt ops (⟨dst, .makeFunc (.func g) #[] caps, type, pos, after, none⟩ :: rest) K φ st = opsK P mt ops rest K φ dst st (aFn g (caps.toList.map φ.eval)) := by
 rw [opsK_of rfl fun _ => rfl]
 congr 1
 simp [aVal, aFn]
theorem ev_build {t : TypeId} {ps : Array (Nat × Operand)} : aOps P mt ops (⟨dst, .build t ps, type, pos, after, none⟩ :: rest) K φ st = opsK P mt ops rest K φ dst st (zx0 P φ t ps) := opsK_of rfl fun _ => rfl
theorem ev_buildSlice {t : TypeId} {n : Nat} {ps : Array (Nat × Operand)} : aOps P mt ops (⟨dst, .buildSlice t n ps, type, pos, after, none⟩ :: rest) K φ st = opsK P mt ops rest K φ dst st (zq0 P φ t n ps) := opsK_of rfl fun _ => rfl
theorem ev_convert {t u : TypeId} {x : Operand} : aOps P mt ops (⟨dst, .convert t u x, type, pos, after, none⟩ :: rest) K φ st = opsK P mt ops rest K φ dst st (aConvert P t u (φ.eval x)) := opsK_of rfl fun _ => rfl
theorem ev_lookup {t : TypeId} {x i : Operand} {ok : Bool} : aOps P mt ops (⟨dst, .lookup t x i ok, type, pos, after, none⟩ :: rest) K φ st = opsK P mt ops rest K φ dst st (aLookup P st t ok (φ.eval x) (φ.eval i)) := opsK_of rfl fun _ => rfl
theorem ev_len {x : Operand} {t : TypeId} : aOps P mt ops (⟨dst, .call { callee := .builtin .len, args := #[x], argTypes := #[t] }, type, pos, after, none⟩ :: rest) K φ st = opsK P mt ops rest K φ dst st (aLen P t (φ.eval x)) := opsK_of rfl fun _ => rfl
theorem ev_call {f : Operand} {args : List Operand} {ats : Array TypeId} : aOps P mt ops (⟨dst, .call { callee := .value f, args := args.toArray, argTypes := ats }, type, pos, after, none⟩ :: rest) K φ st = callV P (φ.eval f) (args.map φ.eval) st (opsC P mt ops rest K φ dst) := rfl
theorem ev_max {x y : Operand} {ts : Array TypeId} : aOps P mt ops (⟨dst, .call { callee := .builtin .max, args := #[x, y], argTypes := ts }, type, pos, after, none⟩ :: rest) K φ st = opsK P mt ops rest K φ dst st (aMax (φ.eval x) (φ.eval y)) := opsK_of rfl fun _ => rfl
theorem ev_append {s x : Operand} {t t' : TypeId} : aOps P mt ops (⟨dst, .call { callee := .builtin .append, args := #[s, x], argTypes := #[t, t'] }, type, pos, after, none⟩ :: rest) K φ st = (if t = t' then aAppend P t st (φ.eval s) (φ.eval x) (opsC P mt ops rest K φ dst) else aAppendZ P t t' st (φ.eval s) (φ.eval x) (opsC P mt ops rest K φ dst)) := rfl
theorem ev_delete {m k : Operand} {t t' : TypeId} : aOps P mt ops (⟨dst, .call { callee := .builtin .delete, args := #[m, k], argTypes := #[t, t'] }, type, pos, after, none⟩ :: rest) K φ st = aDelete P t st (φ.eval m) (φ.eval k) (opsC P mt ops rest K φ dst) := rfl
theorem ev_box {t : TypeId} {x : Operand} : aOps P mt ops (⟨dst, .box t x, type, pos, after, none⟩ :: rest) K φ st = boxK P (zy2 mt dst) t (φ.eval x) st (opsC P mt ops rest K φ dst) (opsK P mt ops rest K φ dst st) := by
 simp only [aOps, aGuard, aStep, boxK, opsC]
 split
 · rfl
 · cases zq3 P t (φ.eval x) <;> rfl
theorem ev_alloc {t : TypeId} : aOps P mt ops (⟨dst, .alloc t, type, pos, after, none⟩ :: rest) K φ st = allocK (zI P t) st (opsC P mt ops rest K φ dst) := rfl
theorem ev_store {t : TypeId} {p x : Operand} : aOps P mt ops (⟨dst, .store t p x, type, pos, after, none⟩ :: rest) K φ st = storeK P t (φ.eval p) (φ.eval x) st (opsC P mt ops rest K φ dst) := rfl
theorem ev_makeMap {t : TypeId} : aOps P mt ops (⟨dst, .makeMap t none, type, pos, after, none⟩ :: rest) K φ st = ∀ b, st b = none → opsC P mt ops rest K φ dst (.map b) (st.upd b (.map fun _ => none)) := rfl
theorem ev_makeSlice {t : TypeId} {n c : Operand} : aOps P mt ops (⟨dst, .makeSlice t n c, type, pos, after, none⟩ :: rest) K φ st = aMakeSlice P t st (φ.eval n) (φ.eval c) (opsC P mt ops rest K φ dst) := rfl
theorem ev_mapUpdate {t : TypeId} {m k x : Operand} : aOps P mt ops (⟨dst, .mapUpdate t m k x, type, pos, after, none⟩ :: rest) K φ st = aMapUpdate P t st (φ.eval m) (φ.eval k) (φ.eval x) (opsC P mt ops rest K φ dst) := rfl
theorem ev_tmp {t : Tmp} : φ.eval (.tmp t) = φ t := rfl
theorem ev_c_int {k : IntKind} {n : Int} : φ.eval (.const (.int k n)) = .int k n := rfl
theorem ev_c_bool {b : Bool} : φ.eval (.const (.bool b)) = .bool b := rfl
theorem ev_c_nil : φ.eval (.const (.slice none 0 0)) = .fslice [] := rfl
theorem ev_c_ptr : φ.eval (.const (.pointer none)) = .nilptr := rfl
theorem ev_c_map : φ.eval (.const (.map none)) = .nilmap := rfl
theorem ev_c_fn {g : FuncId} : φ.eval (.func g) = .func g [] := rfl
theorem ev_c_str {l : List UInt8} : φ.eval (.const (.string ⟨l.toArray⟩)) = if l.length ≤ 9223372036854775807 then .str ⟨l.toArray⟩ else .junk := by
 simp [AF.eval, ofConst, ByteArray.size, maxLen]
theorem ev_upd {d e : Nat} {v : AV} : (φ.upd d v) e = if e = d then v else φ e := rfl
theorem ev_put {d : Nat} {v : AV} : φ.put (some d) v = φ.upd d v := rfl
theorem ev_put0 {v : AV} : φ.put none v = φ := rfl
theorem ev_argF0 {i : Nat} : argF i [] = AF.bot := rfl
theorem ev_argF {i : Nat} {a : AV} {as : List AV} : argF i (a :: as) = (argF (i + 1) as).upd i a := rfl
theorem ev_add {P : Program} {t : TypeId} {k : IntKind} {a b : Int} : aBinT P .add t (.int k a) (.int k b) = some (.int k (k.wrap (a + b))) := by simp [aBinT, aBin]
theorem ev_sub {P : Program} {t : TypeId} {k : IntKind} {a b : Int} : aBinT P .sub t (.int k a) (.int k b) = some (.int k (k.wrap (a - b))) := by simp [aBinT, aBin]
theorem ev_mul {P : Program} {t : TypeId} {k : IntKind} {a b : Int} : aBinT P .mul t (.int k a) (.int k b) = some (.int k (k.wrap (a * b))) := by simp [aBinT, aBin]
theorem ev_quo {P : Program} {t : TypeId} {k : IntKind} {a b : Int} : aBinT P .quo t (.int k a) (.int k b) = if b = 0 then none else some (.int k (k.wrap (a.tdiv b))) := by simp [aBinT, aBin]
theorem ev_rem {P : Program} {t : TypeId} {k : IntKind} {a b : Int} : aBinT P .rem t (.int k a) (.int k b) = if b = 0 then none else some (.int k (a.tmod b)) := by simp [aBinT, aBin]
theorem ev_eql {P : Program} {t : TypeId} {k : IntKind} {a b : Int} : aBinT P .eql t (.int k a) (.int k b) = some (.bool (decide (a = b))) := by simp [aBinT, aBin]
theorem ev_neq {P : Program} {t : TypeId} {k : IntKind} {a b : Int} : aBinT P .neq t (.int k a) (.int k b) = some (.bool (!decide (a = b))) := by simp [aBinT, aBin]
theorem ev_lss {P : Program} {t : TypeId} {k : IntKind} {a b : Int} : aBinT P .lss t (.int k a) (.int k b) = some (.bool (decide (a < b))) := by simp [aBinT, aBin]
theorem ev_leq {P : Program} {t : TypeId} {k : IntKind} {a b : Int} : aBinT P .leq t (.int k a) (.int k b) = some (.bool (decide (a ≤ b))) := by simp [aBinT, aBin]
theorem ev_gtr {P : Program} {t : TypeId} {k : IntKind} {a b : Int} : aBinT P .gtr t (.int k a) (.int k b) = some (.bool (decide (b < a))) := by simp [aBinT, aBin]
theorem ev_geq {P : Program} {t : TypeId} {k : IntKind} {a b : Int} : aBinT P .geq t (.int k a) (.int k b) = some (.bool (decide (b ≤ a))) := by simp [aBinT, aBin]
theorem ev_xor {P : Program} {t : TypeId} {k : IntKind} {a b : Int} : aBinT P .xor t (.int k a) (.int k b) = some (.int k (aXor k a b)) := by simp [aBinT, aBin]
theorem ev_and {P : Program} {t : TypeId} {k : IntKind} {a b : Int} : aBinT P .and t (.int k a) (.int k b) = some (.int k (aAnd k a b)) := by simp [aBinT, aBin]
theorem ev_or {P : Program} {t : TypeId} {k : IntKind} {a b : Int} : aBinT P .or t (.int k a) (.int k b) = some (.int k (aOr k a b)) := by simp [aBinT, aBin]
theorem ev_maxI {k : IntKind} {a b : Int} : aMax (.int k a) (.int k b) = some (.int k (if a < b then b else a)) := by simp [aMax]
theorem ev_seql {P : Program} {t : TypeId} {a b : ByteArray} : aBinT P .eql t (.str a) (.str b) = some (.bool (decide (a = b))) := by simp [aBinT, aBin]
theorem ev_sneq {P : Program} {t : TypeId} {a b : ByteArray} : aBinT P .neq t (.str a) (.str b) = some (.bool (!decide (a = b))) := by simp [aBinT, aBin]
theorem ev_sadd {P : Program} {t : TypeId} {a b : ByteArray} : aBinT P .add t (.str a) (.str b) = if a.size + b.size ≤ maxLen then some (.str (a ++ b)) else none := by simp [aBinT, aBin]
theorem ev_slss {P : Program} {t : TypeId} {a b : ByteArray} : aBinT P .lss t (.str a) (.str b) = some (.bool (Op.bytesLess a.toList b.toList)) := by simp [aBinT, aBin]
theorem ev_sgtr {P : Program} {t : TypeId} {a b : ByteArray} : aBinT P .gtr t (.str a) (.str b) = some (.bool (!(Op.bytesLess a.toList b.toList || decide (a = b)))) := by simp [aBinT, aBin]
theorem ev_beql {P : Program} {t : TypeId} {a b : Bool} (h : P.underlying t = some .bool) : aBinT P .eql t (.bool a) (.bool b) = some (.bool (a == b)) := by simp [aBinT, h]
theorem ev_bneq {P : Program} {t : TypeId} {a b : Bool} (h : P.underlying t = some .bool) : aBinT P .neq t (.bool a) (.bool b) = some (.bool (!(a == b))) := by simp [aBinT, h]
theorem ev_not {b : Bool} : aUn .not (.bool b) = some (.bool (!b)) := rfl
theorem ev_neg {k : IntKind} {n : Int} : aUn .neg (.int k n) = some (.int k (k.wrap (0 - n))) := rfl
end
end
@[congr] theorem cg_aCode {P : Program} {N : Nat} {mt : List Nat} {c : Code} {Q : Exit → AF → zy7 → Prop} {φ φ' : AF} {st st' : zy7} (h1 : φ = φ') (h2 : st = st') : aCode P N mt c Q φ st = aCode P N mt c Q φ' st' := by rw [h1, h2]
@[congr] theorem cg_aOps {P : Program} {mt : List Nat} {ops : Array Oper} {l : List Oper} {K : AF → zy7 → Prop} {φ φ' : AF} {st st' : zy7} (h1 : φ = φ') (h2 : st = st') : aOps P mt ops l K φ st = aOps P mt ops l K φ' st' := by rw [h1, h2]
@[congr] theorem cg_opsK {P : Program} {mt : List Nat} {ops : Array Oper} {l : List Oper} {K : AF → zy7 → Prop} {φ : AF} {st : zy7} {dst : Option Tmp} {x x' : Option AV} (h1 : x = x') : opsK P mt ops l K φ dst st x = opsK P mt ops l K φ dst st x' := by rw [h1]
@[congr] theorem cg_opsG {P : Program} {mt : List Nat} {ops : Array Oper} {o : Oper} {l : List Oper} {K : AF → zy7 → Prop} {φ : AF} {st : zy7} {x x' : Option Bool} (h1 : x = x') : opsG P mt ops o l K φ st x = opsG P mt ops o l K φ st x' := by rw [h1]
@[congr] theorem cg_opsC {P : Program} {mt : List Nat} {ops : Array Oper} {l : List Oper} {K : AF → zy7 → Prop} {φ : AF} {dst : Option Tmp} {r r' : AV} {st st' : zy7} (h1 : r = r') (h2 : st = st') : opsC P mt ops l K φ dst r st = opsC P mt ops l K φ dst r' st' := by rw [h1, h2]
@[congr] theorem cg_aCond {c c' : AV} {k₁ k₂ : AF → zy7 → Prop} {φ : AF} {st : zy7} (h1 : c = c') : aCond c k₁ k₂ φ st = aCond c' k₁ k₂ φ st := by rw [h1]
@[congr] theorem cg_ACalls {P : Program} {g : FuncId} {args args' : List AV} {st st' : zy7} {K : AV → zy7 → Prop} (h1 : args = args') (h2 : st = st') : zq7 P g args st K = zq7 P g args' st' K := by rw [h1, h2]
@[congr] theorem cg_callV {P : Program} {f f' : AV} {args args' : List AV} {st st' : zy7} {K : AV → zy7 → Prop} (h0 : f = f') (h1 : args = args') (h2 : st = st') : callV P f args st K = callV P f' args' st' K := by rw [h0, h1, h2]
@[congr] theorem cg_boxK {P : Program} {m m' : Bool} {t : TypeId} {x x' : AV} {st st' : zy7} {K : AV → zy7 → Prop} {k : Option AV → Prop} (h0 : m = m') (h1 : x = x') (h2 : st = st') : boxK P m t x st K k = boxK P m' t x' st' K k := by rw [h0, h1, h2]
@[congr] theorem cg_allocK {zs zs' : Option (List AV)} {st st' : zy7} {K : AV → zy7 → Prop} (h1 : zs = zs') (h2 : st = st') : allocK zs st K = allocK zs' st' K := by rw [h1, h2]
@[congr] theorem cg_storeK {P : Program} {t : TypeId} {p p' x x' : AV} {st st' : zy7} {K : AV → zy7 → Prop} (h0 : p = p') (h1 : x = x') (h2 : st = st') : storeK P t p x st K = storeK P t p' x' st' K := by rw [h0, h1, h2]
@[congr] theorem cg_aMax {x x' y y' : AV} (h0 : x = x') (h1 : y = y') : aMax x y = aMax x' y' := by rw [h0, h1]
@[congr] theorem cg_aAppendZ {P : Program} {t t' : TypeId} {s s' x x' : AV} {st st' : zy7} {K : AV → zy7 → Prop} (h0 : s = s') (h1 : x = x') (h2 : st = st') : aAppendZ P t t' st s x K = aAppendZ P t t' st' s' x' K := by rw [h0, h1, h2]
@[congr] theorem cg_aAppend {P : Program} {t : TypeId} {s s' x x' : AV} {st st' : zy7} {K : AV → zy7 → Prop} (h0 : s = s') (h1 : x = x') (h2 : st = st') : aAppend P t st s x K = aAppend P t st' s' x' K := by rw [h0, h1, h2]
@[congr] theorem cg_aMakeSlice {P : Program} {t : TypeId} {s s' x x' : AV} {st st' : zy7} {K : AV → zy7 → Prop} (h0 : s = s') (h1 : x = x') (h2 : st = st') : aMakeSlice P t st s x K = aMakeSlice P t st' s' x' K := by rw [h0, h1, h2]
@[congr] theorem cg_aMapUpdate {P : Program} {t : TypeId} {m m' s s' x x' : AV} {st st' : zy7} {K : AV → zy7 → Prop} (h : m = m') (h0 : s = s') (h1 : x = x') (h2 : st = st') : aMapUpdate P t st m s x K = aMapUpdate P t st' m' s' x' K := by rw [h, h0, h1, h2]
theorem ev_callV {P : Program} {g : FuncId} {caps args : List AV} {st : zy7} {K : AV → zy7 → Prop} : callV P (.func g caps) args st K = zq7 P g (args ++ caps) st K := rfl
theorem ev_box_f {P : Program} {t : TypeId} {x : AV} {st : zy7} {K : AV → zy7 → Prop} {k : Option AV → Prop} : boxK P false t x st K k = k (zq3 P t x) := by simp [boxK]
theorem ev_box_t {P : Program} {t : TypeId} {x : AV} {st : zy7} {K : AV → zy7 → Prop} {k : Option AV → Prop} : boxK P true t x st K k = (x.isJunk = false ∧ ∀ b, st b = none → K (.ptr b 0) (st.upd b (.cells x.cells))) := by simp [boxK]
theorem ev_alloc_some {zs : List AV} {st : zy7} {K : AV → zy7 → Prop} : allocK (some zs) st K = ∀ b, st b = none → K (.ptr b 0) (st.upd b (.cells zs)) := rfl
theorem ev_store_ptr {P : Program} {t : TypeId} {b q : Nat} {x : AV} {st : zy7} {K : AV → zy7 → Prop} : storeK P t (.ptr b q) x st K = match st b, tI P t with
 | some (.cells cs), some (_, sz) => x.cells.length = sz ∧ q + sz ≤ cs.length ∧ x.cells.all AV.storable = true ∧ K .undef (st.upd b (.cells (zy4 cs q x.cells)))
 | _, _ => False := rfl
def isAllocOp : Op → Bool
 | .alloc _ => true
 | _ => false
def isStoreOp : Op → Bool
 | .store _ _ _ => true
 | _ => false
def zK (P : Program) (mt : List Nat) (ops : Array Oper) (rest : List Oper) (K : AF → zy7 → Prop) (φ : AF) (st : zy7) : Prop := aOpsZ P mt ops rest K φ st
def zF (P : Program) (mt : List Nat) (ops : Array Oper) (rest : List Oper) (K : AF → zy7 → Prop) (φ : AF) (d : Nat) (st : zy7) (r : AV) : Prop := aOpsZ P mt ops rest K (φ.upd d r) st
def fuseG (x : AV) (K : AV → Prop) : Option (List AV) → Option (Bool × Nat) → Prop
 | some zs, some (_, sz) => zs.length = sz ∧ x.width = sz ∧ x.cells.all AV.storable = true ∧ x.isJunk = false ∧ K (.pptr x)
 | _, _ => False
def zM (P : Program) (mt : List Nat) (ops : Array Oper) (o : Oper) (s : Oper) (rest : List Oper) (K : AF → zy7 → Prop) (φ : AF) (st : zy7) (d : Nat) (t : TypeId) (x : AV) : Bool → Prop
 | true => aOps P mt ops [o] (zK P mt ops (s :: rest) K) φ st
 | false => fuseG x (zF P mt ops rest K φ d st) (zI P t) (tI P t)
section
variable {P : Program} {mt : List Nat} {ops : Array Oper} {rest : List Oper} {K : AF → zy7 → Prop} {φ : AF} {st : zy7} {dst dst' : Option Tmp} {type type' : TypeId} {pos pos' : String} {after after' : Array Edge} {g g' : Option (Nat × Bool)} {op op' : Op}
theorem ev_zK : zK P mt ops rest K φ st = aOpsZ P mt ops rest K φ st := rfl
theorem ev_zF {d : Nat} {r : AV} : zF P mt ops rest K φ d st r = aOpsZ P mt ops rest K (φ.upd d r) st := rfl
theorem ev_Z0 : aOpsZ P mt ops [] K φ st = K φ st := by rw [aOpsZ]
theorem ev_Z1 (h : isAllocOp op = false) : aOpsZ P mt ops (⟨dst, op, type, pos, after, g⟩ :: rest) K φ st = aOps P mt ops [⟨dst, op, type, pos, after, g⟩] (zK P mt ops rest K) φ st := by
 rw [aOpsZ]
 · rfl
 · intro d t ty ps af t' d' x ty' ps' af' r e1 e2
   cases e1
   cases h
 · intro d t ty ps af e y ty2 ps2 af2 t' d' x ty' ps' af' r e1 e2
   cases e1
   cases h
theorem ev_fuse {t : TypeId} {x : AV} {k : AV → Prop} : aFuse P t x k = fuseG x k (zI P t) (tI P t) := by
 unfold aFuse fuseG
 simp only [cells_width]
 cases zI P t <;> cases tI P t <;> rfl
theorem ev_fuseG {x : AV} {k : AV → Prop} {zs : List AV} {ag : Bool} {sz : Nat} : fuseG x k (some zs) (some (ag, sz)) = (zs.length = sz ∧ x.width = sz ∧ x.cells.all AV.storable = true ∧ x.isJunk = false ∧ k (.pptr x)) := rfl
theorem evZ2 {d : Nat} {t : TypeId} {x : Operand} : aOpsZ P mt ops (⟨some d, .alloc t, type, pos, after, none⟩ :: ⟨none, .store t (.tmp d) x, type', pos', after', none⟩ :: rest) K φ st =
 zM P mt ops ⟨some d, .alloc t, type, pos, after, none⟩ ⟨none, .store t (.tmp d) x, type', pos', after', none⟩ rest K φ st d t (φ.eval x) (mt.contains d || isT x d) := by
 rw [aOpsZ]
 cases h : (mt.contains d || isT x d) with
 | true =>
  rw [if_neg (by simp)]
  show _ = aOps P mt ops _ (fun φ' st' => zK P mt ops _ K φ' st') φ st
  simp only [ev_zK, ev_Z1 (K := K) (rest := rest) (op := .store t (.tmp d) x) rfl]
  rfl
 | false =>
  rw [if_pos ⟨rfl, rfl, rfl⟩, ev_fuse]
  rfl
theorem ev_zMt {o s : Oper} {d : Nat} {t : TypeId} {x : AV} : zM P mt ops o s rest K φ st d t x true = aOps P mt ops [o] (zK P mt ops (s :: rest) K) φ st := rfl
theorem ev_zMf {o s : Oper} {d : Nat} {t : TypeId} {x : AV} : zM P mt ops o s rest K φ st d t x false = fuseG x (zF P mt ops rest K φ d st) (zI P t) (tI P t) := rfl
def zM3 (P : Program) (mt : List Nat) (ops : Array Oper) (o : Oper) (os : List Oper) (rest : List Oper) (K : AF → zy7 → Prop) (φ φ' : AF) (st : zy7) (d : Nat) (t : TypeId) (x : AV) : Bool → Prop
 | true => aOps P mt ops [o] (zK P mt ops (os ++ rest) K) φ st
 | false => fuseG x (zF P mt ops rest K φ' d st) (zI P t) (tI P t)
theorem ev_zM3f {o : Oper} {os : List Oper} {φ' : AF} {d : Nat} {t : TypeId} {x : AV} : zM3 P mt ops o os rest K φ φ' st d t x false = fuseG x (zF P mt ops rest K φ' d st) (zI P t) (tI P t) := rfl
theorem ev_zM3t {o : Oper} {os : List Oper} {φ' : AF} {d : Nat} {t : TypeId} {x : AV} : zM3 P mt ops o os rest K φ φ' st d t x true = aOps P mt ops [o] (zK P mt ops (os ++ rest) K) φ st := rfl
theorem evZ3 {d e : Nat} {t : TypeId} {x y : Operand} {type2 : TypeId} {pos2 : String} {after2 : Array Edge} : aOpsZ P mt ops (⟨some d, .alloc t, type, pos, after, none⟩ :: ⟨some e, .assign y, type2, pos2, after2, none⟩ :: ⟨none, .store t (.tmp d) x, type', pos', after', none⟩ :: rest) K φ st =
 zM3 P mt ops ⟨some d, .alloc t, type, pos, after, none⟩ [⟨some e, .assign y, type2, pos2, after2, none⟩, ⟨none, .store t (.tmp d) x, type', pos', after', none⟩] rest K φ (φ.upd e (φ.eval y)) st d t ((φ.upd e (φ.eval y)).eval x) (mt.contains d || isT x d || isT y d || d == e) := by
 rw [aOpsZ]
 cases h : (mt.contains d || isT x d || isT y d || d == e) with
 | true =>
  rw [if_neg (by simp)]
  show _ = aOps P mt ops _ (fun φ' st' => zK P mt ops _ K φ' st') φ st
  simp only [ev_zK, List.cons_append, List.nil_append, ev_Z1 (K := K) (op := .assign y) rfl]
  rfl
 | false =>
  rw [if_pos ⟨rfl, rfl, rfl⟩, ev_fuse]
  rfl
def isAssignOp : Op → Bool
 | .assign _ => true
 | _ => false
theorem ev_Z3 {t : TypeId} (h : isStoreOp op' = false) (h2 : isAssignOp op' = false) : aOpsZ P mt ops (⟨dst, .alloc t, type, pos, after, g⟩ :: ⟨dst', op', type', pos', after', g'⟩ :: rest) K φ st = aOps P mt ops [⟨dst, .alloc t, type, pos, after, g⟩] (zK P mt ops (⟨dst', op', type', pos', after', g'⟩ :: rest) K) φ st := by
 rw [aOpsZ]
 · rfl
 · intro d t ty ps af t' d' x ty' ps' af' r e1 e2
   cases e2
   cases h
 · intro d t ty ps af e y ty2 ps2 af2 t' d' x ty' ps' af' r e1 e2
   cases e2
   cases h2
theorem ev_Z4 {t : TypeId} : aOpsZ P mt ops [⟨dst, .alloc t, type, pos, after, g⟩] K φ st = aOps P mt ops [⟨dst, .alloc t, type, pos, after, g⟩] (zK P mt ops [] K) φ st := by
 rw [aOpsZ]
 · rfl
 · intro d t ty ps af t' d' x ty' ps' af' r e1 e2
   cases e2
 · intro d t ty ps af e y ty2 ps2 af2 t' d' x ty' ps' af' r e1 e2
   cases e2
theorem ev_Z5 {t : TypeId} {y : Operand} : aOpsZ P mt ops [⟨dst, .alloc t, type, pos, after, g⟩, ⟨dst', .assign y, type', pos', after', g'⟩] K φ st = aOps P mt ops [⟨dst, .alloc t, type, pos, after, g⟩] (zK P mt ops [⟨dst', .assign y, type', pos', after', g'⟩] K) φ st := by
 rw [aOpsZ]
 · rfl
 · intro d t ty ps af t' d' x ty' ps' af' r e1 e2
   cases e2
 · intro d t ty ps af e y ty2 ps2 af2 t' d' x ty' ps' af' r e1 e2
   cases e2
theorem ev_Z6 {t : TypeId} {y : Operand} {dst2 : Option Tmp} {op2 : Op} {type2 : TypeId} {pos2 : String} {after2 : Array Edge} {g2 : Option (Nat × Bool)} (h : isStoreOp op2 = false) : aOpsZ P mt ops (⟨dst, .alloc t, type, pos, after, g⟩ :: ⟨dst', .assign y, type', pos', after', g'⟩ :: ⟨dst2, op2, type2, pos2, after2, g2⟩ :: rest) K φ st = aOps P mt ops [⟨dst, .alloc t, type, pos, after, g⟩] (zK P mt ops (⟨dst', .assign y, type', pos', after', g'⟩ :: ⟨dst2, op2, type2, pos2, after2, g2⟩ :: rest) K) φ st := by
 rw [aOpsZ]
 · rfl
 · intro d t ty ps af t' d' x ty' ps' af' r e1 e2
   cases e2
 · intro d t ty ps af e y ty2 ps2 af2 t' d' x ty' ps' af' r e1 e2
   cases e2
   cases h
theorem ev_isTt {d e : Nat} : isT (.tmp e) d = (e == d) := rfl
theorem ev_isTc {v : Value} {d : Nat} : isT (.const v) d = false := rfl
theorem ev_al_move {x : Operand} : isAllocOp (.move x) = false := rfl
theorem ev_sr_move {x : Operand} : isStoreOp (.move x) = false := rfl
theorem ev_al_assign {x : Operand} : isAllocOp (.assign x) = false := rfl
theorem ev_sr_assign {x : Operand} : isStoreOp (.assign x) = false := rfl
theorem ev_al_pick {c x y : Operand} : isAllocOp (.pick c x y) = false := rfl
theorem ev_sr_pick {c x y : Operand} : isStoreOp (.pick c x y) = false := rfl
theorem ev_al_binOp {op : BinOp} {t : TypeId} {x y : Operand} {t' : TypeId} : isAllocOp (.binOp op t x y t') = false := rfl
theorem ev_sr_binOp {op : BinOp} {t : TypeId} {x y : Operand} {t' : TypeId} : isStoreOp (.binOp op t x y t') = false := rfl
theorem ev_al_unOp {op : UnOp} {t : TypeId} {x : Operand} : isAllocOp (.unOp op t x) = false := rfl
theorem ev_sr_unOp {op : UnOp} {t : TypeId} {x : Operand} : isStoreOp (.unOp op t x) = false := rfl
theorem ev_al_nilCheck {x : Operand} : isAllocOp (.nilCheck x) = false := rfl
theorem ev_sr_nilCheck {x : Operand} : isStoreOp (.nilCheck x) = false := rfl
theorem ev_al_fieldAddr {t f : Nat} {x : Operand} : isAllocOp (.fieldAddr t x f) = false := rfl
theorem ev_sr_fieldAddr {t f : Nat} {x : Operand} : isStoreOp (.fieldAddr t x f) = false := rfl
theorem ev_al_load {t : TypeId} {x : Operand} : isAllocOp (.load t x) = false := rfl
theorem ev_sr_load {t : TypeId} {x : Operand} : isStoreOp (.load t x) = false := rfl
theorem ev_al_store {t : TypeId} {p x : Operand} : isAllocOp (.store t p x) = false := rfl
theorem ev_al_field {t f : Nat} {x : Operand} : isAllocOp (.field t x f) = false := rfl
theorem ev_sr_field {t f : Nat} {x : Operand} : isStoreOp (.field t x f) = false := rfl
theorem ev_al_indexAddr {t : TypeId} {x i : Operand} : isAllocOp (.indexAddr t x i) = false := rfl
theorem ev_sr_indexAddr {t : TypeId} {x i : Operand} : isStoreOp (.indexAddr t x i) = false := rfl
theorem ev_al_index {t : TypeId} {x i : Operand} : isAllocOp (.index t x i) = false := rfl
theorem ev_sr_index {t : TypeId} {x i : Operand} : isStoreOp (.index t x i) = false := rfl
theorem ev_al_slice {t : TypeId} {x : Operand} {lo hi mx : Option Operand} : isAllocOp (.slice t x lo hi mx) = false := rfl
theorem ev_sr_slice {t : TypeId} {x : Operand} {lo hi mx : Option Operand} : isStoreOp (.slice t x lo hi mx) = false := rfl
theorem ev_al_extract {x : Operand} {i : Nat} : isAllocOp (.extract x i) = false := rfl
theorem ev_sr_extract {x : Operand} {i : Nat} : isStoreOp (.extract x i) = false := rfl
theorem ev_al_build {t : TypeId} {ps : Array (Nat × Operand)} : isAllocOp (.build t ps) = false := rfl
theorem ev_sr_build {t : TypeId} {ps : Array (Nat × Operand)} : isStoreOp (.build t ps) = false := rfl
theorem ev_al_buildSlice {t : TypeId} {n : Nat} {ps : Array (Nat × Operand)} : isAllocOp (.buildSlice t n ps) = false := rfl
theorem ev_sr_buildSlice {t : TypeId} {n : Nat} {ps : Array (Nat × Operand)} : isStoreOp (.buildSlice t n ps) = false := rfl
theorem ev_al_convert {t u : TypeId} {x : Operand} : isAllocOp (.convert t u x) = false := rfl
theorem ev_sr_convert {t u : TypeId} {x : Operand} : isStoreOp (.convert t u x) = false := rfl
theorem ev_al_lookup {t : TypeId} {x i : Operand} {ok : Bool} : isAllocOp (.lookup t x i ok) = false := rfl
theorem ev_sr_lookup {t : TypeId} {x i : Operand} {ok : Bool} : isStoreOp (.lookup t x i ok) = false := rfl
theorem ev_al_call {c : _} : isAllocOp (.call c) = false := rfl
theorem ev_sr_call {c : _} : isStoreOp (.call c) = false := rfl
theorem ev_al_box {t : TypeId} {x : Operand} : isAllocOp (.box t x) = false := rfl
theorem ev_sr_box {t : TypeId} {x : Operand} : isStoreOp (.box t x) = false := rfl
theorem ev_al_makeMap {t : _} {x : _} : isAllocOp (.makeMap t x) = false := rfl
theorem ev_sr_makeMap {t : _} {x : _} : isStoreOp (.makeMap t x) = false := rfl
theorem ev_al_makeSlice {t : TypeId} {n c : Operand} : isAllocOp (.makeSlice t n c) = false := rfl
theorem ev_sr_makeSlice {t : TypeId} {n c : Operand} : isStoreOp (.makeSlice t n c) = false := rfl
theorem ev_al_mapUpdate {t : TypeId} {m k x : Operand} : isAllocOp (.mapUpdate t m k x) = false := rfl
theorem ev_sr_mapUpdate {t : TypeId} {m k x : Operand} : isStoreOp (.mapUpdate t m k x) = false := rfl
theorem ev_al_makeFunc {f : _} {a : _} {b : _} : isAllocOp (.makeFunc f a b) = false := rfl
theorem ev_sr_makeFunc {f : _} {a : _} {b : _} : isStoreOp (.makeFunc f a b) = false := rfl
theorem ev_sr_alloc {t : TypeId} : isStoreOp (.alloc t) = false := rfl
theorem ev_as_move {x : Operand} : isAssignOp (.move x) = false := rfl
theorem ev_as_pick {c x y : Operand} : isAssignOp (.pick c x y) = false := rfl
theorem ev_as_binOp {op : BinOp} {t : TypeId} {x y : Operand} {t' : TypeId} : isAssignOp (.binOp op t x y t') = false := rfl
theorem ev_as_unOp {op : UnOp} {t : TypeId} {x : Operand} : isAssignOp (.unOp op t x) = false := rfl
theorem ev_as_nilCheck {x : Operand} : isAssignOp (.nilCheck x) = false := rfl
theorem ev_as_fieldAddr {t f : Nat} {x : Operand} : isAssignOp (.fieldAddr t x f) = false := rfl
theorem ev_as_load {t : TypeId} {x : Operand} : isAssignOp (.load t x) = false := rfl
theorem ev_as_field {t f : Nat} {x : Operand} : isAssignOp (.field t x f) = false := rfl
theorem ev_as_indexAddr {t : TypeId} {x i : Operand} : isAssignOp (.indexAddr t x i) = false := rfl
theorem ev_as_index {t : TypeId} {x i : Operand} : isAssignOp (.index t x i) = false := rfl
theorem ev_as_slice {t : TypeId} {x : Operand} {lo hi mx : Option Operand} : isAssignOp (.slice t x lo hi mx) = false := rfl
theorem ev_as_extract {x : Operand} {i : Nat} : isAssignOp (.extract x i) = false := rfl
theorem ev_as_build {t : TypeId} {ps : Array (Nat × Operand)} : isAssignOp (.build t ps) = false := rfl
theorem ev_as_buildSlice {t : TypeId} {n : Nat} {ps : Array (Nat × Operand)} : isAssignOp (.buildSlice t n ps) = false := rfl
theorem ev_as_convert {t u : TypeId} {x : Operand} : isAssignOp (.convert t u x) = false := rfl
theorem ev_as_lookup {t : TypeId} {x i : Operand} {ok : Bool} : isAssignOp (.lookup t x i ok) = false := rfl
theorem ev_as_call {c : _} : isAssignOp (.call c) = false := rfl
theorem ev_as_box {t : TypeId} {x : Operand} : isAssignOp (.box t x) = false := rfl
theorem ev_as_makeMap {t : _} {x : _} : isAssignOp (.makeMap t x) = false := rfl
theorem ev_as_makeSlice {t : TypeId} {n c : Operand} : isAssignOp (.makeSlice t n c) = false := rfl
theorem ev_as_mapUpdate {t : TypeId} {m k x : Operand} : isAssignOp (.mapUpdate t m k x) = false := rfl
theorem ev_as_makeFunc {f : _} {a : _} {b : _} : isAssignOp (.makeFunc f a b) = false := rfl
theorem ev_as_alloc {t : TypeId} : isAssignOp (.alloc t) = false := rfl
@[congr] theorem cg_zM3 {o : Oper} {os : List Oper} {φ' φ2 φ2' : AF} {st' : zy7} {d : Nat} {t : TypeId} {x x' : AV} {b b' : Bool} (h1 : φ = φ') (h0 : φ2 = φ2') (h2 : st = st') (h3 : x = x') (h4 : b = b') : zM3 P mt ops o os rest K φ φ2 st d t x b = zM3 P mt ops o os rest K φ' φ2' st' d t x' b' := by rw [h1, h0, h2, h3, h4]
@[congr] theorem cg_fuseG {x x' : AV} {k : AV → Prop} {a a' : Option (List AV)} {b b' : Option (Bool × Nat)} (h0 : x = x') (h1 : a = a') (h2 : b = b') : fuseG x k a b = fuseG x' k a' b' := by rw [h0, h1, h2]
@[congr] theorem cg_zM {o s : Oper} {φ' : AF} {st' : zy7} {d : Nat} {t : TypeId} {x x' : AV} {b b' : Bool} (h1 : φ = φ') (h2 : st = st') (h3 : x = x') (h4 : b = b') : zM P mt ops o s rest K φ st d t x b = zM P mt ops o s rest K φ' st' d t x' b' := by rw [h1, h2, h3, h4]
@[congr] theorem cg_regK {l : List Oper} {Q : Exit → AF → zy7 → Prop} {φ' : AF} {st' : zy7} {b b' : Bool} (h1 : φ = φ') (h2 : st = st') (h3 : b = b') : regK P mt l Q φ st b = regK P mt l Q φ' st' b' := by rw [h1, h2, h3]
end
end Go.AW
