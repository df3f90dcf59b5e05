/- The last of the operations that leave the owned store alone; all of them under one name. -/
import Derived.Test.YtcookjmgjbhkiaaAw5
namespace Go.AW

theorem VRel.of_pair {h : Heap} {st : Store} {a : AV} {v : Value} (x : a.isAgg = vIsAgg v ∧ VC h st a v.cells.toList) : VRel h st a v := by
  cases a <;> first | trivial | exact x

theorem VTs.get {h : Heap} {st : Store} : ∀ {as : List AV} {vs : List Value} (n : Nat) {a : AV}, VTs h st as vs → as[n]? = some a → ∃ v, vs[n]? = some v ∧ VRel h st a v
  | [], _, n, a, _, e => by simp at e
  | a' :: as, vs, 0, a, x, e => by
    simp only [VTs] at x
    obtain ⟨c, r, rfl, x1, x2⟩ := x
    simp at e; subst e
    exact ⟨c, rfl, VRel.of_pair x1⟩
  | a' :: as, vs, n + 1, a, x, e => by
    simp only [VTs] at x
    obtain ⟨c, r, rfl, x1, x2⟩ := x
    simpa using VTs.get n x2 (by simpa using e)

theorem VRel.pair {h : Heap} {st : Store} {a : AV} {v : Value} (x : VRel h st a v) (hj : a.isJunk = false) : a.isAgg = vIsAgg v ∧ VC h st a v.cells.toList := by
  cases a <;> first | exact x | (simp [AV.isJunk] at hj)

def noJunk (as : List AV) : Bool := as.all fun a => !a.isJunk

theorem VTs.mk {h : Heap} {st : Store} {a : Act} {φ : AF} (F : FRel h st a.tmps φ) : ∀ (l : List Operand), noJunk (l.map φ.eval) = true → VTs h st (l.map φ.eval) (l.map a.eval)
  | [], _ => by simp [VTs]
  | o :: l, hj => by
    simp [noJunk] at hj
    simp only [List.map_cons, VTs]
    exact ⟨_, _, rfl, (VRel.eval F o).pair hj.1, VTs.mk F l (by simp [noJunk]; exact hj.2)⟩

/-- The box of a value that is never written again. -/
def aBox (P : Program) (t : TypeId) (x : AV) : Option AV :=
  match tI P t with
  | some (_, _) => if x.isJunk then none else some (.pptr x)
  | none => none

def aLen (P : Program) (t : TypeId) : AV → Option AV
  | .str s => match P.underlying t with | some .string => some (.int .i64 s.size) | _ => none
  | .slice es | .fslice es => match P.underlying t with | some (.slice _) => some (.int .i64 es.length) | _ => none
  | .mslice _ _ len _ => match P.underlying t with | some (.slice _) => some (.int .i64 len) | _ => none
  | _ => none

def bytesOf : List AV → Option (List UInt8)
  | [] => some []
  | .int .u8 n :: r => (bytesOf r).map (UInt8.ofNat n.toNat :: ·)
  | _ => none

def aConvert (P : Program) (src dst : TypeId) : AV → Option AV
  | .int _ n => match P.underlying src, P.underlying dst with
    | some _, some (.int k) => some (.int k (k.wrap n))
    | _, _ => none
  | .slice es | .fslice es => match P.underlying src, P.underlying dst with
    | some (.slice e), some .string => match P.underlying e with
      | some (.int .u8) => match bytesOf es with
        | some bs => some (.str ⟨bs.toArray⟩)
        | none => none
      | _ => none
    | _, _ => none
  | _ => none

def ofConstV : Value → AV
  | .agg cs => .agg (cs.toList.map ofConst)
  | v => ofConst v
def zV (P : Program) (t : TypeId) : Option AV :=
  match P.info? t with
  | some i => i.zero.map ofConstV
  | none => none

theorem VRel.constV (h : Heap) (st : Store) (v : Value) : VRel h st (ofConstV v) v := by
  unfold ofConstV
  split
  · rename_i cs
    exact ⟨rfl, by simpa [Value.cells, VC] using VCs.consts h st cs.toList⟩
  · exact VRel.const h st v

theorem zV_run {P : Program} {t : TypeId} {z : AV} (e : zV P t = some z) (h : Heap) (st : Store) (w : World) : ∃ v, (zeroValue t).run P w = .ok v w ∧ VRel h st z v := by
  unfold zV at e
  split at e
  · rename_i i hi
    cases hz : i.zero with
    | none => rw [hz] at e; cases e
    | some v => rw [hz] at e; cases e; exact ⟨v, by simp [zeroValue, typeInfo, hi, hz], VRel.constV h st v⟩
  · cases e

def aLookup (P : Program) (st : Store) (t : TypeId) (ok : Bool) : AV → AV → Option AV
  | .map b, .int .i64 n => match st b, P.underlying t with
    | some (.map f), some (.map k e) => match P.underlying k, f n with
      | some (.int .i64), some v => if v.isJunk then none else some (if ok then .tup [v, .bool true] else v)
      | some (.int .i64), none => match zV P e with
        | some z => if z.isJunk then none else some (if ok then .tup [z, .bool false] else z)
        | none => none
      | _, _ => none
    | _, _ => none
  | _, _ => none

section
variable {P : Program} {st : Store} {w : World} {a : Act} {φ : AF}

theorem box_ok {t : TypeId} {x : Operand} {r : AV} {o : Oper} (ho : o.op = .box t x) (F : FRel w.heap st a.tmps φ) (S : SRel w.heap st) (e : aBox P t (φ.eval x) = some r) : Yld st w r ((execOp a.eval o).run P w) := by
  have y := VRel.eval F x
  unfold aBox at e
  split at e
  case h_2 => cases e
  split at e
  · cases e
  rename_i hj
  cases e
  have hj' : (φ.eval x).isJunk = false := by simpa using hj
  have yp := y.pair hj'
  refine ⟨.pointer (some ⟨w.heap.size, 0, none⟩), w.alloc (.cells (a.eval x).cells t), by simp [execOp, ho, Instr.box, newVar, newRow], ?_, Ext.push _ _, ⟨rfl, rfl, rfl⟩⟩
  have S' := (Ext.push w.heap (.cells (a.eval x).cells t)).step st
  refine ⟨rfl, w.heap.size, 0, rfl, ?_, by simp, (a.eval x).cells.toList, cellsAt_push w.heap _ t (0, 0) _ 0 rfl, ?_, VC.mono S' _ _ yp.2⟩
  · cases hst : st w.heap.size with
    | none => rfl
    | some o => exact absurd (S _ _ hst).1 (Nat.lt_irrefl _)
  · have := (y.cells (by intro h; rw [h] at hj'; simp [AV.isJunk] at hj')).length
    rw [this]
    generalize φ.eval x = z
    cases z <;> rfl

theorem len_ok {t : TypeId} {x : Operand} {r : AV} {o : Oper} (ho : o.op = .call { callee := .builtin .len, args := #[x], argTypes := #[t] }) (F : FRel w.heap st a.tmps φ) (e : aLen P t (φ.eval x) = some r) : Yld st w r ((execOp a.eval o).run P w) := by
  have y := VRel.eval F x
  have run : ∀ {n : Nat}, (Builtin.len_ #[t] o.type #[a.eval x]).run P w = .ok (.int .i64 n) w → Yld st w (.int .i64 n) ((execOp a.eval o).run P w) := by
    intro n h
    refine .same (v := .int .i64 n) ?_ VRel.int_mk
    simp only [execOp, ho, resolve, Sem.run_bind, Sem.run_pure, Result.andThen_ok, invoke, builtin]
    simp [h]
  unfold aLen at e
  split at e
  · rename_i s hx
    rw [hx] at y
    split at e
    · rename_i hu
      cases e
      exact run (by simp [Builtin.len_, run_underlying' hu, y.str_of.1, goInt])
    · cases e
  · rename_i es hx
    rw [hx] at y
    split at e
    · rename_i hu
      cases e
      rcases y.slice_of with ⟨⟨p0, hv⟩, rfl⟩ | ⟨b, off, cap, hv, _⟩
      · exact run (by simp [Builtin.len_, run_underlying' hu, hv, goInt])
      · exact run (by simp [Builtin.len_, run_underlying' hu, hv, goInt])
    · cases e
  · rename_i es hx
    rw [hx] at y
    split at e
    · rename_i hu
      cases e
      rcases y.fslice_of with ⟨⟨p0, hv⟩, rfl⟩ | ⟨b, off, hv, _⟩
      · exact run (by simp [Builtin.len_, run_underlying' hu, hv, goInt])
      · exact run (by simp [Builtin.len_, run_underlying' hu, hv, goInt])
    · cases e
  · rename_i b off len n hx
    rw [hx] at y
    split at e
    · rename_i hu
      cases e
      obtain ⟨cap, hv, _⟩ := y.mslice_of
      exact run (by simp [Builtin.len_, run_underlying' hu, hv, goInt])
    · cases e
  · cases e

theorem extract_ok {x : Operand} {i : Nat} {r : AV} {vs : List AV} {o : Oper} (ho : o.op = .extract x i) (F : FRel w.heap st a.tmps φ) (hx : φ.eval x = .tup vs) (e : vs[i]? = some r) : Yld st w r ((execOp a.eval o).run P w) := by
  have y := VRel.eval F x
  rw [hx] at y
  obtain ⟨us, hv, hus⟩ := y.tup_of
  obtain ⟨v, hv', rv⟩ := hus.get i e
  exact .same (v := v) (by simp [execOp, ho, Instr.extract, hv, hv']) rv

theorem makeFunc_ok {g : FuncId} {caps : Array Operand} {o : Oper} (ho : o.op = .makeFunc (.func g) #[] caps) (F : FRel w.heap st a.tmps φ) (hj : noJunk (caps.toList.map φ.eval) = true) :
    Yld st w (.func g (caps.toList.map φ.eval)) ((execOp a.eval o).run P w) := by
  refine .same (v := .func (.func g) #[] (caps.map a.eval)) (by simp [execOp, ho, Instr.makeFunc]) ⟨rfl, caps.toList.map a.eval, ?_, VTs.mk F caps.toList hj⟩
  have : caps.map a.eval = (caps.toList.map a.eval).toArray := by apply Array.ext'; simp
  simp [Value.cells, this]

theorem bytes_run {h : Heap} {b : Nat} : ∀ {es : List AV} {bs : List UInt8} {off : Nat}, bytesOf es = some bs → VEs h st b off es →
    ∃ vs, cellsAt h b off vs ∧ vs.length = es.length ∧ ∃ ns : List Int, vs = ns.map (Value.int .u8) ∧ bs = ns.map fun n => UInt8.ofNat n.toNat
  | [], bs, off, e, _ => by simp only [bytesOf] at e; cases e; exact ⟨[], trivial, rfl, [], rfl, rfl⟩
  | x :: es, bs, off, e, y => by
    unfold bytesOf at e
    split at e
    · rename_i h; cases h
    · rename_i n r h
      cases h
      cases hb : bytesOf es with
      | none => rw [hb] at e; cases e
      | some bs' =>
        rw [hb] at e; cases e
        simp only [VEs] at y
        obtain ⟨⟨cs, c1, c2, c3⟩, y2⟩ := y
        simp only [VC] at c3
        subst c3
        obtain ⟨vs, v1, v2, ns, n1, n2⟩ := bytes_run hb y2
        exact ⟨.int .u8 n :: vs, ⟨c1.1, v1⟩, by simp [v2], n :: ns, by simp [n1], by simp [n2]⟩
    · cases e

theorem UInt8_bytes (es : List AV) (bs : List UInt8) (e : bytesOf es = some bs) : bs.length = es.length := by
  induction es generalizing bs with
  | nil => simp only [bytesOf] at e; cases e; rfl
  | cons x es ih =>
    unfold bytesOf at e
    split at e
    · rename_i h; cases h
    · rename_i n r h
      cases h
      cases hb : bytesOf es with
      | none => rw [hb] at e; cases e
      | some bs' => rw [hb] at e; cases e; simp [ih _ hb]
    · cases e

theorem convert_ok {src dst : TypeId} {x : Operand} {r : AV} {o : Oper} (ho : o.op = .convert src dst x) (F : FRel w.heap st a.tmps φ) (e : aConvert P src dst (φ.eval x) = some r) : Yld st w r ((execOp a.eval o).run P w) := by
  have y := VRel.eval F x
  have bytes : ∀ {es : List AV}, VRel w.heap st (.slice es) (a.eval x) → (match P.underlying src, P.underlying dst with
      | some (.slice e), some .string => match P.underlying e with
        | some (.int .u8) => match bytesOf es with
          | some bs => some (AV.str ⟨bs.toArray⟩)
          | none => none
        | _ => none
      | _, _ => none) = some r → Yld st w r ((execOp a.eval o).run P w) := by
    intro es y e
    split at e
    case h_2 => cases e
    rename_i el hs hd
    split at e
    case h_2 => cases e
    rename_i he
    split at e
    case h_2 => cases e
    rename_i bs hb
    cases e
    have hlen := UInt8_bytes es bs hb
    rcases y.slice_of with ⟨⟨p0, hv⟩, rfl⟩ | ⟨b, off, cap, hv, l1, l2, e2, e3, ev, e4⟩
    · simp only [bytesOf] at hb; cases hb
      refine .same (v := .string ByteArray.empty) ?_ ⟨rfl, rfl, Nat.zero_le _⟩
      simp only [execOp, ho, convert, Sem.run_bind, run_underlying' hs, run_underlying' hd, Result.andThen_ok, hv, run_underlying' he]
      cases p0 with
      | none => rfl
      | some a0 =>
        have hk := Go.run_bytesToString (P := P) w a0 0 0 [] (by simp [loadCells, loadCellsFrom])
        rw [hk]
        rfl
    · obtain ⟨vs, v1, v2, ns, n1, n2⟩ := bytes_run hb e4
      subst n1
      have hl := run_loadCells_at (P := P) v1
      rw [List.length_map] at hl
      have hns : ns.length = es.length := by simpa using v2
      refine .same (v := .string ⟨bs.toArray⟩) ?_ ⟨rfl, rfl, by simp [ByteArray.size, hlen]; unfold maxLen at *; omega⟩
      simp only [execOp, ho, convert, Sem.run_bind, run_underlying' hs, run_underlying' hd, Result.andThen_ok, hv, run_underlying' he]
      have hk := Go.run_bytesToString (P := P) w ⟨b, off, none⟩ es.length cap ns (by rw [← hns]; exact hl)
      rw [hk]
      simp only [Result.andThen_ok, Sem.run_pure]
      rw [foldl_push_bytes ns ByteArray.empty, n2]
      simp [ByteArray.empty, ByteArray.emptyWithCapacity]
      rfl
  unfold aConvert at e
  split at e
  · rename_i k n hx
    rw [hx] at y
    split at e
    · rename_i d k' hs hd
      cases e
      refine .same (v := .int k' (k'.wrap n)) ?_ VRel.int_mk
      simp only [execOp, ho, convert, Sem.run_bind, run_underlying' hs, run_underlying' hd, Result.andThen_ok, y.int_of]
      cases d <;> simp [Conv.intToInt]
    · cases e
  · rename_i es hx
    rw [hx] at y
    exact bytes y e
  · rename_i es hx
    rw [hx] at y
    exact bytes y.fslice_slice e
  · cases e

theorem findNow_int (n : Int) : ∀ (es : List MapEntry) (i : Nat), (∀ e ∈ es, ∃ m, e.key = .int .i64 m) →
    (∃ j e, es[j]? = some e ∧ e.key = .int .i64 n ∧ Instr.findNow (.int .i64) (.int .i64 n) es i = some (some (i + j, e.val))) ∨
    ((∀ e ∈ es, e.key ≠ .int .i64 n) ∧ Instr.findNow (.int .i64) (.int .i64 n) es i = some none)
  | [], i, _ => .inr ⟨by simp, rfl⟩
  | e :: es, i, h => by
    obtain ⟨m, hm⟩ := h e (by simp)
    by_cases hmn : m = n
    · subst hmn
      exact .inl ⟨0, e, rfl, hm, by simp [Instr.findNow, Instr.sameNow, hm]⟩
    · have hne : (n == m) = false := by simpa using fun q => hmn q.symm
      have step : Instr.findNow (.int .i64) (.int .i64 n) (e :: es) i = Instr.findNow (.int .i64) (.int .i64 n) es (i + 1) := by
        simp [Instr.findNow, Instr.sameNow, hm, hne]
      rw [step]
      rcases findNow_int n es (i + 1) (fun e he => h e (by simp [he])) with ⟨j, e', h1, h2, h3⟩ | ⟨h1, h2⟩
      · exact .inl ⟨j + 1, e', by simpa using h1, h2, by rw [h3]; congr 3; omega⟩
      · refine .inr ⟨fun e' he' => ?_, h2⟩
        rcases List.mem_cons.1 he' with rfl | he'
        · rw [hm]; simpa using hmn
        · exact h1 e' he'

theorem checkKey_any {kt : TypeId} (hk : P.underlying kt = some (.int .i64)) (b : Bool) (n : Int) (m : Nat) : (Instr.checkKey b (m + 1) kt (.int .i64 n)).run P w = .ok () w := by
  simp only [Instr.checkKey, Sem.run_bind, run_underlying' hk, Result.andThen_ok]
  rfl
theorem checkKey_int {kt : TypeId} (hk : P.underlying kt = some (.int .i64)) (b : Bool) (n : Int) : (Instr.checkKey b 10000 kt (.int .i64 n)).run P w = .ok () w := checkKey_any hk b n 9999

theorem getObj_run {b : Nat} {es : Array MapEntry} {cl : Nat} (h : w.heap[b]? = some (.map es cl)) : (getObj b).run P w = .ok (.map es cl) w := by
  simp only [getObj, Sem.run, h]

theorem lookup_ok {t : TypeId} {x i : Operand} {ok : Bool} {r : AV} {o : Oper} (ho : o.op = .lookup t x i ok) (F : FRel w.heap st a.tmps φ) (S : SRel w.heap st) (e : aLookup P st t ok (φ.eval x) (φ.eval i) = some r) : Yld st w r ((execOp a.eval o).run P w) := by
  have y := VRel.eval F x
  have yi := VRel.eval F i
  unfold aLookup at e
  split at e
  case h_2 => cases e
  rename_i b n hx hi
  rw [hx] at y
  rw [hi] at yi
  split at e
  case h_2 => cases e
  rename_i f k el hs hu
  obtain ⟨_, es, cl, hb, hk1, hk2, hk3⟩ := S b _ hs
  have hn := hk3 n
  have fin : ∀ {v : Value} {z : AV} {q : Bool}, z.isJunk = false → VRel w.heap st z v → (execOp a.eval o).run P w = .ok (.value (if ok then .tuple #[v, .bool q] else v)) w → Yld st w (if ok then .tup [z, .bool q] else z) ((execOp a.eval o).run P w) := by
    intro v z q hz hv hr
    refine .same hr ?_
    cases ok with
    | true => exact ⟨rfl, [v, .bool q], by simp [Value.cells], by simp only [VTs]; exact ⟨v, _, rfl, hv.pair hz, _, _, rfl, ⟨rfl, by simp [VC, Value.cells]⟩, rfl⟩⟩
    | false => exact hv
  split at e
  · rename_i v hk hf
    rw [hf] at hn
    obtain ⟨en, hen, henk, hv⟩ := hn
    split at e
    · cases e
    rename_i hvj
    cases e
    have hvj' : v.isJunk = false := by simpa using hvj
    rcases findNow_int n es.toList 0 hk1 with ⟨j, e', h1, h2, h3⟩ | ⟨h1, _⟩
    · have hee : e' = en := by
        obtain ⟨j', hj'⟩ := List.getElem?_of_mem hen
        have hjj : j = j' := by
          have a1 : (es.toList.map (·.key))[j]? = some (.int .i64 n) := by simp [h1, h2]
          have a2 : (es.toList.map (·.key))[j']? = some (.int .i64 n) := by simp [hj', henk]
          exact (List.getElem?_inj (by have := (List.getElem?_eq_some_iff.1 a1).1; simpa using this) hk2).1 (a1.trans a2.symm)
        subst hjj
        rw [h1] at hj'; exact Option.some.inj hj'
      subst hee
      refine fin hvj' hv ?_
      simp only [execOp, ho, Instr.lookup, Sem.run_bind, run_underlying' hu, Result.andThen_ok, y.map_of, yi.int_of, getObj_run hb, Sem.run_pure, checkKey_int hk, Instr.findKey, run_underlying' hk, h3]
    · exact absurd henk (h1 en hen)
  · rename_i hk hf
    rw [hf] at hn
    rcases findNow_int n es.toList 0 hk1 with ⟨j, e', h1, h2, h3⟩ | ⟨_, h3⟩
    · exact absurd h2 (hn e' (List.mem_of_getElem? h1))
    · split at e
      case h_2 => cases e
      rename_i z hz
      split at e
      · cases e
      rename_i hzj
      cases e
      obtain ⟨v, z1, z2⟩ := zV_run hz w.heap st w
      refine fin (by simpa using hzj) z2 ?_
      simp only [execOp, ho, Instr.lookup, Sem.run_bind, run_underlying' hu, Result.andThen_ok, y.map_of, yi.int_of, getObj_run hb, Sem.run_pure, checkKey_int hk, Instr.findKey, run_underlying' hk, h3, z1]
  · cases e

end

/-- A comparison of Booleans, or what 'aBin' says. -/
def aBinT (P : Program) (op : BinOp) (t : TypeId) (x y : AV) : Option AV :=
  match x, y with
  | .bool a, .bool b => match P.underlying t, op with
    | some .bool, .eql => some (.bool (a == b))
    | some .bool, .neq => some (.bool (!(a == b)))
    | _, _ => none
  | x, y => aBin op x y
theorem aBinT_run {P : Program} {h : Heap} {st : Store} {w : World} {op : BinOp} {t : TypeId} {p q r : AV} {u v : Value} (e : aBinT P op t p q = some r) (hp : VRel h st p u) (hq : VRel h st q v) :
    ∃ z, (binOp op t u v).run P w = .ok z w ∧ VRel h st r z ∧ ∀ x y, (eqGuard op t x y u v).run P w = .ok () w := by
  unfold aBinT at e
  split at e
  · rename_i a b
    rw [hp.bool_of, hq.bool_of]
    have hg : ∀ x y, (eqGuard op t x y (.bool a) (.bool b)).run P w = .ok () w := fun x y => by rw [eqGuard_at_bool]; rfl
    split at e
    · rename_i hu; cases e; exact ⟨_, run_eql_bool w t a b hu, VRel.bool_mk, hg⟩
    · rename_i hu; cases e; exact ⟨_, run_neq_bool w t a b hu, VRel.bool_mk, hg⟩
    · cases e
  · exact aBin_run e hp hq

/-- What an operation that leaves the owned store alone comes to. -/
def aVal (P : Program) (φ : AF) (st : Store) (o : Oper) : Option AV :=
  match o.op with
  | .move x => some (φ.eval x)
  | .assign x => some (φ.eval x)
  | .pick c x y => match φ.eval c with | .bool b => some (if b then φ.eval x else φ.eval y) | _ => none
  | .binOp op t x y _ => aBinT P op t (φ.eval x) (φ.eval y)
  | .unOp op _ x => aUn op (φ.eval x)
  | .nilCheck x => match φ.eval x with | .ptr b q => some (.ptr b q) | .pptr e => some (.pptr e) | _ => none
  | .fieldAddr t x f => aField P t f (φ.eval x)
  | .load t x => aLoad P st t (φ.eval x)
  | .field t x f => match fI P t f, φ.eval x with | some (off, ag, sz), .agg cs => sub ag cs off sz | _, _ => none
  | .indexAddr t x i => aIndexAddr P t (φ.eval x) (φ.eval i)
  | .index t x i => aIndex P t (φ.eval x) (φ.eval i)
  | .slice t x lo hi mx => aSlice P φ t (φ.eval x) lo hi mx
  | .extract x i => match φ.eval x with | .tup vs => vs[i]? | _ => none
  | .makeFunc (.func g) first caps => if first.size = 0 ∧ noJunk (caps.toList.map φ.eval) = true then some (.func g (caps.toList.map φ.eval)) else none
  | .build t parts => aBuild P φ t parts
  | .buildSlice t len parts => aBuildSlice P φ t len parts
  | .convert src dst x => aConvert P src dst (φ.eval x)
  | .box t x => aBox P t (φ.eval x)
  | .lookup t x i ok => aLookup P st t ok (φ.eval x) (φ.eval i)
  | .call { callee := .builtin .len, args, argTypes } => match args.toList, argTypes.toList with | [x], [t] => aLen P t (φ.eval x) | _, _ => none
  | _ => none

theorem aVal_ok {P : Program} {st : Store} {w : World} {a : Act} {φ : AF} {o : Oper} {r : AV} (F : FRel w.heap st a.tmps φ) (S : SRel w.heap st) (e : aVal P φ st o = some r) : Yld st w r ((execOp a.eval o).run P w) := by
  unfold aVal at e
  split at e
  case h_1 x ho => cases e; exact .same (v := a.eval x) (by simp [execOp, ho]) (VRel.eval F x)
  case h_2 x ho => cases e; exact .same (v := a.eval x) (by simp [execOp, ho]) (VRel.eval F x)
  case h_3 c x y ho =>
    split at e
    · rename_i b hc
      cases e
      have yc := VRel.eval F c
      rw [hc] at yc
      refine .same (v := if b then a.eval x else a.eval y) (by simp [execOp, ho, yc.bool_of, asBool]) ?_
      cases b
      · exact VRel.eval F y
      · exact VRel.eval F x
    · cases e
  case h_4 op t x y t' ho =>
    obtain ⟨z, z1, z2, z3⟩ := aBinT_run (P := P) (w := w) (t := t) e (VRel.eval F x) (VRel.eval F y)
    exact .same (v := z) (by simp [execOp, ho, z1, z3]) z2
  case h_5 op t x ho =>
    have y := VRel.eval F x
    unfold aUn at e
    split at e
    · rename_i b hx
      rw [hx] at y
      cases op <;> simp only [] at e <;> cases e
      exact .same (v := .bool (!b)) (by simp [execOp, ho, y.bool_of, Op.unary]) VRel.bool_mk
    · rename_i k n hx
      rw [hx] at y
      cases op <;> simp only [] at e <;> cases e
      exact .same (v := .int k (k.wrap (0 - n))) (by simp [execOp, ho, y.int_of, Op.unary, Op.intArith]) VRel.int_mk
    · cases e
  case h_6 x ho =>
    have y := VRel.eval F x
    split at e
    · rename_i b q hx
      rw [hx] at y
      cases e
      exact .same (v := .pointer (some ⟨b, q, none⟩)) (by simp [execOp, ho, y.ptr_of]) ⟨rfl, rfl⟩
    · rename_i e' hx
      rw [hx] at y
      cases e
      obtain ⟨b, q, hv, _⟩ := y.pptr_of
      exact .same (v := .pointer (some ⟨b, q, none⟩)) (by simp [execOp, ho, hv]) (by rw [← hv]; exact y)
    · cases e
  case h_7 t x f ho => exact fieldAddr_ok ho F e
  case h_8 t x ho => exact load_ok ho F S e
  case h_9 t x f ho =>
    split at e
    · rename_i off ag sz cs hI hx; exact field_ok ho F hI hx e
    · cases e
  case h_10 t x i ho => exact indexAddr_ok ho F e
  case h_11 t x i ho => exact index_ok ho F e
  case h_12 t x lo hi mx ho => exact slice_ok ho F e
  case h_13 x i ho =>
    split at e
    · rename_i vs hx; exact extract_ok ho F hx e
    · cases e
  case h_14 g first caps ho =>
    split at e
    · rename_i hc
      cases e
      have : first = #[] := Array.eq_empty_of_size_eq_zero hc.1
      subst this
      exact makeFunc_ok ho F hc.2
    · cases e
  case h_15 t parts ho => exact build_ok ho F e
  case h_16 t len parts ho => exact buildSlice_ok ho F S e
  case h_17 src dst x ho => exact convert_ok ho F e
  case h_18 t x ho => exact box_ok ho F S e
  case h_19 t x i ok ho => exact lookup_ok ho F S e
  case h_20 args ats ho =>
    split at e
    · rename_i x t hx ht
      obtain rfl : args = #[x] := by rw [← Array.toArray_toList (xs := args), hx]
      obtain rfl : ats = #[t] := by rw [← Array.toArray_toList (xs := ats), ht]
      exact len_ok ho F e
    · cases e
  case h_21 => cases e

end Go.AW
