import Derived.Test.YtccofeljgfmplaaCoFinf
import Derived.Test.YtccofeljgfmplaaCoFinh

/- Names and goals: what the reference's and the program's functions return. -/
namespace Go.AW
open Go.Proofs.Try
set_option linter.unusedSimpArgs false
set_option maxRecDepth 100000

theorem tf_Gs_88 : (type_of% tI_3) ∧ (type_of% zI_3) ∧ (type_of% Go.Proofs.Try.underlying3) ∧ (type_of% tI_4) ∧ (type_of% zI_4) ∧ (type_of% Go.Proofs.Try.underlying4) ∧ (type_of% tI_15) ∧ (type_of% zI_15) := ⟨tI_3, zI_3, Go.Proofs.Try.underlying3, tI_4, zI_4, Go.Proofs.Try.underlying4, tI_15, zI_15⟩
theorem c_within (n lo hi : Int) (st : Store) : ACalls prog 88 [.int .i64 n, .int .i64 lo, .int .i64 hi] st (fun r st' => r = .bool (decide (lo ≤ n) && decide (n ≤ hi)) ∧ st' = st) := by
  refine acalls_fit [] func88 ntmps88 rfl rfl (by kernel_rfl) (by decide +kernel) (by show 3 ≤ _; decide +kernel) ?_
  intro _
  repeat' (first
    | (simp -implicitDefEqProofs only [*, evb0, evb1, evb2, evb3, evb4, evb5, evb6, evb7, evb8, evb9, ↓evZ2, ↓evZ3, ↓Int.cast_ofNat_Int, implies_true, ne_eq, or_false, false_or, or_self, gt_iff_lt, isMut, aFn, List.contains, List.elem, aBox, aField, aLoad, sub, aNil, aPick, aExt, aFld, gd, noJunk, plainOp, aBuildSlice, aBuild, aFill, aParts, seqParts, fitAll, List.range', ↓reduceIte, reduceCtorEq, Nat.reduceEqDiff, Nat.reduceAdd, Nat.reduceLeDiff, Nat.reduceMul, Nat.reduceLT, Nat.reduceBEq, Int.reduceEq, tf_Gs_88])
    | (refine opsG_split (fun h => ?_) (fun h => ?_))
    
    | (refine cond_split (fun h => ?_) (fun h => ?_)))
  all_goals simp_all

end Go.AW


/- Names: what the reference's and the program's functions return. -/
namespace Go.AW
open Go.Proofs.Try
set_option linter.unusedSimpArgs false
set_option maxRecDepth 100000

end Go.AW


/- Names of signs: what the reference's and the program's functions return. -/
namespace Go.AW
open Go.Proofs.Try
set_option linter.unusedSimpArgs false
set_option maxRecDepth 100000

def signs : List ByteArray := [⟨#[43]⟩, ⟨#[45]⟩, ⟨#[42]⟩, ⟨#[47, 47]⟩, ⟨#[61]⟩, ⟨#[92, 61]⟩, ⟨#[61, 61]⟩, ⟨#[60]⟩, ⟨#[62]⟩, ⟨#[61, 60]⟩, ⟨#[62, 61]⟩, ⟨#[61, 58, 61]⟩, ⟨#[46]⟩, ⟨#[91, 93]⟩, ⟨#[33]⟩]

def nameValid (s : ByteArray) : Bool := letters s || signs.any fun x => decide (s = x)
end Go.AW

/- Valid terms as data. -/
namespace Go.AW
def ownOk (k n : Int) (s : ByteArray) (len : Int) : Bool :=
  cond (decide (k = 1)) (decide ((0 : Int) ≤ n) && decide (n ≤ 25) && decide (s = ⟨#[]⟩) && decide (len = 0))
    (cond (decide (k = 2)) (decide ((-999 : Int) ≤ n) && decide (n ≤ 999) && decide (s = ⟨#[]⟩) && decide (len = 0))
      (cond (decide (k = 3)) (decide (n = 0) && nameValid s && decide (len ≤ 4)) false))
mutual
/-- Well formed, down to a depth. -/
def Tm.shape : Tm → Int → Bool
  | .mk k n s ts, d => decide (1 ≤ d) && ownOk k n s ts.length && tmsShape ts (d - 1)
def tmsShape : List Tm → Int → Bool
  | [], _ => true
  | t :: ts, d => t.shape d && tmsShape ts d
end
theorem tmsShape_all : ∀ (ts : List Tm) (d : Int), tmsShape ts d = ts.all fun t => t.shape d
  | [], _ => rfl
  | t :: ts, d => by simp only [tmsShape, List.all_cons, tmsShape_all ts d]
theorem Tm.shape_mk (k n : Int) (s : ByteArray) (ts : List Tm) (d : Int) : (Tm.mk k n s ts).shape d = (decide (1 ≤ d) && ownOk k n s ts.length && ts.all fun t => t.shape (d - 1)) := by simp only [Tm.shape, tmsShape_all]
mutual
/-- The number of nodes. -/
def Tm.nodes : Tm → Nat
  | .mk _ _ _ ts => 1 + tmsNodes ts
def tmsNodes : List Tm → Nat
  | [] => 0
  | t :: ts => t.nodes + tmsNodes ts
end
theorem tmsNodes_sum : ∀ (ts : List Tm), tmsNodes ts = sumL Tm.nodes ts
  | [] => rfl
  | t :: ts => by simp only [tmsNodes, sumL, tmsNodes_sum ts]
theorem Tm.nodes_mk (k n : Int) (s : ByteArray) (ts : List Tm) : (Tm.mk k n s ts).nodes = 1 + sumL Tm.nodes ts := by simp only [Tm.nodes, tmsNodes_sum]
def Tm.valid (t : Tm) : Bool := t.shape 30 && decide (t.nodes ≤ 120)
end Go.AW


/- Valid terms: what the reference's functions return. -/
namespace Go.AW
open Go.Proofs.Try
set_option linter.unusedSimpArgs false
set_option maxRecDepth 100000

end Go.AW


/- Goals: what the reference's and the program's functions return. -/
namespace Go.AW
open Go.Proofs.Try
set_option linter.unusedSimpArgs false
set_option maxRecDepth 100000

def plainGoal (k : Int) (s : ByteArray) (len : Int) : Bool := decide (k = 3) && letters s && !isBuiltin s len && decide ((opLevel s : Int) = 0)

def goalOk (k : Int) (s : ByteArray) (len : Int) : Bool := (decide (k = 3) && decide (s = ⟨#[33]⟩) && decide (len = 0)) || plainGoal k s len || (decide (k = 3) && isBuiltin s len)

end Go.AW


/- Valid terms: what the program's functions return. -/
namespace Go.AW
open Go.Proofs.Try
set_option linter.unusedSimpArgs false
set_option maxRecDepth 100000

/-- What a scan leaves: the answer, the counter. -/
def scanned (ok : Bool) (c n : Int) (b : Nat) (st : Store) (r : AV) (st' : Store) : Prop :=
  ∃ c', r = .bool (decide (c + n ≤ 120) && ok) ∧ st' = st.upd b (.cells [.int .i64 c']) ∧ ((decide (c + n ≤ 120) && ok) = true → c' = c + n)

end Go.AW


/- Valid terms: what the program's functions return. -/
namespace Go.AW
open Go.Proofs.Try
set_option linter.unusedSimpArgs false
set_option maxRecDepth 100000

end Go.AW


/- Valid terms and goals: what the program's functions return. -/
namespace Go.AW
open Go.Proofs.Try
set_option linter.unusedSimpArgs false
set_option maxRecDepth 100000

def Tm.goal : Tm → Bool
  | .mk k n s ts => (Tm.mk k n s ts).valid && goalOk k s ts.length

end Go.AW

/- Clauses, as data. -/
namespace Go.AW
set_option linter.unusedSimpArgs false

/-- A clause: its head and its body. -/
abbrev Cl := Tm × List Tm
def clAv : Cl → AV
  | (.mk k n s ts, b) => .agg [.int .i64 k, .int .i64 n, .str s, .slice (ts.map Tm.av), .slice (b.map Tm.av)]
theorem clAv_mk (k n : Int) (s : ByteArray) (ts b : List Tm) : clAv (.mk k n s ts, b) = .agg [.int .i64 k, .int .i64 n, .str s, .slice (ts.map Tm.av), .slice (b.map Tm.av)] := rfl
theorem clAv_agg (c : Cl) : (clAv c).isAgg = true := by obtain ⟨⟨k, n, s, ts⟩, b⟩ := c; rfl
theorem clAv_width (c : Cl) : (clAv c).width = 5 := by obtain ⟨⟨k, n, s, ts⟩, b⟩ := c; rfl
theorem clAv_store (c : Cl) : (clAv c).cells.all AV.storable = true := by obtain ⟨⟨k, n, s, ts⟩, b⟩ := c; rfl
def clSame (x y : Cl) : Bool := x.1.same y.1 && eqL Tm.same x.2 y.2
theorem clSame_refl (x : Cl) : clSame x x = true := by
  unfold clSame
  rw [(Tm.same_eq x.1 x.1).2 rfl, (eqL_eq (fun x _ y => Tm.same_eq x y)).2 rfl]
  rfl
def clSz (c : Cl) : Nat := c.1.sz + (c.2.length + sumL Tm.sz c.2)
def clMks : Cl → Nat
  | (.mk _ _ _ ts, b) => 3 + sumL Tm.mks ts + sumL Tm.mks b
def clMark : Cl → Int → Cl
  | (.mk _ _ _ ts, b), j => (.mk j (j + 1) (mt (j + 1 + 1)) (markL Tm.mark Tm.mks ts (j + 1 + 1 + 1)), markL Tm.mark Tm.mks b (j + 1 + 1 + 1 + (sumL Tm.mks ts : Nat)))
theorem clMks_mk (k n : Int) (s : ByteArray) (ts b : List Tm) : clMks (.mk k n s ts, b) = 3 + sumL Tm.mks ts + sumL Tm.mks b := rfl
/-- A clause's own form: the head plain. -/
def plainT : Tm → Bool | .mk k _ s ts => plainGoal k s (ts.length : Int)
def clOk (c : Cl) : Bool := c.1.valid && plainT c.1 && (decide (c.2.length ≤ 6) && c.2.all Tm.goal)
def progOk (p : List Cl) : Bool := decide (p.length ≤ 20) && p.all clOk

theorem own_Cl {st : Store} {k n : Int} {s : ByteArray} {ts b : List Tm} {o : AV} {bs : List Nat} :
    Own st (clAv (.mk k n s ts, b)) o bs ↔ ∃ q b1 q' b2, o = .agg [.int .i64 k, .int .i64 n, .str s, q, q'] ∧ bs = b1 ++ b2 ∧ Own st (.slice (ts.map Tm.av)) q b1 ∧ Own st (.slice (b.map Tm.av)) q' b2 := by
  rw [clAv_mk]
  generalize AV.slice (ts.map Tm.av) = x
  generalize AV.slice (b.map Tm.av) = y
  simp only [Own, OwnL]
  constructor
  · rintro ⟨os, rfl, o1, os1, b1, b1', rfl, rfl, ⟨rfl, rfl⟩, o2, os2, b2, b2', rfl, rfl, ⟨rfl, rfl⟩, o3, os3, b3, b3', rfl, rfl, ⟨rfl, rfl⟩, o4, os4, b4, b4', rfl, rfl, h, o6, os6, b6, b6', rfl, rfl, h', rfl, rfl⟩
    exact ⟨o4, b4, o6, b6, rfl, by simp, h, h'⟩
  · rintro ⟨q, b1, q', b2, rfl, rfl, h, h'⟩
    exact ⟨_, rfl, _, _, [], b1 ++ b2, rfl, rfl, ⟨rfl, rfl⟩, _, _, [], b1 ++ b2, rfl, rfl, ⟨rfl, rfl⟩, _, _, [], b1 ++ b2, rfl, rfl, ⟨rfl, rfl⟩, q, _, b1, b2, rfl, rfl, h, q', [], b2, [], rfl, by simp, h', rfl, rfl⟩
end Go.AW


/- Lists of terms, looked through: what the program's functions return. -/
namespace Go.AW
open Go.Proofs.Try
set_option linter.unusedSimpArgs false
set_option maxRecDepth 100000

def queryOk (l : List Tm) : Bool := decide (l.length ≤ 6) && l.all Tm.goal

end Go.AW


/- Valid clauses and programs: what the program's and the reference's functions return. -/
namespace Go.AW
open Go.Proofs.Try
set_option linter.unusedSimpArgs false
set_option maxRecDepth 100000

end Go.AW


/- Terms that share nothing: what the program's functions return. -/
namespace Go.AW
open Go.Proofs.Try
set_option linter.unusedSimpArgs false
set_option maxRecDepth 100000

mutual
/-- No list is long. -/
def Tm.small : Tm → Bool
  | .mk _ _ _ ts => decide (ts.length ≤ 1048576) && tmsSmall ts
def tmsSmall : List Tm → Bool
  | [] => true
  | t :: ts => t.small && tmsSmall ts
end
end Go.AW

/- What the laws on exact results need: held values beside one another. -/
namespace Go.AW
set_option linter.unusedSimpArgs false
set_option linter.unusedVariables false

/-- Several results, each held. -/
def MadeT (st : Store) (xs : List AV) (r : AV) (st' : Store) : Prop := ∃ (os : List AV) (bs : List Nat), r = .tup os ∧ bs.Nodup ∧ (∀ b ∈ bs, st b = none) ∧ OwnL st' xs os bs ∧ ∀ b, b ∉ bs → st' b = st b

/-! ### Beside one another -/
def Apart (b1 b2 : List Nat) : Prop := ∀ b ∈ b1, b ∉ b2
theorem Apart.symm {b1 b2 : List Nat} (h : Apart b1 b2) : Apart b2 b1 := fun b h2 h1 => h b h1 h2
theorem Own.somes {s : Store} {a o : AV} {bs : List Nat} (h : Own s a o bs) : ∀ b ∈ bs, s b ≠ none := fun b hb => by
  obtain ⟨cs, e, _⟩ := (Own.solid _ _ _ h).2.2 b hb
  rw [e]; simp
theorem Own.apart {s : Store} {a o : AV} {bs bs' : List Nat} (h : Own s a o bs) (hf : ∀ b ∈ bs', s b = none) : Apart bs bs' := fun b hb hb' => h.somes b hb (hf b hb')
theorem Own.beside {s s' : Store} {a o : AV} {bs bs' : List Nat} (h : Own s a o bs) (k : ∀ b, b ∉ bs' → s' b = s b) (d : Apart bs bs') : Own s' a o bs := Own.keep _ _ _ (fun b hb => k b (d b hb)) h
theorem Own.one' {st : Store} {es : List AV} {q : AV} {bs : List Nat} (h : Own st (.slice es) q bs) : q.cells = [q] ∧ q.storable = true ∧ q.isAgg = false ∧ q.width = 1 ∧ q.isJunk = false := by
  simp only [Own] at h
  rcases h with ⟨_, rfl, _⟩ | ⟨_, _, _, _, rfl, _⟩ <;> exact ⟨rfl, rfl, rfl, rfl, rfl⟩
/-- A struct, cell by cell: what a value that is held looks like. -/
theorem Own.fits {s : Store} {a o : AV} {bs : List Nat} {w : Nat} (h : Own s a o bs) (hw : a.width = w) (hs : a.cells.all AV.storable = true) : o.width = w ∧ o.cells.length = w ∧ o.cells.all AV.storable = true ∧ o.isJunk = false ∧ o.isAgg = a.isAgg := by
  obtain ⟨h1, h2, h3⟩ := h.cellsFit hw hs
  exact ⟨h1, h2, h3, h.shape.2.2.1, h.shape.1⟩
/-- An argument is marked: what it holds turns, nothing else. -/
def MarkedA (st : Store) (bs : List Nat) (r : AV) (st' : Store) : Prop := ∃ k : Int, r = .int .i64 k ∧ 0 ≤ k ∧ k ≤ 1099511627776 ∧ ∀ q, q ∉ bs → st' q = st q
end Go.AW

/- Variables of terms, as data; what grows beside a block of its own. -/
namespace Go.AW
set_option linter.unusedSimpArgs false

mutual
def Tm.vars : Tm → List Int → List Int
  | .mk k n _ ts, l => tmsVars ts (if k = 1 ∧ n ∉ l then l ++ [n] else l)
def tmsVars : List Tm → List Int → List Int
  | [], l => l
  | t :: ts, l => tmsVars ts (t.vars l)
end
mutual
theorem Tm.vars_len : ∀ (t : Tm) (l : List Int), (t.vars l).length ≤ l.length + t.nodes
  | .mk k n s ts, l => by
    have h := tmsVars_len ts (if k = 1 ∧ n ∉ l then l ++ [n] else l)
    have h2 : (if k = 1 ∧ n ∉ l then l ++ [n] else l).length ≤ l.length + 1 := by split <;> simp
    rw [Tm.vars, Tm.nodes_mk]
    omega
theorem tmsVars_len : ∀ (ts : List Tm) (l : List Int), (tmsVars ts l).length ≤ l.length + sumL Tm.nodes ts
  | [], l => by simp [tmsVars, sumL]
  | t :: ts, l => by
    have h1 := Tm.vars_len t l
    have h2 := tmsVars_len ts (t.vars l)
    simp only [tmsVars, sumL]
    omega
end

def idxI (v : Int) : List Int → Int → Int
  | [], _ => -1
  | x :: xs, i => if v = x then i else idxI v xs (i + 1)
/-! ### A block beside a list that grows -/
/-! ### Reading what grows -/
mutual
def Tm.wf : Tm → Bool
  | .mk k _ _ ts => (!decide (k = 1) || ts.isEmpty) && tmsWf ts
def tmsWf : List Tm → Bool
  | [] => true
  | t :: ts => t.wf && tmsWf ts
end
mutual
theorem Tm.wf_of : ∀ (t : Tm) (d : Int), t.shape d = true → t.wf = true
  | .mk k n s ts, d, h => by
    rw [Tm.shape_mk] at h
    simp only [Bool.and_eq_true, List.all_eq_true] at h
    obtain ⟨⟨_, h1⟩, h2⟩ := h
    have h3 := tmsWf_of ts (d - 1) h2
    simp only [Tm.wf, h3, Bool.and_true, Bool.or_eq_true, Bool.not_eq_true', decide_eq_false_iff_not, List.isEmpty_iff]
    by_cases hk : k = 1
    · refine .inr ?_
      subst hk
      simp [ownOk] at h1
      exact h1.2
    · exact .inl hk
theorem tmsWf_of : ∀ (ts : List Tm) (d : Int), (∀ x ∈ ts, x.shape d = true) → tmsWf ts = true
  | [], _, _ => rfl
  | t :: ts, d, h => by simp only [tmsWf, Tm.wf_of t d (h t (by simp)), tmsWf_of ts d (fun x hx => h x (by simp [hx])), Bool.and_self]
end
end Go.AW

/- A struct's list that grows in its memory. -/
namespace Go.AW
set_option linter.unusedSimpArgs false
/-- The struct in block c, with a list that grows in block b. -/
def kidS (S : Store) (c b : Nat) (hd : List AV) (l : List AV) : Store := accS (S.upd c (.cells (hd ++ [accV 4 b l]))) b l
end Go.AW

/- A held list and a struct that tells of it: the list is never written again. -/
namespace Go.AW
set_option linter.unusedSimpArgs false
end Go.AW


/- Clauses that share nothing: what the program's functions return. -/
namespace Go.AW
open Go.Proofs.Try
set_option linter.unusedSimpArgs false
set_option maxRecDepth 100000

abbrev clSmall (c : Cl) : Prop := c.1.small = true ∧ c.2.length ≤ 1048576 ∧ ∀ x ∈ c.2, x.small = true
end Go.AW


/- Copies of terms: what the reference's functions return. -/
namespace Go.AW
open Go.Proofs.Try
set_option linter.unusedSimpArgs false
set_option maxRecDepth 100000

end Go.AW


/- Sessions: the reference's copies. -/
namespace Go.AW
open Go.Proofs.Try
set_option linter.unusedSimpArgs false
set_option maxRecDepth 100000

/-! ### A struct's list that grows, wherever it lies in the struct -/
def midS (S : Store) (c b w : Nat) (hd tl : List AV) (l : List AV) : Store := accS (S.upd c (.cells (hd ++ accV w b l :: tl))) b l
section
variable {S : Store} {c b w : Nat} {hd tl l : List AV}
end

/-- A session. -/
structure Ss where
  p : List Cl
  q : List Tm
  quota : Int
  used : Int
  sent : Int
  fin : Int
def ssAv (s : Ss) : AV := .agg [.slice (s.p.map clAv), .slice (s.q.map Tm.av), .int .i64 s.quota, .int .i64 s.used, .int .i64 s.sent, .int .i64 s.fin]
abbrev clSmall' (c : Cl) : Prop := c.1.small = true ∧ c.2.length ≤ 1048576 ∧ ∀ x ∈ c.2, x.small = true
end Go.AW

/- Substitutions, variables that are walked, unification: plain data. -/
namespace Go.AW
set_option linter.unusedSimpArgs false
set_option linter.unusedVariables false

def Tm.k : Tm → Int | .mk k _ _ _ => k
def Tm.n : Tm → Int | .mk _ n _ _ => n
def Tm.s : Tm → ByteArray | .mk _ _ s _ => s
def Tm.ts : Tm → List Tm | .mk _ _ _ ts => ts
theorem Tm.eta (t : Tm) : t = .mk t.k t.n t.s t.ts := by cases t; rfl

/-- A variable. -/
def vr (n : Int) : Tm := .mk 1 n ⟨#[]⟩ []

mutual
/-- Every variable replaced. -/
def Tm.mapv (f : Int → Tm) : Tm → Tm
  | .mk k n s ts => if k = 1 then f n else .mk k n s (tmsMapv f ts)
def tmsMapv (f : Int → Tm) : List Tm → List Tm
  | [] => []
  | t :: ts => t.mapv f :: tmsMapv f ts
end
theorem tmsMapv_map (f : Int → Tm) : ∀ ts : List Tm, tmsMapv f ts = ts.map (Tm.mapv f)
  | [] => rfl
  | t :: ts => by simp only [tmsMapv, List.map_cons, tmsMapv_map f ts]
theorem Tm.mapv_var (f : Int → Tm) {k n : Int} {s : ByteArray} {ts : List Tm} (h : k = 1) : (Tm.mk k n s ts).mapv f = f n := by simp only [Tm.mapv, h, if_true]
theorem Tm.mapv_mk (f : Int → Tm) {k n : Int} {s : ByteArray} {ts : List Tm} (h : k ≠ 1) : (Tm.mk k n s ts).mapv f = .mk k n s (ts.map (Tm.mapv f)) := by simp only [Tm.mapv, h, if_false, tmsMapv_map]
theorem mapv_vr (f : Int → Tm) (n : Int) : (vr n).mapv f = f n := Tm.mapv_var f rfl

mutual
/-- The variables. -/
def Tm.vl : Tm → List Int
  | .mk k n _ ts => if k = 1 then [n] else tmsVl ts
def tmsVl : List Tm → List Int
  | [] => []
  | t :: ts => t.vl ++ tmsVl ts
end
theorem tmsVl_mem {v : Int} : ∀ {ts : List Tm}, v ∈ tmsVl ts ↔ ∃ t ∈ ts, v ∈ t.vl
  | [] => by simp [tmsVl]
  | t :: ts => by simp [tmsVl, tmsVl_mem (ts := ts)]
theorem Tm.vl_var {k n : Int} {s : ByteArray} {ts : List Tm} (h : k = 1) : (Tm.mk k n s ts).vl = [n] := by simp only [Tm.vl, h, if_true]
theorem Tm.vl_mk {k n v : Int} {s : ByteArray} {ts : List Tm} (h : k ≠ 1) : v ∈ (Tm.mk k n s ts).vl ↔ ∃ t ∈ ts, v ∈ t.vl := by simp only [Tm.vl, h, if_false, tmsVl_mem]
theorem vl_vr (n : Int) : (vr n).vl = [n] := Tm.vl_var rfl

theorem Tm.ind {p : Tm → Prop} (h : ∀ k n s ts, (∀ t ∈ ts, p t) → p (.mk k n s ts)) : ∀ t, p t
  | .mk k n s ts => h k n s ts fun t ht => Tm.ind h t
termination_by t => SizeOf.sizeOf t
decreasing_by have := List.sizeOf_lt_of_mem ht; simp only [Tm.mk.sizeOf_spec]; omega

theorem mapv_congr {f g : Int → Tm} : ∀ (t : Tm), (∀ v ∈ t.vl, f v = g v) → t.mapv f = t.mapv g := by
  intro t
  induction t using Tm.ind with
  | h k n s ts ih =>
    intro h
    by_cases hk : k = 1
    · rw [Tm.mapv_var f hk, Tm.mapv_var g hk]; exact h n (by rw [Tm.vl_var hk]; simp)
    · rw [Tm.mapv_mk f hk, Tm.mapv_mk g hk]
      congr 1
      exact List.map_congr_left fun x hx => ih x hx fun v hv => h v ((Tm.vl_mk hk).2 ⟨x, hx, hv⟩)
theorem mapv_mapv (f g : Int → Tm) (t : Tm) : (t.mapv f).mapv g = t.mapv fun v => (f v).mapv g := by
  induction t using Tm.ind with
  | h k n s ts ih =>
    by_cases hk : k = 1
    · rw [Tm.mapv_var f hk, Tm.mapv_var _ hk]
    · rw [Tm.mapv_mk f hk, Tm.mapv_mk g hk, Tm.mapv_mk _ hk, List.map_map]
      congr 1
      exact List.map_congr_left fun x hx => ih x hx
theorem vl_mapv {f : Int → Tm} {w : Int} (t : Tm) : w ∈ (t.mapv f).vl ↔ ∃ v ∈ t.vl, w ∈ (f v).vl := by
  induction t using Tm.ind with
  | h k n s ts ih =>
    by_cases hk : k = 1
    · rw [Tm.mapv_var f hk, Tm.vl_var hk]; simp
    · rw [Tm.mapv_mk f hk, Tm.vl_mk hk]
      constructor
      · rintro ⟨x, hx, hw⟩
        obtain ⟨y, hy, rfl⟩ := List.mem_map.1 hx
        obtain ⟨v, hv, hvw⟩ := (ih y hy).1 hw
        exact ⟨v, (Tm.vl_mk hk).2 ⟨y, hy, hv⟩, hvw⟩
      · rintro ⟨v, hv, hw⟩
        obtain ⟨y, hy, hvy⟩ := (Tm.vl_mk hk).1 hv
        exact ⟨_, List.mem_map.2 ⟨y, hy, rfl⟩, (ih y hy).2 ⟨v, hvy, hw⟩⟩
/-! ### Bindings -/
abbrev Sub := Int → Option Tm
def Sub.set (σ : Sub) (n : Int) (t : Tm) : Sub := fun m => if m = n then some t else σ m
def Sub.none : Sub := fun _ => Option.none
/-- What each variable stands for in the end; a rank that falls along the bindings. -/
structure Good (σ : Sub) (R : Int → Tm) (rk : Int → Nat) (B : Nat) : Prop where
  sol : ∀ n, R n = match σ n with | some u => u.mapv R | .none => vr n
  rank : ∀ n u, σ n = some u → ∀ w ∈ u.vl, rk w < rk n
  bd : ∀ n, rk n < B
/-- θ solves the bindings. -/
def Sol (θ : Int → Tm) (σ : Sub) : Prop := ∀ n u, σ n = some u → θ n = u.mapv θ

section
variable {σ : Sub} {R R' : Int → Tm} {rk rk' : Int → Nat} {B B' : Nat}
theorem Good.none : Good Sub.none vr (fun _ => 0) 1 := ⟨fun n => rfl, fun n u h => (by cases h), fun n => Nat.zero_lt_one⟩
theorem Good.free (G : Good σ R rk B) {n : Int} (h : σ n = .none) : R n = vr n := by rw [G.sol n, h]
theorem Good.bound (G : Good σ R rk B) {n : Int} {u : Tm} (h : σ n = some u) : R n = u.mapv R := by rw [G.sol n, h]
theorem Good.ind (G : Good σ R rk B) {p : Int → Prop} (h0 : ∀ n, σ n = .none → p n) (h1 : ∀ n u, σ n = some u → (∀ w ∈ u.vl, p w) → p n) : ∀ n, p n := by
  intro n
  generalize hk : rk n = k
  induction k using Nat.strongRecOn generalizing n with
  | _ k ih =>
    cases h : σ n with
    | none => exact h0 n h
    | some u => exact h1 n u h fun w hw => ih (rk w) (hk ▸ G.rank n u h w hw) w rfl
theorem Good.uniq (G : Good σ R rk B) (G' : Good σ R' rk' B') : R = R' := by
  funext n
  refine G.ind (p := fun n => R n = R' n) (fun n h => ?_) (fun n u h ih => ?_) n
  · rw [G.free h, G'.free h]
  · rw [G.bound h, G'.bound h]; exact mapv_congr u ih
theorem Good.canon (G : Good σ R rk B) (n : Int) : (R n).mapv vr = R n := by
  refine G.ind (p := fun n => (R n).mapv vr = R n) (fun n h => ?_) (fun n u h ih => ?_) n
  · rw [G.free h, mapv_vr]
  · rw [G.bound h, mapv_mapv]; exact mapv_congr u ih
theorem Good.canonT (G : Good σ R rk B) (t : Tm) : (t.mapv R).mapv vr = t.mapv R := by
  rw [mapv_mapv]; exact mapv_congr t fun v _ => G.canon v
/-- One binding more. -/
theorem Good.bind (G : Good σ R rk B) {n : Int} {t : Tm} (hn : σ n = .none) (ho : n ∉ (t.mapv R).vl) :
    ∃ rk' B', Good (σ.set n t) (fun m => (R m).mapv fun v => if v = n then t.mapv R else vr v) rk' B' := by
  have key : (t.mapv R).mapv (fun v => if v = n then t.mapv R else vr v) = t.mapv R := by
    rw [mapv_congr (g := vr) (t.mapv R) (fun v hv => if_neg fun e => ho (by rw [← e]; exact hv)), G.canonT]
  refine ⟨fun v => if n ∈ (R v).vl then rk v + B else rk v, B + B, fun m => ?_, fun m u h w hw => ?_, fun m => ?_⟩
  · by_cases hm : m = n
    · subst hm
      simp only [Sub.set, if_true]
      rw [G.free hn, mapv_vr, if_pos rfl]
      rw [← mapv_mapv, key]
    · simp only [Sub.set, hm, if_false]
      cases h : σ m with
      | none => rw [G.free h, mapv_vr, if_neg hm]
      | some u => rw [G.bound h, mapv_mapv]
  · by_cases hm : m = n
    · subst hm
      simp only [Sub.set, if_true, Option.some.injEq] at h
      subst h
      have hw' : m ∉ (R w).vl := fun h => ho ((vl_mapv t).2 ⟨w, hw, h⟩)
      have : m ∈ (R m).vl := by rw [G.free hn, vl_vr]; simp
      have := G.bd w
      simp only [hw', if_false]
      rw [if_pos (by assumption)]
      omega
    · simp only [Sub.set, hm, if_false] at h
      have h1 := G.rank m u h w hw
      by_cases hw' : n ∈ (R w).vl
      · have : n ∈ (R m).vl := by rw [G.bound h]; exact (vl_mapv u).2 ⟨w, hw, hw'⟩
        simp only [hw', this, if_true]; omega
      · simp only [hw', if_false]; split <;> omega
  · have := G.bd m
    split <;> omega
end

open Classical in
/-- What each variable stands for in the end. -/
noncomputable def rs (σ : Sub) : Int → Tm := if h : ∃ R rk B, Good σ R rk B then h.choose else vr
theorem Good.rs {σ : Sub} {R : Int → Tm} {rk : Int → Nat} {B : Nat} (G : Good σ R rk B) : rs σ = R := by
  unfold AW.rs
  have h : ∃ R rk B, Good σ R rk B := ⟨R, rk, B, G⟩
  rw [dif_pos h]
  obtain ⟨rk', B', G'⟩ := h.choose_spec
  exact G'.uniq G

/-! ### Walking -/
inductive WkN (σ : Sub) : Nat → Tm → Tm → Prop
  | stop {t : Tm} (h : t.k = 1 → σ t.n = none) : WkN σ 0 t t
  | go {f : Nat} {t u v : Tm} (h1 : t.k = 1) (h2 : σ t.n = some u) (h3 : WkN σ f u v) : WkN σ (f + 1) t v
theorem WkN.det {σ : Sub} {f g : Nat} {t u v : Tm} (h : WkN σ f t u) : WkN σ g t v → u = v := by
  induction h generalizing g v with
  | stop h =>
    intro h'
    cases h' with
    | stop => rfl
    | go h1 h2 h3 => rw [h h1] at h2; cases h2
  | go h1 h2 h3 ih =>
    intro h'
    cases h' with
    | stop h => rw [h h1] at h2; cases h2
    | go h1' h2' h3' => rw [h2] at h2'; cases h2'; exact ih h3'
theorem WkN.total {σ : Sub} {R : Int → Tm} {rk : Int → Nat} {B : Nat} (G : Good σ R rk B) (t : Tm) : ∃ f u, WkN σ f t u := by
  have key : ∀ n, ∀ t : Tm, t.k = 1 → t.n = n → ∃ f u, WkN σ f t u := by
    intro n
    refine G.ind (p := fun n => ∀ t : Tm, t.k = 1 → t.n = n → ∃ f u, WkN σ f t u) (fun n h t hk hn => ?_) (fun n u h ih t hk hn => ?_) n
    · exact ⟨0, t, .stop fun _ => by rw [hn, h]⟩
    · by_cases hu : u.k = 1
      · have : u.n ∈ u.vl := by rw [Tm.eta u, Tm.vl_var hu]; simp [Tm.n]
        obtain ⟨f, v, hv⟩ := ih u.n this u hu rfl
        exact ⟨f + 1, v, .go hk (by rw [hn, h]) hv⟩
      · exact ⟨1, u, .go hk (by rw [hn, h]) (.stop fun h => absurd h hu)⟩
  by_cases hk : t.k = 1
  · exact key t.n t hk rfl
  · exact ⟨0, t, .stop fun h => absurd h hk⟩
theorem Tm.vl_k1 {t : Tm} (h : t.k = 1) : t.vl = [t.n] := by cases t; exact Tm.vl_var h
theorem Tm.mapv_k1 {t : Tm} (f : Int → Tm) (h : t.k = 1) : t.mapv f = f t.n := by cases t; exact Tm.mapv_var f h
theorem WkN.end {σ : Sub} {f : Nat} {t u : Tm} (h : WkN σ f t u) : u.k = 1 → σ u.n = none := by induction h with | stop h => exact h | go _ _ _ ih => exact ih
theorem WkN.mapv {σ : Sub} {θ : Int → Tm} (S : Sol θ σ) {f : Nat} {t u : Tm} (h : WkN σ f t u) : u.mapv θ = t.mapv θ := by
  induction h with
  | stop => rfl
  | go h1 h2 _ ih => rw [ih, Tm.mapv_k1 θ h1, S _ _ h2]
theorem WkN.rank {σ : Sub} {R : Int → Tm} {rk : Int → Nat} {B : Nat} (G : Good σ R rk B) {f : Nat} {t u : Tm} (h : WkN σ f t u) : ∀ w ∈ u.vl, ∃ v ∈ t.vl, rk w ≤ rk v ∧ (f ≠ 0 → rk w < rk v) := by
  induction h with
  | stop h => exact fun w hw => ⟨w, hw, Nat.le_refl _, fun h => absurd rfl h⟩
  | @go f t u v h1 h2 _ ih =>
    intro w hw
    obtain ⟨x, hx, hle, _⟩ := ih w hw
    have := G.rank _ _ h2 x hx
    exact ⟨t.n, by rw [Tm.vl_k1 h1]; simp, by omega, fun _ => by omega⟩
/-- What holds of a term and of all that is bound. -/
theorem WkN.all {σ : Sub} {p : Tm → Prop} (hp : ∀ n u, σ n = some u → p u) {f : Nat} {t u : Tm} (h : WkN σ f t u) (ht : p t) : p u := by
  induction h with
  | stop => exact ht
  | go _ h2 _ ih => exact ih (hp _ _ h2)
open Classical in
noncomputable def wk (σ : Sub) (t : Tm) : Tm := if h : ∃ u f, WkN σ f t u then h.choose else t
theorem WkN.wk {σ : Sub} {f : Nat} {t u : Tm} (h : WkN σ f t u) : wk σ t = u := by
  unfold AW.wk
  have h' : ∃ u f, WkN σ f t u := ⟨u, f, h⟩
  rw [dif_pos h']
  obtain ⟨g, hg⟩ := h'.choose_spec
  exact hg.det h
theorem Good.wk {σ : Sub} {R : Int → Tm} {rk : Int → Nat} {B : Nat} (G : Good σ R rk B) (t : Tm) : ∃ f, WkN σ f t (wk σ t) := by
  obtain ⟨f, u, h⟩ := WkN.total G t
  exact ⟨f, by rw [h.wk]; exact h⟩

/-! ### Unification -/
open Classical in
noncomputable def bnd (σ : Sub) (n : Int) (t : Tm) : Bool × Sub × List Int := if n ∈ (t.mapv (rs σ)).vl then (false, σ, []) else (true, σ.set n t, [n])
open Classical in
/-- The same apart from the arguments. -/
def headEq (a b : Tm) : Bool := decide (a.k = b.k) && decide (a.n = b.n) && decide (a.s = b.s) && decide (a.ts.length = b.ts.length)
mutual
noncomputable def uniF : Nat → Sub → Tm → Tm → Option (Bool × Sub × List Int)
  | 0, _, _, _ => none
  | g + 1, σ, a, b =>
    if (wk σ a).k = 1 ∧ (wk σ b).k = 1 ∧ (wk σ a).n = (wk σ b).n then some (true, σ, [])
    else if (wk σ a).k = 1 then some (bnd σ (wk σ a).n (wk σ b))
    else if (wk σ b).k = 1 then some (bnd σ (wk σ b).n (wk σ a))
    else if headEq (wk σ a) (wk σ b) = true then unisF g σ (wk σ a).ts (wk σ b).ts
    else some (false, σ, [])
termination_by g => (g, 0)
noncomputable def unisF : Nat → Sub → List Tm → List Tm → Option (Bool × Sub × List Int)
  | g, σ, a :: xs, b :: ys => match uniF g σ a b with
    | none => none
    | some (false, σ', tr) => some (false, σ', tr)
    | some (true, σ', tr) => match unisF g σ' xs ys with
      | none => none
      | some (r, σ'', tr') => some (r, σ'', tr ++ tr')
  | _, σ, _, _ => some (true, σ, [])
termination_by g _ xs => (g, xs.length + 1)
end
end Go.AW

/- Bindings as data; replaced variables. -/
namespace Go.AW
set_option linter.unusedSimpArgs false
set_option linter.unusedVariables false

theorem Tm.soft (t : Tm) : t.av.soft = t.av := by cases t; simp [Tm.av_mk, AV.soft, softL]
/-- A binding. -/
abbrev Bd := Int × Tm
def bdAv (b : Bd) : AV := .agg (.int .i64 b.1 :: b.2.av.cells)
def findB : List Bd → Int → Option Tm
  | [], _ => none
  | (m, x) :: r, n => if m = n then some x else findB r n
/-- The variable replaced by what it stands for. -/
def subB (bs : List Bd) (n : Int) : Tm := (findB bs n).getD (vr n)
def Tm.zero : Tm := .mk 0 0 ⟨#[]⟩ []
mutual
/-- Variables have neither name nor arguments. -/
def Tm.cv : Tm → Bool
  | .mk k _ s ts => (!decide (k = 1) || (decide (s = ⟨#[]⟩) && ts.isEmpty)) && tmsCv ts
def tmsCv : List Tm → Bool
  | [] => true
  | t :: ts => t.cv && tmsCv ts
end
/-! ### The first place -/
def idxP {α : Type} (p : α → Bool) : List α → Int → Int
  | [], _ => -1
  | x :: xs, i => if p x = true then i else idxP p xs (i + 1)
end Go.AW


/- Sessions are opened: what the program's and the reference's functions return. -/
namespace Go.AW
open Go.Proofs.Try
set_option linter.unusedSimpArgs false
set_option maxRecDepth 100000

def opens (p : List Cl) (q : List Tm) (k : Int) : Bool := progOk p && queryOk q && (decide (0 ≤ k) && decide (k ≤ 300))
def sess (p : List Cl) (q : List Tm) (k : Int) : Ss := if opens p q k = true then ⟨p, q, k, 0, 0, -1⟩ else ⟨[], [], 0, 0, 0, 0⟩
end Go.AW


/- Variables of terms: what the program's functions return. -/
namespace Go.AW
open Go.Proofs.Try
set_option linter.unusedSimpArgs false
set_option maxRecDepth 100000

/-- What a list of numbers that grows has become. -/
def Grown (st : Store) (l : List Int) (r : AV) (st' : Store) : Prop := ∃ b', r = accV 1 b' (l.map iv) ∧ st' = accS st b' (l.map iv) ∧ (l.map iv ≠ [] → st b' = none)

end Go.AW


/- Variables of lists of terms: what the functions return. -/
namespace Go.AW
open Go.Proofs.Try
set_option linter.unusedSimpArgs false
set_option maxRecDepth 100000

end Go.AW


/- Replaced variables: what the program's and the reference's functions return. -/
namespace Go.AW
open Go.Proofs.Try
set_option linter.unusedSimpArgs false
set_option maxRecDepth 100000

end Go.AW


/- Bindings applied: what the program's and the reference's functions return. -/
namespace Go.AW
open Go.Proofs.Try
set_option linter.unusedSimpArgs false
set_option maxRecDepth 100000

def optAv : Option Tm → AV
  | some t => .tup [t.av, .bool true]
  | none => .tup [Tm.zero.av, .bool false]

end Go.AW


/- Bindings applied, as a whole. -/
namespace Go.AW
open Go.Proofs.Try
set_option linter.unusedSimpArgs false
set_option maxRecDepth 100000

/-- Bindings applied, if all is valid. -/
def appB (t : Tm) (bs : List Bd) : Option Tm :=
  if t.valid = true ∧ (bs.all fun b => b.2.valid) = true ∧ (t.mapv (subB bs)).valid = true then some (t.mapv (subB bs)) else none
end Go.AW


/- Answers' goals: what the program's and the reference's functions return. -/
namespace Go.AW
open Go.Proofs.Try
set_option linter.unusedSimpArgs false
set_option maxRecDepth 100000

/-- An answer. -/
abbrev ansAv (l : List Tm) : AV := .agg [.slice (l.map Tm.av)]

/-- What a variable of a query stands for in an answer. -/
def valOf (vars : List Int) (vals : List Tm) (n : Int) : Tm := (vals[(idxI n vars 0).toNat]?).getD (vr n)
def fitsQ (q vals : List Tm) : Bool := queryOk q && decide (vals.length = (tmsVars q []).length) && vals.all Tm.valid
def ansGoals (q vals : List Tm) : Option (List Tm) :=
  if fitsQ q vals = true ∧ (q.map (Tm.mapv (valOf (tmsVars q []) vals))).all Tm.valid = true then some (q.map (Tm.mapv (valOf (tmsVars q []) vals))) else none

def iaAv (o : Option (List Tm)) (q : AV) : AV := .tup [q, .bool o.isSome]

end Go.AW


/- Answers' goals: what the reference's functions return. -/
namespace Go.AW
open Go.Proofs.Try
set_option linter.unusedSimpArgs false
set_option maxRecDepth 100000

end Go.AW


/- Marks in terms: what the laws' helpers do. -/
namespace Go.AW
open Go.Proofs.Try
set_option linter.unusedSimpArgs false
set_option maxRecDepth 100000

theorem tf_MkTm_67 : (type_of% tI_2) ∧ (type_of% zI_2) ∧ (type_of% Go.Proofs.Try.underlying2) ∧ (type_of% tI_3) ∧ (type_of% zI_3) ∧ (type_of% Go.Proofs.Try.underlying3) ∧ (type_of% tI_4) ∧ (type_of% zI_4) ∧ (type_of% Go.Proofs.Try.underlying4) ∧ (type_of% tI_5) ∧ (type_of% zI_5) ∧ (type_of% Go.Proofs.Try.underlying5) ∧ (type_of% tI_6) ∧ (type_of% zI_6) ∧ (type_of% Go.Proofs.Try.underlying6) ∧ (type_of% tI_7) ∧ (type_of% zI_7) ∧ (type_of% fI_7_0) ∧ (type_of% fI_7_1) ∧ (type_of% fI_7_2) ∧ (type_of% fI_7_3) ∧ (type_of% bI_7) ∧ (type_of% tI_9) ∧ (type_of% zI_9) ∧ (type_of% Go.Proofs.Try.underlying9) ∧ (type_of% tI_10) ∧ (type_of% zI_10) ∧ (type_of% Go.Proofs.Try.underlying10) ∧ (type_of% tI_17) ∧ (type_of% zI_17) ∧ (type_of% tI_39) ∧ (type_of% zI_39) ∧ (type_of% eI_39) ∧ (type_of% eB_39) ∧ (type_of% eZ_39) ∧ (type_of% Go.Proofs.Try.underlying39) ∧ (type_of% tI_64) ∧ (type_of% zI_64) ∧ (type_of% fI_64_0) ∧ (type_of% fI_64_1) ∧ (type_of% bI_64) := ⟨tI_2, zI_2, Go.Proofs.Try.underlying2, tI_3, zI_3, Go.Proofs.Try.underlying3, tI_4, zI_4, Go.Proofs.Try.underlying4, tI_5, zI_5, Go.Proofs.Try.underlying5, tI_6, zI_6, Go.Proofs.Try.underlying6, tI_7, zI_7, fI_7_0, fI_7_1, fI_7_2, fI_7_3, bI_7, tI_9, zI_9, Go.Proofs.Try.underlying9, tI_10, zI_10, Go.Proofs.Try.underlying10, tI_17, zI_17, tI_39, zI_39, eI_39, eB_39, eZ_39, Go.Proofs.Try.underlying39, tI_64, zI_64, fI_64_0, fI_64_1, bI_64⟩
theorem c_markText (k : Int) (st : Store) (h1 : k ≤ 1099511627776) : ACalls prog 67 [.int .i64 k] st (fun r st' => r = .str (mt k) ∧ st' = st) := by
  refine acalls_fit [] func67 ntmps67 rfl rfl (by kernel_rfl) (by decide +kernel) (by show 1 ≤ _; decide +kernel) ?_
  intro _
  simp -implicitDefEqProofs only [evb0, evb1, evb2, evb3, evb4, evb5, evb6, evb7, evb8, evb9, ↓evZ2, ↓evZ3, ↓Int.cast_ofNat_Int, implies_true, ne_eq, or_false, false_or, or_self, gt_iff_lt, isMut, aFn, List.contains, List.elem, aBox, aField, aLoad, sub, aNil, aPick, aExt, aFld, gd, noJunk, plainOp, aBuildSlice, aBuild, aFill, aParts, seqParts, fitAll, List.range', ↓reduceIte, reduceCtorEq, Nat.reduceEqDiff, Nat.reduceAdd, Nat.reduceLeDiff, Nat.reduceMul, Nat.reduceLT, Nat.reduceBEq, Int.reduceEq, tf_MkTm_67]
  refine cond_split (fun h => ?_) (fun h => ?_)
  · simp -implicitDefEqProofs only [evb0, evb1, evb2, evb3, evb4, evb5, evb6, evb7, evb8, evb9, ↓evZ2, ↓evZ3, ↓Int.cast_ofNat_Int, implies_true, ne_eq, or_false, false_or, or_self, gt_iff_lt, isMut, aFn, List.contains, List.elem, aBox, aField, aLoad, sub, aNil, aPick, aExt, aFld, gd, noJunk, plainOp, aBuildSlice, aBuild, aFill, aParts, seqParts, fitAll, List.range', ↓reduceIte, reduceCtorEq, Nat.reduceEqDiff, Nat.reduceAdd, Nat.reduceLeDiff, Nat.reduceMul, Nat.reduceLT, Nat.reduceBEq, Int.reduceEq, tf_MkTm_67]
    simp only [decide_eq_true_eq] at h
    simp only [mt, h, if_true]
  simp only [decide_eq_false_iff_not] at h
  obtain ⟨n, rfl⟩ := Int.eq_ofNat_of_zero_le (show 0 ≤ k by omega)
  have hmt : mt (n : Int) = ⟨(109 :: mtDigs n []).toArray⟩ := by simp only [mt, h, if_false, Int.toNat_natCast]
  rw [hmt]
  simp -implicitDefEqProofs only [evb0, evb1, evb2, evb3, evb4, evb5, evb6, evb7, evb8, evb9, ↓evZ2, ↓evZ3, ↓Int.cast_ofNat_Int, implies_true, ne_eq, or_false, false_or, or_self, gt_iff_lt, isMut, aFn, List.contains, List.elem, aBox, aField, aLoad, sub, aNil, aPick, aExt, aFld, gd, noJunk, plainOp, aBuildSlice, aBuild, aFill, aParts, seqParts, fitAll, List.range', ↓reduceIte, reduceCtorEq, Nat.reduceEqDiff, Nat.reduceAdd, Nat.reduceLeDiff, Nat.reduceMul, Nat.reduceLT, Nat.reduceBEq, Int.reduceEq, tf_MkTm_67]
  refine arun_whileK (σ := Nat × List UInt8) [] [2] (fun p => mtDigs p.1 p.2 = mtDigs n [] ∧ p.2.length + p.1 ≤ 1099511627776) (fun p => [(0, .int .i64 p.1), (3, .str ⟨p.2.toArray⟩)]) (fun _ => st) (fun p => p.1) (by decide +kernel)
    ⟨(n, []), ⟨rfl, by simp; omega⟩, LessL.mk (by simp -implicitDefEqProofs only [evb0, evb1, evb2, evb3, evb4, evb5, evb6, evb7, evb8, evb9, ↓evZ2, ↓evZ3, ↓Int.cast_ofNat_Int, implies_true, ne_eq, or_false, false_or, or_self, gt_iff_lt, isMut, aFn, List.contains, List.elem, aBox, aField, aLoad, sub, aNil, aPick, aExt, aFld, gd, noJunk, plainOp, aBuildSlice, aBuild, aFill, aParts, seqParts, fitAll, List.range', ↓reduceIte, reduceCtorEq, Nat.reduceEqDiff, Nat.reduceAdd, Nat.reduceLeDiff, Nat.reduceMul, Nat.reduceLT, Nat.reduceBEq, Int.reduceEq, tf_MkTm_67])⟩ ?_
  rintro ⟨k, acc⟩ ⟨hd, hb⟩
  simp only at hd hb
  simp -implicitDefEqProofs only [evb0, evb1, evb2, evb3, evb4, evb5, evb6, evb7, evb8, evb9, ↓evZ2, ↓evZ3, ↓Int.cast_ofNat_Int, implies_true, ne_eq, or_false, false_or, or_self, gt_iff_lt, isMut, aFn, List.contains, List.elem, aBox, aField, aLoad, sub, aNil, aPick, aExt, aFld, gd, noJunk, plainOp, aBuildSlice, aBuild, aFill, aParts, seqParts, fitAll, List.range', ↓reduceIte, reduceCtorEq, Nat.reduceEqDiff, Nat.reduceAdd, Nat.reduceLeDiff, Nat.reduceMul, Nat.reduceLT, Nat.reduceBEq, Int.reduceEq, tf_MkTm_67]
  refine cond_split (fun h2 => ?_) (fun h2 => ?_)
  case refine_2 =>
    simp only [decide_eq_false_iff_not] at h2
    obtain rfl : k = 0 := by omega
    rw [mtDigs_zero] at hd
    have hsz : (⟨#[109]⟩ : ByteArray).size + (⟨acc.toArray⟩ : ByteArray).size ≤ maxLen := by
      show 1 + acc.toArray.size ≤ maxLen
      unfold maxLen
      simp; omega
    simp -implicitDefEqProofs only [hsz, if_pos, evb0, evb1, evb2, evb3, evb4, evb5, evb6, evb7, evb8, evb9, ↓evZ2, ↓evZ3, ↓Int.cast_ofNat_Int, implies_true, ne_eq, or_false, false_or, or_self, gt_iff_lt, isMut, aFn, List.contains, List.elem, aBox, aField, aLoad, sub, aNil, aPick, aExt, aFld, gd, noJunk, plainOp, aBuildSlice, aBuild, aFill, aParts, seqParts, fitAll, List.range', ↓reduceIte, reduceCtorEq, Nat.reduceEqDiff, Nat.reduceAdd, Nat.reduceLeDiff, Nat.reduceMul, Nat.reduceLT, Nat.reduceBEq, Int.reduceEq, tf_MkTm_67]
    rw [← hd]
    congr 1
  simp only [decide_eq_true_eq] at h2
  have hr : ((k : Int)).tmod 10 = ((k % 10 : Nat) : Int) := by rw [Int.tmod_eq_emod_of_nonneg (by omega)]; omega
  have hq : ((k : Int)).tdiv 10 = ((k / 10 : Nat) : Int) := by rw [Int.tdiv_eq_ediv_of_nonneg (by omega)]; omega
  have hw := wrap64 (n := 48 + ((k % 10 : Nat) : Int)) (by omega) (by omega)
  have hw8 : IntKind.wrap .u8 (48 + ((k % 10 : Nat) : Int)) = ((48 + k % 10 : Nat) : Int) := by rw [IntKind.wrap_u8]; omega
  have hw2 := wrap64 (n := ((k / 10 : Nat) : Int)) (by omega) (by omega)
  have hby : bytesOf [AV.int .u8 ((48 + k % 10 : Nat) : Int)] = some [UInt8.ofNat (48 + k % 10)] := by
    simp only [bytesOf, Int.toNat_natCast, Option.map_some]
  have hsz : (⟨#[UInt8.ofNat (48 + k % 10)]⟩ : ByteArray).size + (⟨acc.toArray⟩ : ByteArray).size ≤ maxLen := by
    show 1 + acc.toArray.size ≤ maxLen
    unfold maxLen
    simp; omega
  simp -implicitDefEqProofs only [aConvert, hr, hq, hw, hw8, hw2, hby, hsz, if_pos, evb0, evb1, evb2, evb3, evb4, evb5, evb6, evb7, evb8, evb9, ↓evZ2, ↓evZ3, ↓Int.cast_ofNat_Int, implies_true, ne_eq, or_false, false_or, or_self, gt_iff_lt, isMut, aFn, List.contains, List.elem, aBox, aField, aLoad, sub, aNil, aPick, aExt, aFld, gd, noJunk, plainOp, aBuildSlice, aBuild, aFill, aParts, seqParts, fitAll, List.range', ↓reduceIte, reduceCtorEq, Nat.reduceEqDiff, Nat.reduceAdd, Nat.reduceLeDiff, Nat.reduceMul, Nat.reduceLT, Nat.reduceBEq, Int.reduceEq, tf_MkTm_67]
  refine ⟨(k / 10, UInt8.ofNat (48 + k % 10) :: acc), by omega, ⟨by rw [← mtDigs_pos (by omega)]; exact hd, by simp only [List.length_cons]; omega⟩, LessL.mk (by simp -implicitDefEqProofs only [ba_append, evb0, evb1, evb2, evb3, evb4, evb5, evb6, evb7, evb8, evb9, ↓evZ2, ↓evZ3, ↓Int.cast_ofNat_Int, implies_true, ne_eq, or_false, false_or, or_self, gt_iff_lt, isMut, aFn, List.contains, List.elem, aBox, aField, aLoad, sub, aNil, aPick, aExt, aFld, gd, noJunk, plainOp, aBuildSlice, aBuild, aFill, aParts, seqParts, fitAll, List.range', ↓reduceIte, reduceCtorEq, Nat.reduceEqDiff, Nat.reduceAdd, Nat.reduceLeDiff, Nat.reduceMul, Nat.reduceLT, Nat.reduceBEq, Int.reduceEq, tf_MkTm_67])⟩

theorem tf_MkTm_19 : (type_of% tI_2) ∧ (type_of% zI_2) ∧ (type_of% Go.Proofs.Try.underlying2) ∧ (type_of% tI_3) ∧ (type_of% zI_3) ∧ (type_of% Go.Proofs.Try.underlying3) ∧ (type_of% tI_4) ∧ (type_of% zI_4) ∧ (type_of% Go.Proofs.Try.underlying4) ∧ (type_of% tI_5) ∧ (type_of% zI_5) ∧ (type_of% Go.Proofs.Try.underlying5) ∧ (type_of% tI_6) ∧ (type_of% zI_6) ∧ (type_of% Go.Proofs.Try.underlying6) ∧ (type_of% tI_7) ∧ (type_of% zI_7) ∧ (type_of% fI_7_0) ∧ (type_of% fI_7_1) ∧ (type_of% fI_7_2) ∧ (type_of% fI_7_3) ∧ (type_of% bI_7) ∧ (type_of% tI_8) ∧ (type_of% zI_8) ∧ (type_of% fI_8_0) ∧ (type_of% fI_8_1) ∧ (type_of% fI_8_2) ∧ (type_of% fI_8_3) ∧ (type_of% bI_8) ∧ (type_of% tI_9) ∧ (type_of% zI_9) ∧ (type_of% Go.Proofs.Try.underlying9) ∧ (type_of% tI_10) ∧ (type_of% zI_10) ∧ (type_of% Go.Proofs.Try.underlying10) ∧ (type_of% tI_11) ∧ (type_of% zI_11) ∧ (type_of% Go.Proofs.Try.underlying11) ∧ (type_of% tI_19) ∧ (type_of% zI_19) ∧ (type_of% fI_19_0) ∧ (type_of% bI_19) ∧ (type_of% tI_27) ∧ (type_of% zI_27) ∧ (type_of% eI_27) ∧ (type_of% eB_27) ∧ (type_of% eZ_27) ∧ (type_of% Go.Proofs.Try.underlying27) ∧ (type_of% tI_39) ∧ (type_of% zI_39) ∧ (type_of% eI_39) ∧ (type_of% eB_39) ∧ (type_of% eZ_39) ∧ (type_of% Go.Proofs.Try.underlying39) ∧ (type_of% tI_40) ∧ (type_of% zI_40) ∧ (type_of% fI_40_0) ∧ (type_of% fI_40_1) ∧ (type_of% fI_40_2) ∧ (type_of% fI_40_3) ∧ (type_of% bI_40) ∧ (type_of% tI_41) ∧ (type_of% zI_41) ∧ (type_of% fI_41_0) ∧ (type_of% fI_41_1) ∧ (type_of% fI_41_2) ∧ (type_of% fI_41_3) ∧ (type_of% bI_41) ∧ (type_of% tI_64) ∧ (type_of% zI_64) ∧ (type_of% fI_64_0) ∧ (type_of% fI_64_1) ∧ (type_of% bI_64) := ⟨tI_2, zI_2, Go.Proofs.Try.underlying2, tI_3, zI_3, Go.Proofs.Try.underlying3, tI_4, zI_4, Go.Proofs.Try.underlying4, tI_5, zI_5, Go.Proofs.Try.underlying5, tI_6, zI_6, Go.Proofs.Try.underlying6, tI_7, zI_7, fI_7_0, fI_7_1, fI_7_2, fI_7_3, bI_7, tI_8, zI_8, fI_8_0, fI_8_1, fI_8_2, fI_8_3, bI_8, tI_9, zI_9, Go.Proofs.Try.underlying9, tI_10, zI_10, Go.Proofs.Try.underlying10, tI_11, zI_11, Go.Proofs.Try.underlying11, tI_19, zI_19, fI_19_0, bI_19, tI_27, zI_27, eI_27, eB_27, eZ_27, Go.Proofs.Try.underlying27, tI_39, zI_39, eI_39, eB_39, eZ_39, Go.Proofs.Try.underlying39, tI_40, zI_40, fI_40_0, fI_40_1, fI_40_2, fI_40_3, bI_40, tI_41, zI_41, fI_41_0, fI_41_1, fI_41_2, fI_41_3, bI_41, tI_64, zI_64, fI_64_0, fI_64_1, bI_64⟩
theorem c_markTermS : ∀ (l : List Tm) (j : Int) (o : AV) (bs : List Nat) (st : Store), Own st (.slice (l.map Tm.av)) o bs → bs.Nodup → 0 ≤ j → j + sumL Tm.mks l ≤ 1099511627776 →
    ACalls prog 19 [o, .int .i64 j] st (Marked st (.slice ((markL Tm.mark Tm.mks l j).map Tm.av)) o bs (j + sumL Tm.mks l))
  | l, j, o, bs, st, hO, hnd, hj0, hj1 => by
    have IH := fun (k n : Int) (s : ByteArray) (ts : List Tm) (hm : Tm.mk k n s ts ∈ l) => c_markTermS ts
    obtain ⟨hlen, haL⟩ := hO.len
    rw [List.length_map] at hlen
    have haL := haL prog 27 _ underlying27
    rw [List.length_map] at haL
    refine acalls_fit [] func19 ntmps19 rfl rfl (by kernel_rfl) (by decide +kernel) (by show 2 ≤ _; decide +kernel) ?_
    simp only [fitsL]
    intro ⟨hf, _⟩
    have hl := hlen hf
    clear hf hlen
    simp -implicitDefEqProofs only [evb0, evb1, evb2, evb3, evb4, evb5, evb6, evb7, evb8, evb9, ↓evZ2, ↓evZ3, ↓Int.cast_ofNat_Int, implies_true, ne_eq, or_false, false_or, or_self, gt_iff_lt, isMut, aFn, List.contains, List.elem, aBox, aField, aLoad, sub, aNil, aPick, aExt, aFld, gd, noJunk, plainOp, aBuildSlice, aBuild, aFill, aParts, seqParts, fitAll, List.range', ↓reduceIte, reduceCtorEq, Nat.reduceEqDiff, Nat.reduceAdd, Nat.reduceLeDiff, Nat.reduceMul, Nat.reduceLT, Nat.reduceBEq, Int.reduceEq, tf_MkTm_19]
    refine arun_each (σ := List Tm × Int × Store) [] [0, 4] l
      (fun i p => p.1.length = i ∧ p.1 ++ markL Tm.mark Tm.mks (l.drop i) p.2.1 = markL Tm.mark Tm.mks l j ∧ 0 ≤ p.2.1 ∧ p.2.1 + sumL Tm.mks (l.drop i) = j + sumL Tm.mks l ∧ Own p.2.2 (.slice ((p.1 ++ l.drop i).map Tm.av)) o bs ∧ ∀ q, q ∉ bs → p.2.2 q = st q)
      (fun i p => [(1, .int .i64 p.2.1), (5, .int .i64 i)]) (fun _ p => p.2.2) (by decide +kernel)
      ⟨([], j, st), ⟨rfl, rfl, hj0, rfl, hO, fun _ _ => rfl⟩, LessL.mk (by simp -implicitDefEqProofs only [evb0, evb1, evb2, evb3, evb4, evb5, evb6, evb7, evb8, evb9, ↓evZ2, ↓evZ3, ↓Int.cast_ofNat_Int, implies_true, ne_eq, or_false, false_or, or_self, gt_iff_lt, isMut, aFn, List.contains, List.elem, aBox, aField, aLoad, sub, aNil, aPick, aExt, aFld, gd, noJunk, plainOp, aBuildSlice, aBuild, aFill, aParts, seqParts, fitAll, List.range', ↓reduceIte, reduceCtorEq, Nat.reduceEqDiff, Nat.reduceAdd, Nat.reduceLeDiff, Nat.reduceMul, Nat.reduceLT, Nat.reduceBEq, Int.reduceEq, tf_MkTm_19])⟩ (fun i x p hx hlt hlt' hdr hinv => ?_) (fun p hge hinv => ?_)
    case refine_2 =>
      obtain ⟨done, k, s⟩ := p
      obtain ⟨i1, i2, i3, i4, i5, i6⟩ := hinv
      simp only at i1 i2 i3 i4 i5 i6
      simp -implicitDefEqProofs only [haL, hge, evb0, evb1, evb2, evb3, evb4, evb5, evb6, evb7, evb8, evb9, ↓evZ2, ↓evZ3, ↓Int.cast_ofNat_Int, implies_true, ne_eq, or_false, false_or, or_self, gt_iff_lt, isMut, aFn, List.contains, List.elem, aBox, aField, aLoad, sub, aNil, aPick, aExt, aFld, gd, noJunk, plainOp, aBuildSlice, aBuild, aFill, aParts, seqParts, fitAll, List.range', ↓reduceIte, reduceCtorEq, Nat.reduceEqDiff, Nat.reduceAdd, Nat.reduceLeDiff, Nat.reduceMul, Nat.reduceLT, Nat.reduceBEq, Int.reduceEq, tf_MkTm_19]
      simp only [List.drop_length, markL, List.append_nil, sumL] at i2 i4 i5
      exact ⟨by rw [← i4]; simp, by rw [← i2]; exact i5, i6⟩
    obtain ⟨done, k, s⟩ := p
    obtain ⟨i1, i2, i3, i4, i5, i6⟩ := hinv
    simp only at i1 i2 i3 i4 i5 i6
    rw [hdr] at i2 i4 i5
    obtain ⟨xk, xn, xs, xts⟩ := x
    simp only [sumL, Tm.mks_mk] at i4
    have hget := marked_get (av := Tm.av) (done := done) (x := .mk xk xn xs xts) (rest := l.drop (i + 1))
    obtain ⟨b, bs', w, A, oe, bo, B, rfl, hbs, hsb, hA, hoe, hbo, hbn, hsub, hw, hi, hfoc⟩ := i5.focus hnd hget
    rw [Tm.av_width] at hw
    subst hw
    rw [i1] at hA
    obtain ⟨q, rfl, hq⟩ := own_Tm.1 hoe
    have hlen2 : ((done ++ Tm.mk xk xn xs xts :: l.drop (i + 1)).map Tm.av).length = l.length := by
      rw [List.length_map, List.length_append, List.length_cons, List.length_drop, i1]; omega
    rw [hlen2] at haL hfoc ⊢
    have hat := held_at (b := b) (len := l.length) (w := 4) (i := i) eI_27 hlt
    have hbnd : ∀ (c : Nat), c < 4 → i * 4 + c + 1 ≤ A.length + (4 + B.length) := fun c hc => by rw [hA]; omega
    have hw1 := wrap64 (n := k + 1) (by omega) (by omega)
    have hw2 := wrap64 (n := k + 1 + 1) (by omega) (by omega)
    have hw3 := wrap64 (n := k + 1 + 1 + 1) (by omega) (by omega)
    have hw4 := wrap64 (n := (i : Int) + 1) (by omega) (by omega)
    obtain ⟨e1, e2, e3, e4, e5, e6⟩ := midE (B := B) hA
    simp -implicitDefEqProofs only [haL, hlt', hat, hsb, hw1, hw2, hw3, e1, e2, e3, e4, e5, e6, Nat.add_zero, List.set_cons_zero, List.set_cons_succ, Store.upd_upd, evb0, evb1, evb2, evb3, evb4, evb5, evb6, evb7, evb8, evb9, ↓evZ2, ↓evZ3, ↓Int.cast_ofNat_Int, implies_true, ne_eq, or_false, false_or, or_self, gt_iff_lt, isMut, aFn, List.contains, List.elem, aBox, aField, aLoad, sub, aNil, aPick, aExt, aFld, gd, noJunk, plainOp, aBuildSlice, aBuild, aFill, aParts, seqParts, fitAll, List.range', ↓reduceIte, reduceCtorEq, Nat.reduceEqDiff, Nat.reduceAdd, Nat.reduceLeDiff, Nat.reduceMul, Nat.reduceLT, Nat.reduceBEq, Int.reduceEq, tf_MkTm_19]
    refine (c_markText (k + 1 + 1) _ (by omega)).to ?_
    simp -implicitDefEqProofs only [hat, e1, e2, e3, e4, e5, e6, Nat.add_zero, List.set_cons_zero, List.set_cons_succ, Store.upd_upd, hw1, hw2, hw3, evb0, evb1, evb2, evb3, evb4, evb5, evb6, evb7, evb8, evb9, ↓evZ2, ↓evZ3, ↓Int.cast_ofNat_Int, implies_true, ne_eq, or_false, false_or, or_self, gt_iff_lt, isMut, aFn, List.contains, List.elem, aBox, aField, aLoad, sub, aNil, aPick, aExt, aFld, gd, noJunk, plainOp, aBuildSlice, aBuild, aFill, aParts, seqParts, fitAll, List.range', ↓reduceIte, reduceCtorEq, Nat.reduceEqDiff, Nat.reduceAdd, Nat.reduceLeDiff, Nat.reduceMul, Nat.reduceLT, Nat.reduceBEq, Int.reduceEq, tf_MkTm_19]
    have hqs : ∀ (o : AO), Own (s.upd b o) (.slice (xts.map Tm.av)) q bo := fun o => Own.keep _ _ _ (fun x hx => Store.upd_ne _ _ (fun e => hbn (e ▸ hx))) hq
    have hqa : q.isAgg = false := (Own.shape hq).1
    simp -implicitDefEqProofs only [hqa, evb0, evb1, evb2, evb3, evb4, evb5, evb6, evb7, evb8, evb9, ↓evZ2, ↓evZ3, ↓Int.cast_ofNat_Int, implies_true, ne_eq, or_false, false_or, or_self, gt_iff_lt, isMut, aFn, List.contains, List.elem, aBox, aField, aLoad, sub, aNil, aPick, aExt, aFld, gd, noJunk, plainOp, aBuildSlice, aBuild, aFill, aParts, seqParts, fitAll, List.range', ↓reduceIte, reduceCtorEq, Nat.reduceEqDiff, Nat.reduceAdd, Nat.reduceLeDiff, Nat.reduceMul, Nat.reduceLT, Nat.reduceBEq, Int.reduceEq, tf_MkTm_19]
    refine (IH xk xn xs xts (List.mem_of_getElem? hx) (k + 1 + 1 + 1) q bo _ (hqs _) hbo (by omega) (by omega)).mono ?_
    rintro _ s2 ⟨rfl, hq2, hk2⟩
    simp -implicitDefEqProofs only [hw4, evb0, evb1, evb2, evb3, evb4, evb5, evb6, evb7, evb8, evb9, ↓evZ2, ↓evZ3, ↓Int.cast_ofNat_Int, implies_true, ne_eq, or_false, false_or, or_self, gt_iff_lt, isMut, aFn, List.contains, List.elem, aBox, aField, aLoad, sub, aNil, aPick, aExt, aFld, gd, noJunk, plainOp, aBuildSlice, aBuild, aFill, aParts, seqParts, fitAll, List.range', ↓reduceIte, reduceCtorEq, Nat.reduceEqDiff, Nat.reduceAdd, Nat.reduceLeDiff, Nat.reduceMul, Nat.reduceLT, Nat.reduceBEq, Int.reduceEq, tf_MkTm_19]
    refine ⟨(done ++ [(Tm.mk xk xn xs xts).mark k], k + 1 + 1 + 1 + sumL Tm.mks xts, s2), ⟨?_, ?_, ?_, ?_, ?_, ?_⟩, LessL.mk (by simp -implicitDefEqProofs only [evb0, evb1, evb2, evb3, evb4, evb5, evb6, evb7, evb8, evb9, ↓evZ2, ↓evZ3, ↓Int.cast_ofNat_Int, implies_true, ne_eq, or_false, false_or, or_self, gt_iff_lt, isMut, aFn, List.contains, List.elem, aBox, aField, aLoad, sub, aNil, aPick, aExt, aFld, gd, noJunk, plainOp, aBuildSlice, aBuild, aFill, aParts, seqParts, fitAll, List.range', ↓reduceIte, reduceCtorEq, Nat.reduceEqDiff, Nat.reduceAdd, Nat.reduceLeDiff, Nat.reduceMul, Nat.reduceLT, Nat.reduceBEq, Int.reduceEq, tf_MkTm_19])⟩
    · simp [i1]
    · simp only [markL, Tm.mks_mk] at i2
      rw [← i2, show k + ((3 + sumL Tm.mks xts : Nat) : Int) = k + 1 + 1 + 1 + (sumL Tm.mks xts : Int) by omega]
      simp
    · simp only; omega
    · simp only; omega
    · have := hfoc s2 ((Tm.mk xk xn xs xts).mark k).av (.agg [.int .i64 k, .int .i64 (k + 1), .str (mt (k + 1 + 1)), q]) (Tm.av_width _) (fun x hx hxb hxo => by rw [hk2 x hxo, Store.upd_ne _ _ hxb]) (by rw [hk2 b hbn, Store.upd_same]; rfl) (by rw [Tm.mark_mk]; exact own_Tm.2 ⟨q, rfl, hq2⟩)
      rw [marked_set] at this
      exact this
    · intro x hx
      have hxb : x ≠ b := fun e => hx (by rw [hbs]; simp [e])
      have hxo : x ∉ bo := fun e => hx (hsub x e)
      show s2 x = st x
      rw [hk2 x hxo, Store.upd_ne _ _ hxb, i6 x hx]
termination_by l => SizeOf.sizeOf l
decreasing_by have := List.sizeOf_lt_of_mem hm; simp only [Tm.mk.sizeOf_spec] at this; omega

end Go.AW


/- Terms made in blocks of their own. -/
namespace Go.AW
open Go.Proofs.Try
set_option linter.unusedSimpArgs false
set_option maxRecDepth 100000

theorem tf_MkO_14 : (type_of% tI_2) ∧ (type_of% zI_2) ∧ (type_of% Go.Proofs.Try.underlying2) ∧ (type_of% tI_3) ∧ (type_of% zI_3) ∧ (type_of% Go.Proofs.Try.underlying3) ∧ (type_of% tI_4) ∧ (type_of% zI_4) ∧ (type_of% Go.Proofs.Try.underlying4) ∧ (type_of% tI_5) ∧ (type_of% zI_5) ∧ (type_of% Go.Proofs.Try.underlying5) ∧ (type_of% tI_6) ∧ (type_of% zI_6) ∧ (type_of% Go.Proofs.Try.underlying6) ∧ (type_of% tI_8) ∧ (type_of% zI_8) ∧ (type_of% fI_8_0) ∧ (type_of% fI_8_1) ∧ (type_of% fI_8_2) ∧ (type_of% fI_8_3) ∧ (type_of% bI_8) ∧ (type_of% tI_9) ∧ (type_of% zI_9) ∧ (type_of% Go.Proofs.Try.underlying9) ∧ (type_of% tI_10) ∧ (type_of% zI_10) ∧ (type_of% Go.Proofs.Try.underlying10) ∧ (type_of% tI_19) ∧ (type_of% zI_19) ∧ (type_of% fI_19_0) ∧ (type_of% bI_19) ∧ (type_of% tI_21) ∧ (type_of% zI_21) ∧ (type_of% Go.Proofs.Try.underlying21) ∧ (type_of% tI_22) ∧ (type_of% zI_22) ∧ (type_of% eI_22) ∧ (type_of% eB_22) ∧ (type_of% eZ_22) ∧ (type_of% Go.Proofs.Try.underlying22) ∧ (type_of% tI_23) ∧ (type_of% zI_23) ∧ (type_of% fI_23_0) ∧ (type_of% bI_23) ∧ (type_of% tI_27) ∧ (type_of% zI_27) ∧ (type_of% eI_27) ∧ (type_of% eB_27) ∧ (type_of% eZ_27) ∧ (type_of% Go.Proofs.Try.underlying27) ∧ (type_of% tI_41) ∧ (type_of% zI_41) ∧ (type_of% fI_41_0) ∧ (type_of% fI_41_1) ∧ (type_of% fI_41_2) ∧ (type_of% fI_41_3) ∧ (type_of% bI_41) ∧ (type_of% tI_58) ∧ (type_of% zI_58) ∧ (type_of% fI_58_0) ∧ (type_of% fI_58_1) ∧ (type_of% bI_58) ∧ (type_of% tI_64) ∧ (type_of% zI_64) ∧ (type_of% fI_64_0) ∧ (type_of% fI_64_1) ∧ (type_of% bI_64) ∧ (type_of% tI_92) ∧ (type_of% zI_92) ∧ (type_of% fI_92_0) ∧ (type_of% fI_92_1) ∧ (type_of% fI_92_2) ∧ (type_of% fI_92_3) ∧ (type_of% bI_92) := ⟨tI_2, zI_2, Go.Proofs.Try.underlying2, tI_3, zI_3, Go.Proofs.Try.underlying3, tI_4, zI_4, Go.Proofs.Try.underlying4, tI_5, zI_5, Go.Proofs.Try.underlying5, tI_6, zI_6, Go.Proofs.Try.underlying6, tI_8, zI_8, fI_8_0, fI_8_1, fI_8_2, fI_8_3, bI_8, tI_9, zI_9, Go.Proofs.Try.underlying9, tI_10, zI_10, Go.Proofs.Try.underlying10, tI_19, zI_19, fI_19_0, bI_19, tI_21, zI_21, Go.Proofs.Try.underlying21, tI_22, zI_22, eI_22, eB_22, eZ_22, Go.Proofs.Try.underlying22, tI_23, zI_23, fI_23_0, bI_23, tI_27, zI_27, eI_27, eB_27, eZ_27, Go.Proofs.Try.underlying27, tI_41, zI_41, fI_41_0, fI_41_1, fI_41_2, fI_41_3, bI_41, tI_58, zI_58, fI_58_0, fI_58_1, bI_58, tI_64, zI_64, fI_64_0, fI_64_1, bI_64, tI_92, zI_92, fI_92_0, fI_92_1, fI_92_2, fI_92_3, bI_92⟩
theorem o_toTermS (l : List Tm) (st : Store) (hb : l.length ≤ 1048576) (hc : ∀ x ∈ l, ∀ (st : Store), ACalls prog 58 [Tm.av x] st (Made st (Tm.av x))) :
    ACalls prog 14 [.slice (l.map Tm.av)] st (Made st (.slice (l.map Tm.av))) := by
  refine acalls_fit [] func14 ntmps14 rfl rfl (by kernel_rfl) (by decide +kernel) (by show 1 ≤ _; decide +kernel) ?_
  intro _
  simp -implicitDefEqProofs only [List.length_map, aMakeSlice, evb0, evb1, evb2, evb3, evb4, evb5, evb6, evb7, evb8, evb9, ↓evZ2, ↓evZ3, ↓Int.cast_ofNat_Int, implies_true, ne_eq, or_false, false_or, or_self, gt_iff_lt, isMut, aFn, List.contains, List.elem, aBox, aField, aLoad, sub, aNil, aPick, aExt, aFld, gd, noJunk, plainOp, aBuildSlice, aBuild, aFill, aParts, seqParts, fitAll, List.range', ↓reduceIte, reduceCtorEq, Nat.reduceEqDiff, Nat.reduceAdd, Nat.reduceLeDiff, Nat.reduceMul, Nat.reduceLT, Nat.reduceBEq, Int.reduceEq, tf_MkO_14]
  refine ⟨by omega, by omega, by omega, ?_⟩
  intro b hn
  rw [Int.toNat_natCast, madeAV_eq _ (by simp)]
  refine arun_each (σ := List AV × List Nat × Store) [] [0, 2, 3] l (fun i p => OwnTo (l.map Tm.av) [.int .i64 0, .int .i64 0, .str ⟨#[]⟩, .fslice []] b st i p) (fun i _ => [(4, .int .i64 i)]) (fun _ p => p.2.2) (by decide +kernel)
    ⟨([], [], _), ?_, LessL.mk (by simp -implicitDefEqProofs only [evb0, evb1, evb2, evb3, evb4, evb5, evb6, evb7, evb8, evb9, ↓evZ2, ↓evZ3, ↓Int.cast_ofNat_Int, implies_true, ne_eq, or_false, false_or, or_self, gt_iff_lt, isMut, aFn, List.contains, List.elem, aBox, aField, aLoad, sub, aNil, aPick, aExt, aFld, gd, noJunk, plainOp, aBuildSlice, aBuild, aFill, aParts, seqParts, fitAll, List.range', ↓reduceIte, reduceCtorEq, Nat.reduceEqDiff, Nat.reduceAdd, Nat.reduceLeDiff, Nat.reduceMul, Nat.reduceLT, Nat.reduceBEq, Int.reduceEq, tf_MkO_14])⟩ (fun i x p hx hlt hlt' hdr hinv => ?_) (fun p hge hinv => ?_)
  · exact OwnTo.start hn (by rw [List.length_map])
  case refine_3 =>
    obtain ⟨os, bs, s⟩ := p
    simp -implicitDefEqProofs only [List.length_map, hge, evb0, evb1, evb2, evb3, evb4, evb5, evb6, evb7, evb8, evb9, ↓evZ2, ↓evZ3, ↓Int.cast_ofNat_Int, implies_true, ne_eq, or_false, false_or, or_self, gt_iff_lt, isMut, aFn, List.contains, List.elem, aBox, aField, aLoad, sub, aNil, aPick, aExt, aFld, gd, noJunk, plainOp, aBuildSlice, aBuild, aFill, aParts, seqParts, fitAll, List.range', ↓reduceIte, reduceCtorEq, Nat.reduceEqDiff, Nat.reduceAdd, Nat.reduceLeDiff, Nat.reduceMul, Nat.reduceLT, Nat.reduceBEq, Int.reduceEq, tf_MkO_14]
    exact hinv.done (List.length_map _) (fun e he => by simp only [List.mem_map] at he; obtain ⟨t, _, rfl⟩ := he; exact Tm.av_width t)
  obtain ⟨os, bs, s⟩ := p
  simp -implicitDefEqProofs only [List.length_map, hlt', ev_at (av := Tm.av) eI_22 hx (Tm.av_width x), Tm.av_agg, Tm.av_width, evb0, evb1, evb2, evb3, evb4, evb5, evb6, evb7, evb8, evb9, ↓evZ2, ↓evZ3, ↓Int.cast_ofNat_Int, implies_true, ne_eq, or_false, false_or, or_self, gt_iff_lt, isMut, aFn, List.contains, List.elem, aBox, aField, aLoad, sub, aNil, aPick, aExt, aFld, gd, noJunk, plainOp, aBuildSlice, aBuild, aFill, aParts, seqParts, fitAll, List.range', ↓reduceIte, reduceCtorEq, Nat.reduceEqDiff, Nat.reduceAdd, Nat.reduceLeDiff, Nat.reduceMul, Nat.reduceLT, Nat.reduceBEq, Int.reduceEq, tf_MkO_14]
  refine (hc x (List.mem_of_getElem? hx) _).mono ?_
  rintro r s2 hmade
  obtain ⟨A, B, hs2, hA, hrw, hrs, hnext⟩ := hinv.step hmade (show (l.map Tm.av)[i]? = some (Tm.av x) by rw [List.getElem?_map, hx]; rfl) (Tm.av_width x) (fun e he => by simp only [List.mem_map] at he; obtain ⟨t, _, rfl⟩ := he; exact Tm.av_width t) rfl (Tm.av_store x) (.inl (Tm.av_agg x))
  have hat := held_at (b := b) (len := l.length) (w := 4) (i := i) eI_27 hlt
  obtain ⟨hp1, hp2⟩ := partE (B := B) (C := [.int .i64 0, .int .i64 0, .str ⟨#[]⟩, .fslice []]) (x := r.cells) hA rfl hrw
  have hw := wrap64 (n := (i : Int) + 1) (by omega) (by omega)
  simp -implicitDefEqProofs only [hat, hs2, hrw, hrs, hp1, hw, evb0, evb1, evb2, evb3, evb4, evb5, evb6, evb7, evb8, evb9, ↓evZ2, ↓evZ3, ↓Int.cast_ofNat_Int, implies_true, ne_eq, or_false, false_or, or_self, gt_iff_lt, isMut, aFn, List.contains, List.elem, aBox, aField, aLoad, sub, aNil, aPick, aExt, aFld, gd, noJunk, plainOp, aBuildSlice, aBuild, aFill, aParts, seqParts, fitAll, List.range', ↓reduceIte, reduceCtorEq, Nat.reduceEqDiff, Nat.reduceAdd, Nat.reduceLeDiff, Nat.reduceMul, Nat.reduceLT, Nat.reduceBEq, Int.reduceEq, tf_MkO_14]
  refine ⟨hp2, ?_⟩
  exact ⟨_, hnext, LessL.mk (by simp -implicitDefEqProofs only [evb0, evb1, evb2, evb3, evb4, evb5, evb6, evb7, evb8, evb9, ↓evZ2, ↓evZ3, ↓Int.cast_ofNat_Int, implies_true, ne_eq, or_false, false_or, or_self, gt_iff_lt, isMut, aFn, List.contains, List.elem, aBox, aField, aLoad, sub, aNil, aPick, aExt, aFld, gd, noJunk, plainOp, aBuildSlice, aBuild, aFill, aParts, seqParts, fitAll, List.range', ↓reduceIte, reduceCtorEq, Nat.reduceEqDiff, Nat.reduceAdd, Nat.reduceLeDiff, Nat.reduceMul, Nat.reduceLT, Nat.reduceBEq, Int.reduceEq, tf_MkO_14])⟩


theorem tf_MkO_58 : (type_of% tI_2) ∧ (type_of% zI_2) ∧ (type_of% Go.Proofs.Try.underlying2) ∧ (type_of% tI_3) ∧ (type_of% zI_3) ∧ (type_of% Go.Proofs.Try.underlying3) ∧ (type_of% tI_4) ∧ (type_of% zI_4) ∧ (type_of% Go.Proofs.Try.underlying4) ∧ (type_of% tI_5) ∧ (type_of% zI_5) ∧ (type_of% Go.Proofs.Try.underlying5) ∧ (type_of% tI_6) ∧ (type_of% zI_6) ∧ (type_of% Go.Proofs.Try.underlying6) ∧ (type_of% tI_9) ∧ (type_of% zI_9) ∧ (type_of% Go.Proofs.Try.underlying9) ∧ (type_of% tI_14) ∧ (type_of% zI_14) ∧ (type_of% fI_14_0) ∧ (type_of% fI_14_1) ∧ (type_of% bI_14) ∧ (type_of% tI_15) ∧ (type_of% zI_15) ∧ (type_of% tI_18) ∧ (type_of% zI_18) ∧ (type_of% fI_18_0) ∧ (type_of% bI_18) ∧ (type_of% tI_22) ∧ (type_of% zI_22) ∧ (type_of% eI_22) ∧ (type_of% eB_22) ∧ (type_of% eZ_22) ∧ (type_of% Go.Proofs.Try.underlying22) ∧ (type_of% tI_27) ∧ (type_of% zI_27) ∧ (type_of% eI_27) ∧ (type_of% eB_27) ∧ (type_of% eZ_27) ∧ (type_of% Go.Proofs.Try.underlying27) ∧ (type_of% tI_41) ∧ (type_of% zI_41) ∧ (type_of% fI_41_0) ∧ (type_of% fI_41_1) ∧ (type_of% fI_41_2) ∧ (type_of% fI_41_3) ∧ (type_of% bI_41) ∧ (type_of% tI_92) ∧ (type_of% zI_92) ∧ (type_of% fI_92_0) ∧ (type_of% fI_92_1) ∧ (type_of% fI_92_2) ∧ (type_of% fI_92_3) ∧ (type_of% bI_92) ∧ (type_of% tI_120) ∧ (type_of% zI_120) ∧ (type_of% fI_120_0) ∧ (type_of% fI_120_1) ∧ (type_of% fI_120_2) ∧ (type_of% fI_120_3) ∧ (type_of% fI_120_4) ∧ (type_of% fI_120_5) ∧ (type_of% fI_120_6) ∧ (type_of% bI_120) := ⟨tI_2, zI_2, Go.Proofs.Try.underlying2, tI_3, zI_3, Go.Proofs.Try.underlying3, tI_4, zI_4, Go.Proofs.Try.underlying4, tI_5, zI_5, Go.Proofs.Try.underlying5, tI_6, zI_6, Go.Proofs.Try.underlying6, tI_9, zI_9, Go.Proofs.Try.underlying9, tI_14, zI_14, fI_14_0, fI_14_1, bI_14, tI_15, zI_15, tI_18, zI_18, fI_18_0, bI_18, tI_22, zI_22, eI_22, eB_22, eZ_22, Go.Proofs.Try.underlying22, tI_27, zI_27, eI_27, eB_27, eZ_27, Go.Proofs.Try.underlying27, tI_41, zI_41, fI_41_0, fI_41_1, fI_41_2, fI_41_3, bI_41, tI_92, zI_92, fI_92_0, fI_92_1, fI_92_2, fI_92_3, bI_92, tI_120, zI_120, fI_120_0, fI_120_1, fI_120_2, fI_120_3, fI_120_4, fI_120_5, fI_120_6, bI_120⟩
theorem o_toTerm : ∀ (a : Tm) (st : Store), a.sz ≤ 1048576 → ACalls prog 58 [a.av] st (Made st a.av)
  | .mk k n s ts, st, hb => by
    rw [Tm.sz_mk] at hb
    have hc := fun st => o_toTermS ts st (by omega) fun x hx st => o_toTerm x st (by have := sumL_mem (f := Tm.sz) hx; omega)
    refine ACalls.madeJ ?_
    refine acalls_fit [] func58 ntmps58 rfl rfl (by kernel_rfl) (by decide +kernel) (by show 1 ≤ _; decide +kernel) ?_
    intro _
    simp only [Tm.av_mk]
    simp -implicitDefEqProofs only [evb0, evb1, evb2, evb3, evb4, evb5, evb6, evb7, evb8, evb9, ↓evZ2, ↓evZ3, ↓Int.cast_ofNat_Int, implies_true, ne_eq, or_false, false_or, or_self, gt_iff_lt, isMut, aFn, List.contains, List.elem, aBox, aField, aLoad, sub, aNil, aPick, aExt, aFld, gd, noJunk, plainOp, aBuildSlice, aBuild, aFill, aParts, seqParts, fitAll, List.range', ↓reduceIte, reduceCtorEq, Nat.reduceEqDiff, Nat.reduceAdd, Nat.reduceLeDiff, Nat.reduceMul, Nat.reduceLT, Nat.reduceBEq, Int.reduceEq, tf_MkO_58]
    intro b hb1 b2 hb2
    have hne : b2 ≠ b := by rintro rfl; rw [Store.upd_same] at hb2; cases hb2
    have hn2 : st b2 = none := by rw [Store.upd_ne st _ hne] at hb2; exact hb2
    simp -implicitDefEqProofs only [su_eq, hne, hne.symm, setCells, Store.upd_upd, evb0, evb1, evb2, evb3, evb4, evb5, evb6, evb7, evb8, evb9, ↓evZ2, ↓evZ3, ↓Int.cast_ofNat_Int, implies_true, ne_eq, or_false, false_or, or_self, gt_iff_lt, isMut, aFn, List.contains, List.elem, aBox, aField, aLoad, sub, aNil, aPick, aExt, aFld, gd, noJunk, plainOp, aBuildSlice, aBuild, aFill, aParts, seqParts, fitAll, List.range', ↓reduceIte, reduceCtorEq, Nat.reduceEqDiff, Nat.reduceAdd, Nat.reduceLeDiff, Nat.reduceMul, Nat.reduceLT, Nat.reduceBEq, Int.reduceEq, tf_MkO_58]
    refine (hc _).mono ?_
    rintro q s2 ⟨bs, m1, m2, m3, m4⟩
    have hbb : b ∉ bs := fun h => by have := m2 b h; simp [su_eq, hne, hne.symm] at this
    have hbb2 : b2 ∉ bs := fun h => by have := m2 b2 h; simp [su_eq] at this
    have e1 := m4 b hbb
    have e2 := m4 b2 hbb2
    simp only [su_eq, hne, hne.symm, if_true, if_false] at e1 e2
    have hqc : q.cells = [q] := by have := (Own.shape m3).1; cases q <;> first | rfl | simp [AV.isAgg] at this
    have hqs : q.storable = true := by
      have := m3
      simp only [Own] at this
      rcases this with ⟨_, rfl, _⟩ | ⟨_, _, _, _, rfl, _⟩ <;> rfl
    simp -implicitDefEqProofs only [su_eq, hne, hne.symm, e1, e2, hqc, hqs, setCells, Store.upd_upd, evb0, evb1, evb2, evb3, evb4, evb5, evb6, evb7, evb8, evb9, ↓evZ2, ↓evZ3, ↓Int.cast_ofNat_Int, implies_true, ne_eq, or_false, false_or, or_self, gt_iff_lt, isMut, aFn, List.contains, List.elem, aBox, aField, aLoad, sub, aNil, aPick, aExt, aFld, gd, noJunk, plainOp, aBuildSlice, aBuild, aFill, aParts, seqParts, fitAll, List.range', ↓reduceIte, reduceCtorEq, Nat.reduceEqDiff, Nat.reduceAdd, Nat.reduceLeDiff, Nat.reduceMul, Nat.reduceLT, Nat.reduceBEq, Int.reduceEq, tf_MkO_58]
    refine ⟨[b, b2], bs, m1, fun x hx => ?_, ?_, ?_, ?_⟩
    · have := m2 x hx
      have h1 : x ≠ b := fun e => hbb (e ▸ hx)
      have h2 : x ≠ b2 := fun e => hbb2 (e ▸ hx)
      simpa [su_eq, h1, h2] using this
    · simp [hb1, hn2, hbb, hbb2]
    · rw [← Tm.av_mk]
      refine own_Tm.2 ⟨q, rfl, Own.keep _ _ _ (fun x hx => ?_) m3⟩
      have h1 : x ≠ b := fun e => hbb (e ▸ hx)
      have h2 : x ≠ b2 := fun e => hbb2 (e ▸ hx)
      simp only [su_eq, h1, h2, if_false]
    · intro x hx hd
      simp only [List.mem_cons, List.not_mem_nil, or_false, not_or] at hd
      simp only [su_eq, hd.1, hd.2, if_false]
      rw [m4 x hx]
      simp only [su_eq, hd.1, hd.2, if_false]
termination_by a => SizeOf.sizeOf a
decreasing_by have := List.sizeOf_lt_of_mem hx; simp only [Tm.mk.sizeOf_spec]; omega
end Go.AW


/- Terms: what the reference's and the program's functions return. -/
namespace Go.AW
open Go.Proofs.Try
set_option linter.unusedSimpArgs false
set_option maxRecDepth 100000

theorem tf_Ts1_17 : (type_of% tI_2) ∧ (type_of% zI_2) ∧ (type_of% Go.Proofs.Try.underlying2) ∧ (type_of% tI_3) ∧ (type_of% zI_3) ∧ (type_of% Go.Proofs.Try.underlying3) ∧ (type_of% tI_4) ∧ (type_of% zI_4) ∧ (type_of% Go.Proofs.Try.underlying4) ∧ (type_of% tI_5) ∧ (type_of% zI_5) ∧ (type_of% Go.Proofs.Try.underlying5) ∧ (type_of% tI_6) ∧ (type_of% zI_6) ∧ (type_of% Go.Proofs.Try.underlying6) ∧ (type_of% tI_7) ∧ (type_of% zI_7) ∧ (type_of% fI_7_0) ∧ (type_of% fI_7_1) ∧ (type_of% fI_7_2) ∧ (type_of% fI_7_3) ∧ (type_of% bI_7) ∧ (type_of% tI_8) ∧ (type_of% zI_8) ∧ (type_of% fI_8_0) ∧ (type_of% fI_8_1) ∧ (type_of% fI_8_2) ∧ (type_of% fI_8_3) ∧ (type_of% bI_8) ∧ (type_of% tI_9) ∧ (type_of% zI_9) ∧ (type_of% Go.Proofs.Try.underlying9) ∧ (type_of% tI_10) ∧ (type_of% zI_10) ∧ (type_of% Go.Proofs.Try.underlying10) ∧ (type_of% tI_11) ∧ (type_of% zI_11) ∧ (type_of% Go.Proofs.Try.underlying11) ∧ (type_of% tI_12) ∧ (type_of% zI_12) ∧ (type_of% Go.Proofs.Try.underlying12) ∧ (type_of% tI_13) ∧ (type_of% zI_13) ∧ (type_of% fI_13_0) ∧ (type_of% fI_13_1) ∧ (type_of% bI_13) ∧ (type_of% tI_24) ∧ (type_of% zI_24) ∧ (type_of% fI_24_0) ∧ (type_of% bI_24) ∧ (type_of% tI_27) ∧ (type_of% zI_27) ∧ (type_of% eI_27) ∧ (type_of% eB_27) ∧ (type_of% eZ_27) ∧ (type_of% Go.Proofs.Try.underlying27) ∧ (type_of% tI_41) ∧ (type_of% zI_41) ∧ (type_of% fI_41_0) ∧ (type_of% fI_41_1) ∧ (type_of% fI_41_2) ∧ (type_of% fI_41_3) ∧ (type_of% bI_41) ∧ (type_of% tI_64) ∧ (type_of% zI_64) ∧ (type_of% fI_64_0) ∧ (type_of% fI_64_1) ∧ (type_of% bI_64) := ⟨tI_2, zI_2, Go.Proofs.Try.underlying2, tI_3, zI_3, Go.Proofs.Try.underlying3, tI_4, zI_4, Go.Proofs.Try.underlying4, tI_5, zI_5, Go.Proofs.Try.underlying5, tI_6, zI_6, Go.Proofs.Try.underlying6, tI_7, zI_7, fI_7_0, fI_7_1, fI_7_2, fI_7_3, bI_7, tI_8, zI_8, fI_8_0, fI_8_1, fI_8_2, fI_8_3, bI_8, tI_9, zI_9, Go.Proofs.Try.underlying9, tI_10, zI_10, Go.Proofs.Try.underlying10, tI_11, zI_11, Go.Proofs.Try.underlying11, tI_12, zI_12, Go.Proofs.Try.underlying12, tI_13, zI_13, fI_13_0, fI_13_1, bI_13, tI_24, zI_24, fI_24_0, bI_24, tI_27, zI_27, eI_27, eB_27, eZ_27, Go.Proofs.Try.underlying27, tI_41, zI_41, fI_41_0, fI_41_1, fI_41_2, fI_41_3, bI_41, tI_64, zI_64, fI_64_0, fI_64_1, bI_64⟩
theorem c_eqTermS (l l' : List Tm) (st : Store) (hc : ∀ x ∈ l, ∀ (y : Tm) (st : Store), ACalls prog 66 [Tm.av x, Tm.av y] st (fun r st' => r = .bool (Tm.same x y) ∧ st' = st)) :
    ACalls prog 17 [.slice (l.map Tm.av), .slice (l'.map Tm.av)] st (fun r st' => r = .bool (eqL Tm.same l l') ∧ st' = st) := by
  refine acalls_fit [] func17 ntmps17 rfl rfl (by kernel_rfl) (by decide +kernel) (by show 2 ≤ _; decide +kernel) ?_
  simp only [fitsL, AV.fits, and_true, List.length_map]
  intro ⟨⟨hl, _⟩, ⟨hl', _⟩⟩
  simp -implicitDefEqProofs only [List.length_map, evb0, evb1, evb2, evb3, evb4, evb5, evb6, evb7, evb8, evb9, ↓evZ2, ↓evZ3, ↓Int.cast_ofNat_Int, implies_true, ne_eq, or_false, false_or, or_self, gt_iff_lt, isMut, aFn, List.contains, List.elem, aBox, aField, aLoad, sub, aNil, aPick, aExt, aFld, gd, noJunk, plainOp, aBuildSlice, aBuild, aFill, aParts, seqParts, fitAll, List.range', ↓reduceIte, reduceCtorEq, Nat.reduceEqDiff, Nat.reduceAdd, Nat.reduceLeDiff, Nat.reduceMul, Nat.reduceLT, Nat.reduceBEq, Int.reduceEq, tf_Ts1_17]
  refine ⟨fun h4 => ?_, fun h4 => ?_⟩
  · simp -implicitDefEqProofs only [evb0, evb1, evb2, evb3, evb4, evb5, evb6, evb7, evb8, evb9, ↓evZ2, ↓evZ3, ↓Int.cast_ofNat_Int, implies_true, ne_eq, or_false, false_or, or_self, gt_iff_lt, isMut, aFn, List.contains, List.elem, aBox, aField, aLoad, sub, aNil, aPick, aExt, aFld, gd, noJunk, plainOp, aBuildSlice, aBuild, aFill, aParts, seqParts, fitAll, List.range', ↓reduceIte, reduceCtorEq, Nat.reduceEqDiff, Nat.reduceAdd, Nat.reduceLeDiff, Nat.reduceMul, Nat.reduceLT, Nat.reduceBEq, Int.reduceEq, tf_Ts1_17]
    simp only [Bool.not_eq_true', decide_eq_false_iff_not] at h4
    rw [eqL_len _ (show l.length ≠ l'.length by omega)]
  simp -implicitDefEqProofs only [evb0, evb1, evb2, evb3, evb4, evb5, evb6, evb7, evb8, evb9, ↓evZ2, ↓evZ3, ↓Int.cast_ofNat_Int, implies_true, ne_eq, or_false, false_or, or_self, gt_iff_lt, isMut, aFn, List.contains, List.elem, aBox, aField, aLoad, sub, aNil, aPick, aExt, aFld, gd, noJunk, plainOp, aBuildSlice, aBuild, aFill, aParts, seqParts, fitAll, List.range', ↓reduceIte, reduceCtorEq, Nat.reduceEqDiff, Nat.reduceAdd, Nat.reduceLeDiff, Nat.reduceMul, Nat.reduceLT, Nat.reduceBEq, Int.reduceEq, tf_Ts1_17]
  simp only [Bool.not_eq_false', decide_eq_true_eq] at h4
  have h4' : l.length = l'.length := by omega
  refine arun_loopL (α := Nat) [] (fun i => i ≤ l.length ∧ ∀ (j : Nat) (x y : Tm), j < i → l[j]? = some x → l'[j]? = some y → Tm.same x y = true)
    (fun i => [(0, .slice (l.map Tm.av)), (1, .slice (l'.map Tm.av)), (5, .int .i64 i)]) (fun _ => st) (fun i => l.length - i) (by decide +kernel)
    ⟨0, ⟨by omega, by intro j x y h; omega⟩, LessL.mk (by simp -implicitDefEqProofs only [evb0, evb1, evb2, evb3, evb4, evb5, evb6, evb7, evb8, evb9, ↓evZ2, ↓evZ3, ↓Int.cast_ofNat_Int, implies_true, ne_eq, or_false, false_or, or_self, gt_iff_lt, isMut, aFn, List.contains, List.elem, aBox, aField, aLoad, sub, aNil, aPick, aExt, aFld, gd, noJunk, plainOp, aBuildSlice, aBuild, aFill, aParts, seqParts, fitAll, List.range', ↓reduceIte, reduceCtorEq, Nat.reduceEqDiff, Nat.reduceAdd, Nat.reduceLeDiff, Nat.reduceMul, Nat.reduceLT, Nat.reduceBEq, Int.reduceEq, tf_Ts1_17])⟩ ?_
  intro i ⟨hi, hall⟩
  simp -implicitDefEqProofs only [List.length_map, evb0, evb1, evb2, evb3, evb4, evb5, evb6, evb7, evb8, evb9, ↓evZ2, ↓evZ3, ↓Int.cast_ofNat_Int, implies_true, ne_eq, or_false, false_or, or_self, gt_iff_lt, isMut, aFn, List.contains, List.elem, aBox, aField, aLoad, sub, aNil, aPick, aExt, aFld, gd, noJunk, plainOp, aBuildSlice, aBuild, aFill, aParts, seqParts, fitAll, List.range', ↓reduceIte, reduceCtorEq, Nat.reduceEqDiff, Nat.reduceAdd, Nat.reduceLeDiff, Nat.reduceMul, Nat.reduceLT, Nat.reduceBEq, Int.reduceEq, tf_Ts1_17]
  refine ⟨fun h5 => ?_, fun h5 => ?_⟩
  case refine_2 =>
    simp -implicitDefEqProofs only [evb0, evb1, evb2, evb3, evb4, evb5, evb6, evb7, evb8, evb9, ↓evZ2, ↓evZ3, ↓Int.cast_ofNat_Int, implies_true, ne_eq, or_false, false_or, or_self, gt_iff_lt, isMut, aFn, List.contains, List.elem, aBox, aField, aLoad, sub, aNil, aPick, aExt, aFld, gd, noJunk, plainOp, aBuildSlice, aBuild, aFill, aParts, seqParts, fitAll, List.range', ↓reduceIte, reduceCtorEq, Nat.reduceEqDiff, Nat.reduceAdd, Nat.reduceLeDiff, Nat.reduceMul, Nat.reduceLT, Nat.reduceBEq, Int.reduceEq, tf_Ts1_17]
    simp only [decide_eq_false_iff_not, Int.ofNat_lt] at h5
    rw [eqL_all _ h4' (fun j x y h6 h7 => hall j x y (by have := (List.getElem?_eq_some_iff.1 h6).1; omega) h6 h7)]
  simp only [decide_eq_true_eq, Int.ofNat_lt] at h5
  obtain ⟨x, hx⟩ : ∃ x, l[i]? = some x := ⟨_, List.getElem?_eq_getElem h5⟩
  obtain ⟨y, hy⟩ : ∃ y, l'[i]? = some y := ⟨_, List.getElem?_eq_getElem (h4' ▸ h5)⟩
  simp -implicitDefEqProofs only [evb0, evb1, evb2, evb3, evb4, evb5, evb6, evb7, evb8, evb9, ↓evZ2, ↓evZ3, ↓Int.cast_ofNat_Int, implies_true, ne_eq, or_false, false_or, or_self, gt_iff_lt, isMut, aFn, List.contains, List.elem, aBox, aField, aLoad, sub, aNil, aPick, aExt, aFld, gd, noJunk, plainOp, aBuildSlice, aBuild, aFill, aParts, seqParts, fitAll, List.range', ↓reduceIte, reduceCtorEq, Nat.reduceEqDiff, Nat.reduceAdd, Nat.reduceLeDiff, Nat.reduceMul, Nat.reduceLT, Nat.reduceBEq, Int.reduceEq, tf_Ts1_17]
  refine arun_drawP mixed (by decide +kernel) (by decide +kernel) ?_
  simp -implicitDefEqProofs only [ev_at (av := Tm.av) eI_27 hx (Tm.av_width x), ev_at (av := Tm.av) eI_27 hy (Tm.av_width y), Tm.av_agg, Tm.av_width, evb0, evb1, evb2, evb3, evb4, evb5, evb6, evb7, evb8, evb9, ↓evZ2, ↓evZ3, ↓Int.cast_ofNat_Int, implies_true, ne_eq, or_false, false_or, or_self, gt_iff_lt, isMut, aFn, List.contains, List.elem, aBox, aField, aLoad, sub, aNil, aPick, aExt, aFld, gd, noJunk, plainOp, aBuildSlice, aBuild, aFill, aParts, seqParts, fitAll, List.range', ↓reduceIte, reduceCtorEq, Nat.reduceEqDiff, Nat.reduceAdd, Nat.reduceLeDiff, Nat.reduceMul, Nat.reduceLT, Nat.reduceBEq, Int.reduceEq, tf_Ts1_17]
  refine (hc x (List.mem_of_getElem? hx) y st).to ?_
  simp -implicitDefEqProofs only [evb0, evb1, evb2, evb3, evb4, evb5, evb6, evb7, evb8, evb9, ↓evZ2, ↓evZ3, ↓Int.cast_ofNat_Int, implies_true, ne_eq, or_false, false_or, or_self, gt_iff_lt, isMut, aFn, List.contains, List.elem, aBox, aField, aLoad, sub, aNil, aPick, aExt, aFld, gd, noJunk, plainOp, aBuildSlice, aBuild, aFill, aParts, seqParts, fitAll, List.range', ↓reduceIte, reduceCtorEq, Nat.reduceEqDiff, Nat.reduceAdd, Nat.reduceLeDiff, Nat.reduceMul, Nat.reduceLT, Nat.reduceBEq, Int.reduceEq, tf_Ts1_17]
  refine ⟨fun h6 => ?_, fun h6 => ?_⟩
  · simp -implicitDefEqProofs only [evb0, evb1, evb2, evb3, evb4, evb5, evb6, evb7, evb8, evb9, ↓evZ2, ↓evZ3, ↓Int.cast_ofNat_Int, implies_true, ne_eq, or_false, false_or, or_self, gt_iff_lt, isMut, aFn, List.contains, List.elem, aBox, aField, aLoad, sub, aNil, aPick, aExt, aFld, gd, noJunk, plainOp, aBuildSlice, aBuild, aFill, aParts, seqParts, fitAll, List.range', ↓reduceIte, reduceCtorEq, Nat.reduceEqDiff, Nat.reduceAdd, Nat.reduceLeDiff, Nat.reduceMul, Nat.reduceLT, Nat.reduceBEq, Int.reduceEq, tf_Ts1_17]
    have h7 : Tm.same x y = false := by simpa using h6
    rw [eqL_at _ i x y hx hy h7]
  have h7 : Tm.same x y = true := by simpa using h6
  simp -implicitDefEqProofs only [evb0, evb1, evb2, evb3, evb4, evb5, evb6, evb7, evb8, evb9, ↓evZ2, ↓evZ3, ↓Int.cast_ofNat_Int, implies_true, ne_eq, or_false, false_or, or_self, gt_iff_lt, isMut, aFn, List.contains, List.elem, aBox, aField, aLoad, sub, aNil, aPick, aExt, aFld, gd, noJunk, plainOp, aBuildSlice, aBuild, aFill, aParts, seqParts, fitAll, List.range', ↓reduceIte, reduceCtorEq, Nat.reduceEqDiff, Nat.reduceAdd, Nat.reduceLeDiff, Nat.reduceMul, Nat.reduceLT, Nat.reduceBEq, Int.reduceEq, tf_Ts1_17]
  refine ⟨i + 1, by omega, ⟨by omega, fun j u v hj hu hv => ?_⟩, LessL.mk ?_⟩
  · rcases Nat.lt_or_ge j i with h8 | h8
    · exact hall j u v h8 hu hv
    · obtain rfl : j = i := by omega
      rw [hx] at hu; rw [hy] at hv; cases hu; cases hv; exact h7
  · have := wrap64 (n := (i : Int) + 1) (by omega) (by omega)
    simp -implicitDefEqProofs only [this, evb0, evb1, evb2, evb3, evb4, evb5, evb6, evb7, evb8, evb9, ↓evZ2, ↓evZ3, ↓Int.cast_ofNat_Int, implies_true, ne_eq, or_false, false_or, or_self, gt_iff_lt, isMut, aFn, List.contains, List.elem, aBox, aField, aLoad, sub, aNil, aPick, aExt, aFld, gd, noJunk, plainOp, aBuildSlice, aBuild, aFill, aParts, seqParts, fitAll, List.range', ↓reduceIte, reduceCtorEq, Nat.reduceEqDiff, Nat.reduceAdd, Nat.reduceLeDiff, Nat.reduceMul, Nat.reduceLT, Nat.reduceBEq, Int.reduceEq, tf_Ts1_17]

theorem tf_Ts1_11 : (type_of% tI_2) ∧ (type_of% zI_2) ∧ (type_of% Go.Proofs.Try.underlying2) ∧ (type_of% tI_3) ∧ (type_of% zI_3) ∧ (type_of% Go.Proofs.Try.underlying3) ∧ (type_of% tI_4) ∧ (type_of% zI_4) ∧ (type_of% Go.Proofs.Try.underlying4) ∧ (type_of% tI_5) ∧ (type_of% zI_5) ∧ (type_of% Go.Proofs.Try.underlying5) ∧ (type_of% tI_6) ∧ (type_of% zI_6) ∧ (type_of% Go.Proofs.Try.underlying6) ∧ (type_of% tI_7) ∧ (type_of% zI_7) ∧ (type_of% fI_7_0) ∧ (type_of% fI_7_1) ∧ (type_of% fI_7_2) ∧ (type_of% fI_7_3) ∧ (type_of% bI_7) ∧ (type_of% tI_8) ∧ (type_of% zI_8) ∧ (type_of% fI_8_0) ∧ (type_of% fI_8_1) ∧ (type_of% fI_8_2) ∧ (type_of% fI_8_3) ∧ (type_of% bI_8) ∧ (type_of% tI_9) ∧ (type_of% zI_9) ∧ (type_of% Go.Proofs.Try.underlying9) ∧ (type_of% tI_10) ∧ (type_of% zI_10) ∧ (type_of% Go.Proofs.Try.underlying10) ∧ (type_of% tI_12) ∧ (type_of% zI_12) ∧ (type_of% Go.Proofs.Try.underlying12) ∧ (type_of% tI_13) ∧ (type_of% zI_13) ∧ (type_of% fI_13_0) ∧ (type_of% fI_13_1) ∧ (type_of% bI_13) ∧ (type_of% tI_14) ∧ (type_of% zI_14) ∧ (type_of% fI_14_0) ∧ (type_of% fI_14_1) ∧ (type_of% bI_14) ∧ (type_of% tI_21) ∧ (type_of% zI_21) ∧ (type_of% Go.Proofs.Try.underlying21) ∧ (type_of% tI_22) ∧ (type_of% zI_22) ∧ (type_of% eI_22) ∧ (type_of% eB_22) ∧ (type_of% eZ_22) ∧ (type_of% Go.Proofs.Try.underlying22) ∧ (type_of% tI_23) ∧ (type_of% zI_23) ∧ (type_of% fI_23_0) ∧ (type_of% bI_23) ∧ (type_of% tI_27) ∧ (type_of% zI_27) ∧ (type_of% eI_27) ∧ (type_of% eB_27) ∧ (type_of% eZ_27) ∧ (type_of% Go.Proofs.Try.underlying27) ∧ (type_of% tI_54) ∧ (type_of% zI_54) ∧ (type_of% fI_54_0) ∧ (type_of% fI_54_1) ∧ (type_of% bI_54) ∧ (type_of% tI_64) ∧ (type_of% zI_64) ∧ (type_of% fI_64_0) ∧ (type_of% fI_64_1) ∧ (type_of% bI_64) ∧ (type_of% tI_92) ∧ (type_of% zI_92) ∧ (type_of% fI_92_0) ∧ (type_of% fI_92_1) ∧ (type_of% fI_92_2) ∧ (type_of% fI_92_3) ∧ (type_of% bI_92) ∧ (type_of% tI_140) ∧ (type_of% zI_140) := ⟨tI_2, zI_2, Go.Proofs.Try.underlying2, tI_3, zI_3, Go.Proofs.Try.underlying3, tI_4, zI_4, Go.Proofs.Try.underlying4, tI_5, zI_5, Go.Proofs.Try.underlying5, tI_6, zI_6, Go.Proofs.Try.underlying6, tI_7, zI_7, fI_7_0, fI_7_1, fI_7_2, fI_7_3, bI_7, tI_8, zI_8, fI_8_0, fI_8_1, fI_8_2, fI_8_3, bI_8, tI_9, zI_9, Go.Proofs.Try.underlying9, tI_10, zI_10, Go.Proofs.Try.underlying10, tI_12, zI_12, Go.Proofs.Try.underlying12, tI_13, zI_13, fI_13_0, fI_13_1, bI_13, tI_14, zI_14, fI_14_0, fI_14_1, bI_14, tI_21, zI_21, Go.Proofs.Try.underlying21, tI_22, zI_22, eI_22, eB_22, eZ_22, Go.Proofs.Try.underlying22, tI_23, zI_23, fI_23_0, bI_23, tI_27, zI_27, eI_27, eB_27, eZ_27, Go.Proofs.Try.underlying27, tI_54, zI_54, fI_54_0, fI_54_1, bI_54, tI_64, zI_64, fI_64_0, fI_64_1, bI_64, tI_92, zI_92, fI_92_0, fI_92_1, fI_92_2, fI_92_3, bI_92, tI_140, zI_140⟩
theorem c_szTermS (l : List Tm) (left : Int) (st : Store) (h0 : 0 ≤ left) (h1 : left ≤ 1048576) (hc : ∀ x ∈ l, ∀ (left : Int) (st : Store), 0 ≤ left → left ≤ 1048576 → ACalls prog 54 [Tm.av x, .int .i64 left] st (fun r st' => r = .int .i64 (szR left (Tm.sz x)) ∧ st' = st)) :
    ACalls prog 11 [.slice (l.map Tm.av), .int .i64 left] st (fun r st' => r = .int .i64 (szR left (l.length + sumL Tm.sz l)) ∧ st' = st) := by
  refine acalls_fit [] func11 ntmps11 rfl rfl (by kernel_rfl) (by decide +kernel) (by show 2 ≤ _; decide +kernel) ?_
  simp only [fitsL, AV.fits, and_true, List.length_map]
  intro ⟨hl, _⟩
  have hw := wrap64 (n := left - (l.length : Int)) (by omega) (by omega)
  simp -implicitDefEqProofs only [List.length_map, hw, evb0, evb1, evb2, evb3, evb4, evb5, evb6, evb7, evb8, evb9, ↓evZ2, ↓evZ3, ↓Int.cast_ofNat_Int, implies_true, ne_eq, or_false, false_or, or_self, gt_iff_lt, isMut, aFn, List.contains, List.elem, aBox, aField, aLoad, sub, aNil, aPick, aExt, aFld, gd, noJunk, plainOp, aBuildSlice, aBuild, aFill, aParts, seqParts, fitAll, List.range', ↓reduceIte, reduceCtorEq, Nat.reduceEqDiff, Nat.reduceAdd, Nat.reduceLeDiff, Nat.reduceMul, Nat.reduceLT, Nat.reduceBEq, Int.reduceEq, tf_Ts1_11]
  refine ⟨fun h4 => ?_, fun h4 => ?_⟩
  · simp -implicitDefEqProofs only [evb0, evb1, evb2, evb3, evb4, evb5, evb6, evb7, evb8, evb9, ↓evZ2, ↓evZ3, ↓Int.cast_ofNat_Int, implies_true, ne_eq, or_false, false_or, or_self, gt_iff_lt, isMut, aFn, List.contains, List.elem, aBox, aField, aLoad, sub, aNil, aPick, aExt, aFld, gd, noJunk, plainOp, aBuildSlice, aBuild, aFill, aParts, seqParts, fitAll, List.range', ↓reduceIte, reduceCtorEq, Nat.reduceEqDiff, Nat.reduceAdd, Nat.reduceLeDiff, Nat.reduceMul, Nat.reduceLT, Nat.reduceBEq, Int.reduceEq, tf_Ts1_11]
    simp only [decide_eq_true_eq] at h4
    simp only [szR]
    rw [if_pos (by omega)]
  simp only [decide_eq_false_iff_not] at h4
  simp -implicitDefEqProofs only [evb0, evb1, evb2, evb3, evb4, evb5, evb6, evb7, evb8, evb9, ↓evZ2, ↓evZ3, ↓Int.cast_ofNat_Int, implies_true, ne_eq, or_false, false_or, or_self, gt_iff_lt, isMut, aFn, List.contains, List.elem, aBox, aField, aLoad, sub, aNil, aPick, aExt, aFld, gd, noJunk, plainOp, aBuildSlice, aBuild, aFill, aParts, seqParts, fitAll, List.range', ↓reduceIte, reduceCtorEq, Nat.reduceEqDiff, Nat.reduceAdd, Nat.reduceLeDiff, Nat.reduceMul, Nat.reduceLT, Nat.reduceBEq, Int.reduceEq, tf_Ts1_11]
  refine arun_loopL (α := Nat) [] (fun i => i ≤ l.length ∧ ((l.length + sumL Tm.sz (l.take i) : Nat) : Int) ≤ left)
    (fun i => [(0, .slice (l.map Tm.av)), (1, .int .i64 (left - ((l.length + sumL Tm.sz (l.take i) : Nat) : Int))), (5, .int .i64 i)]) (fun _ => st) (fun i => l.length - i) (by decide +kernel)
    ⟨0, ⟨by omega, by simp only [List.take_zero, sumL]; omega⟩, LessL.mk (by simp -implicitDefEqProofs only [sumL, Nat.add_zero, evb0, evb1, evb2, evb3, evb4, evb5, evb6, evb7, evb8, evb9, ↓evZ2, ↓evZ3, ↓Int.cast_ofNat_Int, implies_true, ne_eq, or_false, false_or, or_self, gt_iff_lt, isMut, aFn, List.contains, List.elem, aBox, aField, aLoad, sub, aNil, aPick, aExt, aFld, gd, noJunk, plainOp, aBuildSlice, aBuild, aFill, aParts, seqParts, fitAll, List.range', ↓reduceIte, reduceCtorEq, Nat.reduceEqDiff, Nat.reduceAdd, Nat.reduceLeDiff, Nat.reduceMul, Nat.reduceLT, Nat.reduceBEq, Int.reduceEq, tf_Ts1_11])⟩ ?_
  intro i ⟨hi, hle⟩
  simp -implicitDefEqProofs only [List.length_map, evb0, evb1, evb2, evb3, evb4, evb5, evb6, evb7, evb8, evb9, ↓evZ2, ↓evZ3, ↓Int.cast_ofNat_Int, implies_true, ne_eq, or_false, false_or, or_self, gt_iff_lt, isMut, aFn, List.contains, List.elem, aBox, aField, aLoad, sub, aNil, aPick, aExt, aFld, gd, noJunk, plainOp, aBuildSlice, aBuild, aFill, aParts, seqParts, fitAll, List.range', ↓reduceIte, reduceCtorEq, Nat.reduceEqDiff, Nat.reduceAdd, Nat.reduceLeDiff, Nat.reduceMul, Nat.reduceLT, Nat.reduceBEq, Int.reduceEq, tf_Ts1_11]
  refine ⟨fun h5 => ?_, fun h5 => ?_⟩
  case refine_2 =>
    simp -implicitDefEqProofs only [evb0, evb1, evb2, evb3, evb4, evb5, evb6, evb7, evb8, evb9, ↓evZ2, ↓evZ3, ↓Int.cast_ofNat_Int, implies_true, ne_eq, or_false, false_or, or_self, gt_iff_lt, isMut, aFn, List.contains, List.elem, aBox, aField, aLoad, sub, aNil, aPick, aExt, aFld, gd, noJunk, plainOp, aBuildSlice, aBuild, aFill, aParts, seqParts, fitAll, List.range', ↓reduceIte, reduceCtorEq, Nat.reduceEqDiff, Nat.reduceAdd, Nat.reduceLeDiff, Nat.reduceMul, Nat.reduceLT, Nat.reduceBEq, Int.reduceEq, tf_Ts1_11]
    simp only [decide_eq_false_iff_not, Int.ofNat_lt] at h5
    rw [show i = l.length by omega, List.take_length] at hle ⊢
    rw [szR_pos (by omega)]
  simp only [decide_eq_true_eq, Int.ofNat_lt] at h5
  obtain ⟨x, hx⟩ : ∃ x, l[i]? = some x := ⟨_, List.getElem?_eq_getElem h5⟩
  simp -implicitDefEqProofs only [ev_at (av := Tm.av) eI_22 hx (Tm.av_width x), Tm.av_agg, Tm.av_width, evb0, evb1, evb2, evb3, evb4, evb5, evb6, evb7, evb8, evb9, ↓evZ2, ↓evZ3, ↓Int.cast_ofNat_Int, implies_true, ne_eq, or_false, false_or, or_self, gt_iff_lt, isMut, aFn, List.contains, List.elem, aBox, aField, aLoad, sub, aNil, aPick, aExt, aFld, gd, noJunk, plainOp, aBuildSlice, aBuild, aFill, aParts, seqParts, fitAll, List.range', ↓reduceIte, reduceCtorEq, Nat.reduceEqDiff, Nat.reduceAdd, Nat.reduceLeDiff, Nat.reduceMul, Nat.reduceLT, Nat.reduceBEq, Int.reduceEq, tf_Ts1_11]
  refine (hc x (List.mem_of_getElem? hx) _ st (by omega) (by omega)).to ?_
  have hs := sumL_take Tm.sz hx
  simp -implicitDefEqProofs only [evb0, evb1, evb2, evb3, evb4, evb5, evb6, evb7, evb8, evb9, ↓evZ2, ↓evZ3, ↓Int.cast_ofNat_Int, implies_true, ne_eq, or_false, false_or, or_self, gt_iff_lt, isMut, aFn, List.contains, List.elem, aBox, aField, aLoad, sub, aNil, aPick, aExt, aFld, gd, noJunk, plainOp, aBuildSlice, aBuild, aFill, aParts, seqParts, fitAll, List.range', ↓reduceIte, reduceCtorEq, Nat.reduceEqDiff, Nat.reduceAdd, Nat.reduceLeDiff, Nat.reduceMul, Nat.reduceLT, Nat.reduceBEq, Int.reduceEq, tf_Ts1_11]
  refine ⟨fun h6 => ?_, fun h6 => ?_⟩
  · simp -implicitDefEqProofs only [evb0, evb1, evb2, evb3, evb4, evb5, evb6, evb7, evb8, evb9, ↓evZ2, ↓evZ3, ↓Int.cast_ofNat_Int, implies_true, ne_eq, or_false, false_or, or_self, gt_iff_lt, isMut, aFn, List.contains, List.elem, aBox, aField, aLoad, sub, aNil, aPick, aExt, aFld, gd, noJunk, plainOp, aBuildSlice, aBuild, aFill, aParts, seqParts, fitAll, List.range', ↓reduceIte, reduceCtorEq, Nat.reduceEqDiff, Nat.reduceAdd, Nat.reduceLeDiff, Nat.reduceMul, Nat.reduceLT, Nat.reduceBEq, Int.reduceEq, tf_Ts1_11]
    simp only [decide_eq_true_eq, szR_neg] at h6
    simp only [szR]
    rw [if_pos (by omega)]
  simp only [decide_eq_false_iff_not, szR_neg] at h6
  rw [szR_pos h6]
  simp -implicitDefEqProofs only [evb0, evb1, evb2, evb3, evb4, evb5, evb6, evb7, evb8, evb9, ↓evZ2, ↓evZ3, ↓Int.cast_ofNat_Int, implies_true, ne_eq, or_false, false_or, or_self, gt_iff_lt, isMut, aFn, List.contains, List.elem, aBox, aField, aLoad, sub, aNil, aPick, aExt, aFld, gd, noJunk, plainOp, aBuildSlice, aBuild, aFill, aParts, seqParts, fitAll, List.range', ↓reduceIte, reduceCtorEq, Nat.reduceEqDiff, Nat.reduceAdd, Nat.reduceLeDiff, Nat.reduceMul, Nat.reduceLT, Nat.reduceBEq, Int.reduceEq, tf_Ts1_11]
  refine ⟨i + 1, by omega, ⟨by omega, by omega⟩, LessL.mk ?_⟩
  · have := wrap64 (n := (i : Int) + 1) (by omega) (by omega)
    have e : (left - ((l.length + sumL Tm.sz (l.take (i + 1)) : Nat) : Int)) = left - ((l.length + sumL Tm.sz (l.take i) : Nat) : Int) - ((Tm.sz x : Nat) : Int) := by omega
    simp -implicitDefEqProofs only [this, e, evb0, evb1, evb2, evb3, evb4, evb5, evb6, evb7, evb8, evb9, ↓evZ2, ↓evZ3, ↓Int.cast_ofNat_Int, implies_true, ne_eq, or_false, false_or, or_self, gt_iff_lt, isMut, aFn, List.contains, List.elem, aBox, aField, aLoad, sub, aNil, aPick, aExt, aFld, gd, noJunk, plainOp, aBuildSlice, aBuild, aFill, aParts, seqParts, fitAll, List.range', ↓reduceIte, reduceCtorEq, Nat.reduceEqDiff, Nat.reduceAdd, Nat.reduceLeDiff, Nat.reduceMul, Nat.reduceLT, Nat.reduceBEq, Int.reduceEq, tf_Ts1_11]

theorem tf_Ts1_66 : (type_of% tI_2) ∧ (type_of% zI_2) ∧ (type_of% Go.Proofs.Try.underlying2) ∧ (type_of% tI_3) ∧ (type_of% zI_3) ∧ (type_of% Go.Proofs.Try.underlying3) ∧ (type_of% tI_4) ∧ (type_of% zI_4) ∧ (type_of% Go.Proofs.Try.underlying4) ∧ (type_of% tI_5) ∧ (type_of% zI_5) ∧ (type_of% Go.Proofs.Try.underlying5) ∧ (type_of% tI_6) ∧ (type_of% zI_6) ∧ (type_of% Go.Proofs.Try.underlying6) ∧ (type_of% tI_7) ∧ (type_of% zI_7) ∧ (type_of% fI_7_0) ∧ (type_of% fI_7_1) ∧ (type_of% fI_7_2) ∧ (type_of% fI_7_3) ∧ (type_of% bI_7) ∧ (type_of% tI_8) ∧ (type_of% zI_8) ∧ (type_of% fI_8_0) ∧ (type_of% fI_8_1) ∧ (type_of% fI_8_2) ∧ (type_of% fI_8_3) ∧ (type_of% bI_8) ∧ (type_of% tI_9) ∧ (type_of% zI_9) ∧ (type_of% Go.Proofs.Try.underlying9) ∧ (type_of% tI_17) ∧ (type_of% zI_17) ∧ (type_of% tI_21) ∧ (type_of% zI_21) ∧ (type_of% Go.Proofs.Try.underlying21) ∧ (type_of% tI_23) ∧ (type_of% zI_23) ∧ (type_of% fI_23_0) ∧ (type_of% bI_23) ∧ (type_of% tI_24) ∧ (type_of% zI_24) ∧ (type_of% fI_24_0) ∧ (type_of% bI_24) ∧ (type_of% tI_27) ∧ (type_of% zI_27) ∧ (type_of% eI_27) ∧ (type_of% eB_27) ∧ (type_of% eZ_27) ∧ (type_of% Go.Proofs.Try.underlying27) ∧ (type_of% tI_41) ∧ (type_of% zI_41) ∧ (type_of% fI_41_0) ∧ (type_of% fI_41_1) ∧ (type_of% fI_41_2) ∧ (type_of% fI_41_3) ∧ (type_of% bI_41) := ⟨tI_2, zI_2, Go.Proofs.Try.underlying2, tI_3, zI_3, Go.Proofs.Try.underlying3, tI_4, zI_4, Go.Proofs.Try.underlying4, tI_5, zI_5, Go.Proofs.Try.underlying5, tI_6, zI_6, Go.Proofs.Try.underlying6, tI_7, zI_7, fI_7_0, fI_7_1, fI_7_2, fI_7_3, bI_7, tI_8, zI_8, fI_8_0, fI_8_1, fI_8_2, fI_8_3, bI_8, tI_9, zI_9, Go.Proofs.Try.underlying9, tI_17, zI_17, tI_21, zI_21, Go.Proofs.Try.underlying21, tI_23, zI_23, fI_23_0, bI_23, tI_24, zI_24, fI_24_0, bI_24, tI_27, zI_27, eI_27, eB_27, eZ_27, Go.Proofs.Try.underlying27, tI_41, zI_41, fI_41_0, fI_41_1, fI_41_2, fI_41_3, bI_41⟩
theorem c_eqTerm : ∀ (a b : Tm) (st : Store), ACalls prog 66 [a.av, b.av] st (fun r st' => r = .bool (a.same b) ∧ st' = st)
  | .mk k n s ts, .mk k' n' s' ts', st => by
    have hc := c_eqTermS ts ts' st fun x hx y st => c_eqTerm x y st
    refine acalls_fit [] func66 ntmps66 rfl rfl (by kernel_rfl) (by decide +kernel) (by show 2 ≤ _; decide +kernel) ?_
    intro _
    simp only [Tm.av_mk, Tm.same_mk]
    simp -implicitDefEqProofs only [evb0, evb1, evb2, evb3, evb4, evb5, evb6, evb7, evb8, evb9, ↓evZ2, ↓evZ3, ↓Int.cast_ofNat_Int, implies_true, ne_eq, or_false, false_or, or_self, gt_iff_lt, isMut, aFn, List.contains, List.elem, aBox, aField, aLoad, sub, aNil, aPick, aExt, aFld, gd, noJunk, plainOp, aBuildSlice, aBuild, aFill, aParts, seqParts, fitAll, List.range', ↓reduceIte, reduceCtorEq, Nat.reduceEqDiff, Nat.reduceAdd, Nat.reduceLeDiff, Nat.reduceMul, Nat.reduceLT, Nat.reduceBEq, Int.reduceEq, tf_Ts1_66]
    refine ⟨fun h1 => ?_, fun h1 => ?_⟩
    · simp -implicitDefEqProofs only [evb0, evb1, evb2, evb3, evb4, evb5, evb6, evb7, evb8, evb9, ↓evZ2, ↓evZ3, ↓Int.cast_ofNat_Int, implies_true, ne_eq, or_false, false_or, or_self, gt_iff_lt, isMut, aFn, List.contains, List.elem, aBox, aField, aLoad, sub, aNil, aPick, aExt, aFld, gd, noJunk, plainOp, aBuildSlice, aBuild, aFill, aParts, seqParts, fitAll, List.range', ↓reduceIte, reduceCtorEq, Nat.reduceEqDiff, Nat.reduceAdd, Nat.reduceLeDiff, Nat.reduceMul, Nat.reduceLT, Nat.reduceBEq, Int.reduceEq, tf_Ts1_66]
      simp only [Bool.not_eq_true'] at h1
      simp [h1]
    simp only [Bool.not_eq_false'] at h1
    simp -implicitDefEqProofs only [evb0, evb1, evb2, evb3, evb4, evb5, evb6, evb7, evb8, evb9, ↓evZ2, ↓evZ3, ↓Int.cast_ofNat_Int, implies_true, ne_eq, or_false, false_or, or_self, gt_iff_lt, isMut, aFn, List.contains, List.elem, aBox, aField, aLoad, sub, aNil, aPick, aExt, aFld, gd, noJunk, plainOp, aBuildSlice, aBuild, aFill, aParts, seqParts, fitAll, List.range', ↓reduceIte, reduceCtorEq, Nat.reduceEqDiff, Nat.reduceAdd, Nat.reduceLeDiff, Nat.reduceMul, Nat.reduceLT, Nat.reduceBEq, Int.reduceEq, tf_Ts1_66]
    refine ⟨fun h2 => ?_, fun h2 => ?_⟩
    · simp -implicitDefEqProofs only [evb0, evb1, evb2, evb3, evb4, evb5, evb6, evb7, evb8, evb9, ↓evZ2, ↓evZ3, ↓Int.cast_ofNat_Int, implies_true, ne_eq, or_false, false_or, or_self, gt_iff_lt, isMut, aFn, List.contains, List.elem, aBox, aField, aLoad, sub, aNil, aPick, aExt, aFld, gd, noJunk, plainOp, aBuildSlice, aBuild, aFill, aParts, seqParts, fitAll, List.range', ↓reduceIte, reduceCtorEq, Nat.reduceEqDiff, Nat.reduceAdd, Nat.reduceLeDiff, Nat.reduceMul, Nat.reduceLT, Nat.reduceBEq, Int.reduceEq, tf_Ts1_66]
      simp only [Bool.not_eq_true'] at h2
      simp [h2]
    simp only [Bool.not_eq_false'] at h2
    simp -implicitDefEqProofs only [evb0, evb1, evb2, evb3, evb4, evb5, evb6, evb7, evb8, evb9, ↓evZ2, ↓evZ3, ↓Int.cast_ofNat_Int, implies_true, ne_eq, or_false, false_or, or_self, gt_iff_lt, isMut, aFn, List.contains, List.elem, aBox, aField, aLoad, sub, aNil, aPick, aExt, aFld, gd, noJunk, plainOp, aBuildSlice, aBuild, aFill, aParts, seqParts, fitAll, List.range', ↓reduceIte, reduceCtorEq, Nat.reduceEqDiff, Nat.reduceAdd, Nat.reduceLeDiff, Nat.reduceMul, Nat.reduceLT, Nat.reduceBEq, Int.reduceEq, tf_Ts1_66]
    refine ⟨fun h3 => ?_, fun h3 => ?_⟩
    · simp -implicitDefEqProofs only [evb0, evb1, evb2, evb3, evb4, evb5, evb6, evb7, evb8, evb9, ↓evZ2, ↓evZ3, ↓Int.cast_ofNat_Int, implies_true, ne_eq, or_false, false_or, or_self, gt_iff_lt, isMut, aFn, List.contains, List.elem, aBox, aField, aLoad, sub, aNil, aPick, aExt, aFld, gd, noJunk, plainOp, aBuildSlice, aBuild, aFill, aParts, seqParts, fitAll, List.range', ↓reduceIte, reduceCtorEq, Nat.reduceEqDiff, Nat.reduceAdd, Nat.reduceLeDiff, Nat.reduceMul, Nat.reduceLT, Nat.reduceBEq, Int.reduceEq, tf_Ts1_66]
      simp only [Bool.not_eq_true'] at h3
      simp [h3]
    simp only [Bool.not_eq_false'] at h3
    simp -implicitDefEqProofs only [evb0, evb1, evb2, evb3, evb4, evb5, evb6, evb7, evb8, evb9, ↓evZ2, ↓evZ3, ↓Int.cast_ofNat_Int, implies_true, ne_eq, or_false, false_or, or_self, gt_iff_lt, isMut, aFn, List.contains, List.elem, aBox, aField, aLoad, sub, aNil, aPick, aExt, aFld, gd, noJunk, plainOp, aBuildSlice, aBuild, aFill, aParts, seqParts, fitAll, List.range', ↓reduceIte, reduceCtorEq, Nat.reduceEqDiff, Nat.reduceAdd, Nat.reduceLeDiff, Nat.reduceMul, Nat.reduceLT, Nat.reduceBEq, Int.reduceEq, tf_Ts1_66]
    refine hc.to ?_
    simp -implicitDefEqProofs only [evb0, evb1, evb2, evb3, evb4, evb5, evb6, evb7, evb8, evb9, ↓evZ2, ↓evZ3, ↓Int.cast_ofNat_Int, implies_true, ne_eq, or_false, false_or, or_self, gt_iff_lt, isMut, aFn, List.contains, List.elem, aBox, aField, aLoad, sub, aNil, aPick, aExt, aFld, gd, noJunk, plainOp, aBuildSlice, aBuild, aFill, aParts, seqParts, fitAll, List.range', ↓reduceIte, reduceCtorEq, Nat.reduceEqDiff, Nat.reduceAdd, Nat.reduceLeDiff, Nat.reduceMul, Nat.reduceLT, Nat.reduceBEq, Int.reduceEq, tf_Ts1_66]
    refine ⟨fun h4 => ?_, fun h4 => ?_⟩ <;> simp -implicitDefEqProofs only [evb0, evb1, evb2, evb3, evb4, evb5, evb6, evb7, evb8, evb9, ↓evZ2, ↓evZ3, ↓Int.cast_ofNat_Int, implies_true, ne_eq, or_false, false_or, or_self, gt_iff_lt, isMut, aFn, List.contains, List.elem, aBox, aField, aLoad, sub, aNil, aPick, aExt, aFld, gd, noJunk, plainOp, aBuildSlice, aBuild, aFill, aParts, seqParts, fitAll, List.range', ↓reduceIte, reduceCtorEq, Nat.reduceEqDiff, Nat.reduceAdd, Nat.reduceLeDiff, Nat.reduceMul, Nat.reduceLT, Nat.reduceBEq, Int.reduceEq, tf_Ts1_66]
    · simp only [Bool.not_eq_true'] at h4
      simp [h4]
    · simp only [Bool.not_eq_false'] at h4
      simp [h1, h2, h3, h4]
termination_by a => SizeOf.sizeOf a
decreasing_by have := List.sizeOf_lt_of_mem hx; simp only [Tm.mk.sizeOf_spec]; omega

theorem tf_Ts1_54 : (type_of% tI_2) ∧ (type_of% zI_2) ∧ (type_of% Go.Proofs.Try.underlying2) ∧ (type_of% tI_3) ∧ (type_of% zI_3) ∧ (type_of% Go.Proofs.Try.underlying3) ∧ (type_of% tI_4) ∧ (type_of% zI_4) ∧ (type_of% Go.Proofs.Try.underlying4) ∧ (type_of% tI_5) ∧ (type_of% zI_5) ∧ (type_of% Go.Proofs.Try.underlying5) ∧ (type_of% tI_6) ∧ (type_of% zI_6) ∧ (type_of% Go.Proofs.Try.underlying6) ∧ (type_of% tI_7) ∧ (type_of% zI_7) ∧ (type_of% fI_7_0) ∧ (type_of% fI_7_1) ∧ (type_of% fI_7_2) ∧ (type_of% fI_7_3) ∧ (type_of% bI_7) ∧ (type_of% tI_8) ∧ (type_of% zI_8) ∧ (type_of% fI_8_0) ∧ (type_of% fI_8_1) ∧ (type_of% fI_8_2) ∧ (type_of% fI_8_3) ∧ (type_of% bI_8) ∧ (type_of% tI_9) ∧ (type_of% zI_9) ∧ (type_of% Go.Proofs.Try.underlying9) ∧ (type_of% tI_11) ∧ (type_of% zI_11) ∧ (type_of% Go.Proofs.Try.underlying11) ∧ (type_of% tI_13) ∧ (type_of% zI_13) ∧ (type_of% fI_13_0) ∧ (type_of% fI_13_1) ∧ (type_of% bI_13) ∧ (type_of% tI_14) ∧ (type_of% zI_14) ∧ (type_of% fI_14_0) ∧ (type_of% fI_14_1) ∧ (type_of% bI_14) ∧ (type_of% tI_15) ∧ (type_of% zI_15) ∧ (type_of% tI_19) ∧ (type_of% zI_19) ∧ (type_of% fI_19_0) ∧ (type_of% bI_19) ∧ (type_of% tI_22) ∧ (type_of% zI_22) ∧ (type_of% eI_22) ∧ (type_of% eB_22) ∧ (type_of% eZ_22) ∧ (type_of% Go.Proofs.Try.underlying22) ∧ (type_of% tI_64) ∧ (type_of% zI_64) ∧ (type_of% fI_64_0) ∧ (type_of% fI_64_1) ∧ (type_of% bI_64) ∧ (type_of% tI_92) ∧ (type_of% zI_92) ∧ (type_of% fI_92_0) ∧ (type_of% fI_92_1) ∧ (type_of% fI_92_2) ∧ (type_of% fI_92_3) ∧ (type_of% bI_92) := ⟨tI_2, zI_2, Go.Proofs.Try.underlying2, tI_3, zI_3, Go.Proofs.Try.underlying3, tI_4, zI_4, Go.Proofs.Try.underlying4, tI_5, zI_5, Go.Proofs.Try.underlying5, tI_6, zI_6, Go.Proofs.Try.underlying6, tI_7, zI_7, fI_7_0, fI_7_1, fI_7_2, fI_7_3, bI_7, tI_8, zI_8, fI_8_0, fI_8_1, fI_8_2, fI_8_3, bI_8, tI_9, zI_9, Go.Proofs.Try.underlying9, tI_11, zI_11, Go.Proofs.Try.underlying11, tI_13, zI_13, fI_13_0, fI_13_1, bI_13, tI_14, zI_14, fI_14_0, fI_14_1, bI_14, tI_15, zI_15, tI_19, zI_19, fI_19_0, bI_19, tI_22, zI_22, eI_22, eB_22, eZ_22, Go.Proofs.Try.underlying22, tI_64, zI_64, fI_64_0, fI_64_1, bI_64, tI_92, zI_92, fI_92_0, fI_92_1, fI_92_2, fI_92_3, bI_92⟩
theorem c_szTerm : ∀ (a : Tm) (left : Int) (st : Store), 0 ≤ left → left ≤ 1048576 → ACalls prog 54 [a.av, .int .i64 left] st (fun r st' => r = .int .i64 (szR left a.sz) ∧ st' = st)
  | .mk k n s ts, left, st, h0, h1 => by
    have hc := fun (left : Int) h0 h1 => c_szTermS ts left st h0 h1 fun x hx left st h0 h1 => c_szTerm x left st h0 h1
    refine acalls_fit [] func54 ntmps54 rfl rfl (by kernel_rfl) (by decide +kernel) (by show 2 ≤ _; decide +kernel) ?_
    simp only [Tm.av_mk, Tm.sz_mk, fitsL, AV.fits, and_true]
    intro ⟨_, _, hs, _⟩
    have hw := wrap64 (n := left - (s.size : Int)) (by omega) (by omega)
    simp -implicitDefEqProofs only [hw, evb0, evb1, evb2, evb3, evb4, evb5, evb6, evb7, evb8, evb9, ↓evZ2, ↓evZ3, ↓Int.cast_ofNat_Int, implies_true, ne_eq, or_false, false_or, or_self, gt_iff_lt, isMut, aFn, List.contains, List.elem, aBox, aField, aLoad, sub, aNil, aPick, aExt, aFld, gd, noJunk, plainOp, aBuildSlice, aBuild, aFill, aParts, seqParts, fitAll, List.range', ↓reduceIte, reduceCtorEq, Nat.reduceEqDiff, Nat.reduceAdd, Nat.reduceLeDiff, Nat.reduceMul, Nat.reduceLT, Nat.reduceBEq, Int.reduceEq, tf_Ts1_54]
    refine ⟨fun h2 => ?_, fun h2 => ?_⟩
    · simp -implicitDefEqProofs only [evb0, evb1, evb2, evb3, evb4, evb5, evb6, evb7, evb8, evb9, ↓evZ2, ↓evZ3, ↓Int.cast_ofNat_Int, implies_true, ne_eq, or_false, false_or, or_self, gt_iff_lt, isMut, aFn, List.contains, List.elem, aBox, aField, aLoad, sub, aNil, aPick, aExt, aFld, gd, noJunk, plainOp, aBuildSlice, aBuild, aFill, aParts, seqParts, fitAll, List.range', ↓reduceIte, reduceCtorEq, Nat.reduceEqDiff, Nat.reduceAdd, Nat.reduceLeDiff, Nat.reduceMul, Nat.reduceLT, Nat.reduceBEq, Int.reduceEq, tf_Ts1_54]
      simp only [decide_eq_true_eq] at h2
      simp only [szR]
      rw [if_pos (by omega)]
    simp only [decide_eq_false_iff_not] at h2
    simp -implicitDefEqProofs only [evb0, evb1, evb2, evb3, evb4, evb5, evb6, evb7, evb8, evb9, ↓evZ2, ↓evZ3, ↓Int.cast_ofNat_Int, implies_true, ne_eq, or_false, false_or, or_self, gt_iff_lt, isMut, aFn, List.contains, List.elem, aBox, aField, aLoad, sub, aNil, aPick, aExt, aFld, gd, noJunk, plainOp, aBuildSlice, aBuild, aFill, aParts, seqParts, fitAll, List.range', ↓reduceIte, reduceCtorEq, Nat.reduceEqDiff, Nat.reduceAdd, Nat.reduceLeDiff, Nat.reduceMul, Nat.reduceLT, Nat.reduceBEq, Int.reduceEq, tf_Ts1_54]
    refine (hc _ (by omega) (by omega)).to ?_
    simp -implicitDefEqProofs only [evb0, evb1, evb2, evb3, evb4, evb5, evb6, evb7, evb8, evb9, ↓evZ2, ↓evZ3, ↓Int.cast_ofNat_Int, implies_true, ne_eq, or_false, false_or, or_self, gt_iff_lt, isMut, aFn, List.contains, List.elem, aBox, aField, aLoad, sub, aNil, aPick, aExt, aFld, gd, noJunk, plainOp, aBuildSlice, aBuild, aFill, aParts, seqParts, fitAll, List.range', ↓reduceIte, reduceCtorEq, Nat.reduceEqDiff, Nat.reduceAdd, Nat.reduceLeDiff, Nat.reduceMul, Nat.reduceLT, Nat.reduceBEq, Int.reduceEq, tf_Ts1_54]
    refine ⟨fun h3 => ?_, fun h3 => ?_⟩
    · simp -implicitDefEqProofs only [evb0, evb1, evb2, evb3, evb4, evb5, evb6, evb7, evb8, evb9, ↓evZ2, ↓evZ3, ↓Int.cast_ofNat_Int, implies_true, ne_eq, or_false, false_or, or_self, gt_iff_lt, isMut, aFn, List.contains, List.elem, aBox, aField, aLoad, sub, aNil, aPick, aExt, aFld, gd, noJunk, plainOp, aBuildSlice, aBuild, aFill, aParts, seqParts, fitAll, List.range', ↓reduceIte, reduceCtorEq, Nat.reduceEqDiff, Nat.reduceAdd, Nat.reduceLeDiff, Nat.reduceMul, Nat.reduceLT, Nat.reduceBEq, Int.reduceEq, tf_Ts1_54]
      simp only [decide_eq_true_eq, szR_neg] at h3
      simp only [szR]
      rw [if_pos (by omega)]
    simp only [decide_eq_false_iff_not, szR_neg] at h3
    simp -implicitDefEqProofs only [evb0, evb1, evb2, evb3, evb4, evb5, evb6, evb7, evb8, evb9, ↓evZ2, ↓evZ3, ↓Int.cast_ofNat_Int, implies_true, ne_eq, or_false, false_or, or_self, gt_iff_lt, isMut, aFn, List.contains, List.elem, aBox, aField, aLoad, sub, aNil, aPick, aExt, aFld, gd, noJunk, plainOp, aBuildSlice, aBuild, aFill, aParts, seqParts, fitAll, List.range', ↓reduceIte, reduceCtorEq, Nat.reduceEqDiff, Nat.reduceAdd, Nat.reduceLeDiff, Nat.reduceMul, Nat.reduceLT, Nat.reduceBEq, Int.reduceEq, tf_Ts1_54]
    rw [szR_pos h3, szR_pos (by omega)]
    simp only [AV.int.injEq, true_and, and_true]
    omega
termination_by a => SizeOf.sizeOf a
decreasing_by have := List.sizeOf_lt_of_mem hx; simp only [Tm.mk.sizeOf_spec]; omega
end Go.AW


/- Terms: what the reference's and the program's functions return. -/
namespace Go.AW
open Go.Proofs.Try
set_option linter.unusedSimpArgs false
set_option maxRecDepth 100000
end Go.AW


/- Marked terms, read again; answers: what the laws' helpers do. -/
namespace Go.AW
open Go.Proofs.Try
set_option linter.unusedSimpArgs false
set_option maxRecDepth 100000

theorem markL_drop {α : Type} (mk : α → Int → α) (n : α → Nat) : ∀ (l : List α) (j : Int) (i : Nat), (markL mk n l j).drop i = markL mk n (l.drop i) (j + sumL n (l.take i))
  | [], _, i => by simp [markL]
  | x :: l, j, 0 => by simp [sumL]
  | x :: l, j, i + 1 => by
    simp only [markL, List.drop_succ_cons, List.take_succ_cons, sumL, markL_drop mk n l _ i]
    congr 1
    omega

end Go.AW


/- Answers' goals: the law. -/
namespace Go.AW
open Go.Proofs.Try
set_option linter.unusedSimpArgs false
set_option maxRecDepth 100000

/-- What the laws count in a list of terms. -/
abbrev szL (l : List Tm) : Nat := l.length + sumL Tm.sz l
theorem c_szTermS' (l : List Tm) (left : Int) (st : Store) (h0 : 0 ≤ left) (h1 : left ≤ 1048576) : ACalls prog 11 [.slice (l.map Tm.av), .int .i64 left] st (fun r st' => r = .int .i64 (szR left (szL l)) ∧ st' = st) :=
  c_szTermS l left st h0 h1 fun x _ left st h0 h1 => c_szTerm x left st h0 h1
theorem c_eqTermS' (l : List Tm) (st : Store) : ACalls prog 17 [.slice (l.map Tm.av), .slice (l.map Tm.av)] st (fun r st' => r = .bool true ∧ st' = st) := by
  refine (c_eqTermS l l st fun x _ y st => c_eqTerm x y st).mono ?_
  rintro _ _ ⟨rfl, rfl⟩
  refine ⟨?_, rfl⟩
  rw [(eqL_eq (fun x _ y => Tm.same_eq x y)).2 rfl]
theorem sz_mem {l : List Tm} {x : Tm} (hx : x ∈ l) : x.sz ≤ szL l := by have := sumL_mem (f := Tm.sz) hx; unfold szL; omega
theorem o_toTermS' (l : List Tm) (st : Store) (hb : szL l ≤ 1048576) : ACalls prog 14 [.slice (l.map Tm.av)] st (Made st (.slice (l.map Tm.av))) :=
  o_toTermS l st (by unfold szL at hb; omega) fun x hx st => o_toTerm x st (by have := sz_mem hx; omega)
mutual
theorem Tm.mks_le : ∀ (t : Tm), t.mks ≤ 3 + 3 * t.sz
  | .mk k n s ts => by
    have := tmsMks_le ts
    rw [Tm.mks, Tm.sz_mk]
    omega
theorem tmsMks_le : ∀ (ts : List Tm), tmsMks ts ≤ 3 * (ts.length + sumL Tm.sz ts)
  | [] => by simp [tmsMks]
  | t :: ts => by
    have h1 := Tm.mks_le t
    have h2 := tmsMks_le ts
    simp only [tmsMks, List.length_cons, sumL]
    omega
end
theorem mks_szL (l : List Tm) : sumL Tm.mks l ≤ 3 * szL l := by rw [← tmsMks_eq]; exact tmsMks_le l

end Go.AW
