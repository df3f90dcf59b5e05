/- Marks: each field of what is held gets a number of its own. -/
import Derived.Test.YtccofeljgfmplaaAgFinf
namespace Go.AW
set_option linter.unusedSimpArgs false
set_option linter.unusedVariables false

def mtDigs (k : Nat) (acc : List UInt8) : List UInt8 := if k = 0 then acc else mtDigs (k / 10) (UInt8.ofNat (48 + k % 10) :: acc)
termination_by k
decreasing_by omega
theorem mtDigs_zero (acc : List UInt8) : mtDigs 0 acc = acc := by rw [mtDigs]; simp
theorem mtDigs_pos {k : Nat} (h : 0 < k) (acc : List UInt8) : mtDigs k acc = mtDigs (k / 10) (UInt8.ofNat (48 + k % 10) :: acc) := by rw [mtDigs, if_neg (by omega)]
def mt (k : Int) : ByteArray := if k ≤ 0 then ⟨#[109, 48]⟩ else ⟨(109 :: mtDigs k.toNat []).toArray⟩

theorem ba_append (a b : List UInt8) : (⟨a.toArray⟩ : ByteArray) ++ ⟨b.toArray⟩ = ⟨(a ++ b).toArray⟩ := by
  apply ByteArray.ext
  rw [ByteArray.data_append]
  simp

mutual
def Tm.mks : Tm → Nat
  | .mk _ _ _ ts => 3 + tmsMks ts
def tmsMks : List Tm → Nat
  | [] => 0
  | t :: ts => t.mks + tmsMks ts
end
mutual
def Tm.mark : Tm → Int → Tm
  | .mk _ _ _ ts, j => .mk j (j + 1) (mt (j + 1 + 1)) (tmsMark ts (j + 1 + 1 + 1))
def tmsMark : List Tm → Int → List Tm
  | [], _ => []
  | t :: ts, j => t.mark j :: tmsMark ts (j + t.mks)
end

/-- A list whose elements are marked one behind the other. -/
def markL {α : Type} (mk : α → Int → α) (n : α → Nat) : List α → Int → List α
  | [], _ => []
  | t :: ts, j => mk t j :: markL mk n ts (j + n t)
theorem tmsMark_eq : ∀ (ts : List Tm) (j : Int), tmsMark ts j = markL Tm.mark Tm.mks ts j
  | [], _ => rfl
  | t :: ts, j => by simp only [tmsMark, markL, tmsMark_eq ts]
theorem tmsMks_eq : ∀ (ts : List Tm), tmsMks ts = sumL Tm.mks ts
  | [] => rfl
  | t :: ts => by simp only [tmsMks, sumL, tmsMks_eq ts]
theorem Tm.mark_mk (k n : Int) (s : ByteArray) (ts : List Tm) (j : Int) : (Tm.mk k n s ts).mark j = .mk j (j + 1) (mt (j + 1 + 1)) (markL Tm.mark Tm.mks ts (j + 1 + 1 + 1)) := by simp only [Tm.mark, tmsMark_eq]
theorem Tm.mks_mk (k n : Int) (s : ByteArray) (ts : List Tm) : (Tm.mk k n s ts).mks = 3 + sumL Tm.mks ts := by simp only [Tm.mks, tmsMks_eq]
theorem markL_length {α : Type} (mk : α → Int → α) (n : α → Nat) : ∀ (l : List α) (j : Int), (markL mk n l j).length = l.length
  | [], _ => rfl
  | _ :: l, j => by simp [markL, markL_length mk n l]


mutual
def Pf.mks : Pf → Nat
  | .mk g _ ps => g.mks + 1 + pfsMks ps
def pfsMks : List Pf → Nat
  | [] => 0
  | p :: ps => p.mks + pfsMks ps
end
mutual
def Pf.mark : Pf → Int → Pf
  | .mk g _ ps, j => .mk (g.mark j) (j + g.mks) (pfsMark ps (j + g.mks + 1))
def pfsMark : List Pf → Int → List Pf
  | [], _ => []
  | p :: ps, j => p.mark j :: pfsMark ps (j + p.mks)
end
theorem pfsMark_eq : ∀ (ts : List Pf) (j : Int), pfsMark ts j = markL Pf.mark Pf.mks ts j
  | [], _ => rfl
  | t :: ts, j => by simp only [pfsMark, markL, pfsMark_eq ts]
theorem pfsMks_eq : ∀ (ts : List Pf), pfsMks ts = sumL Pf.mks ts
  | [] => rfl
  | t :: ts => by simp only [pfsMks, sumL, pfsMks_eq ts]
theorem Pf.mark_mk (g : Tm) (c : Int) (ps : List Pf) (j : Int) : (Pf.mk g c ps).mark j = .mk (g.mark j) (j + g.mks) (markL Pf.mark Pf.mks ps (j + g.mks + 1)) := by simp only [Pf.mark, pfsMark_eq]
theorem Pf.mks_mk (g : Tm) (c : Int) (ps : List Pf) : (Pf.mk g c ps).mks = g.mks + 1 + sumL Pf.mks ps := by simp only [Pf.mks, pfsMks_eq]

/-! ### Held terms and proofs -/
theorem own_int {st : Store} {k : IntKind} {n : Int} {o : AV} {bs : List Nat} : Own st (.int k n) o bs ↔ o = .int k n ∧ bs = [] := by simp only [Own]
theorem own_str {st : Store} {s : ByteArray} {o : AV} {bs : List Nat} : Own st (.str s) o bs ↔ o = .str s ∧ bs = [] := by simp only [Own]
theorem own_Tm {st : Store} {k n : Int} {s : ByteArray} {ts : List Tm} {o : AV} {bs : List Nat} :
    Own st (Tm.mk k n s ts).av o bs ↔ ∃ q, o = .agg [.int .i64 k, .int .i64 n, .str s, q] ∧ Own st (.slice (ts.map Tm.av)) q bs := by
  rw [Tm.av_mk]
  generalize AV.slice (ts.map Tm.av) = x
  simp only [Own, OwnL]
  constructor
  · rintro ⟨os, rfl, o1, os1, b1, b1', rfl, rfl, ⟨rfl, rfl⟩, o2, os2, b2, b2', rfl, rfl, ⟨rfl, rfl⟩, o3, os3, b3, b3', rfl, rfl, ⟨rfl, rfl⟩, o4, os4, b4, b4', rfl, rfl, h, rfl, rfl⟩
    exact ⟨o4, rfl, by simpa using h⟩
  · rintro ⟨q, rfl, h⟩
    exact ⟨_, rfl, _, _, [], bs, rfl, rfl, ⟨rfl, rfl⟩, _, _, [], bs, rfl, rfl, ⟨rfl, rfl⟩, _, _, [], bs, rfl, rfl, ⟨rfl, rfl⟩, q, [], bs, [], rfl, by simp, h, rfl, rfl⟩
theorem own_Pf {st : Store} {k n c : Int} {s : ByteArray} {ts : List Tm} {ps : List Pf} {o : AV} {bs : List Nat} :
    Own st (Pf.mk (.mk k n s ts) c ps).av o bs ↔ ∃ q b1 q' b2, o = .agg [.int .i64 k, .int .i64 n, .str s, q, .int .i64 c, q'] ∧ bs = b1 ++ b2 ∧ Own st (.slice (ts.map Tm.av)) q b1 ∧ Own st (.slice (ps.map Pf.av)) q' b2 := by
  rw [Pf.av_mk]
  generalize AV.slice (ts.map Tm.av) = x
  generalize AV.slice (ps.map Pf.av) = y
  simp only [Own, OwnL]
  constructor
  · rintro ⟨os, rfl, o1, os1, b1, b1', rfl, rfl, ⟨rfl, rfl⟩, o2, os2, b2, b2', rfl, rfl, ⟨rfl, rfl⟩, o3, os3, b3, b3', rfl, rfl, ⟨rfl, rfl⟩, o4, os4, b4, b4', rfl, rfl, h, o5, os5, b5, b5', rfl, rfl, ⟨rfl, rfl⟩, o6, os6, b6, b6', rfl, rfl, h', rfl, rfl⟩
    exact ⟨o4, b4, o6, b6, rfl, by simp, h, h'⟩
  · rintro ⟨q, b1, q', b2, rfl, rfl, h, h'⟩
    exact ⟨_, rfl, _, _, [], b1 ++ b2, rfl, rfl, ⟨rfl, rfl⟩, _, _, [], b1 ++ b2, rfl, rfl, ⟨rfl, rfl⟩, _, _, [], b1 ++ b2, rfl, rfl, ⟨rfl, rfl⟩, q, _, b1, b2, rfl, rfl, h, _, _, [], b2, rfl, rfl, ⟨rfl, rfl⟩, q', [], b2, [], rfl, by simp, h', rfl, rfl⟩

theorem Own.len {st : Store} {es : List AV} {o : AV} {bs : List Nat} (x : Own st (.slice es) o bs) : (o.fits → es.length ≤ 9223372036854775807) ∧ ∀ (P : Program) (t e : TypeId), P.underlying t = some (.slice e) → aLen P t o = some (.int .i64 (es.length : Int)) := by
  simp only [Own] at x
  rcases x with ⟨rfl, rfl, _⟩ | ⟨b, bs', os, w, rfl, _⟩
  · exact ⟨fun _ => by simp, fun P t e h => by simp [aLen, h]⟩
  · exact ⟨fun h => by simpa [AV.fits] using h, fun P t e h => by simp [aLen, h]⟩
theorem get_mid' {A C B : List AV} {n j : Nat} (hA : A.length = n) (hj : j < C.length) : (A ++ C ++ B)[n + j]? = C[j]? := by
  subst hA
  rw [List.append_assoc, List.getElem?_append_right (by omega), Nat.add_sub_cancel_left, List.getElem?_append_left hj]

/-- What marking leaves: the same blocks, marked. -/
def Marked (st : Store) (a : AV) (o : AV) (bs : List Nat) (j : Int) (r : AV) (st' : Store) : Prop := r = .int .i64 j ∧ Own st' a o bs ∧ ∀ q, q ∉ bs → st' q = st q

/-- A list of which the first ones are marked. -/
theorem marked_set {α : Type} {av : α → AV} {done : List α} {x : α} {rest : List α} {x' : α} : ((done ++ x :: rest).map av).set done.length (av x') = ((done ++ [x']) ++ rest).map av := by
  simp only [List.map_append, List.map_cons]
  rw [List.set_append_right _ _ (by simp)]
  simp
theorem marked_get {α : Type} {av : α → AV} {done : List α} {x : α} {rest : List α} : ((done ++ x :: rest).map av)[done.length]? = some (av x) := by
  simp

/-! ### Numbers -/
abbrev iv (n : Int) : AV := .int .i64 n
theorem iv_width (n : Int) : (iv n).width = 1 := rfl
theorem iv_agg (n : Int) : (iv n).isAgg = false := rfl
theorem iv_flat (l : List Int) : (l.map iv).all AV.flat = true := by simp [AV.flat]
theorem iv_widths (l : List Int) : ∀ e ∈ l.map iv, e.width = 1 := by intro e h; simp only [List.mem_map] at h; obtain ⟨t, _, rfl⟩ := h; rfl
end Go.AW

/- Names and goals as data. -/
namespace Go.AW
/-- Two ways at a condition. -/
def opLevel (s : ByteArray) : Nat :=
  cond (decide (s = ⟨#[61]⟩) || decide (s = ⟨#[92, 61]⟩) || decide (s = ⟨#[61, 61]⟩) || decide (s = ⟨#[60]⟩) || decide (s = ⟨#[62]⟩) || decide (s = ⟨#[61, 60]⟩) || decide (s = ⟨#[62, 61]⟩) || decide (s = ⟨#[61, 58, 61]⟩) || decide (s = ⟨#[105, 115]⟩)) 3 (cond (decide (s = ⟨#[43]⟩) || decide (s = ⟨#[45]⟩)) 2 (cond (decide (s = ⟨#[42]⟩) || decide (s = ⟨#[47, 47]⟩) || decide (s = ⟨#[109, 111, 100]⟩)) 1 0))
def isBuiltin (s : ByteArray) (n : Int) : Bool :=
  cond (decide (s = ⟨#[61]⟩) || decide (s = ⟨#[92, 61]⟩) || decide (s = ⟨#[61, 61]⟩) || decide (s = ⟨#[60]⟩) || decide (s = ⟨#[62]⟩) || decide (s = ⟨#[61, 60]⟩) || decide (s = ⟨#[62, 61]⟩) || decide (s = ⟨#[61, 58, 61]⟩) || decide (s = ⟨#[105, 115]⟩)) (decide (n = 2)) (cond (decide (s = ⟨#[116, 114, 117, 101]⟩) || decide (s = ⟨#[102, 97, 105, 108]⟩)) (decide (n = 0)) (cond (decide (s = ⟨#[118, 97, 114]⟩) || decide (s = ⟨#[110, 111, 110, 118, 97, 114]⟩) || decide (s = ⟨#[97, 116, 111, 109]⟩) || decide (s = ⟨#[105, 110, 116]⟩)) (decide (n = 1)) (cond (decide (s = ⟨#[97, 114, 103]⟩)) (decide (n = 3)) false)))
/-! ### Bytes -/
abbrev sb (s : ByteArray) : List UInt8 := s.data.toList
theorem sb_len (s : ByteArray) : (sb s).length = s.size := by simp only [sb, Array.length_toList]; rfl
theorem idx_byte {P : Program} {t : TypeId} {s : ByteArray} {i : Nat} {c : UInt8} (hu : P.underlying t = some .string) (h : (sb s)[i]? = some c) : aIndex P t (.str s) (.int .i64 (i : Int)) = some (.int .u8 (c.toNat : Int)) := by
  have hi : i < s.size := by rw [← sb_len]; exact (List.getElem?_eq_some_iff.1 h).1
  have : s[i]? = some c := by
    rw [getElem?_pos s i hi]
    obtain ⟨h1, h2⟩ := List.getElem?_eq_some_iff.1 h
    rw [← h2]
    rfl
  simp only [aIndex, hu, Int.toNat_natCast, this]
  simp
def letter (c : UInt8) : Bool := decide (97 ≤ c.toNat) && decide (c.toNat ≤ 122)
def letters (s : ByteArray) : Bool := (sb s).all letter && (decide ((1 : Int) ≤ (s.size : Int)) && decide ((s.size : Int) ≤ 6))
theorem all_at {α : Type} {p : α → Bool} {l : List α} {i : Nat} {x : α} (h : l[i]? = some x) (hp : p x = false) : l.all p = false := by
  rw [List.all_eq_false]
  exact ⟨x, List.mem_of_getElem? h, by simp [hp]⟩
theorem all_of {α : Type} {p : α → Bool} {l : List α} (h : ∀ (i : Nat) x, l[i]? = some x → p x = true) : l.all p = true := by
  rw [List.all_eq_true]
  intro x hx
  obtain ⟨i, hi⟩ := List.getElem?_of_mem hx
  exact h i x hi
end Go.AW
