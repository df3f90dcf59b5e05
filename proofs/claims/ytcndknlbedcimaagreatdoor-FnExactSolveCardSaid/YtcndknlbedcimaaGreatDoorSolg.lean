/- Lists, terms and proofs as data, and as abstract values. -/
import Derived.Test.YtcndknlbedcimaaGreatDoorSolf
namespace Go.AW
set_option linter.unusedSimpArgs false
set_option linter.unusedVariables false
section
variable {α : Type}
def eqL (f : α → α → Bool) : List α → List α → Bool
 | [], [] => true
 | x :: xs, y :: ys => f x y && eqL f xs ys
 | _, _ => false
theorem eqL_len (f : α → α → Bool) : ∀ {a b : List α}, a.length ≠ b.length → eqL f a b = false
 | [], [], h => absurd rfl h
 | [], _ :: _, _ => rfl
 | _ :: _, [], _ => rfl
 | x :: xs, y :: ys, h => by simp only [eqL, eqL_len f (a := xs) (b := ys) (by simpa using h), Bool.and_false]
theorem eqL_at (f : α → α → Bool) : ∀ {a b : List α} (i : Nat) (x y : α), a[i]? = some x → b[i]? = some y → f x y = false → eqL f a b = false
 | [], _, i, x, y, h, _, _ => by simp at h
 | _ :: _, [], i, x, y, _, h, _ => by simp at h
 | t :: ts, t' :: ts', 0, x, y, h1, h2, h => by
  simp at h1 h2; subst h1; subst h2
  simp only [eqL, h, Bool.false_and]
 | t :: ts, t' :: ts', i + 1, x, y, h1, h2, h => by
  simp only [eqL, eqL_at f (a := ts) (b := ts') i x y (by simpa using h1) (by simpa using h2) h, Bool.and_false]
theorem eqL_all (f : α → α → Bool) : ∀ {a b : List α}, a.length = b.length → (∀ (i : Nat) (x y : α), a[i]? = some x → b[i]? = some y → f x y = true) → eqL f a b = true
 | [], [], _, _ => rfl
 | t :: ts, t' :: ts', h, g => by
  simp only [eqL, Bool.and_eq_true]
  exact ⟨g 0 t t' rfl rfl, eqL_all f (by simpa using h) fun i x y h1 h2 => g (i + 1) x y (by simpa using h1) (by simpa using h2)⟩
theorem eqL_eq {f : α → α → Bool} : ∀ {a b : List α}, (∀ x ∈ a, ∀ y, f x y = true ↔ x = y) → (eqL f a b = true ↔ a = b)
 | [], [], _ => by simp [eqL]
 | [], _ :: _, _ => by simp [eqL]
 | _ :: _, [], _ => by simp [eqL]
 | x :: xs, y :: ys, h => by
  simp only [eqL, Bool.and_eq_true, List.cons.injEq, h x (by simp) y, eqL_eq (a := xs) (b := ys) fun z hz => h z (by simp [hz])]
def sumL (f : α → Nat) : List α → Nat
 | [] => 0
 | x :: xs => f x + sumL f xs
theorem sumL_take (f : α → Nat) : ∀ {l : List α} {i : Nat} {x : α}, l[i]? = some x → sumL f (l.take (i + 1)) = sumL f (l.take i) + f x ∧ sumL f (l.take (i + 1)) ≤ sumL f l
 | [], i, x, h => by simp at h
 | y :: ys, 0, x, h => by simp at h; subst h; simp [sumL]
 | y :: ys, i + 1, x, h => by
  have := sumL_take f (l := ys) (i := i) (x := x) (by simpa using h)
  simp only [List.take_succ_cons, sumL] at this ⊢
  omega
theorem sumL_mem {f : α → Nat} : ∀ {l : List α} {x : α}, x ∈ l → f x ≤ sumL f l
 | y :: ys, x, h => by
  simp only [List.mem_cons] at h
  simp only [sumL]
  rcases h with rfl | h
  · omega
  · have := sumL_mem (f := f) h; omega
theorem ev_at {P : Program} {t : TypeId} {ag : Bool} {w : Nat} {av : α → AV} {l : List α} {i : Nat} {x : α} (hI : eI P t = some (ag, w)) (h : l[i]? = some x) (hw : (av x).width = w) : aIndexAddr P t (.slice (l.map av)) (.int .i64 (i : Int)) = some (.pptr (av x)) := by
 simp only [aIndexAddr, hI, Int.toNat_natCast, List.getElem?_map, h, Option.map_some, hw]
 simp
theorem even_map {av : α → AV} {w : Nat} (hw : ∀ x, (av x).width = w) (l : List α) : Even (l.map av) := ⟨w, by intro e h; simp only [List.mem_map] at h; obtain ⟨t, _, rfl⟩ := h; exact hw t⟩
theorem junk_map {av : α → AV} (hj : ∀ x, (av x).isJunk = false) (l : List α) : ∀ e ∈ l.map av, e.isJunk = false := by intro e h; simp only [List.mem_map] at h; obtain ⟨t, _, rfl⟩ := h; exact hj t
def szR (left : Int) (n : Nat) : Int := if left < n then -1 else left - n
theorem szR_neg {left : Int} {n : Nat} : szR left n < 0 ↔ left < n := by unfold szR; split <;> omega
theorem szR_pos {left : Int} {n : Nat} (h : ¬ left < n) : szR left n = left - n := by unfold szR; rw [if_neg h]
theorem madeAV_eq (zs : List AV) (hz : zs ≠ []) (n : Nat) : madeAV zs n = (List.replicate n zs).flatten := by
 have hl : 0 < zs.length := by cases zs with | nil => exact absurd rfl hz | cons => simp
 apply List.ext_getElem?
 intro i
 unfold madeAV
 induction n generalizing i with
 | zero => simp
 | succ n ih =>
  rw [List.replicate_succ, List.flatten_cons]
  rcases Nat.lt_or_ge i zs.length with h | h
  · rw [List.getElem?_append_left h]
    have : i < (n + 1) * zs.length := by rw [Nat.succ_mul]; omega
    simp [this, Nat.mod_eq_of_lt h, h]
  · rw [List.getElem?_append_right h, ← ih]
    have e1 : i % zs.length = (i - zs.length) % zs.length := by rw [Nat.mod_eq_sub_mod h]
    simp only [List.getElem?_map, List.getElem?_range', List.getElem?_range]
    by_cases h2 : i - zs.length < n * zs.length
    · have h3 : i < (n + 1) * zs.length := by rw [Nat.succ_mul]; omega
      simp [h2, h3, e1]
    · have h3 : ¬ i < (n + 1) * zs.length := by rw [Nat.succ_mul]; omega
      simp [h2, h3]
def filled (av : α → AV) (zs : List AV) (l : List α) (i : Nat) : List AV := ((l.take i).map av).flatMap AV.cells ++ (List.replicate (l.length - i) zs).flatten
theorem filled_zero (av : α → AV) (zs : List AV) (hz : zs ≠ []) (l : List α) : madeAV zs l.length = filled av zs l 0 := by simp [filled, madeAV_eq zs hz]
theorem filled_all (av : α → AV) (zs : List AV) (l : List α) : filled av zs l l.length = (l.map av).flatMap AV.cells := by simp [filled]
theorem flat_len {av : α → AV} {w : Nat} (hw : ∀ x, (av x).cells.length = w) : ∀ (l : List α), ((l.map av).flatMap AV.cells).length = l.length * w
 | [] => by simp
 | x :: xs => by
  have := flat_len hw xs
  simp only [List.map_cons, List.flatMap_cons, List.length_append, hw, this, List.length_cons, Nat.succ_mul]
  omega
theorem filled_len {av : α → AV} {zs : List AV} {w : Nat} (hw : ∀ x, (av x).cells.length = w) (hz : zs.length = w) (l : List α) {i : Nat} (hi : i ≤ l.length) : (filled av zs l i).length = l.length * w := by
 have h2 : ((List.replicate (l.length - i) zs).flatten).length = (l.length - i) * w := by simp [hz]
 have h1 := flat_len hw (l.take i)
 simp only [filled, List.length_append, h1, h2, List.length_take, Nat.min_eq_left hi]
 rw [← Nat.add_mul]; congr 1; omega
theorem filled_set {av : α → AV} {zs : List AV} {w : Nat} (hw : ∀ x, (av x).cells.length = w) (hz : zs.length = w) {l : List α} {i : Nat} {x : α} (h : l[i]? = some x) :
 zy4 (filled av zs l i) (i * w) (av x).cells = filled av zs l (i + 1) := by
 have hi : i < l.length := (List.getElem?_eq_some_iff.1 h).1
 have h1 := flat_len hw (l.take i)
 rw [List.length_take, Nat.min_eq_left (Nat.le_of_lt hi)] at h1
 unfold zy4 filled
 have e1 : List.replicate (l.length - i) zs = zs :: List.replicate (l.length - (i + 1)) zs := by rw [show l.length - i = (l.length - (i + 1)) + 1 by omega, List.replicate_succ]
 have e2 : l.take (i + 1) = l.take i ++ [x] := by rw [List.take_add_one, h]; rfl
 rw [e1, e2, List.take_left' h1, List.drop_append, h1]
 simp only [hw, List.flatten_cons, List.map_append, List.map_cons, List.map_nil, List.flatMap_append, List.flatMap_cons, List.flatMap_nil, List.append_nil, List.append_assoc]
 congr 2
 rw [show i * w + w - i * w = w by omega, List.drop_left' hz, List.drop_eq_nil_of_le (by omega), List.nil_append]
end
theorem set_all {zs : List AV} {x : List AV} {w : Nat} (h1 : x.length = w) (h2 : zs.length = w) : zy4 zs 0 x = x := by
 unfold zy4
 simp [h1, h2]
theorem agg_cells {x : AV} (h : x.isAgg = true) : AV.agg x.cells = x := by cases x <;> simp [AV.isAgg] at h <;> rfl
theorem take_all {x : List AV} {w : Nat} (h : x.length = w) : x.take w = x := by rw [← h]; exact List.take_length
inductive Tm where
 | mk (kind n : Int) (name : ByteArray) (kids : List Tm)
mutual
def Tm.av : Tm → AV
 | .mk k n s ts => .agg [.int .i64 k, .int .i64 n, .str s, .slice (tmsAv ts)]
def tmsAv : List Tm → List AV
 | [] => []
 | t :: ts => t.av :: tmsAv ts
end
theorem tmsAv_map : ∀ (ts : List Tm), tmsAv ts = ts.map Tm.av
 | [] => rfl
 | t :: ts => by simp only [tmsAv, List.map_cons, tmsAv_map ts]
theorem Tm.av_mk (k n : Int) (s : ByteArray) (ts : List Tm) : (Tm.mk k n s ts).av = .agg [.int .i64 k, .int .i64 n, .str s, .slice (ts.map Tm.av)] := by simp only [Tm.av, tmsAv_map]
mutual
def Tm.same : Tm → Tm → Bool
 | .mk k n s ts, .mk k' n' s' ts' => decide (k = k') && decide (n = n') && decide (s = s') && tmsSame ts ts'
def tmsSame : List Tm → List Tm → Bool
 | [], [] => true
 | t :: ts, t' :: ts' => t.same t' && tmsSame ts ts'
 | _, _ => false
end
theorem tmsSame_eqL : ∀ (a b : List Tm), tmsSame a b = eqL Tm.same a b
 | [], [] => rfl
 | [], _ :: _ => rfl
 | _ :: _, [] => rfl
 | t :: ts, t' :: ts' => by simp only [tmsSame, eqL, tmsSame_eqL ts ts']
theorem Tm.same_mk (k n : Int) (s : ByteArray) (ts : List Tm) (k' n' : Int) (s' : ByteArray) (ts' : List Tm) : (Tm.mk k n s ts).same (Tm.mk k' n' s' ts') = (decide (k = k') && decide (n = n') && decide (s = s') && eqL Tm.same ts ts') := by simp only [Tm.same, tmsSame_eqL]
mutual
def Tm.sz : Tm → Nat
 | .mk _ _ s ts => s.size + (ts.length + tmsSz ts)
def tmsSz : List Tm → Nat
 | [] => 0
 | t :: ts => t.sz + tmsSz ts
end
theorem tmsSz_sum : ∀ (a : List Tm), tmsSz a = sumL Tm.sz a
 | [] => rfl
 | t :: ts => by simp only [tmsSz, sumL, tmsSz_sum ts]
theorem Tm.sz_mk (k n : Int) (s : ByteArray) (ts : List Tm) : (Tm.mk k n s ts).sz = s.size + (ts.length + sumL Tm.sz ts) := by simp only [Tm.sz, tmsSz_sum]
theorem Tm.same_eq : ∀ (a b : Tm), a.same b = true ↔ a = b
 | .mk k n s ts, .mk k' n' s' ts' => by
  have := eqL_eq (f := Tm.same) (a := ts) (b := ts') fun x hx y => Tm.same_eq x y
  simp only [Tm.same_mk, Bool.and_eq_true, decide_eq_true_eq, Tm.mk.injEq, and_assoc, this]
termination_by a => SizeOf.sizeOf a
decreasing_by have := List.sizeOf_lt_of_mem hx; simp only [Tm.mk.sizeOf_spec]; omega
theorem Tm.av_agg (t : Tm) : t.av.isAgg = true := by cases t; rfl
theorem Tm.av_width (t : Tm) : t.av.width = 4 := by cases t; rfl
theorem Tm.av_cells (t : Tm) : t.av.cells.length = 4 := by cases t; rfl
theorem Tm.av_store (t : Tm) : t.av.cells.all AV.storable = true := by cases t; rfl
theorem Tm.av_junk (t : Tm) : t.av.isJunk = false := by cases t; rfl
theorem ev_tm_agg {t : Tm} : t.av.isAgg = true := Tm.av_agg t
theorem ev_tm_width {t : Tm} : t.av.width = 4 := Tm.av_width t
theorem ev_tm_store {t : Tm} : t.av.cells.all AV.storable = true := Tm.av_store t
theorem ev_tm_junk {t : Tm} : t.av.isJunk = false := Tm.av_junk t
theorem ev_tm_len {t : Tm} : t.av.cells.length = 4 := Tm.av_cells t
theorem ev_tm_take {t : Tm} : t.av.cells.take 4 = t.av.cells := take_all (Tm.av_cells t)
theorem ev_tm_cells {t : Tm} : AV.agg t.av.cells = t.av := agg_cells (Tm.av_agg t)
theorem ev_tm_set {t : Tm} {a b c d : AV} : zy4 [a, b, c, d] 0 t.av.cells = t.av.cells := set_all (Tm.av_cells t) rfl
theorem ev_tm_set2 {t u : Tm} : zy4 u.av.cells 0 t.av.cells = t.av.cells := set_all (Tm.av_cells t) (Tm.av_cells u)
theorem ev_su_uu {st : zy7} {b : Nat} {o o' : AO} : (st.upd b o).upd b o' = st.upd b o' := zy7.upd_upd st b o o'
theorem ev_su_same {st : zy7} {b : Nat} {o : AO} : (st.upd b o) b = some o := zy7.upd_same st b o
theorem ev_su_ne {st : zy7} {b x : Nat} {o : AO} (h : x ≠ b) : (st.upd b o) x = st x := zy7.upd_ne st o h
theorem tm_fin {t : Tm} {b : Nat} {l : List AV} : t.av.fin b l = t.av := by cases t; simp only [Tm.av_mk, fin_agg, List.map_cons, List.map_nil, fin_int, fin_str, fin_slice]
theorem ev_tm_drop {t : Tm} : t.av.cells.drop 4 = [] := List.drop_of_length_le (by rw [Tm.av_cells]; exact Nat.le_refl _)
inductive Pf where
 | mk (goal : Tm) (clause : Int) (kids : List Pf)
end Go.AW

/- Marks: each field of what is held gets a number of its own. -/
namespace Go.AW
set_option linter.unusedSimpArgs false
set_option linter.unusedVariables false
def mtDigs (k : Nat) (acc : List UInt8) : List UInt8 := if k = 0 then acc else mtDigs (k / 10) (UInt8.ofNat (48 + k % 10) :: acc)
termination_by k
decreasing_by omega
theorem mtDigs_zero (acc : List UInt8) : mtDigs 0 acc = acc := by rw [mtDigs]; simp
theorem mtDigs_pos {k : Nat} (h : 0 < k) (acc : List UInt8) : mtDigs k acc = mtDigs (k / 10) (UInt8.ofNat (48 + k % 10) :: acc) := by rw [mtDigs, if_neg (by omega)]
def mt (k : Int) : ByteArray := if k ≤ 0 then ⟨#[109, 48]⟩ else ⟨(109 :: mtDigs k.toNat []).toArray⟩
theorem ba_append (a b : List UInt8) : (⟨a.toArray⟩ : ByteArray) ++ ⟨b.toArray⟩ = ⟨(a ++ b).toArray⟩ := by
 apply ByteArray.ext
 rw [ByteArray.data_append]
 simp
mutual
def Tm.mks : Tm → Nat
 | .mk _ _ _ ts => 3 + tmsMks ts
def tmsMks : List Tm → Nat
 | [] => 0
 | t :: ts => t.mks + tmsMks ts
end
mutual
def Tm.mark : Tm → Int → Tm
 | .mk _ _ _ ts, j => .mk j (j + 1) (mt (j + 1 + 1)) (tmsMark ts (j + 1 + 1 + 1))
def tmsMark : List Tm → Int → List Tm
 | [], _ => []
 | t :: ts, j => t.mark j :: tmsMark ts (j + t.mks)
end
def markL {α : Type} (mk : α → Int → α) (n : α → Nat) : List α → Int → List α
 | [], _ => []
 | t :: ts, j => mk t j :: markL mk n ts (j + n t)
theorem tmsMark_eq : ∀ (ts : List Tm) (j : Int), tmsMark ts j = markL Tm.mark Tm.mks ts j
 | [], _ => rfl
 | t :: ts, j => by simp only [tmsMark, markL, tmsMark_eq ts]
theorem tmsMks_eq : ∀ (ts : List Tm), tmsMks ts = sumL Tm.mks ts
 | [] => rfl
 | t :: ts => by simp only [tmsMks, sumL, tmsMks_eq ts]
theorem Tm.mark_mk (k n : Int) (s : ByteArray) (ts : List Tm) (j : Int) : (Tm.mk k n s ts).mark j = .mk j (j + 1) (mt (j + 1 + 1)) (markL Tm.mark Tm.mks ts (j + 1 + 1 + 1)) := by simp only [Tm.mark, tmsMark_eq]
theorem Tm.mks_mk (k n : Int) (s : ByteArray) (ts : List Tm) : (Tm.mk k n s ts).mks = 3 + sumL Tm.mks ts := by simp only [Tm.mks, tmsMks_eq]
theorem markL_length {α : Type} (mk : α → Int → α) (n : α → Nat) : ∀ (l : List α) (j : Int), (markL mk n l j).length = l.length
 | [], _ => rfl
 | _ :: l, j => by simp [markL, markL_length mk n l]
theorem own_Tm {st : zy7} {k n : Int} {s : ByteArray} {ts : List Tm} {o : AV} {bs : List Nat} :
 Own st (Tm.mk k n s ts).av o bs ↔ ∃ q, o = .agg [.int .i64 k, .int .i64 n, .str s, q] ∧ Own st (.slice (ts.map Tm.av)) q bs := by
 rw [Tm.av_mk]
 generalize AV.slice (ts.map Tm.av) = x
 simp only [Own, OwnL]
 constructor
 · rintro ⟨os, rfl, o1, os1, b1, b1', rfl, rfl, ⟨rfl, rfl⟩, o2, os2, b2, b2', rfl, rfl, ⟨rfl, rfl⟩, o3, os3, b3, b3', rfl, rfl, ⟨rfl, rfl⟩, o4, os4, b4, b4', rfl, rfl, h, rfl, rfl⟩
   exact ⟨o4, rfl, by simpa using h⟩
 · rintro ⟨q, rfl, h⟩
   exact ⟨_, rfl, _, _, [], bs, rfl, rfl, ⟨rfl, rfl⟩, _, _, [], bs, rfl, rfl, ⟨rfl, rfl⟩, _, _, [], bs, rfl, rfl, ⟨rfl, rfl⟩, q, [], bs, [], rfl, by simp, h, rfl, rfl⟩
theorem Own.len {st : zy7} {es : List AV} {o : AV} {bs : List Nat} (x : Own st (.slice es) o bs) : (o.fits → es.length ≤ 9223372036854775807) ∧ ∀ (P : Program) (t e : TypeId), P.underlying t = some (.slice e) → aLen P t o = some (.int .i64 (es.length : Int)) := by
 simp only [Own] at x
 rcases x with ⟨rfl, rfl, _⟩ | ⟨b, bs', os, w, rfl, _⟩
 · exact ⟨fun _ => by simp, fun P t e h => by simp [aLen, h]⟩
 · exact ⟨fun h => by simpa [AV.fits] using h, fun P t e h => by simp [aLen, h]⟩
def Marked (st : zy7) (a : AV) (o : AV) (bs : List Nat) (j : Int) (r : AV) (st' : zy7) : Prop := r = .int .i64 j ∧ Own st' a o bs ∧ ∀ q, q ∉ bs → st' q = st q
theorem marked_set {α : Type} {av : α → AV} {done : List α} {x : α} {rest : List α} {x' : α} : ((done ++ x :: rest).map av).set done.length (av x') = ((done ++ [x']) ++ rest).map av := by
 simp only [List.map_append, List.map_cons]
 rw [List.set_append_right _ _ (by simp)]
 simp
theorem marked_get {α : Type} {av : α → AV} {done : List α} {x : α} {rest : List α} : ((done ++ x :: rest).map av)[done.length]? = some (av x) := by
 simp
abbrev iv (n : Int) : AV := .int .i64 n
theorem iv_widths (l : List Int) : ∀ e ∈ l.map iv, e.width = 1 := by intro e h; simp only [List.mem_map] at h; obtain ⟨t, _, rfl⟩ := h; rfl
end Go.AW

/- Names and goals as data. -/
namespace Go.AW
def opLevel (s : ByteArray) : Nat :=
 cond (decide (s = ⟨#[61]⟩) || decide (s = ⟨#[92, 61]⟩) || decide (s = ⟨#[61, 61]⟩) || decide (s = ⟨#[60]⟩) || decide (s = ⟨#[62]⟩) || decide (s = ⟨#[61, 60]⟩) || decide (s = ⟨#[62, 61]⟩) || decide (s = ⟨#[61, 58, 61]⟩) || decide (s = ⟨#[105, 115]⟩)) 3 (cond (decide (s = ⟨#[43]⟩) || decide (s = ⟨#[45]⟩)) 2 (cond (decide (s = ⟨#[42]⟩) || decide (s = ⟨#[47, 47]⟩) || decide (s = ⟨#[109, 111, 100]⟩)) 1 0))
def isBuiltin (s : ByteArray) (n : Int) : Bool :=
 cond (decide (s = ⟨#[61]⟩) || decide (s = ⟨#[92, 61]⟩) || decide (s = ⟨#[61, 61]⟩) || decide (s = ⟨#[60]⟩) || decide (s = ⟨#[62]⟩) || decide (s = ⟨#[61, 60]⟩) || decide (s = ⟨#[62, 61]⟩) || decide (s = ⟨#[61, 58, 61]⟩) || decide (s = ⟨#[105, 115]⟩)) (decide (n = 2)) (cond (decide (s = ⟨#[116, 114, 117, 101]⟩) || decide (s = ⟨#[102, 97, 105, 108]⟩)) (decide (n = 0)) (cond (decide (s = ⟨#[118, 97, 114]⟩) || decide (s = ⟨#[110, 111, 110, 118, 97, 114]⟩) || decide (s = ⟨#[97, 116, 111, 109]⟩) || decide (s = ⟨#[105, 110, 116]⟩)) (decide (n = 1)) (cond (decide (s = ⟨#[97, 114, 103]⟩)) (decide (n = 3)) false)))
abbrev sb (s : ByteArray) : List UInt8 := s.data.toList
theorem sb_len (s : ByteArray) : (sb s).length = s.size := by simp only [sb, Array.length_toList]; rfl
theorem idx_byte {P : Program} {t : TypeId} {s : ByteArray} {i : Nat} {c : UInt8} (hu : P.underlying t = some .string) (h : (sb s)[i]? = some c) : aIndex P t (.str s) (.int .i64 (i : Int)) = some (.int .u8 (c.toNat : Int)) := by
 have hi : i < s.size := by rw [← sb_len]; exact (List.getElem?_eq_some_iff.1 h).1
 have : s[i]? = some c := by
  rw [getElem?_pos s i hi]
  obtain ⟨h1, h2⟩ := List.getElem?_eq_some_iff.1 h
  rw [← h2]
  rfl
 simp only [aIndex, hu, Int.toNat_natCast, this]
 simp
def letter (c : UInt8) : Bool := decide (97 ≤ c.toNat) && decide (c.toNat ≤ 122)
def letters (s : ByteArray) : Bool := (sb s).all letter && (decide ((1 : Int) ≤ (s.size : Int)) && decide ((s.size : Int) ≤ 6))
theorem all_at {α : Type} {p : α → Bool} {l : List α} {i : Nat} {x : α} (h : l[i]? = some x) (hp : p x = false) : l.all p = false := by
 rw [List.all_eq_false]
 exact ⟨x, List.mem_of_getElem? h, by simp [hp]⟩
theorem all_of {α : Type} {p : α → Bool} {l : List α} (h : ∀ (i : Nat) x, l[i]? = some x → p x = true) : l.all p = true := by
 rw [List.all_eq_true]
 intro x hx
 obtain ⟨i, hi⟩ := List.getElem?_of_mem hx
 exact h i x hi
end Go.AW
