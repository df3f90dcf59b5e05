import Derived.Test.YtaifeijnedoboaaCbFine
import Derived.Test.YtaifeijnedoboaaCbFing

/- Names and goals: what the reference's and the program's functions return. -/
namespace Go.AW
open Go.Proofs.Try
set_option linter.unusedSimpArgs false
set_option maxRecDepth 100000

end Go.AW


/- Names: what the reference's and the program's functions return. -/
namespace Go.AW
open Go.Proofs.Try
set_option linter.unusedSimpArgs false
set_option maxRecDepth 100000

end Go.AW


/- Names of signs: what the reference's and the program's functions return. -/
namespace Go.AW
open Go.Proofs.Try
set_option linter.unusedSimpArgs false
set_option maxRecDepth 100000

def signs : List ByteArray := [⟨#[43]⟩, ⟨#[45]⟩, ⟨#[42]⟩, ⟨#[47, 47]⟩, ⟨#[61]⟩, ⟨#[92, 61]⟩, ⟨#[61, 61]⟩, ⟨#[60]⟩, ⟨#[62]⟩, ⟨#[61, 60]⟩, ⟨#[62, 61]⟩, ⟨#[61, 58, 61]⟩, ⟨#[46]⟩, ⟨#[91, 93]⟩, ⟨#[33]⟩]

def nameValid (s : ByteArray) : Bool := letters s || signs.any fun x => decide (s = x)
end Go.AW

/- Valid terms as data. -/
namespace Go.AW
def ownOk (k n : Int) (s : ByteArray) (len : Int) : Bool :=
  cond (decide (k = 1)) (decide ((0 : Int) ≤ n) && decide (n ≤ 25) && decide (s = ⟨#[]⟩) && decide (len = 0))
    (cond (decide (k = 2)) (decide ((-999 : Int) ≤ n) && decide (n ≤ 999) && decide (s = ⟨#[]⟩) && decide (len = 0))
      (cond (decide (k = 3)) (decide (n = 0) && nameValid s && decide (len ≤ 4)) false))
mutual
/-- Well formed, down to a depth. -/
def Tm.shape : Tm → Int → Bool
  | .mk k n s ts, d => decide (1 ≤ d) && ownOk k n s ts.length && tmsShape ts (d - 1)
def tmsShape : List Tm → Int → Bool
  | [], _ => true
  | t :: ts, d => t.shape d && tmsShape ts d
end
theorem tmsShape_all : ∀ (ts : List Tm) (d : Int), tmsShape ts d = ts.all fun t => t.shape d
  | [], _ => rfl
  | t :: ts, d => by simp only [tmsShape, List.all_cons, tmsShape_all ts d]
theorem Tm.shape_mk (k n : Int) (s : ByteArray) (ts : List Tm) (d : Int) : (Tm.mk k n s ts).shape d = (decide (1 ≤ d) && ownOk k n s ts.length && ts.all fun t => t.shape (d - 1)) := by simp only [Tm.shape, tmsShape_all]
mutual
/-- The number of nodes. -/
def Tm.nodes : Tm → Nat
  | .mk _ _ _ ts => 1 + tmsNodes ts
def tmsNodes : List Tm → Nat
  | [] => 0
  | t :: ts => t.nodes + tmsNodes ts
end
theorem tmsNodes_sum : ∀ (ts : List Tm), tmsNodes ts = sumL Tm.nodes ts
  | [] => rfl
  | t :: ts => by simp only [tmsNodes, sumL, tmsNodes_sum ts]
theorem Tm.nodes_mk (k n : Int) (s : ByteArray) (ts : List Tm) : (Tm.mk k n s ts).nodes = 1 + sumL Tm.nodes ts := by simp only [Tm.nodes, tmsNodes_sum]
def Tm.valid (t : Tm) : Bool := t.shape 30 && decide (t.nodes ≤ 120)
end Go.AW

/- Variables of terms, as data; what grows beside a block of its own. -/
namespace Go.AW
set_option linter.unusedSimpArgs false

mutual
def Tm.vars : Tm → List Int → List Int
  | .mk k n _ ts, l => tmsVars ts (if k = 1 ∧ n ∉ l then l ++ [n] else l)
def tmsVars : List Tm → List Int → List Int
  | [], l => l
  | t :: ts, l => tmsVars ts (t.vars l)
end
mutual
theorem Tm.vars_len : ∀ (t : Tm) (l : List Int), (t.vars l).length ≤ l.length + t.nodes
  | .mk k n s ts, l => by
    have h := tmsVars_len ts (if k = 1 ∧ n ∉ l then l ++ [n] else l)
    have h2 : (if k = 1 ∧ n ∉ l then l ++ [n] else l).length ≤ l.length + 1 := by split <;> simp
    rw [Tm.vars, Tm.nodes_mk]
    omega
theorem tmsVars_len : ∀ (ts : List Tm) (l : List Int), (tmsVars ts l).length ≤ l.length + sumL Tm.nodes ts
  | [], l => by simp [tmsVars, sumL]
  | t :: ts, l => by
    have h1 := Tm.vars_len t l
    have h2 := tmsVars_len ts (t.vars l)
    simp only [tmsVars, sumL]
    omega
end

def idxI (v : Int) : List Int → Int → Int
  | [], _ => -1
  | x :: xs, i => if v = x then i else idxI v xs (i + 1)
/-! ### A block beside a list that grows -/
/-! ### Reading what grows -/
mutual
def Tm.wf : Tm → Bool
  | .mk k _ _ ts => (!decide (k = 1) || ts.isEmpty) && tmsWf ts
def tmsWf : List Tm → Bool
  | [] => true
  | t :: ts => t.wf && tmsWf ts
end
mutual
theorem Tm.wf_of : ∀ (t : Tm) (d : Int), t.shape d = true → t.wf = true
  | .mk k n s ts, d, h => by
    rw [Tm.shape_mk] at h
    simp only [Bool.and_eq_true, List.all_eq_true] at h
    obtain ⟨⟨_, h1⟩, h2⟩ := h
    have h3 := tmsWf_of ts (d - 1) h2
    simp only [Tm.wf, h3, Bool.and_true, Bool.or_eq_true, Bool.not_eq_true', decide_eq_false_iff_not, List.isEmpty_iff]
    by_cases hk : k = 1
    · refine .inr ?_
      subst hk
      simp [ownOk] at h1
      exact h1.2
    · exact .inl hk
theorem tmsWf_of : ∀ (ts : List Tm) (d : Int), (∀ x ∈ ts, x.shape d = true) → tmsWf ts = true
  | [], _, _ => rfl
  | t :: ts, d, h => by simp only [tmsWf, Tm.wf_of t d (h t (by simp)), tmsWf_of ts d (fun x hx => h x (by simp [hx])), Bool.and_self]
end
theorem Tm.valid_nodes {t : Tm} (h : t.valid = true) : t.nodes ≤ 120 := by simp only [Tm.valid, Bool.and_eq_true, decide_eq_true_eq] at h; exact h.2
end Go.AW

/- A struct's list that grows in its memory. -/
namespace Go.AW
set_option linter.unusedSimpArgs false
/-- The struct in block c, with a list that grows in block b. -/
def kidS (S : Store) (c b : Nat) (hd : List AV) (l : List AV) : Store := accS (S.upd c (.cells (hd ++ [accV 4 b l]))) b l
end Go.AW


/- Terms that share nothing: what the program's functions return. -/
namespace Go.AW
open Go.Proofs.Try
set_option linter.unusedSimpArgs false
set_option maxRecDepth 100000

mutual
/-- No list is long. -/
def Tm.small : Tm → Bool
  | .mk _ _ _ ts => decide (ts.length ≤ 1048576) && tmsSmall ts
def tmsSmall : List Tm → Bool
  | [] => true
  | t :: ts => t.small && tmsSmall ts
end
theorem tmsSmall_all : ∀ (ts : List Tm), tmsSmall ts = ts.all Tm.small
  | [] => rfl
  | t :: ts => by simp only [tmsSmall, List.all_cons, tmsSmall_all ts]
end Go.AW


/- Copies of terms: what the reference's functions return. -/
namespace Go.AW
open Go.Proofs.Try
set_option linter.unusedSimpArgs false
set_option maxRecDepth 100000

end Go.AW

/- Substitutions, variables that are walked, unification: plain data. -/
namespace Go.AW
set_option linter.unusedSimpArgs false
set_option linter.unusedVariables false

def Tm.k : Tm → Int | .mk k _ _ _ => k
def Tm.n : Tm → Int | .mk _ n _ _ => n
def Tm.s : Tm → ByteArray | .mk _ _ s _ => s
def Tm.ts : Tm → List Tm | .mk _ _ _ ts => ts
theorem Tm.eta (t : Tm) : t = .mk t.k t.n t.s t.ts := by cases t; rfl

/-- A variable. -/
def vr (n : Int) : Tm := .mk 1 n ⟨#[]⟩ []

mutual
/-- Every variable replaced. -/
def Tm.mapv (f : Int → Tm) : Tm → Tm
  | .mk k n s ts => if k = 1 then f n else .mk k n s (tmsMapv f ts)
def tmsMapv (f : Int → Tm) : List Tm → List Tm
  | [] => []
  | t :: ts => t.mapv f :: tmsMapv f ts
end
theorem tmsMapv_map (f : Int → Tm) : ∀ ts : List Tm, tmsMapv f ts = ts.map (Tm.mapv f)
  | [] => rfl
  | t :: ts => by simp only [tmsMapv, List.map_cons, tmsMapv_map f ts]
theorem Tm.mapv_var (f : Int → Tm) {k n : Int} {s : ByteArray} {ts : List Tm} (h : k = 1) : (Tm.mk k n s ts).mapv f = f n := by simp only [Tm.mapv, h, if_true]
theorem Tm.mapv_mk (f : Int → Tm) {k n : Int} {s : ByteArray} {ts : List Tm} (h : k ≠ 1) : (Tm.mk k n s ts).mapv f = .mk k n s (ts.map (Tm.mapv f)) := by simp only [Tm.mapv, h, if_false, tmsMapv_map]
theorem mapv_vr (f : Int → Tm) (n : Int) : (vr n).mapv f = f n := Tm.mapv_var f rfl

mutual
/-- The variables. -/
def Tm.vl : Tm → List Int
  | .mk k n _ ts => if k = 1 then [n] else tmsVl ts
def tmsVl : List Tm → List Int
  | [] => []
  | t :: ts => t.vl ++ tmsVl ts
end
theorem tmsVl_mem {v : Int} : ∀ {ts : List Tm}, v ∈ tmsVl ts ↔ ∃ t ∈ ts, v ∈ t.vl
  | [] => by simp [tmsVl]
  | t :: ts => by simp [tmsVl, tmsVl_mem (ts := ts)]
theorem Tm.vl_var {k n : Int} {s : ByteArray} {ts : List Tm} (h : k = 1) : (Tm.mk k n s ts).vl = [n] := by simp only [Tm.vl, h, if_true]
theorem Tm.vl_mk {k n v : Int} {s : ByteArray} {ts : List Tm} (h : k ≠ 1) : v ∈ (Tm.mk k n s ts).vl ↔ ∃ t ∈ ts, v ∈ t.vl := by simp only [Tm.vl, h, if_false, tmsVl_mem]
theorem vl_vr (n : Int) : (vr n).vl = [n] := Tm.vl_var rfl

theorem Tm.ind {p : Tm → Prop} (h : ∀ k n s ts, (∀ t ∈ ts, p t) → p (.mk k n s ts)) : ∀ t, p t
  | .mk k n s ts => h k n s ts fun t ht => Tm.ind h t
termination_by t => SizeOf.sizeOf t
decreasing_by have := List.sizeOf_lt_of_mem ht; simp only [Tm.mk.sizeOf_spec]; omega

theorem mapv_congr {f g : Int → Tm} : ∀ (t : Tm), (∀ v ∈ t.vl, f v = g v) → t.mapv f = t.mapv g := by
  intro t
  induction t using Tm.ind with
  | h k n s ts ih =>
    intro h
    by_cases hk : k = 1
    · rw [Tm.mapv_var f hk, Tm.mapv_var g hk]; exact h n (by rw [Tm.vl_var hk]; simp)
    · rw [Tm.mapv_mk f hk, Tm.mapv_mk g hk]
      congr 1
      exact List.map_congr_left fun x hx => ih x hx fun v hv => h v ((Tm.vl_mk hk).2 ⟨x, hx, hv⟩)
theorem mapv_mapv (f g : Int → Tm) (t : Tm) : (t.mapv f).mapv g = t.mapv fun v => (f v).mapv g := by
  induction t using Tm.ind with
  | h k n s ts ih =>
    by_cases hk : k = 1
    · rw [Tm.mapv_var f hk, Tm.mapv_var _ hk]
    · rw [Tm.mapv_mk f hk, Tm.mapv_mk g hk, Tm.mapv_mk _ hk, List.map_map]
      congr 1
      exact List.map_congr_left fun x hx => ih x hx
theorem vl_mapv {f : Int → Tm} {w : Int} (t : Tm) : w ∈ (t.mapv f).vl ↔ ∃ v ∈ t.vl, w ∈ (f v).vl := by
  induction t using Tm.ind with
  | h k n s ts ih =>
    by_cases hk : k = 1
    · rw [Tm.mapv_var f hk, Tm.vl_var hk]; simp
    · rw [Tm.mapv_mk f hk, Tm.vl_mk hk]
      constructor
      · rintro ⟨x, hx, hw⟩
        obtain ⟨y, hy, rfl⟩ := List.mem_map.1 hx
        obtain ⟨v, hv, hvw⟩ := (ih y hy).1 hw
        exact ⟨v, (Tm.vl_mk hk).2 ⟨y, hy, hv⟩, hvw⟩
      · rintro ⟨v, hv, hw⟩
        obtain ⟨y, hy, hvy⟩ := (Tm.vl_mk hk).1 hv
        exact ⟨_, List.mem_map.2 ⟨y, hy, rfl⟩, (ih y hy).2 ⟨v, hvy, hw⟩⟩
theorem Tm.nodes_pos (t : Tm) : 0 < t.nodes := by cases t; rw [Tm.nodes_mk]; omega
theorem nodes_mapv {f : Int → Tm} {v : Int} : ∀ (t : Tm), v ∈ t.vl → (f v).nodes ≤ (t.mapv f).nodes ∧ (t.k ≠ 1 → (f v).nodes < (t.mapv f).nodes) := by
  intro t
  induction t using Tm.ind with
  | h k n s ts ih =>
    intro hv
    by_cases hk : k = 1
    · rw [Tm.vl_var hk] at hv
      simp only [List.mem_cons, List.not_mem_nil, or_false] at hv
      subst hv
      rw [Tm.mapv_var f hk]
      exact ⟨Nat.le_refl _, fun h => absurd hk h⟩
    · obtain ⟨x, hx, hvx⟩ := (Tm.vl_mk hk).1 hv
      have h1 := (ih x hx hvx).1
      have h2 := sumL_mem (f := Tm.nodes) (List.mem_map.2 ⟨x, hx, rfl⟩ : x.mapv f ∈ ts.map (Tm.mapv f))
      rw [Tm.mapv_mk f hk, Tm.nodes_mk]
      omega

/-! ### Bindings -/
abbrev Sub := Int → Option Tm
def Sub.set (σ : Sub) (n : Int) (t : Tm) : Sub := fun m => if m = n then some t else σ m
def Sub.none : Sub := fun _ => Option.none
/-- What each variable stands for in the end; a rank that falls along the bindings. -/
structure Good (σ : Sub) (R : Int → Tm) (rk : Int → Nat) (B : Nat) : Prop where
  sol : ∀ n, R n = match σ n with | some u => u.mapv R | .none => vr n
  rank : ∀ n u, σ n = some u → ∀ w ∈ u.vl, rk w < rk n
  bd : ∀ n, rk n < B
/-- θ solves the bindings. -/
def Sol (θ : Int → Tm) (σ : Sub) : Prop := ∀ n u, σ n = some u → θ n = u.mapv θ

section
variable {σ : Sub} {R R' : Int → Tm} {rk rk' : Int → Nat} {B B' : Nat}
theorem Good.none : Good Sub.none vr (fun _ => 0) 1 := ⟨fun n => rfl, fun n u h => (by cases h), fun n => Nat.zero_lt_one⟩
theorem Good.free (G : Good σ R rk B) {n : Int} (h : σ n = .none) : R n = vr n := by rw [G.sol n, h]
theorem Good.bound (G : Good σ R rk B) {n : Int} {u : Tm} (h : σ n = some u) : R n = u.mapv R := by rw [G.sol n, h]
theorem Good.isSol (G : Good σ R rk B) : Sol R σ := fun n u h => G.bound h
theorem Good.ind (G : Good σ R rk B) {p : Int → Prop} (h0 : ∀ n, σ n = .none → p n) (h1 : ∀ n u, σ n = some u → (∀ w ∈ u.vl, p w) → p n) : ∀ n, p n := by
  intro n
  generalize hk : rk n = k
  induction k using Nat.strongRecOn generalizing n with
  | _ k ih =>
    cases h : σ n with
    | none => exact h0 n h
    | some u => exact h1 n u h fun w hw => ih (rk w) (hk ▸ G.rank n u h w hw) w rfl
theorem Good.uniq (G : Good σ R rk B) (G' : Good σ R' rk' B') : R = R' := by
  funext n
  refine G.ind (p := fun n => R n = R' n) (fun n h => ?_) (fun n u h ih => ?_) n
  · rw [G.free h, G'.free h]
  · rw [G.bound h, G'.bound h]; exact mapv_congr u ih
theorem Good.factor (G : Good σ R rk B) {θ : Int → Tm} (S : Sol θ σ) (n : Int) : (R n).mapv θ = θ n := by
  refine G.ind (p := fun n => (R n).mapv θ = θ n) (fun n h => ?_) (fun n u h ih => ?_) n
  · rw [G.free h, mapv_vr]
  · rw [G.bound h, mapv_mapv, S n u h]; exact mapv_congr u ih
theorem Good.factorT (G : Good σ R rk B) {θ : Int → Tm} (S : Sol θ σ) (t : Tm) : (t.mapv R).mapv θ = t.mapv θ := by
  rw [mapv_mapv]; exact mapv_congr t fun v _ => G.factor S v
theorem Good.canon (G : Good σ R rk B) (n : Int) : (R n).mapv vr = R n := by
  refine G.ind (p := fun n => (R n).mapv vr = R n) (fun n h => ?_) (fun n u h ih => ?_) n
  · rw [G.free h, mapv_vr]
  · rw [G.bound h, mapv_mapv]; exact mapv_congr u ih
theorem Good.canonT (G : Good σ R rk B) (t : Tm) : (t.mapv R).mapv vr = t.mapv R := by
  rw [mapv_mapv]; exact mapv_congr t fun v _ => G.canon v
/-- One binding more. -/
theorem Good.bind (G : Good σ R rk B) {n : Int} {t : Tm} (hn : σ n = .none) (ho : n ∉ (t.mapv R).vl) :
    ∃ rk' B', Good (σ.set n t) (fun m => (R m).mapv fun v => if v = n then t.mapv R else vr v) rk' B' := by
  have key : (t.mapv R).mapv (fun v => if v = n then t.mapv R else vr v) = t.mapv R := by
    rw [mapv_congr (g := vr) (t.mapv R) (fun v hv => if_neg fun e => ho (by rw [← e]; exact hv)), G.canonT]
  refine ⟨fun v => if n ∈ (R v).vl then rk v + B else rk v, B + B, fun m => ?_, fun m u h w hw => ?_, fun m => ?_⟩
  · by_cases hm : m = n
    · subst hm
      simp only [Sub.set, if_true]
      rw [G.free hn, mapv_vr, if_pos rfl]
      rw [← mapv_mapv, key]
    · simp only [Sub.set, hm, if_false]
      cases h : σ m with
      | none => rw [G.free h, mapv_vr, if_neg hm]
      | some u => rw [G.bound h, mapv_mapv]
  · by_cases hm : m = n
    · subst hm
      simp only [Sub.set, if_true, Option.some.injEq] at h
      subst h
      have hw' : m ∉ (R w).vl := fun h => ho ((vl_mapv t).2 ⟨w, hw, h⟩)
      have : m ∈ (R m).vl := by rw [G.free hn, vl_vr]; simp
      have := G.bd w
      simp only [hw', if_false]
      rw [if_pos (by assumption)]
      omega
    · simp only [Sub.set, hm, if_false] at h
      have h1 := G.rank m u h w hw
      by_cases hw' : n ∈ (R w).vl
      · have : n ∈ (R m).vl := by rw [G.bound h]; exact (vl_mapv u).2 ⟨w, hw, hw'⟩
        simp only [hw', this, if_true]; omega
      · simp only [hw', if_false]; split <;> omega
  · have := G.bd m
    split <;> omega
end

open Classical in
/-- What each variable stands for in the end. -/
noncomputable def rs (σ : Sub) : Int → Tm := if h : ∃ R rk B, Good σ R rk B then h.choose else vr
theorem Good.rs {σ : Sub} {R : Int → Tm} {rk : Int → Nat} {B : Nat} (G : Good σ R rk B) : rs σ = R := by
  unfold AW.rs
  have h : ∃ R rk B, Good σ R rk B := ⟨R, rk, B, G⟩
  rw [dif_pos h]
  obtain ⟨rk', B', G'⟩ := h.choose_spec
  exact G'.uniq G

/-! ### Walking -/
inductive WkN (σ : Sub) : Nat → Tm → Tm → Prop
  | stop {t : Tm} (h : t.k = 1 → σ t.n = none) : WkN σ 0 t t
  | go {f : Nat} {t u v : Tm} (h1 : t.k = 1) (h2 : σ t.n = some u) (h3 : WkN σ f u v) : WkN σ (f + 1) t v
theorem WkN.det {σ : Sub} {f g : Nat} {t u v : Tm} (h : WkN σ f t u) : WkN σ g t v → u = v := by
  induction h generalizing g v with
  | stop h =>
    intro h'
    cases h' with
    | stop => rfl
    | go h1 h2 h3 => rw [h h1] at h2; cases h2
  | go h1 h2 h3 ih =>
    intro h'
    cases h' with
    | stop h => rw [h h1] at h2; cases h2
    | go h1' h2' h3' => rw [h2] at h2'; cases h2'; exact ih h3'
theorem WkN.total {σ : Sub} {R : Int → Tm} {rk : Int → Nat} {B : Nat} (G : Good σ R rk B) (t : Tm) : ∃ f u, WkN σ f t u := by
  have key : ∀ n, ∀ t : Tm, t.k = 1 → t.n = n → ∃ f u, WkN σ f t u := by
    intro n
    refine G.ind (p := fun n => ∀ t : Tm, t.k = 1 → t.n = n → ∃ f u, WkN σ f t u) (fun n h t hk hn => ?_) (fun n u h ih t hk hn => ?_) n
    · exact ⟨0, t, .stop fun _ => by rw [hn, h]⟩
    · by_cases hu : u.k = 1
      · have : u.n ∈ u.vl := by rw [Tm.eta u, Tm.vl_var hu]; simp [Tm.n]
        obtain ⟨f, v, hv⟩ := ih u.n this u hu rfl
        exact ⟨f + 1, v, .go hk (by rw [hn, h]) hv⟩
      · exact ⟨1, u, .go hk (by rw [hn, h]) (.stop fun h => absurd h hu)⟩
  by_cases hk : t.k = 1
  · exact key t.n t hk rfl
  · exact ⟨0, t, .stop fun h => absurd h hk⟩
theorem Tm.vl_k1 {t : Tm} (h : t.k = 1) : t.vl = [t.n] := by cases t; exact Tm.vl_var h
theorem Tm.mapv_k1 {t : Tm} (f : Int → Tm) (h : t.k = 1) : t.mapv f = f t.n := by cases t; exact Tm.mapv_var f h
theorem Tm.mapv_k {t : Tm} (f : Int → Tm) (h : t.k ≠ 1) : t.mapv f = .mk t.k t.n t.s (t.ts.map (Tm.mapv f)) := by cases t; exact Tm.mapv_mk f h
theorem WkN.end {σ : Sub} {f : Nat} {t u : Tm} (h : WkN σ f t u) : u.k = 1 → σ u.n = none := by induction h with | stop h => exact h | go _ _ _ ih => exact ih
theorem WkN.mapv {σ : Sub} {θ : Int → Tm} (S : Sol θ σ) {f : Nat} {t u : Tm} (h : WkN σ f t u) : u.mapv θ = t.mapv θ := by
  induction h with
  | stop => rfl
  | go h1 h2 _ ih => rw [ih, Tm.mapv_k1 θ h1, S _ _ h2]
theorem WkN.rank {σ : Sub} {R : Int → Tm} {rk : Int → Nat} {B : Nat} (G : Good σ R rk B) {f : Nat} {t u : Tm} (h : WkN σ f t u) : ∀ w ∈ u.vl, ∃ v ∈ t.vl, rk w ≤ rk v ∧ (f ≠ 0 → rk w < rk v) := by
  induction h with
  | stop h => exact fun w hw => ⟨w, hw, Nat.le_refl _, fun h => absurd rfl h⟩
  | @go f t u v h1 h2 _ ih =>
    intro w hw
    obtain ⟨x, hx, hle, _⟩ := ih w hw
    have := G.rank _ _ h2 x hx
    exact ⟨t.n, by rw [Tm.vl_k1 h1]; simp, by omega, fun _ => by omega⟩
/-- What holds of a term and of all that is bound. -/
theorem WkN.all {σ : Sub} {p : Tm → Prop} (hp : ∀ n u, σ n = some u → p u) {f : Nat} {t u : Tm} (h : WkN σ f t u) (ht : p t) : p u := by
  induction h with
  | stop => exact ht
  | go _ h2 _ ih => exact ih (hp _ _ h2)
open Classical in
noncomputable def wk (σ : Sub) (t : Tm) : Tm := if h : ∃ u f, WkN σ f t u then h.choose else t
theorem WkN.wk {σ : Sub} {f : Nat} {t u : Tm} (h : WkN σ f t u) : wk σ t = u := by
  unfold AW.wk
  have h' : ∃ u f, WkN σ f t u := ⟨u, f, h⟩
  rw [dif_pos h']
  obtain ⟨g, hg⟩ := h'.choose_spec
  exact hg.det h
theorem Good.wk {σ : Sub} {R : Int → Tm} {rk : Int → Nat} {B : Nat} (G : Good σ R rk B) (t : Tm) : ∃ f, WkN σ f t (wk σ t) := by
  obtain ⟨f, u, h⟩ := WkN.total G t
  exact ⟨f, by rw [h.wk]; exact h⟩

/-! ### Unification -/
open Classical in
noncomputable def bnd (σ : Sub) (n : Int) (t : Tm) : Bool × Sub × List Int := if n ∈ (t.mapv (rs σ)).vl then (false, σ, []) else (true, σ.set n t, [n])
open Classical in
/-- The same apart from the arguments. -/
def headEq (a b : Tm) : Bool := decide (a.k = b.k) && decide (a.n = b.n) && decide (a.s = b.s) && decide (a.ts.length = b.ts.length)
mutual
noncomputable def uniF : Nat → Sub → Tm → Tm → Option (Bool × Sub × List Int)
  | 0, _, _, _ => none
  | g + 1, σ, a, b =>
    if (wk σ a).k = 1 ∧ (wk σ b).k = 1 ∧ (wk σ a).n = (wk σ b).n then some (true, σ, [])
    else if (wk σ a).k = 1 then some (bnd σ (wk σ a).n (wk σ b))
    else if (wk σ b).k = 1 then some (bnd σ (wk σ b).n (wk σ a))
    else if headEq (wk σ a) (wk σ b) = true then unisF g σ (wk σ a).ts (wk σ b).ts
    else some (false, σ, [])
termination_by g => (g, 0)
noncomputable def unisF : Nat → Sub → List Tm → List Tm → Option (Bool × Sub × List Int)
  | g, σ, a :: xs, b :: ys => match uniF g σ a b with
    | none => none
    | some (false, σ', tr) => some (false, σ', tr)
    | some (true, σ', tr) => match unisF g σ' xs ys with
      | none => none
      | some (r, σ'', tr') => some (r, σ'', tr ++ tr')
  | _, σ, _, _ => some (true, σ, [])
termination_by g _ xs => (g, xs.length + 1)
end
theorem uniF_cases {g : Nat} {σ σ' : Sub} {a b : Tm} {r : Bool} {add : List Int} (h : uniF (g + 1) σ a b = some (r, σ', add)) :
    ((wk σ a).k = 1 ∧ (wk σ b).k = 1 ∧ (wk σ a).n = (wk σ b).n ∧ true = r ∧ σ = σ' ∧ [] = add) ∨
    ((wk σ a).k = 1 ∧ ¬((wk σ b).k = 1 ∧ (wk σ a).n = (wk σ b).n) ∧ bnd σ (wk σ a).n (wk σ b) = (r, σ', add)) ∨
    ((wk σ a).k ≠ 1 ∧ (wk σ b).k = 1 ∧ bnd σ (wk σ b).n (wk σ a) = (r, σ', add)) ∨
    ((wk σ a).k ≠ 1 ∧ (wk σ b).k ≠ 1 ∧ headEq (wk σ a) (wk σ b) = true ∧ unisF g σ (wk σ a).ts (wk σ b).ts = some (r, σ', add)) ∨
    ((wk σ a).k ≠ 1 ∧ (wk σ b).k ≠ 1 ∧ headEq (wk σ a) (wk σ b) = false ∧ false = r ∧ σ = σ' ∧ [] = add) := by
  rw [uniF] at h
  split at h
  · rename_i h1; exact .inl ⟨h1.1, h1.2.1, h1.2.2, by simpa using h⟩
  · rename_i h1
    split at h
    · rename_i h2; exact .inr (.inl ⟨h2, fun h3 => h1 ⟨h2, h3⟩, Option.some.inj h⟩)
    · rename_i h2
      split at h
      · rename_i h3; exact .inr (.inr (.inl ⟨h2, h3, Option.some.inj h⟩))
      · rename_i h3
        split at h
        · rename_i h4; exact .inr (.inr (.inr (.inl ⟨h2, h3, h4, h⟩)))
        · rename_i h4; exact .inr (.inr (.inr (.inr ⟨h2, h3, by simpa using h4, by simpa using h⟩)))
end Go.AW

/- Bindings as data; replaced variables. -/
namespace Go.AW
set_option linter.unusedSimpArgs false
set_option linter.unusedVariables false

theorem Tm.soft (t : Tm) : t.av.soft = t.av := by cases t; simp [Tm.av_mk, AV.soft, softL]
/-- A binding. -/
abbrev Bd := Int × Tm
def bdAv (b : Bd) : AV := .agg (.int .i64 b.1 :: b.2.av.cells)
def findB : List Bd → Int → Option Tm
  | [], _ => none
  | (m, x) :: r, n => if m = n then some x else findB r n
/-- The variable replaced by what it stands for. -/
def subB (bs : List Bd) (n : Int) : Tm := (findB bs n).getD (vr n)
def Tm.zero : Tm := .mk 0 0 ⟨#[]⟩ []
mutual
/-- Variables have neither name nor arguments. -/
def Tm.cv : Tm → Bool
  | .mk k _ s ts => (!decide (k = 1) || (decide (s = ⟨#[]⟩) && ts.isEmpty)) && tmsCv ts
def tmsCv : List Tm → Bool
  | [] => true
  | t :: ts => t.cv && tmsCv ts
end
theorem tmsCv_all : ∀ (ts : List Tm), tmsCv ts = ts.all Tm.cv
  | [] => rfl
  | t :: ts => by simp only [tmsCv, List.all_cons, tmsCv_all ts]
theorem Tm.cv_mk {k n : Int} {s : ByteArray} {ts : List Tm} : (Tm.mk k n s ts).cv = true ↔ (k = 1 → s = ⟨#[]⟩ ∧ ts = []) ∧ ∀ x ∈ ts, x.cv = true := by
  simp only [Tm.cv, tmsCv_all, Bool.and_eq_true, Bool.or_eq_true, Bool.not_eq_true', decide_eq_false_iff_not, List.isEmpty_iff, List.all_eq_true, decide_eq_true_eq]
  constructor
  · exact fun h => ⟨fun hk => h.1.resolve_left (fun hn => hn hk), h.2⟩
  · intro h
    refine ⟨?_, h.2⟩
    by_cases hk : k = 1
    · exact .inr (h.1 hk)
    · exact .inl hk
/-! ### The first place -/
def idxP {α : Type} (p : α → Bool) : List α → Int → Int
  | [], _ => -1
  | x :: xs, i => if p x = true then i else idxP p xs (i + 1)
end Go.AW


/- Valid terms: what the reference's functions return. -/
namespace Go.AW
open Go.Proofs.Try
set_option linter.unusedSimpArgs false
set_option maxRecDepth 100000

end Go.AW


/- Goals: what the reference's and the program's functions return. -/
namespace Go.AW
open Go.Proofs.Try
set_option linter.unusedSimpArgs false
set_option maxRecDepth 100000

def plainGoal (k : Int) (s : ByteArray) (len : Int) : Bool := decide (k = 3) && letters s && !isBuiltin s len && decide ((opLevel s : Int) = 0)

def goalOk (k : Int) (s : ByteArray) (len : Int) : Bool := (decide (k = 3) && decide (s = ⟨#[33]⟩) && decide (len = 0)) || plainGoal k s len || (decide (k = 3) && isBuiltin s len)

end Go.AW


/- Valid terms: what the program's functions return. -/
namespace Go.AW
open Go.Proofs.Try
set_option linter.unusedSimpArgs false
set_option maxRecDepth 100000

/-- What a scan leaves: the answer, the counter. -/
def scanned (ok : Bool) (c n : Int) (b : Nat) (st : Store) (r : AV) (st' : Store) : Prop :=
  ∃ c', r = .bool (decide (c + n ≤ 120) && ok) ∧ st' = st.upd b (.cells [.int .i64 c']) ∧ ((decide (c + n ≤ 120) && ok) = true → c' = c + n)

end Go.AW


/- Valid terms: what the program's functions return. -/
namespace Go.AW
open Go.Proofs.Try
set_option linter.unusedSimpArgs false
set_option maxRecDepth 100000

end Go.AW


/- Valid terms and goals: what the program's functions return. -/
namespace Go.AW
open Go.Proofs.Try
set_option linter.unusedSimpArgs false
set_option maxRecDepth 100000

def Tm.goal : Tm → Bool
  | .mk k n s ts => (Tm.mk k n s ts).valid && goalOk k s ts.length

end Go.AW


/- Lists of terms, looked through: what the program's functions return. -/
namespace Go.AW
open Go.Proofs.Try
set_option linter.unusedSimpArgs false
set_option maxRecDepth 100000

def queryOk (l : List Tm) : Bool := decide (l.length ≤ 6) && l.all Tm.goal

end Go.AW


/- Replaced variables: what the program's and the reference's functions return. -/
namespace Go.AW
open Go.Proofs.Try
set_option linter.unusedSimpArgs false
set_option maxRecDepth 100000

end Go.AW


/- Bindings applied: what the program's and the reference's functions return. -/
namespace Go.AW
open Go.Proofs.Try
set_option linter.unusedSimpArgs false
set_option maxRecDepth 100000

def optAv : Option Tm → AV
  | some t => .tup [t.av, .bool true]
  | none => .tup [Tm.zero.av, .bool false]

end Go.AW


/- Bindings applied, as a whole. -/
namespace Go.AW
open Go.Proofs.Try
set_option linter.unusedSimpArgs false
set_option maxRecDepth 100000

/-- Bindings applied, if all is valid. -/
def appB (t : Tm) (bs : List Bd) : Option Tm :=
  if t.valid = true ∧ (bs.all fun b => b.2.valid) = true ∧ (t.mapv (subB bs)).valid = true then some (t.mapv (subB bs)) else none
end Go.AW

/- Unification: it keeps the bindings good, makes the terms equal, and is most general; it comes to an end. -/
namespace Go.AW
set_option linter.unusedSimpArgs false
set_option linter.unusedVariables false

abbrev IsGood (σ : Sub) : Prop := ∃ R rk B, Good σ R rk B
theorem IsGood.rs {σ : Sub} (h : IsGood σ) : ∃ rk B, Good σ (rs σ) rk B := by
  obtain ⟨R, rk, B, G⟩ := h
  exact ⟨rk, B, by rw [G.rs]; exact G⟩
theorem IsGood.none : IsGood Sub.none := ⟨_, _, _, Good.none⟩

/-- What unification leaves. -/
structure Uni (σ : Sub) (a b : List Tm) (r : Bool) (σ' : Sub) (tr : List Int) : Prop where
  good : IsGood σ'
  keep : ∀ m, m ∉ tr → σ' m = σ m
  new : ∀ m ∈ tr, σ m = none ∧ σ' m ≠ none
  nodup : tr.Nodup
  eq : r = true → a.map (Tm.mapv (rs σ')) = b.map (Tm.mapv (rs σ'))
  gen : ∀ θ, Sol θ σ → a.map (Tm.mapv θ) = b.map (Tm.mapv θ) → r = true ∧ Sol θ σ'
  same : tr = [] → σ' = σ

theorem Sol.sub {σ σ' : Sub} {θ : Int → Tm} {tr : List Int} (S : Sol θ σ') (keep : ∀ m, m ∉ tr → σ' m = σ m) (new : ∀ m ∈ tr, σ m = none ∧ σ' m ≠ none) : Sol θ σ := fun n u h => by
  by_cases hn : n ∈ tr
  · rw [(new n hn).1] at h; cases h
  · exact S n u (by rw [keep n hn]; exact h)

theorem Uni.isSol {σ σ' : Sub} {a b : List Tm} {r : Bool} {tr : List Int} (h : Uni σ a b r σ' tr) : Sol (rs σ') σ := by
  obtain ⟨rk, B, G⟩ := h.good.rs
  exact G.isSol.sub h.keep h.new
/-- What was equal stays equal. -/
theorem Uni.stays {σ σ' : Sub} {a b : List Tm} {r : Bool} {tr : List Int} (h : Uni σ a b r σ' tr) (hg : IsGood σ) {x y : Tm} (e : x.mapv (rs σ) = y.mapv (rs σ)) : x.mapv (rs σ') = y.mapv (rs σ') := by
  obtain ⟨rk, B, G⟩ := hg.rs
  rw [← G.factorT h.isSol x, ← G.factorT h.isSol y, e]

theorem bnd_uni {σ : Sub} (hg : IsGood σ) {a b : Tm} {n : Int} (ha : a.k = 1) (han : a.n = n) (hn : σ n = none) (hb : b.k = 1 → σ b.n = none ∧ b.n ≠ n) {r : Bool} {σ' : Sub} {tr : List Int} (h : bnd σ n b = (r, σ', tr)) : Uni σ [a] [b] r σ' tr := by
  obtain ⟨rk, B, G⟩ := hg.rs
  have hav : ∀ θ, a.mapv θ = θ n := fun θ => by rw [Tm.mapv_k1 θ ha, han]
  unfold bnd at h
  split at h
  · rename_i hmem
    cases h
    refine ⟨hg, fun _ _ => rfl, fun _ h => absurd h (List.not_mem_nil), List.nodup_nil, fun h => (by cases h), fun θ S e => ?_, fun _ => rfl⟩
    exfalso
    simp only [List.map_cons, List.map_nil, List.cons.injEq, and_true] at e
    rw [hav] at e
    by_cases hbk : b.k = 1
    · rw [Tm.mapv_k1 _ hbk, G.free (hb hbk).1, vl_vr] at hmem
      simp only [List.mem_cons, List.not_mem_nil, or_false] at hmem
      exact (hb hbk).2 hmem.symm
    · rw [← G.factorT S b] at e
      have h1 : ((b.mapv (rs σ)).mapv θ) = (b.mapv (rs σ)).mapv θ := rfl
      have hk : (b.mapv (rs σ)).k ≠ 1 := by rw [Tm.mapv_k _ hbk]; exact hbk
      have := (nodes_mapv (f := θ) (b.mapv (rs σ)) hmem).2 hk
      rw [e] at this
      exact absurd this (Nat.lt_irrefl _)
  · rename_i hmem
    cases h
    obtain ⟨rk', B', G'⟩ := G.bind hn hmem
    have hR := G'.rs
    refine ⟨⟨_, _, _, G'⟩, fun m hm => ?_, fun m hm => ?_, by simp, fun _ => ?_, fun θ S e => ⟨rfl, fun m u hu => ?_⟩, fun h => (by cases h)⟩
    · simp only [List.mem_cons, List.not_mem_nil, or_false] at hm
      simp only [Sub.set, hm, if_false]
    · simp only [List.mem_cons, List.not_mem_nil, or_false] at hm
      subst hm
      exact ⟨hn, by simp [Sub.set]⟩
    · simp only [List.map_cons, List.map_nil, List.cons.injEq, and_true]
      rw [hav, hR]
      exact G'.bound (by simp [Sub.set])
    · simp only [List.map_cons, List.map_nil, List.cons.injEq, and_true] at e
      rw [hav] at e
      simp only [Sub.set] at hu
      split at hu
      · rename_i hmn
        cases hu
        rw [hmn, e]
      · exact S m u hu

theorem headEq_iff {a b : Tm} : headEq a b = true ↔ a.k = b.k ∧ a.n = b.n ∧ a.s = b.s ∧ a.ts.length = b.ts.length := by
  simp only [headEq, Bool.and_eq_true, decide_eq_true_eq, and_assoc]

theorem unisF_list (g : Nat) (ihU0 : ∀ σ a b r σ' tr, IsGood σ → uniF g σ a b = some (r, σ', tr) → Uni σ [a] [b] r σ' tr) : ∀ xs ys σ r σ' tr, IsGood σ → xs.length = ys.length → unisF g σ xs ys = some (r, σ', tr) → Uni σ xs ys r σ' tr := by
    intro xs
    have ihU := ihU0
    induction xs with
    | nil =>
      intro ys σ r σ' tr hg hl h
      cases ys with
      | cons _ _ => simp at hl
      | nil =>
        simp only [unisF, Option.some.injEq, Prod.mk.injEq] at h
        obtain ⟨rfl, rfl, rfl⟩ := h
        exact ⟨hg, fun _ _ => rfl, fun _ h => absurd h (List.not_mem_nil), List.nodup_nil, fun _ => rfl, fun θ S _ => ⟨rfl, S⟩, fun _ => rfl⟩
    | cons a xs ih =>
      intro ys σ r σ' tr hg hl h
      cases ys with
      | nil => simp at hl
      | cons b ys =>
        rw [unisF] at h
        cases h1 : uniF g σ a b with
        | none => rw [h1] at h; cases h
        | some p =>
          obtain ⟨r1, σ1, tr1⟩ := p
          have U1 := ihU σ a b r1 σ1 tr1 hg h1
          rw [h1] at h
          cases r1 with
          | false =>
            simp only [Option.some.injEq, Prod.mk.injEq] at h
            obtain ⟨rfl, rfl, rfl⟩ := h
            refine ⟨U1.good, U1.keep, U1.new, U1.nodup, fun h => (by cases h), fun θ S e => ?_, U1.same⟩
            simp only [List.map_cons, List.cons.injEq] at e
            exact U1.gen θ S (by simp [e.1])
          | true =>
            simp only at h
            cases h2 : unisF g σ1 xs ys with
            | none => rw [h2] at h; cases h
            | some p2 =>
              obtain ⟨r2, σ2, tr2⟩ := p2
              rw [h2] at h
              simp only [Option.some.injEq, Prod.mk.injEq] at h
              obtain ⟨rfl, rfl, rfl⟩ := h
              have U2 := ih ys σ1 r2 σ2 tr2 U1.good (by simpa using hl) h2
              refine ⟨U2.good, fun m hm => ?_, fun m hm => ?_, ?_, fun hr => ?_, fun θ S e => ?_, fun h => ?_⟩
              · simp only [List.mem_append, not_or] at hm
                rw [U2.keep m hm.2, U1.keep m hm.1]
              · rcases List.mem_append.1 hm with hm | hm
                · refine ⟨(U1.new m hm).1, fun h => (U1.new m hm).2 ?_⟩
                  by_cases h3 : m ∈ tr2
                  · exact (U2.new m h3).1
                  · rw [← U2.keep m h3]; exact h
                · refine ⟨?_, (U2.new m hm).2⟩
                  by_cases h3 : m ∈ tr1
                  · exact (U1.new m h3).1
                  · rw [← U1.keep m h3]; exact (U2.new m hm).1
              · rw [List.nodup_append]
                refine ⟨U1.nodup, U2.nodup, fun x hx y hy e => ?_⟩
                subst e
                exact (U1.new x hx).2 (U2.new x hy).1
              · have e1 := U1.eq rfl
                simp only [List.map_cons, List.map_nil, List.cons.injEq, and_true] at e1
                simp only [List.map_cons]
                rw [U2.stays U1.good e1, U2.eq hr]
              · simp only [List.map_cons, List.cons.injEq] at e
                obtain ⟨_, S1⟩ := U1.gen θ S (by simp [e.1])
                exact U2.gen θ S1 e.2
              · simp only [List.append_eq_nil_iff] at h
                rw [U2.same h.2, U1.same h.1]

theorem uniF_both : ∀ (g : Nat), (∀ σ a b r σ' tr, IsGood σ → uniF g σ a b = some (r, σ', tr) → Uni σ [a] [b] r σ' tr) ∧
    ∀ xs ys σ r σ' tr, IsGood σ → xs.length = ys.length → unisF g σ xs ys = some (r, σ', tr) → Uni σ xs ys r σ' tr := by
  intro g
  induction g with
  | zero =>
    have h0 : ∀ σ a b r σ' tr, IsGood σ → uniF 0 σ a b = some (r, σ', tr) → Uni σ [a] [b] r σ' tr := fun σ a b r σ' tr hg h => by simp only [uniF] at h; cases h
    exact ⟨h0, unisF_list _ h0⟩
  | succ g ih =>
    suffices hU : ∀ σ a b r σ' tr, IsGood σ → uniF (g + 1) σ a b = some (r, σ', tr) → Uni σ [a] [b] r σ' tr from ⟨hU, unisF_list _ hU⟩
    intro σ a b r σ' tr hg h
    obtain ⟨ihU, ihL⟩ := ih
    have ihL' := fun xs ys σ r σ' tr hg hl h => ihL xs ys σ r σ' tr hg hl h
    obtain ⟨rk, B, G⟩ := hg.rs
    obtain ⟨fa, wa⟩ := G.wk a
    obtain ⟨fb, wb⟩ := G.wk b
    have hma : ∀ θ, Sol θ σ → (wk σ a).mapv θ = a.mapv θ := fun θ S => wa.mapv S
    have hmb : ∀ θ, Sol θ σ → (wk σ b).mapv θ = b.mapv θ := fun θ S => wb.mapv S
    -- it suffices to speak of the walked terms
    suffices hw : Uni σ [wk σ a] [wk σ b] r σ' tr by
      refine ⟨hw.good, hw.keep, hw.new, hw.nodup, fun hr => ?_, fun θ S e => ?_, hw.same⟩
      · have := hw.eq hr
        simp only [List.map_cons, List.map_nil, List.cons.injEq, and_true] at this ⊢
        rw [← hma _ hw.isSol, ← hmb _ hw.isSol]; exact this
      · refine hw.gen θ S ?_
        simp only [List.map_cons, List.map_nil, List.cons.injEq, and_true] at e ⊢
        rw [hma θ S, hmb θ S]; exact e
    have ea := wa.end
    have eb := wb.end
    rw [uniF] at h
    generalize wk σ a = a at *
    generalize wk σ b = b at *
    split at h
    · rename_i hc
      simp only [Option.some.injEq, Prod.mk.injEq] at h
      obtain ⟨rfl, rfl, rfl⟩ := h
      have he : ∀ θ, a.mapv θ = b.mapv θ := fun θ => by rw [Tm.mapv_k1 θ hc.1, Tm.mapv_k1 θ hc.2.1, hc.2.2]
      exact ⟨hg, fun _ _ => rfl, fun _ h => absurd h (List.not_mem_nil), List.nodup_nil, fun _ => by simp [he], fun θ S _ => ⟨rfl, S⟩, fun _ => rfl⟩
    · rename_i hc
      split at h
      · rename_i ha
        exact bnd_uni hg ha rfl (ea ha) (fun hb => ⟨eb hb, fun e => hc ⟨ha, hb, e.symm⟩⟩) (Option.some.inj h)
      · rename_i ha
        split at h
        · rename_i hb
          have U := bnd_uni hg hb rfl (eb hb) (fun ha' => absurd ha' ha) (Option.some.inj h)
          exact ⟨U.good, U.keep, U.new, U.nodup, fun hr => (U.eq hr).symm, fun θ S e => U.gen θ S e.symm, U.same⟩
        · rename_i hb
          split at h
          · rename_i hh
            rw [headEq_iff] at hh
            have U := ihL' a.ts b.ts σ r σ' tr hg hh.2.2.2 h
            refine ⟨U.good, U.keep, U.new, U.nodup, fun hr => ?_, fun θ S e => ?_, U.same⟩
            · simp only [List.map_cons, List.map_nil, List.cons.injEq, and_true]
              rw [Tm.mapv_k _ ha, Tm.mapv_k _ hb, hh.1, hh.2.1, hh.2.2.1, U.eq hr]
            · simp only [List.map_cons, List.map_nil, List.cons.injEq, and_true] at e
              rw [Tm.mapv_k _ ha, Tm.mapv_k _ hb] at e
              exact U.gen θ S (by injection e)
          · rename_i hh
            simp only [Option.some.injEq, Prod.mk.injEq] at h
            obtain ⟨rfl, rfl, rfl⟩ := h
            refine ⟨hg, fun _ _ => rfl, fun _ h => absurd h (List.not_mem_nil), List.nodup_nil, fun h => (by cases h), fun θ S e => ?_, fun _ => rfl⟩
            exfalso
            simp only [List.map_cons, List.map_nil, List.cons.injEq, and_true] at e
            rw [Tm.mapv_k _ ha, Tm.mapv_k _ hb] at e
            injection e with e1 e2 e3 e4
            exact hh (headEq_iff.2 ⟨e1, e2, e3, by simpa using congrArg List.length e4⟩)

theorem uniF_uni {g : Nat} {σ : Sub} {a b : Tm} {r : Bool} {σ' : Sub} {tr : List Int} (hg : IsGood σ) (h : uniF g σ a b = some (r, σ', tr)) : Uni σ [a] [b] r σ' tr := (uniF_both g).1 σ a b r σ' tr hg h
end Go.AW

/- Unification comes to an end. -/
namespace Go.AW
set_option linter.unusedSimpArgs false
set_option linter.unusedVariables false

theorem unisF_mono (g g' : Nat) (ih : ∀ σ a b x, uniF g σ a b = some x → uniF g' σ a b = some x) : ∀ xs ys σ x, unisF g σ xs ys = some x → unisF g' σ xs ys = some x := by
  intro xs
  induction xs with
  | nil => intro ys σ x h; cases ys <;> simpa only [unisF] using h
  | cons a xs ihx =>
    intro ys σ x h
    cases ys with
    | nil => simpa only [unisF] using h
    | cons b ys =>
      rw [unisF] at h ⊢
      cases h1 : uniF g σ a b with
      | none => rw [h1] at h; cases h
      | some p =>
        rw [h1] at h
        rw [ih _ _ _ _ h1]
        obtain ⟨r1, σ1, tr1⟩ := p
        cases r1 with
        | false => exact h
        | true =>
          simp only at h ⊢
          cases h2 : unisF g σ1 xs ys with
          | none => rw [h2] at h; cases h
          | some p2 => rw [h2] at h; rw [ihx ys σ1 p2 h2]; exact h
theorem uniF_succ : ∀ (g : Nat) σ a b x, uniF g σ a b = some x → uniF (g + 1) σ a b = some x := by
  intro g
  induction g with
  | zero => intro σ a b x h; simp only [uniF] at h; cases h
  | succ g ih =>
    intro σ a b x h
    rw [uniF] at h ⊢
    split
    · rename_i hc; rw [if_pos hc] at h; exact h
    · rename_i hc
      rw [if_neg hc] at h
      split
      · rename_i hc; rw [if_pos hc] at h; exact h
      · rename_i hc
        rw [if_neg hc] at h
        split
        · rename_i hc; rw [if_pos hc] at h; exact h
        · rename_i hc
          rw [if_neg hc] at h
          split
          · rename_i hc; rw [if_pos hc] at h; exact unisF_mono g (g + 1) ih _ _ _ _ h
          · rename_i hc; rw [if_neg hc] at h; exact h
theorem uniF_le {g g' : Nat} (hle : g ≤ g') {σ : Sub} {a b : Tm} {x : Bool × Sub × List Int} (h : uniF g σ a b = some x) : uniF g' σ a b = some x := by
  induction hle with
  | refl => exact h
  | step _ ih => exact uniF_succ _ _ _ _ _ ih
theorem unisF_le {g g' : Nat} (hle : g ≤ g') {σ : Sub} {xs ys : List Tm} {x : Bool × Sub × List Int} (h : unisF g σ xs ys = some x) : unisF g' σ xs ys = some x :=
  unisF_mono g g' (fun _ _ _ _ h => uniF_le hle h) xs ys σ x h

/-! ### All is within a list of variables -/
def unb (σ : Sub) (V : List Int) : Nat := V.countP fun v => (σ v).isNone
def InV (V : List Int) (t : Tm) : Prop := ∀ v ∈ t.vl, v ∈ V
def RangeIn (V : List Int) (σ : Sub) : Prop := ∀ n u, σ n = some u → InV V u
theorem unb_lt {σ σ' : Sub} {tr : List Int} {V : List Int} (keep : ∀ m, m ∉ tr → σ' m = σ m) (new : ∀ m ∈ tr, σ m = none ∧ σ' m ≠ none) {m : Int} (hm : m ∈ tr) (hV : m ∈ V) : unb σ' V < unb σ V := by
  have mono : ∀ v, (σ' v).isNone = true → (σ v).isNone = true := fun v h => by
    by_cases hv : v ∈ tr
    · rw [(new v hv).1]; rfl
    · rw [← keep v hv]; exact h
  have le : ∀ W : List Int, unb σ' W ≤ unb σ W := fun W => List.countP_mono_left fun v _ h => mono v h
  unfold unb at *
  induction V with
  | nil => cases hV
  | cons v V ih =>
    simp only [List.countP_cons]
    have hle := le V
    rcases List.mem_cons.1 hV with rfl | hV
    · have h1 : (σ m).isNone = true := by rw [(new m hm).1]; rfl
      have h2 : (σ' m).isNone = false := by
        cases h : σ' m with
        | none => exact absurd h (new m hm).2
        | some _ => rfl
      simp only [h1, h2, if_true, Bool.false_eq_true, if_false]
      omega
    · have := ih hV
      have h3 := mono v
      by_cases h4 : (σ' v).isNone = true
      · rw [if_pos h4, if_pos (h3 h4)]; omega
      · rw [if_neg h4]; split <;> omega
theorem WkN.inV {σ : Sub} {V : List Int} (hr : RangeIn V σ) {f : Nat} {t u : Tm} (h : WkN σ f t u) (ht : InV V t) : InV V u := h.all (p := InV V) (fun n u hu => hr n u hu) ht
theorem InV.kid {V : List Int} {t x : Tm} (h : InV V t) (hk : t.k ≠ 1) (hx : x ∈ t.ts) : InV V x := fun v hv => h v (by cases t; exact (Tm.vl_mk hk).2 ⟨x, hx, hv⟩)

/-- What is left is within the list. -/
theorem uni_inV : ∀ (g : Nat), (∀ σ a b r σ' tr V, IsGood σ → uniF g σ a b = some (r, σ', tr) → RangeIn V σ → InV V a → InV V b → RangeIn V σ' ∧ ∀ m ∈ tr, m ∈ V) ∧
    ∀ xs ys σ r σ' tr V, IsGood σ → xs.length = ys.length → unisF g σ xs ys = some (r, σ', tr) → RangeIn V σ → (∀ x ∈ xs, InV V x) → (∀ y ∈ ys, InV V y) → RangeIn V σ' ∧ ∀ m ∈ tr, m ∈ V := by
  intro g
  have list : ∀ g, (∀ σ a b r σ' tr V, IsGood σ → uniF g σ a b = some (r, σ', tr) → RangeIn V σ → InV V a → InV V b → RangeIn V σ' ∧ ∀ m ∈ tr, m ∈ V) →
      ∀ xs ys σ r σ' tr V, IsGood σ → xs.length = ys.length → unisF g σ xs ys = some (r, σ', tr) → RangeIn V σ → (∀ x ∈ xs, InV V x) → (∀ y ∈ ys, InV V y) → RangeIn V σ' ∧ ∀ m ∈ tr, m ∈ V := by
    intro g ihU xs
    induction xs with
    | nil =>
      intro ys σ r σ' tr V hg hl h hr _ _
      cases ys with
      | cons _ _ => simp at hl
      | nil =>
        simp only [unisF, Option.some.injEq, Prod.mk.injEq] at h
        obtain ⟨rfl, rfl, rfl⟩ := h
        exact ⟨hr, fun _ h => absurd h (List.not_mem_nil)⟩
    | cons a xs ih =>
      intro ys σ r σ' tr V hg hl h hr hx hy
      cases ys with
      | nil => simp at hl
      | cons b ys =>
        rw [unisF] at h
        cases h1 : uniF g σ a b with
        | none => rw [h1] at h; cases h
        | some p =>
          obtain ⟨r1, σ1, tr1⟩ := p
          have U1 := uniF_uni hg h1
          obtain ⟨i1, i2⟩ := ihU σ a b r1 σ1 tr1 V hg h1 hr (hx a (by simp)) (hy b (by simp))
          rw [h1] at h
          cases r1 with
          | false =>
            simp only [Option.some.injEq, Prod.mk.injEq] at h
            obtain ⟨rfl, rfl, rfl⟩ := h
            exact ⟨i1, i2⟩
          | true =>
            simp only at h
            cases h2 : unisF g σ1 xs ys with
            | none => rw [h2] at h; cases h
            | some p2 =>
              obtain ⟨r2, σ2, tr2⟩ := p2
              rw [h2] at h
              simp only [Option.some.injEq, Prod.mk.injEq] at h
              obtain ⟨rfl, rfl, rfl⟩ := h
              obtain ⟨j1, j2⟩ := ih ys σ1 r2 σ2 tr2 V U1.good (by simpa using hl) h2 i1 (fun x h => hx x (by simp [h])) (fun y h => hy y (by simp [h]))
              exact ⟨j1, fun m hm => (List.mem_append.1 hm).elim (i2 m) (j2 m)⟩
  induction g with
  | zero =>
    have h0 : ∀ σ a b r σ' tr V, IsGood σ → uniF 0 σ a b = some (r, σ', tr) → RangeIn V σ → InV V a → InV V b → RangeIn V σ' ∧ ∀ m ∈ tr, m ∈ V := fun σ a b r σ' tr V hg h => by simp only [uniF] at h; cases h
    exact ⟨h0, list 0 h0⟩
  | succ g ih =>
    suffices hU : ∀ σ a b r σ' tr V, IsGood σ → uniF (g + 1) σ a b = some (r, σ', tr) → RangeIn V σ → InV V a → InV V b → RangeIn V σ' ∧ ∀ m ∈ tr, m ∈ V from ⟨hU, list _ hU⟩
    intro σ a b r σ' tr V hg h hr ha hb
    obtain ⟨_, ihL⟩ := ih
    obtain ⟨rk, B, G⟩ := hg.rs
    obtain ⟨fa, wa⟩ := G.wk a
    obtain ⟨fb, wb⟩ := G.wk b
    have va := wa.inV hr ha
    have vb := wb.inV hr hb
    have bn : ∀ n (t : Tm) r σ' tr, n ∈ V → InV V t → bnd σ n t = (r, σ', tr) → RangeIn V σ' ∧ ∀ m ∈ tr, m ∈ V := by
      intro n t r σ' tr hn ht h
      unfold bnd at h
      split at h <;> cases h
      · exact ⟨hr, fun _ h => absurd h (List.not_mem_nil)⟩
      · refine ⟨fun m u hu => ?_, fun m hm => by simp only [List.mem_cons, List.not_mem_nil, or_false] at hm; rw [hm]; exact hn⟩
        simp only [Sub.set] at hu
        split at hu
        · cases hu; exact ht
        · exact hr m u hu
    rw [uniF] at h
    generalize wk σ a = a at *
    generalize wk σ b = b at *
    split at h
    · simp only [Option.some.injEq, Prod.mk.injEq] at h
      obtain ⟨rfl, rfl, rfl⟩ := h
      exact ⟨hr, fun _ h => absurd h (List.not_mem_nil)⟩
    · split at h
      · rename_i hk
        exact bn _ _ _ _ _ (va _ (by rw [Tm.vl_k1 hk]; simp)) vb (Option.some.inj h)
      · rename_i hka
        split at h
        · rename_i hk
          exact bn _ _ _ _ _ (vb _ (by rw [Tm.vl_k1 hk]; simp)) va (Option.some.inj h)
        · rename_i hkb
          split at h
          · rename_i hh
            exact ihL a.ts b.ts σ r σ' tr V hg (headEq_iff.1 hh).2.2.2 h hr (fun x hx => va.kid hka hx) (fun y hy => vb.kid hkb hy)
          · simp only [Option.some.injEq, Prod.mk.injEq] at h
            obtain ⟨rfl, rfl, rfl⟩ := h
            exact ⟨hr, fun _ h => absurd h (List.not_mem_nil)⟩

def AllS (p : Tm → Prop) (σ : Sub) : Prop := ∀ n u, σ n = some u → p u
/-- What holds of all terms, and of their arguments, holds of what is bound. -/
theorem uni_all {p : Tm → Prop} (hp : ∀ t : Tm, t.k ≠ 1 → p t → ∀ x ∈ t.ts, p x) : ∀ (g : Nat), (∀ σ a b r σ' tr, IsGood σ → uniF g σ a b = some (r, σ', tr) → AllS p σ → p a → p b → AllS p σ') ∧
    ∀ xs ys σ r σ' tr, IsGood σ → xs.length = ys.length → unisF g σ xs ys = some (r, σ', tr) → AllS p σ → (∀ x ∈ xs, p x) → (∀ y ∈ ys, p y) → AllS p σ' := by
  intro g
  have list : ∀ g, (∀ σ a b r σ' tr, IsGood σ → uniF g σ a b = some (r, σ', tr) → AllS p σ → p a → p b → AllS p σ') →
      ∀ xs ys σ r σ' tr, IsGood σ → xs.length = ys.length → unisF g σ xs ys = some (r, σ', tr) → AllS p σ → (∀ x ∈ xs, p x) → (∀ y ∈ ys, p y) → AllS p σ' := by
    intro g ihU xs
    induction xs with
    | nil =>
      intro ys σ r σ' tr hg hl h hr _ _
      cases ys with
      | cons _ _ => simp at hl
      | nil =>
        simp only [unisF, Option.some.injEq, Prod.mk.injEq] at h
        obtain ⟨rfl, rfl, rfl⟩ := h
        exact hr
    | cons a xs ih =>
      intro ys σ r σ' tr hg hl h hr hx hy
      cases ys with
      | nil => simp at hl
      | cons b ys =>
        rw [unisF] at h
        cases h1 : uniF g σ a b with
        | none => rw [h1] at h; cases h
        | some p =>
          obtain ⟨r1, σ1, tr1⟩ := p
          have U1 := uniF_uni hg h1
          have i1 := ihU σ a b r1 σ1 tr1 hg h1 hr (hx a (by simp)) (hy b (by simp))
          rw [h1] at h
          cases r1 with
          | false =>
            simp only [Option.some.injEq, Prod.mk.injEq] at h
            obtain ⟨rfl, rfl, rfl⟩ := h
            exact i1
          | true =>
            simp only at h
            cases h2 : unisF g σ1 xs ys with
            | none => rw [h2] at h; cases h
            | some p2 =>
              obtain ⟨r2, σ2, tr2⟩ := p2
              rw [h2] at h
              simp only [Option.some.injEq, Prod.mk.injEq] at h
              obtain ⟨rfl, rfl, rfl⟩ := h
              have j1 := ih ys σ1 r2 σ2 tr2 U1.good (by simpa using hl) h2 i1 (fun x h => hx x (by simp [h])) (fun y h => hy y (by simp [h]))
              exact j1
  induction g with
  | zero =>
    have h0 : ∀ σ a b r σ' tr, IsGood σ → uniF 0 σ a b = some (r, σ', tr) → AllS p σ → p a → p b → AllS p σ' := fun σ a b r σ' tr hg h => by simp only [uniF] at h; cases h
    exact ⟨h0, list 0 h0⟩
  | succ g ih =>
    suffices hU : ∀ σ a b r σ' tr, IsGood σ → uniF (g + 1) σ a b = some (r, σ', tr) → AllS p σ → p a → p b → AllS p σ' from ⟨hU, list _ hU⟩
    intro σ a b r σ' tr hg h hr ha hb
    obtain ⟨_, ihL⟩ := ih
    obtain ⟨rk, B, G⟩ := hg.rs
    obtain ⟨fa, wa⟩ := G.wk a
    obtain ⟨fb, wb⟩ := G.wk b
    have va := wa.all hr ha
    have vb := wb.all hr hb
    have bn : ∀ n (t : Tm) r σ' tr, p t → bnd σ n t = (r, σ', tr) → AllS p σ' := by
      intro n t r σ' tr ht h
      unfold bnd at h
      split at h <;> cases h
      · exact hr
      · intro m u hu
        simp only [Sub.set] at hu
        split at hu
        · cases hu; exact ht
        · exact hr m u hu
    rw [uniF] at h
    generalize wk σ a = a at *
    generalize wk σ b = b at *
    split at h
    · simp only [Option.some.injEq, Prod.mk.injEq] at h
      obtain ⟨rfl, rfl, rfl⟩ := h
      exact hr
    · split at h
      · rename_i hk
        exact bn _ _ _ _ _ vb (Option.some.inj h)
      · rename_i hka
        split at h
        · rename_i hk
          exact bn _ _ _ _ _ va (Option.some.inj h)
        · rename_i hkb
          split at h
          · rename_i hh
            exact ihL a.ts b.ts σ r σ' tr hg (headEq_iff.1 hh).2.2.2 h hr (fun x hx => hp _ hka va x hx) (fun y hy => hp _ hkb vb y hy)
          · simp only [Option.some.injEq, Prod.mk.injEq] at h
            obtain ⟨rfl, rfl, rfl⟩ := h
            exact hr

theorem uniF_total (V : List Int) : ∀ (N M : Nat) (σ : Sub) (a b : Tm), IsGood σ → RangeIn V σ → InV V a → InV V b → unb σ V ≤ N → (a.mapv (rs σ)).nodes ≤ M → ∃ g x, uniF g σ a b = some x := by
  intro N
  induction N using Nat.strongRecOn with
  | _ N ihN =>
  intro M
  induction M using Nat.strongRecOn with
  | _ M ihM =>
  intro σ a b hg hr ha hb hN hM
  have list : ∀ (xs ys : List Tm) (σ1 : Sub), xs.length = ys.length → IsGood σ1 → RangeIn V σ1 → (σ1 = σ ∨ unb σ1 V < unb σ V) → (∀ x ∈ xs, InV V x ∧ (x.mapv (rs σ)).nodes < M) → (∀ y ∈ ys, InV V y) → ∃ g x, unisF g σ1 xs ys = some x := by
    intro xs
    induction xs with
    | nil =>
      intro ys σ1 hl _ _ _ _ _
      cases ys with
      | cons _ _ => simp at hl
      | nil => exact ⟨0, (true, σ1, []), by simp only [unisF]⟩
    | cons x xs ih =>
      intro ys σ1 hl hg1 hr1 hc hx hy
      cases ys with
      | nil => simp at hl
      | cons y ys =>
        have h1 : ∃ g p, uniF g σ1 x y = some p := by
          rcases hc with rfl | hlt
          · exact ihM _ (hx x (by simp)).2 σ1 x y hg1 hr1 (hx x (by simp)).1 (hy y (by simp)) hN (Nat.le_refl _)
          · exact ihN (unb σ1 V) (by omega) _ σ1 x y hg1 hr1 (hx x (by simp)).1 (hy y (by simp)) (Nat.le_refl _) (Nat.le_refl _)
        obtain ⟨g1, ⟨r1, σ2, tr1⟩, h1⟩ := h1
        have U1 := uniF_uni hg1 h1
        obtain ⟨i1, i2⟩ := (uni_inV g1).1 σ1 x y r1 σ2 tr1 V hg1 h1 hr1 (hx x (by simp)).1 (hy y (by simp))
        cases r1 with
        | false => exact ⟨g1, (false, σ2, tr1), by rw [unisF, h1]⟩
        | true =>
          have hc2 : σ2 = σ ∨ unb σ2 V < unb σ V := by
            cases htr : tr1 with
            | nil => rw [U1.same htr]; exact hc
            | cons m _ =>
              have := unb_lt (V := V) U1.keep U1.new (m := m) (by rw [htr]; simp) (i2 m (by rw [htr]; simp))
              rcases hc with rfl | hlt
              · exact .inr this
              · exact .inr (Nat.lt_trans this hlt)
          obtain ⟨g2, p2, h2⟩ := ih ys σ2 (by simpa using hl) U1.good i1 hc2 (fun z hz => hx z (by simp [hz])) (fun z hz => hy z (by simp [hz]))
          obtain ⟨r2, σ3, tr2⟩ := p2
          refine ⟨max g1 g2, (r2, σ3, tr1 ++ tr2), ?_⟩
          rw [unisF, uniF_le (Nat.le_max_left g1 g2) h1]
          simp only
          rw [unisF_le (Nat.le_max_right g1 g2) h2]
  obtain ⟨rk, B, G⟩ := hg.rs
  obtain ⟨fa, wa⟩ := G.wk a
  obtain ⟨fb, wb⟩ := G.wk b
  have va := wa.inV hr ha
  have vb := wb.inV hr hb
  have hma := wa.mapv G.isSol
  rw [← hma] at hM
  by_cases h1 : (wk σ a).k = 1 ∧ (wk σ b).k = 1 ∧ (wk σ a).n = (wk σ b).n
  · exact ⟨1, _, by rw [uniF, if_pos h1]⟩
  by_cases h2 : (wk σ a).k = 1
  · exact ⟨1, _, by rw [uniF, if_neg h1, if_pos h2]⟩
  by_cases h3 : (wk σ b).k = 1
  · exact ⟨1, _, by rw [uniF, if_neg h1, if_neg h2, if_pos h3]⟩
  by_cases h4 : headEq (wk σ a) (wk σ b) = true
  · have hkid : ∀ x ∈ (wk σ a).ts, InV V x ∧ (x.mapv (rs σ)).nodes < M := fun x hx => by
      refine ⟨va.kid h2 hx, ?_⟩
      rw [Tm.mapv_k _ h2, Tm.nodes_mk] at hM
      have := sumL_mem (f := Tm.nodes) (List.mem_map.2 ⟨x, hx, rfl⟩ : x.mapv (rs σ) ∈ (wk σ a).ts.map (Tm.mapv (rs σ)))
      omega
    obtain ⟨g, x, h⟩ := list (wk σ a).ts (wk σ b).ts σ (headEq_iff.1 h4).2.2.2 hg hr (.inl rfl) hkid (fun y hy => vb.kid h3 hy)
    exact ⟨g + 1, x, by rw [uniF, if_neg h1, if_neg h2, if_neg h3, if_pos h4]; exact h⟩
  · exact ⟨1, _, by rw [uniF, if_neg h1, if_neg h2, if_neg h3, if_neg h4]⟩
end Go.AW

/- Unification of valid terms: what is bound is well-formed; the bindings in the end. -/
namespace Go.AW
set_option linter.unusedSimpArgs false
set_option linter.unusedVariables false

mutual
/-- Not deeper than d. -/
def Tm.flat : Tm → Nat → Bool
  | .mk _ _ _ _, 0 => false
  | .mk _ _ _ ts, d + 1 => tmsFlat ts d
def tmsFlat : List Tm → Nat → Bool
  | [], _ => true
  | t :: ts, d => t.flat d && tmsFlat ts d
end
theorem tmsFlat_all : ∀ (ts : List Tm) (d : Nat), tmsFlat ts d = ts.all fun t => t.flat d
  | [], _ => rfl
  | t :: ts, d => by simp only [tmsFlat, List.all_cons, tmsFlat_all ts d]
theorem Tm.flat_zero (t : Tm) : t.flat 0 = false := by cases t; simp only [Tm.flat]
theorem Tm.flat_succ (k n : Int) (s : ByteArray) (ts : List Tm) (d : Nat) : (Tm.mk k n s ts).flat (d + 1) = ts.all fun t => t.flat d := by simp only [Tm.flat, tmsFlat_all]
mutual
/-- Each node by itself is well-formed. -/
def Tm.okA : Tm → Bool
  | .mk k n s ts => ownOk k n s ts.length && tmsOkA ts
def tmsOkA : List Tm → Bool
  | [] => true
  | t :: ts => t.okA && tmsOkA ts
end
theorem tmsOkA_all : ∀ (ts : List Tm), tmsOkA ts = ts.all Tm.okA
  | [] => rfl
  | t :: ts => by simp only [tmsOkA, List.all_cons, tmsOkA_all ts]
theorem Tm.okA_mk (k n : Int) (s : ByteArray) (ts : List Tm) : (Tm.mk k n s ts).okA = (ownOk k n s ts.length && ts.all Tm.okA) := by simp only [Tm.okA, tmsOkA_all]
theorem all_and {α : Type} (p q : α → Bool) : ∀ l : List α, (l.all fun x => p x && q x) = (l.all p && l.all q)
  | [] => rfl
  | x :: l => by simp only [List.all_cons, all_and p q l]; cases p x <;> cases q x <;> cases l.all p <;> simp
theorem Tm.shape_flat : ∀ (t : Tm) (d : Nat), t.shape (d : Int) = (t.okA && t.flat d) := by
  intro t
  induction t using Tm.ind with
  | h k n s ts ih =>
    intro d
    cases d with
    | zero => rw [Tm.flat_zero, Bool.and_false, Tm.shape_mk]; rfl
    | succ d =>
      rw [Tm.shape_mk, Tm.okA_mk, Tm.flat_succ, show decide ((1 : Int) ≤ ((d + 1 : Nat) : Int)) = true by simp; omega, Bool.true_and, Bool.and_assoc, ← all_and]
      congr 1
      rw [show (((d + 1 : Nat) : Int) - 1) = (d : Int) by omega]
      have : ∀ l : List Tm, (∀ x ∈ l, x ∈ ts) → (l.all fun t => t.shape (d : Int)) = l.all fun x => x.okA && x.flat d := by
        intro l
        induction l with
        | nil => intro _; rfl
        | cons x l ihl => intro h; rw [List.all_cons, List.all_cons, ih x (h x (by simp)), ihl fun y hy => h y (by simp [hy])]
      exact this ts fun _ h => h
theorem Tm.valid_okA {t : Tm} (h : t.valid = true) : t.okA = true := by
  simp only [Tm.valid, Bool.and_eq_true] at h
  have := h.1
  rw [show (30 : Int) = ((30 : Nat) : Int) from rfl, Tm.shape_flat, Bool.and_eq_true] at this
  exact this.1
theorem Tm.valid_iff {t : Tm} (h : t.okA = true) : t.valid = (t.flat 30 && decide (t.nodes ≤ 120)) := by
  unfold Tm.valid
  rw [show (30 : Int) = ((30 : Nat) : Int) from rfl, Tm.shape_flat, h, Bool.true_and]
theorem okA_kids : ∀ t : Tm, t.k ≠ 1 → t.okA = true → ∀ x ∈ t.ts, x.okA = true := fun t _ h x hx => by
  cases t
  rw [Tm.okA_mk, Bool.and_eq_true] at h
  exact List.all_eq_true.1 h.2 x hx
theorem Tm.okA_own {k n : Int} {s : ByteArray} {ts : List Tm} (h : (Tm.mk k n s ts).okA = true) : ownOk k n s ts.length = true ∧ ∀ x ∈ ts, x.okA = true := by
  rw [Tm.okA_mk, Bool.and_eq_true] at h
  exact ⟨h.1, List.all_eq_true.1 h.2⟩
theorem ownOk_var {n : Int} {s : ByteArray} {len : Int} (h : ownOk 1 n s len = true) : 0 ≤ n ∧ n ≤ 25 ∧ s = ⟨#[]⟩ ∧ len = 0 := by
  simp [ownOk] at h
  exact ⟨h.1.1.1, h.1.1.2, h.1.2, h.2⟩
theorem ownOk_kind {k n : Int} {s : ByteArray} {len : Int} (h : ownOk k n s len = true) : (k = 1 ∨ k = 2 ∨ k = 3) ∧ len ≤ 4 := by
  unfold ownOk at h
  by_cases h1 : k = 1
  · simp [h1] at h; omega
  · by_cases h2 : k = 2
    · simp [h2] at h; omega
    · by_cases h3 : k = 3
      · simp [h3] at h; omega
      · simp [h1, h2, h3] at h
theorem Tm.okA_cv : ∀ (t : Tm), t.okA = true → t.cv = true := by
  intro t
  induction t using Tm.ind with
  | h k n s ts ih =>
    intro h
    obtain ⟨h1, h2⟩ := Tm.okA_own h
    refine Tm.cv_mk.2 ⟨fun hk => ?_, fun x hx => ih x hx (h2 x hx)⟩
    subst hk
    obtain ⟨_, _, h3, h4⟩ := ownOk_var h1
    exact ⟨h3, List.eq_nil_of_length_eq_zero (by omega)⟩
/-- The numbers of variables. -/
def V25 : List Int := (List.range 26).map fun i : Nat => (i : Int)
theorem mem_V25 {n : Int} : n ∈ V25 ↔ 0 ≤ n ∧ n ≤ 25 := by
  simp only [V25, List.mem_map, List.mem_range]
  constructor
  · rintro ⟨i, h, rfl⟩; omega
  · intro h; exact ⟨n.toNat, by omega, by omega⟩
theorem Tm.okA_inV : ∀ (t : Tm), t.okA = true → InV V25 t := by
  intro t
  induction t using Tm.ind with
  | h k n s ts ih =>
    intro h v hv
    obtain ⟨h1, h2⟩ := Tm.okA_own h
    by_cases hk : k = 1
    · rw [Tm.vl_var hk] at hv
      simp only [List.mem_cons, List.not_mem_nil, or_false] at hv
      subst hv hk
      obtain ⟨h3, h4, _⟩ := ownOk_var h1
      exact mem_V25.2 ⟨h3, h4⟩
    · obtain ⟨x, hx, hvx⟩ := (Tm.vl_mk hk).1 hv
      exact ih x hx (h2 x hx) v hvx
theorem mapv_okA {f : Int → Tm} : ∀ (t : Tm), t.okA = true → (∀ v ∈ t.vl, (f v).okA = true) → (t.mapv f).okA = true := by
  intro t
  induction t using Tm.ind with
  | h k n s ts ih =>
    intro h hf
    obtain ⟨h1, h2⟩ := Tm.okA_own h
    by_cases hk : k = 1
    · rw [Tm.mapv_var f hk]; exact hf n (by rw [Tm.vl_var hk]; simp)
    · rw [Tm.mapv_mk f hk, Tm.okA_mk, List.length_map, h1, Bool.true_and, List.all_map, List.all_eq_true]
      exact fun x hx => ih x hx (h2 x hx) fun v hv => hf v ((Tm.vl_mk hk).2 ⟨x, hx, hv⟩)
theorem vr_okA {n : Int} (h : n ∈ V25) : (vr n).okA = true := by
  rw [mem_V25] at h
  rw [vr, Tm.okA_mk]
  simp [ownOk, h]
theorem Good.okA {σ : Sub} {R : Int → Tm} {rk : Int → Nat} {B : Nat} (G : Good σ R rk B) (ho : AllS (fun t => t.okA = true) σ) : ∀ n ∈ V25, (R n).okA = true := by
  refine fun n => G.ind (p := fun n => n ∈ V25 → (R n).okA = true) (fun n h hn => ?_) (fun n u h ih hn => ?_) n
  · rw [G.free h]; exact vr_okA hn
  · rw [G.bound h]
    exact mapv_okA u (ho n u h) fun v hv => ih v hv (Tm.okA_inV u (ho n u h) v hv)
theorem Good.okT {σ : Sub} {R : Int → Tm} {rk : Int → Nat} {B : Nat} (G : Good σ R rk B) (ho : AllS (fun t => t.okA = true) σ) {t : Tm} (h : t.okA = true) : (t.mapv R).okA = true :=
  mapv_okA t h fun v hv => G.okA ho v (Tm.okA_inV t h v hv)

/-! ### What two terms are unified to -/
theorem uniF_det {g g' : Nat} {σ : Sub} {a b : Tm} {x y : Bool × Sub × List Int} (h : uniF g σ a b = some x) (h' : uniF g' σ a b = some y) : x = y := by
  have h1 := uniF_le (Nat.le_max_left g g') h
  rw [uniF_le (Nat.le_max_right g g') h'] at h1
  exact (Option.some.inj h1).symm
open Classical in
noncomputable def uniR (a b : Tm) : Bool × Sub × List Int := if h : ∃ x g, uniF g Sub.none a b = some x then h.choose else (false, Sub.none, [])
theorem uniR_eq {g : Nat} {a b : Tm} {x : Bool × Sub × List Int} (h : uniF g Sub.none a b = some x) : uniR a b = x := by
  unfold uniR
  have h' : ∃ x g, uniF g Sub.none a b = some x := ⟨x, g, h⟩
  rw [dif_pos h']
  obtain ⟨g', h''⟩ := h'.choose_spec
  exact uniF_det h'' h
/-- The bindings in the end, in order. -/
noncomputable def bindsOf (σ : Sub) : List Bd := (List.range 26).filterMap fun i : Nat => (σ (i : Int)).map fun u => ((i : Int), u.mapv (rs σ))
noncomputable def uniB (a b : Tm) : Option (List Bd) :=
  if a.valid = true ∧ b.valid = true ∧ (uniR a b).1 = true ∧ ((bindsOf (uniR a b).2.1).all fun x => x.2.valid) = true then some (bindsOf (uniR a b).2.1) else none

/-- What is known of the unification of two valid terms. -/
structure Unif (a b : Tm) (r : Bool) (σ : Sub) (tr : List Int) : Prop where
  run : ∃ g, uniF g Sub.none a b = some (r, σ, tr)
  uni : Uni Sub.none [a] [b] r σ tr
  okA : AllS (fun t => t.okA = true) σ
  inV : RangeIn V25 σ
  trV : ∀ m ∈ tr, m ∈ V25
theorem Uni.out {σ : Sub} {a b : List Tm} {r : Bool} {tr : List Int} (h : Uni Sub.none a b r σ tr) {n : Int} {u : Tm} (e : σ n = some u) : n ∈ tr := by
  refine Classical.byContradiction fun hn => ?_
  rw [h.keep n hn] at e
  cases e
theorem unif_of {a b : Tm} (ha : a.valid = true) (hb : b.valid = true) : ∃ r σ tr, Unif a b r σ tr ∧ uniR a b = (r, σ, tr) := by
  have oa := Tm.valid_okA ha
  have ob := Tm.valid_okA hb
  have hn : RangeIn V25 Sub.none := fun n u h => (by cases h)
  obtain ⟨g, ⟨r, σ, tr⟩, h⟩ := uniF_total V25 _ _ Sub.none a b IsGood.none hn (Tm.okA_inV a oa) (Tm.okA_inV b ob) (Nat.le_refl _) (Nat.le_refl _)
  obtain ⟨h1, h2⟩ := (uni_inV g).1 Sub.none a b r σ tr V25 IsGood.none h hn (Tm.okA_inV a oa) (Tm.okA_inV b ob)
  exact ⟨r, σ, tr, ⟨⟨g, h⟩, uniF_uni IsGood.none h, (uni_all okA_kids g).1 Sub.none a b r σ tr IsGood.none h (fun n u h => (by cases h)) oa ob, h1, h2⟩, uniR_eq h⟩
theorem findB_filterMap (σ : Sub) (f : Tm → Tm) (n : Int) : ∀ l : List Nat, findB (l.filterMap fun i : Nat => (σ (i : Int)).map fun u => ((i : Int), f u)) n = if n ∈ l.map (fun i : Nat => (i : Int)) then (σ n).map f else none
  | [] => rfl
  | i :: l => by
    have ih := findB_filterMap σ f n l
    rw [List.filterMap_cons]
    cases h : σ (i : Int) with
    | none =>
      simp only [Option.map_none, ih, List.map_cons, List.mem_cons]
      by_cases h2 : n = (i : Int)
      · subst h2
        rw [h]
        simp
      · simp [h2]
    | some u =>
      simp only [Option.map_some, findB, List.map_cons, List.mem_cons, ih]
      by_cases h2 : (i : Int) = n
      · subst h2
        rw [h]
        simp
      · rw [if_neg h2]
        simp [Ne.symm h2]
theorem Unif.subB {a b : Tm} {r : Bool} {σ : Sub} {tr : List Int} (h : Unif a b r σ tr) : AW.subB (bindsOf σ) = rs σ := by
  obtain ⟨rk, B, G⟩ := h.uni.good.rs
  funext n
  have e : findB (bindsOf σ) n = if n ∈ V25 then (σ n).map (Tm.mapv (rs σ)) else none := findB_filterMap σ _ n _
  unfold AW.subB
  rw [e, G.sol n]
  split
  · cases σ n <;> rfl
  · rename_i hn
    cases hs : σ n with
    | none => rfl
    | some u => exact absurd (h.trV n (h.uni.out hs)) hn
end Go.AW

/- Unified terms are equal: plain facts. -/
namespace Go.AW
set_option linter.unusedSimpArgs false
set_option linter.unusedVariables false

theorem bindsOf_mem {σ : Sub} {x : Bd} (h : x ∈ bindsOf σ) : ∃ (i : Nat) (u : Tm), i < 26 ∧ σ (i : Int) = some u ∧ x = ((i : Int), u.mapv (rs σ)) := by
  unfold bindsOf at h
  rw [List.mem_filterMap] at h
  obtain ⟨i, hi, h⟩ := h
  cases hs : σ (i : Int) with
  | none => rw [hs] at h; cases h
  | some u => rw [hs] at h; simp only [Option.map_some, Option.some.injEq] at h; exact ⟨i, u, by simpa using hi, hs, h.symm⟩
/-- What the bindings are good for. -/
structure Fine (a b : Tm) (bs : List Bd) : Prop where
  va : a.valid = true
  vb : b.valid = true
  vs : (bs.all fun x => x.2.valid) = true
  eq : a.mapv (subB bs) = b.mapv (subB bs)
  idem : ∀ x ∈ bs, x.2.mapv (subB bs) = x.2
  sorted : bs.Pairwise fun x y => x.1 < y.1
end Go.AW

/- The store of bindings in memory. -/
namespace Go.AW
set_option linter.unusedSimpArgs false
set_option linter.unusedVariables false

abbrev zt : AV := .agg [.int .i64 0, .int .i64 0, .str ⟨#[]⟩, .fslice []]
def mapOf (σ : Sub) : Int → Option AV := fun n => (σ n).map Tm.av
/-- What a look at a variable finds. -/
def found : Option Tm → AV
  | some u => .tup [u.av, .bool true]
  | none => .tup [zt, .bool false]
/-- The bindings are there: the struct in block c, the map in block m; q is the list of what was bound. -/
structure SubAt (st : Store) (c m : Nat) (q : AV) (σ : Sub) : Prop where
  cells : st c = some (.cells [.map m, q])
  map : st m = some (.map (mapOf σ))
theorem SubAt.upd {st : Store} {c m b : Nat} {q : AV} {σ : Sub} {o : AO} (h : SubAt st c m q σ) (hb : st b = none) : SubAt (st.upd b o) c m q σ :=
  ⟨(by rw [Store.upd_ne _ _ (by rintro rfl; rw [h.cells] at hb; cases hb)]; exact h.cells), (by rw [Store.upd_ne _ _ (by rintro rfl; rw [h.map] at hb; cases hb)]; exact h.map)⟩
theorem SubAt.upd2 {st : Store} {c m b : Nat} {q : AV} {σ : Sub} {o : AO} (h : SubAt st c m q σ) (h1 : b ≠ c) (h2 : b ≠ m) : SubAt (st.upd b o) c m q σ :=
  ⟨(by rw [Store.upd_ne _ _ (Ne.symm h1)]; exact h.cells), by rw [Store.upd_ne _ _ (Ne.symm h2)]; exact h.map⟩
theorem SubAt.ne {st : Store} {c m b : Nat} {q : AV} {σ : Sub} (h : SubAt st c m q σ) (hb : st b = none) : b ≠ c ∧ b ≠ m := ⟨(by rintro rfl; rw [h.cells] at hb; cases hb), (by rintro rfl; rw [h.map] at hb; cases hb)⟩
/-! ### Which variables were met -/
def metOf (M : List Int) : Int → Option AV := fun x => if x ∈ M then some (.bool true) else none
end Go.AW

/- Unification: variables as they are met; the reference's list of bindings in memory. -/
namespace Go.AW
set_option linter.unusedSimpArgs false
set_option linter.unusedVariables false

/-! ### A list in memory, one element of it -/
theorem flat_mid {w : Nat} {l : List AV} {i : Nat} {e : AV} (hw : ∀ e ∈ l, e.width = w) (h : l[i]? = some e) :
    ∃ A B, l.flatMap AV.cells = A ++ e.cells ++ B ∧ A.length = i * w ∧ ∀ e', (l.set i e').flatMap AV.cells = A ++ e'.cells ++ B := by
  obtain ⟨hi, he⟩ := List.getElem?_eq_some_iff.1 h
  refine ⟨(l.take i).flatMap AV.cells, (l.drop (i + 1)).flatMap AV.cells, ?_, ?_, fun e' => ?_⟩
  · have : l = l.take i ++ e :: l.drop (i + 1) := by rw [← he, ← List.drop_eq_getElem_cons hi, List.take_append_drop]
    conv => lhs; rw [this]
    simp
  · rw [flat_length (fun e he => hw e (List.mem_of_mem_take he)), List.length_take, Nat.min_eq_left (by omega)]
  · rw [List.set_eq_take_append_cons_drop, if_pos hi]
    simp
def cellOf : Option Tm → AV
  | some u => u.av
  | none => zt
/-- The reference's bindings. -/
def arrS (σ : Sub) : List AV := (List.range 26).map fun i : Nat => cellOf (σ (i : Int))
theorem cellOf_width (o : Option Tm) : (cellOf o).width = 4 := by cases o <;> first | rfl | exact Tm.av_width _
theorem cellOf_cells (o : Option Tm) : (cellOf o).cells.length = 4 := by rw [cells_width, cellOf_width]
theorem arrS_widths (σ : Sub) : ∀ e ∈ arrS σ, e.width = 4 := by intro e h; simp only [arrS, List.mem_map] at h; obtain ⟨i, _, rfl⟩ := h; exact cellOf_width _
theorem arrS_get (σ : Sub) {i : Nat} (h : i < 26) : (arrS σ)[i]? = some (cellOf (σ (i : Int))) := by
  simp only [arrS, List.getElem?_map, List.getElem?_range h, Option.map_some]
theorem arrS_set (σ : Sub) {i : Nat} (h : i < 26) (u : Tm) : (arrS σ).set i u.av = arrS (σ.set (i : Int) u) := by
  apply List.ext_getElem?
  intro j
  by_cases hj : j < 26
  · rw [arrS_get _ hj, List.getElem?_set]
    by_cases e : i = j
    · subst e
      simp [arrS, hj, Sub.set, cellOf]
    · rw [if_neg e, arrS_get _ hj]
      simp only [Sub.set]
      rw [if_neg (by omega)]
  · rw [List.getElem?_eq_none (by simp [arrS]; omega), List.getElem?_eq_none (by simp [arrS]; omega)]
/-- The reference's bindings are there. -/
def ArrAt (st : Store) (b : Nat) (σ : Sub) : Prop := st b = some (.cells ((arrS σ).flatMap AV.cells))
theorem ArrAt.mid {st : Store} {b : Nat} {σ : Sub} (h : ArrAt st b σ) {i : Nat} (hi : i < 26) :
    ∃ A B, st b = some (.cells (A ++ (cellOf (σ (i : Int))).cells ++ B)) ∧ A.length = i * 4 ∧ ∀ (u : Tm), ArrAt (st.upd b (.cells (A ++ u.av.cells ++ B))) b (σ.set (i : Int) u) := by
  obtain ⟨A, B, h1, h2, h3⟩ := flat_mid (arrS_widths σ) (arrS_get σ hi)
  refine ⟨A, B, by rw [← h1]; exact h, h2, fun u => ?_⟩
  unfold ArrAt
  rw [Store.upd_same, ← arrS_set σ hi, h3]
theorem ArrAt.upd {st : Store} {b x : Nat} {σ : Sub} {o : AO} (h : ArrAt st b σ) (hx : x ≠ b) : ArrAt (st.upd x o) b σ := by
  unfold ArrAt
  rw [Store.upd_ne _ _ (Ne.symm hx)]
  exact h
end Go.AW

/- Unification either way: plain facts. -/
namespace Go.AW
set_option linter.unusedSimpArgs false
set_option linter.unusedVariables false

theorem sumL_map_le {f : Tm → Nat} {g : Tm → Tm} : ∀ {l : List Tm}, (∀ x ∈ l, f x ≤ f (g x)) → sumL f l ≤ sumL f (l.map g)
  | [], _ => Nat.le_refl _
  | x :: l, h => by
    have h1 := h x (by simp)
    have h2 := sumL_map_le (f := f) (g := g) (l := l) fun y hy => h y (by simp [hy])
    simp only [List.map_cons, sumL]
    omega
/-- What is replaced is not made smaller. -/
theorem nodes_le (f : Int → Tm) : ∀ t : Tm, t.cv = true → t.nodes ≤ (t.mapv f).nodes := by
  intro t
  induction t using Tm.ind with
  | h k n s ts ih =>
    intro h
    obtain ⟨h1, h2⟩ := Tm.cv_mk.1 h
    by_cases hk : k = 1
    · rw [Tm.mapv_var f hk, Tm.nodes_mk, (h1 hk).2]
      exact Tm.nodes_pos _
    · rw [Tm.mapv_mk f hk, Tm.nodes_mk, Tm.nodes_mk]
      have := sumL_map_le (f := Tm.nodes) (g := Tm.mapv f) fun x hx => ih x hx (h2 x hx)
      omega
theorem flat_le (f : Int → Tm) : ∀ (t : Tm) (d : Nat), t.cv = true → (t.mapv f).flat d = true → t.flat d = true := by
  intro t
  induction t using Tm.ind with
  | h k n s ts ih =>
    intro d h hf
    obtain ⟨h1, h2⟩ := Tm.cv_mk.1 h
    cases d with
    | zero => rw [Tm.flat_zero] at hf; cases hf
    | succ d =>
      by_cases hk : k = 1
      · rw [Tm.flat_succ, (h1 hk).2]; rfl
      · rw [Tm.mapv_mk f hk, Tm.flat_succ, List.all_map, List.all_eq_true] at hf
        rw [Tm.flat_succ, List.all_eq_true]
        exact fun x hx => ih x hx d (h2 x hx) (hf x hx)
theorem valid_le {f : Int → Tm} {t : Tm} (h : t.okA = true) (hv : (t.mapv f).valid = true) : t.valid = true := by
  have h1 := Tm.valid_okA hv
  rw [Tm.valid_iff h1, Bool.and_eq_true, decide_eq_true_eq] at hv
  rw [Tm.valid_iff h, Bool.and_eq_true, decide_eq_true_eq]
  exact ⟨flat_le f t 30 (Tm.okA_cv t h) hv.1, Nat.le_trans (nodes_le f t (Tm.okA_cv t h)) hv.2⟩
theorem Sol.none (θ : Int → Tm) : Sol θ Sub.none := fun n u h => by cases h
theorem Unif.free {a b : Tm} {r : Bool} {σ : Sub} {tr : List Int} (h : Unif a b r σ tr) {θ : Int → Tm} (e : a.mapv θ = b.mapv θ) : r = true ∧ Sol θ σ := h.uni.gen θ (Sol.none θ) (by simp [e])
/-- A larger solution is valid: so is this one. -/
theorem Unif.fits {a b : Tm} {r : Bool} {σ : Sub} {tr : List Int} (h : Unif a b r σ tr) {θ : Int → Tm} (S : Sol θ σ) (hv : ∀ n ∈ V25, (θ n).valid = true) : ((bindsOf σ).all fun x => x.2.valid) = true := by
  obtain ⟨rk, B, G⟩ := h.uni.good.rs
  rw [List.all_eq_true]
  intro x hx
  obtain ⟨i, u, hi, hs, rfl⟩ := bindsOf_mem hx
  have hV : (i : Int) ∈ V25 := mem_V25.2 ⟨by omega, by omega⟩
  show (u.mapv (rs σ)).valid = true
  rw [← G.bound hs]
  have e := G.factor S (i : Int)
  exact valid_le (f := θ) (G.okA h.okA i hV) (by rw [e]; exact hv i hV)
/-! ### Variants -/
/-- Numbered anew. -/
def renum (t : Tm) : Tm := t.mapv fun v => vr (idxI v (t.vars []) 0)
def renumL (l : List Tm) : List Tm := l.map fun t => t.mapv fun v => vr (idxI v (tmsVars l []) 0)
/-! ### Either way -/
end Go.AW

/- Goals that are built in: numbers. -/
namespace Go.AW
set_option linter.unusedSimpArgs false
set_option linter.unusedVariables false

def arNames : List ByteArray := [⟨#[43]⟩, ⟨#[45]⟩, ⟨#[42]⟩, ⟨#[47, 47]⟩, ⟨#[109, 111, 100]⟩]
def cmpNames : List ByteArray := [⟨#[60]⟩, ⟨#[62]⟩, ⟨#[61, 60]⟩, ⟨#[62, 61]⟩, ⟨#[61, 58, 61]⟩]
def inN (l : List ByteArray) (s : ByteArray) : Bool := l.any fun x => decide (s = x)
def ranged (n : Int) : Int × Int := if -999 ≤ n ∧ n ≤ 999 then (n, 0) else (0, 5)
/-- The remainder that has the sign of the divisor. -/
def fmodI (a b : Int) : Int := if a.tmod b ≠ 0 ∧ decide (a.tmod b < 0) ≠ decide (b < 0) then a.tmod b + b else a.tmod b
def arOp (s : ByteArray) (a b : Int) : Int × Int :=
  if s = ⟨#[43]⟩ then ranged (a + b) else if s = ⟨#[45]⟩ then ranged (a - b) else if s = ⟨#[42]⟩ then ranged (a * b) else if b = 0 then (0, 4) else if s = ⟨#[109, 111, 100]⟩ then (fmodI a b, 0) else (a.tdiv b, 0)
/-- Two values that are put together. -/
def both (f : Int → Int → Int × Int) (x y : Int × Int) : Int × Int := if x.2 ≠ 0 then (0, x.2) else if y.2 ≠ 0 then (0, y.2) else f x.1 y.1
def two (f : Int → Int → Int × Int) : List (Int × Int) → Int × Int
  | [x, y] => both f x y
  | _ => (0, 3)
mutual
/-- The value of a term, and a code. -/
def Tm.ev : Tm → Int × Int
  | .mk k n s ts => if k = 2 then (n, 0) else if k = 1 then (0, 2) else if inN arNames s = true then two (arOp s) (tmsEv ts) else (0, 3)
def tmsEv : List Tm → List (Int × Int)
  | [] => []
  | t :: ts => t.ev :: tmsEv ts
end
end Go.AW

/- Terms whose variables lie below a bound; unification from any bindings; renaming of variables. -/
namespace Go.AW
set_option linter.unusedSimpArgs false
set_option linter.unusedVariables false

/-- Well-formed, the variables below N. -/
def OkV (N : Int) (t : Tm) : Prop := (t.mapv fun _ => vr 0).okA = true ∧ t.cv = true ∧ ∀ v ∈ t.vl, 0 ≤ v ∧ v < N
theorem OkV.mono {N M : Int} {t : Tm} (h : OkV N t) (hm : N ≤ M) : OkV M t := ⟨h.1, h.2.1, fun v hv => ⟨(h.2.2 v hv).1, by have := (h.2.2 v hv).2; omega⟩⟩
theorem OkV.own {N k n : Int} {s : ByteArray} {ts : List Tm} (h : OkV N (.mk k n s ts)) (hk : k ≠ 1) : ownOk k n s ts.length = true ∧ ∀ x ∈ ts, OkV N x := by
  obtain ⟨h1, h2, h3⟩ := h
  rw [Tm.mapv_mk _ hk] at h1
  obtain ⟨h4, h5⟩ := Tm.okA_own h1
  rw [List.length_map] at h4
  exact ⟨h4, fun x hx => ⟨h5 _ (List.mem_map.2 ⟨x, hx, rfl⟩), (Tm.cv_mk.1 h2).2 x hx, fun v hv => h3 v ((Tm.vl_mk hk).2 ⟨x, hx, hv⟩)⟩⟩
theorem OkV.var {N n : Int} {s : ByteArray} {ts : List Tm} (h : OkV N (.mk 1 n s ts)) : 0 ≤ n ∧ n < N ∧ s = ⟨#[]⟩ ∧ ts = [] := by
  obtain ⟨_, h2, h3⟩ := h
  obtain ⟨h4, h5⟩ := (Tm.cv_mk.1 h2).1 rfl
  obtain ⟨h6, h7⟩ := h3 n (by rw [Tm.vl_var rfl]; simp)
  exact ⟨h6, h7, h4, h5⟩
theorem okV_kids (N : Int) : ∀ t : Tm, t.k ≠ 1 → OkV N t → ∀ x ∈ t.ts, OkV N x := fun t hk h x hx => by
  cases t
  exact (h.own hk).2 x hx
theorem OkV.kind {N k n : Int} {s : ByteArray} {ts : List Tm} (h : OkV N (.mk k n s ts)) : (k = 1 ∨ k = 2 ∨ k = 3) ∧ ts.length ≤ 4 := by
  by_cases hk : k = 1
  · subst hk
    rw [h.var.2.2.2]
    simp
  · have := ownOk_kind (h.own hk).1
    omega
theorem ownOk_int' {n : Int} {s : ByteArray} {len : Int} (h : ownOk 2 n s len = true) : -999 ≤ n ∧ n ≤ 999 := by
  simp [ownOk] at h
  omega
theorem OkV.all {N k n : Int} {s : ByteArray} {ts : List Tm} (h : OkV N (.mk k n s ts)) : (k = 2 → -999 ≤ n ∧ n ≤ 999) ∧ ∀ x ∈ ts, OkV N x := by
  by_cases hk : k = 1
  · subst hk
    rw [h.var.2.2.2]
    simp
  · obtain ⟨h1, h2⟩ := h.own hk
    refine ⟨fun h2 => ?_, h2⟩
    subst h2
    exact ownOk_int' h1
theorem OkV.small {N : Int} : ∀ {t : Tm}, OkV N t → t.small = true := by
  intro t
  induction t using Tm.ind with
  | h k n s ts ih =>
    intro h
    have h4 := h.kind.2
    simp only [Tm.small, tmsSmall_all, Bool.and_eq_true, decide_eq_true_eq, List.all_eq_true]
    refine ⟨by omega, fun x hx => ?_⟩
    by_cases hk : k = 1
    · subst hk; rw [h.var.2.2.2] at hx; cases hx
    · exact ih x hx ((h.own hk).2 x hx)
theorem OkV.mapv {N M : Int} {f : Int → Tm} {t : Tm} (h : OkV N t) (hf : ∀ v ∈ t.vl, OkV M (f v)) : OkV M (t.mapv f) := by
  induction t using Tm.ind with
  | h k n s ts ih =>
    by_cases hk : k = 1
    · rw [Tm.mapv_var f hk]; exact hf n (by rw [Tm.vl_var hk]; simp)
    · obtain ⟨h1, h2⟩ := h.own hk
      have key : ∀ x ∈ ts, OkV M (x.mapv f) := fun x hx => ih x hx (h2 x hx) fun v hv => hf v ((Tm.vl_mk hk).2 ⟨x, hx, hv⟩)
      rw [Tm.mapv_mk f hk]
      refine ⟨?_, Tm.cv_mk.2 ⟨fun h => absurd h hk, fun y hy => ?_⟩, fun v hv => ?_⟩
      · rw [Tm.mapv_mk _ hk, Tm.okA_mk, List.length_map, List.length_map, h1, Bool.true_and, List.all_eq_true]
        intro y hy
        simp only [List.map_map, List.mem_map, Function.comp_apply] at hy
        obtain ⟨x, hx, rfl⟩ := hy
        exact (key x hx).1
      · obtain ⟨x, hx, rfl⟩ := List.mem_map.1 hy
        exact (key x hx).2.1
      · obtain ⟨y, hy, hv⟩ := (Tm.vl_mk hk).1 hv
        obtain ⟨x, hx, rfl⟩ := List.mem_map.1 hy
        exact (key x hx).2.2 v hv
theorem okV_vr {N n : Int} (h0 : 0 ≤ n) (h1 : n < N) : OkV N (vr n) := by
  refine ⟨by rw [mapv_vr]; exact vr_okA (mem_V25.2 (by omega)), Tm.cv_mk.2 ⟨fun _ => ⟨rfl, rfl⟩, by simp⟩, fun v hv => ?_⟩
  rw [vl_vr] at hv
  simp only [List.mem_cons, List.not_mem_nil, or_false] at hv
  omega
theorem Good.okV {σ : Sub} {R : Int → Tm} {rk : Int → Nat} {B : Nat} (G : Good σ R rk B) {N : Int} (ho : AllS (OkV N) σ) : ∀ n, 0 ≤ n → n < N → OkV N (R n) := by
  refine fun n => G.ind (p := fun n => 0 ≤ n → n < N → OkV N (R n)) (fun n h h0 h1 => ?_) (fun n u h ih h0 h1 => ?_) n
  · rw [G.free h]; exact okV_vr h0 h1
  · rw [G.bound h]
    exact (ho n u h).mapv fun v hv => ih v hv ((ho n u h).2.2 v hv).1 ((ho n u h).2.2 v hv).2
theorem Good.okVT {σ : Sub} {R : Int → Tm} {rk : Int → Nat} {B : Nat} (G : Good σ R rk B) {N : Int} (ho : AllS (OkV N) σ) {t : Tm} (h : OkV N t) : OkV N (t.mapv R) :=
  h.mapv fun v hv => G.okV ho v (h.2.2 v hv).1 (h.2.2 v hv).2
/-- Well-formed and not too large. -/
def OkX (N : Int) (t : Tm) : Prop := OkV N t ∧ t.nodes ≤ 120
theorem OkX.mono {N M : Int} {t : Tm} (h : OkX N t) (hm : N ≤ M) : OkX M t := ⟨h.1.mono hm, h.2⟩
theorem AllS.okV {N : Int} {σ : Sub} (h : AllS (OkX N) σ) : AllS (OkV N) σ := fun n u e => (h n u e).1
/-! ### Unification from any bindings -/
open Classical in
noncomputable def uniG (σ : Sub) (a b : Tm) : Bool × Sub × List Int := if h : ∃ x g, uniF g σ a b = some x then h.choose else (false, σ, [])
theorem uniG_eq {g : Nat} {σ : Sub} {a b : Tm} {x : Bool × Sub × List Int} (h : uniF g σ a b = some x) : uniG σ a b = x := by
  unfold uniG
  have h' : ∃ x g, uniF g σ a b = some x := ⟨x, g, h⟩
  rw [dif_pos h']
  obtain ⟨g', h''⟩ := h'.choose_spec
  exact uniF_det h'' h
def VN (N : Nat) : List Int := (List.range N).map fun i : Nat => (i : Int)
structure UniG (N : Int) (σ : Sub) (a b : Tm) (r : Bool) (σ' : Sub) (tr : List Int) : Prop where
  run : ∃ g, uniF g σ a b = some (r, σ', tr)
  eq : uniG σ a b = (r, σ', tr)
  uni : Uni σ [a] [b] r σ' tr
  ok : AllS (OkX N) σ'
  inN : ∀ m ∈ tr, 0 ≤ m ∧ m < N
theorem UniG.out {N : Int} {σ : Sub} {a b : Tm} {r : Bool} {σ' : Sub} {tr : List Int} (h : UniG N σ a b r σ' tr) (n : Int) : (if n ∈ tr then none else σ' n) = σ n := by
  split
  · rename_i hn; exact ((h.uni.new n hn).1).symm
  · rename_i hn; exact h.uni.keep n hn

/-- The bindings without those of some variables. -/
def Sub.out (σ : Sub) (l : List Int) : Sub := fun n => if n ∈ l then Option.none else σ n
/-! ### Renaming -/
def ren (ρ : Int → Int) (t : Tm) : Tm := t.mapv fun v => vr (ρ v)
theorem ren_vr (ρ : Int → Int) (n : Int) : ren ρ (vr n) = vr (ρ n) := mapv_vr _ n
theorem ren_mk (ρ : Int → Int) {k n : Int} {s : ByteArray} {ts : List Tm} (h : k ≠ 1) : ren ρ (.mk k n s ts) = .mk k n s (ts.map (ren ρ)) := Tm.mapv_mk _ h
theorem ren_var (ρ : Int → Int) {t : Tm} (h : t.k = 1) : ren ρ t = vr (ρ t.n) := Tm.mapv_k1 _ h
theorem ren_ne (ρ : Int → Int) {t : Tm} (h : t.k ≠ 1) : ren ρ t = .mk t.k t.n t.s (t.ts.map (ren ρ)) := Tm.mapv_k _ h
theorem ren_k (ρ : Int → Int) (t : Tm) : (ren ρ t).k = t.k := by
  by_cases h : t.k = 1
  · rw [ren_var ρ h, h]; rfl
  · rw [ren_ne ρ h]; rfl
theorem ren_nodes (ρ : Int → Int) {t : Tm} (hc : t.cv = true) : (ren ρ t).nodes = t.nodes := by
  induction t using Tm.ind with
  | h k n s ts ih =>
    obtain ⟨h1, h2⟩ := Tm.cv_mk.1 hc
    by_cases hk : k = 1
    · obtain ⟨_, rfl⟩ := h1 hk
      rw [ren_var ρ (t := .mk k n s []) hk, vr, Tm.nodes_mk, Tm.nodes_mk]
    · rw [ren_mk ρ hk, Tm.nodes_mk, Tm.nodes_mk]
      congr 1
      have : ∀ l : List Tm, (∀ x ∈ l, x ∈ ts) → sumL Tm.nodes (l.map (ren ρ)) = sumL Tm.nodes l := by
        intro l
        induction l with
        | nil => intro _; rfl
        | cons x l ihl => intro h; simp only [List.map_cons, sumL]; rw [ih x (h x (by simp)) (h2 x (h x (by simp))), ihl fun y hy => h y (by simp [hy])]
      exact this ts fun _ h => h
theorem vl_ren {ρ : Int → Int} {t : Tm} {w : Int} : w ∈ (ren ρ t).vl ↔ ∃ v ∈ t.vl, w = ρ v := by
  unfold ren
  rw [vl_mapv]
  simp only [vl_vr, List.mem_cons, List.not_mem_nil, or_false]
theorem ren_mapv (ρ : Int → Int) (f : Int → Tm) (t : Tm) : (ren ρ t).mapv f = t.mapv fun v => f (ρ v) := by
  unfold ren
  rw [mapv_mapv]
  exact mapv_congr t fun v _ => mapv_vr f (ρ v)
theorem mapv_ren (ρ : Int → Int) (f : Int → Tm) (t : Tm) : ren ρ (t.mapv f) = t.mapv fun v => ren ρ (f v) := by
  unfold ren
  rw [mapv_mapv]
theorem OkV.ren {N M : Int} {ρ : Int → Int} {t : Tm} (h : OkV N t) (hr : ∀ v ∈ t.vl, 0 ≤ ρ v ∧ ρ v < M) : OkV M (AW.ren ρ t) := h.mapv fun v hv => okV_vr (hr v hv).1 (hr v hv).2
theorem OkX.ren {N M : Int} {ρ : Int → Int} {t : Tm} (h : OkX N t) (hr : ∀ v ∈ t.vl, 0 ≤ ρ v ∧ ρ v < M) : OkX M (AW.ren ρ t) := ⟨h.1.ren hr, by rw [ren_nodes ρ h.1.2.1]; exact h.2⟩

/-- The same bindings by other names. -/
structure Sim (ρ : Int → Int) (N : Int) (σ τ : Sub) : Prop where
  inj : ∀ v w, 0 ≤ v → v < N → 0 ≤ w → w < N → ρ v = ρ w → v = w
  map : ∀ v, 0 ≤ v → v < N → τ (ρ v) = (σ v).map (ren ρ)
section
variable {ρ : Int → Int} {N : Int} {σ τ : Sub}
theorem Sim.wk (S : Sim ρ N σ τ) (ho : AllS (OkV N) σ) {f : Nat} {t u : Tm} (h : WkN σ f t u) : OkV N t → WkN τ f (ren ρ t) (ren ρ u) := by
  induction h with
  | @stop t h =>
    intro ht
    refine .stop fun hk => ?_
    rw [ren_k] at hk
    have hr := ht.2.2 t.n (by rw [Tm.vl_k1 hk]; simp)
    rw [ren_var ρ hk]
    show τ (ρ t.n) = none
    rw [S.map _ hr.1 hr.2, h hk]; rfl
  | @go f t u v h1 h2 _ ih =>
    intro ht
    have hr := ht.2.2 t.n (by rw [Tm.vl_k1 h1]; simp)
    refine .go (u := ren ρ u) (by rw [ren_k]; exact h1) ?_ (ih (ho _ _ h2))
    rw [ren_var ρ h1]
    show τ (ρ t.n) = _
    rw [S.map _ hr.1 hr.2, h2]; rfl
theorem Sim.rs (S : Sim ρ N σ τ) (hg : IsGood σ) (hg' : IsGood τ) (ho : AllS (OkV N) σ) : ∀ v, 0 ≤ v → v < N → rs τ (ρ v) = ren ρ (rs σ v) := by
  obtain ⟨rk, B, G⟩ := hg.rs
  obtain ⟨rk', B', G'⟩ := hg'.rs
  refine fun v => G.ind (p := fun v => 0 ≤ v → v < N → AW.rs τ (ρ v) = ren ρ (AW.rs σ v)) (fun v h h0 h1 => ?_) (fun v u h ih h0 h1 => ?_) v
  · rw [G.free h, ren_vr, G'.free (by rw [S.map v h0 h1, h]; rfl)]
  · rw [G.bound h, mapv_ren, G'.bound (u := ren ρ u) (by rw [S.map v h0 h1, h]; rfl), ren_mapv]
    refine mapv_congr u fun w hw => ?_
    have := (ho v u h).2.2 w hw
    exact ih w hw this.1 this.2
theorem Sim.rsT (S : Sim ρ N σ τ) (hg : IsGood σ) (hg' : IsGood τ) (ho : AllS (OkV N) σ) {t : Tm} (ht : OkV N t) : (ren ρ t).mapv (AW.rs τ) = ren ρ (t.mapv (AW.rs σ)) := by
  rw [ren_mapv, mapv_ren]
  exact mapv_congr t fun v hv => S.rs hg hg' ho v (ht.2.2 v hv).1 (ht.2.2 v hv).2
theorem Sim.mem (S : Sim ρ N σ τ) {t : Tm} (ht : OkV N t) {n : Int} (h0 : 0 ≤ n) (h1 : n < N) : ρ n ∈ (ren ρ t).vl ↔ n ∈ t.vl := by
  rw [vl_ren]
  constructor
  · rintro ⟨v, hv, e⟩
    rw [S.inj n v h0 h1 (ht.2.2 v hv).1 (ht.2.2 v hv).2 e]; exact hv
  · exact fun h => ⟨n, h, rfl⟩
theorem Sim.set (S : Sim ρ N σ τ) {n : Int} (h0 : 0 ≤ n) (h1 : n < N) (t : Tm) : Sim ρ N (σ.set n t) (τ.set (ρ n) (ren ρ t)) := by
  refine ⟨S.inj, fun v hv0 hv1 => ?_⟩
  unfold Sub.set
  by_cases h : v = n
  · subst h; simp
  · rw [if_neg (fun e => h (S.inj v n hv0 hv1 h0 h1 e)), if_neg h, S.map v hv0 hv1]
theorem Sim.bnd (S : Sim ρ N σ τ) (hg : IsGood σ) (hg' : IsGood τ) (ho : AllS (OkV N) σ) {n : Int} (h0 : 0 ≤ n) (h1 : n < N) {t : Tm} (ht : OkV N t) {r : Bool} {σ' : Sub} {tr : List Int} (h : bnd σ n t = (r, σ', tr)) :
    ∃ τ', AW.bnd τ (ρ n) (ren ρ t) = (r, τ', tr.map ρ) ∧ Sim ρ N σ' τ' := by
  obtain ⟨rk, B, G⟩ := hg.rs
  have e := S.mem (G.okVT ho ht) h0 h1
  rw [← S.rsT hg hg' ho ht] at e
  unfold AW.bnd at h ⊢
  by_cases hm : n ∈ (t.mapv (AW.rs σ)).vl
  · rw [if_pos hm] at h
    rw [if_pos (e.2 hm)]
    cases h
    exact ⟨τ, rfl, S⟩
  · rw [if_neg hm] at h
    rw [if_neg (fun h => hm (e.1 h))]
    cases h
    exact ⟨_, rfl, S.set h0 h1 t⟩
theorem headEq_ren {a b : Tm} (ha : a.k ≠ 1) (hb : b.k ≠ 1) : headEq (ren ρ a) (ren ρ b) = headEq a b := by
  obtain ⟨k, n, s, ts⟩ := a
  obtain ⟨k', n', s', ts'⟩ := b
  simp only [Tm.k] at ha hb
  rw [ren_mk ρ ha, ren_mk ρ hb, Bool.eq_iff_iff, headEq_iff, headEq_iff]
  simp only [Tm.k, Tm.n, Tm.s, Tm.ts, List.length_map]
theorem Sim.wkEq (S : Sim ρ N σ τ) (hg : IsGood σ) (ho : AllS (OkV N) σ) {t : Tm} (ht : OkV N t) : AW.wk τ (ren ρ t) = ren ρ (AW.wk σ t) := by
  obtain ⟨rk, B, G⟩ := hg.rs
  obtain ⟨f, h⟩ := G.wk t
  exact (S.wk ho h ht).wk
theorem uni_sim (ρ : Int → Int) (N : Int) : ∀ g : Nat, (∀ (σ τ : Sub) (a b : Tm) (r : Bool) (σ' : Sub) (tr : List Int), IsGood σ → IsGood τ → AllS (OkV N) σ → OkV N a → OkV N b → Sim ρ N σ τ → uniF g σ a b = some (r, σ', tr) → ∃ τ', uniF g τ (ren ρ a) (ren ρ b) = some (r, τ', tr.map ρ) ∧ Sim ρ N σ' τ') ∧
    (∀ (xs ys : List Tm) (σ τ : Sub) (r : Bool) (σ' : Sub) (tr : List Int), IsGood σ → IsGood τ → AllS (OkV N) σ → (∀ x ∈ xs, OkV N x) → (∀ y ∈ ys, OkV N y) → Sim ρ N σ τ → unisF g σ xs ys = some (r, σ', tr) → ∃ τ', unisF g τ (xs.map (ren ρ)) (ys.map (ren ρ)) = some (r, τ', tr.map ρ) ∧ Sim ρ N σ' τ') := by
  intro g
  induction g with
  | zero =>
    refine ⟨fun σ τ a b r σ' tr _ _ _ _ _ _ h => (by simp only [uniF] at h; cases h), ?_⟩
    intro xs ys σ τ r σ' tr _ _ _ _ _ S h
    match xs, ys with
    | [], _ => simp only [unisF, Option.some.injEq, Prod.mk.injEq] at h; obtain ⟨rfl, rfl, rfl⟩ := h; exact ⟨τ, by simp only [List.map_nil, unisF], S⟩
    | x :: xs, [] => simp only [unisF, Option.some.injEq, Prod.mk.injEq] at h; obtain ⟨rfl, rfl, rfl⟩ := h; exact ⟨τ, by simp only [List.map_cons, List.map_nil, unisF], S⟩
    | x :: xs, y :: ys => simp only [unisF, uniF] at h; cases h
  | succ g ih =>
    have one : ∀ (σ τ : Sub) (a b : Tm) (r : Bool) (σ' : Sub) (tr : List Int), IsGood σ → IsGood τ → AllS (OkV N) σ → OkV N a → OkV N b → Sim ρ N σ τ → uniF (g + 1) σ a b = some (r, σ', tr) → ∃ τ', uniF (g + 1) τ (ren ρ a) (ren ρ b) = some (r, τ', tr.map ρ) ∧ Sim ρ N σ' τ' := by
      intro σ τ a b r σ' tr hg hg' ho ha hb S h
      obtain ⟨rk, B, G⟩ := hg.rs
      obtain ⟨fa, wa⟩ := G.wk a
      obtain ⟨fb, wb⟩ := G.wk b
      have oa := wa.all (p := OkV N) ho ha
      have ob := wb.all (p := OkV N) ho hb
      have ea := S.wkEq hg ho ha
      have eb := S.wkEq hg ho hb
      have h := uniF_cases h
      generalize AW.wk σ a = a1 at *
      generalize AW.wk σ b = b1 at *
      rw [uniF, ea, eb, ren_k, ren_k]
      have rng : ∀ {t : Tm}, OkV N t → t.k = 1 → 0 ≤ t.n ∧ t.n < N := fun ht hk => ht.2.2 _ (by rw [Tm.vl_k1 hk]; simp)
      have nn : ∀ {t : Tm}, t.k = 1 → (ren ρ t).n = ρ t.n := fun hk => by rw [ren_var ρ hk]; rfl
      rcases h with ⟨h1, h2, h3, rfl, rfl, rfl⟩ | ⟨h1, h2, h3⟩ | ⟨h1, h2, h3⟩ | ⟨h1, h2, h3, h4⟩ | ⟨h1, h2, h3, rfl, rfl, rfl⟩
      · exact ⟨τ, by rw [if_pos ⟨h1, h2, by rw [nn h1, nn h2, h3]⟩]; rfl, S⟩
      · have ra := rng oa h1
        obtain ⟨τ', e, S'⟩ := S.bnd hg hg' ho ra.1 ra.2 ob h3
        refine ⟨τ', ?_, S'⟩
        rw [if_neg, if_pos h1, nn h1, e]
        rintro ⟨_, h5, h6⟩
        have rb := rng ob h5
        rw [nn h1, nn h5] at h6
        exact h2 ⟨h5, S.inj _ _ ra.1 ra.2 rb.1 rb.2 h6⟩
      · have rb := rng ob h2
        obtain ⟨τ', e, S'⟩ := S.bnd hg hg' ho rb.1 rb.2 oa h3
        refine ⟨τ', ?_, S'⟩
        rw [if_neg (fun h => h1 h.1), if_neg h1, if_pos h2, nn h2, e]
      · obtain ⟨τ', e, S'⟩ := ih.2 a1.ts b1.ts σ τ r σ' tr hg hg' ho (okV_kids N a1 h1 oa) (okV_kids N b1 h2 ob) S h4
        refine ⟨τ', ?_, S'⟩
        rw [if_neg (fun h => h1 h.1), if_neg h1, if_neg h2, if_pos (by rw [headEq_ren h1 h2]; exact h3), ren_ne ρ h1, ren_ne ρ h2]
        exact e
      · refine ⟨τ, ?_, S⟩
        rw [if_neg (fun h => h1 h.1), if_neg h1, if_neg h2, if_neg (by rw [headEq_ren h1 h2, h3]; simp)]
        rfl
    refine ⟨one, ?_⟩
    intro xs
    induction xs with
    | nil =>
      intro ys σ τ r σ' tr _ _ _ _ _ S h
      simp only [unisF, Option.some.injEq, Prod.mk.injEq] at h; obtain ⟨rfl, rfl, rfl⟩ := h; exact ⟨τ, by simp only [List.map_nil, unisF], S⟩
    | cons x xs ihx =>
      intro ys σ τ r σ' tr hg hg' ho hx hy S h
      cases ys with
      | nil => simp only [unisF, Option.some.injEq, Prod.mk.injEq] at h; obtain ⟨rfl, rfl, rfl⟩ := h; exact ⟨τ, by simp only [List.map_cons, List.map_nil, unisF], S⟩
      | cons y ys =>
        rw [unisF] at h
        simp only [List.map_cons]
        rw [unisF]
        cases hu : uniF (g + 1) σ x y with
        | none => rw [hu] at h; cases h
        | some p =>
          obtain ⟨r1, σ1, tr1⟩ := p
          rw [hu] at h
          obtain ⟨τ1, e1, S1⟩ := one σ τ x y r1 σ1 tr1 hg hg' ho (hx x (by simp)) (hy y (by simp)) S hu
          rw [e1]
          cases r1 with
          | false =>
            simp only [Option.some.injEq, Prod.mk.injEq] at h ⊢
            obtain ⟨rfl, rfl, rfl⟩ := h
            exact ⟨τ1, ⟨rfl, rfl, rfl⟩, S1⟩
          | true =>
            simp only at h ⊢
            cases hu2 : unisF (g + 1) σ1 xs ys with
            | none => rw [hu2] at h; cases h
            | some p2 =>
              obtain ⟨r2, σ2, tr2⟩ := p2
              rw [hu2] at h
              simp only [Option.some.injEq, Prod.mk.injEq] at h
              obtain ⟨rfl, rfl, rfl⟩ := h
              have U1 := uniF_uni hg hu
              have U1' := uniF_uni hg' e1
              have ho1 := (uni_all (okV_kids N) (g + 1)).1 σ x y true σ1 tr1 hg hu ho (hx x (by simp)) (hy y (by simp))
              obtain ⟨τ2, e2, S2⟩ := ihx ys σ1 τ1 r2 σ2 tr2 U1.good U1'.good ho1 (fun z hz => hx z (by simp [hz])) (fun z hz => hy z (by simp [hz])) S1 hu2
              rw [e2]
              exact ⟨τ2, by simp only [List.map_append], S2⟩
/-- Unification by other names. -/
theorem Sim.uniG (S : Sim ρ N σ τ) (hg : IsGood σ) (hg' : IsGood τ) (ho : AllS (OkV N) σ) {a b : Tm} (ha : OkV N a) (hb : OkV N b) {r : Bool} {σ' : Sub} {tr : List Int} {g : Nat} (h : uniF g σ a b = some (r, σ', tr)) :
    ∃ τ', AW.uniG τ (ren ρ a) (ren ρ b) = (r, τ', tr.map ρ) ∧ Sim ρ N σ' τ' ∧ IsGood τ' := by
  obtain ⟨τ', e, S'⟩ := (uni_sim ρ N g).1 σ τ a b r σ' tr hg hg' ho ha hb S h
  exact ⟨τ', uniG_eq e, S', (uniF_uni hg' e).good⟩
end
end Go.AW


/- Goals that are built in: numbers, walked. -/
namespace Go.AW
open Go.Proofs.Try
set_option linter.unusedSimpArgs false
set_option maxRecDepth 100000

def InR (n : Int) : Prop := -999 ≤ n ∧ n ≤ 999
end Go.AW


/- Variables of terms: what the program's functions return. -/
namespace Go.AW
open Go.Proofs.Try
set_option linter.unusedSimpArgs false
set_option maxRecDepth 100000

/-- What a list of numbers that grows has become. -/
def Grown (st : Store) (l : List Int) (r : AV) (st' : Store) : Prop := ∃ b', r = accV 1 b' (l.map iv) ∧ st' = accS st b' (l.map iv) ∧ (l.map iv ≠ [] → st b' = none)

end Go.AW


/- Variables of lists of terms: what the functions return. -/
namespace Go.AW
open Go.Proofs.Try
set_option linter.unusedSimpArgs false
set_option maxRecDepth 100000

end Go.AW


/- The reference's bindings: walking. -/
namespace Go.AW
open Go.Proofs.Try
set_option linter.unusedSimpArgs false
set_option maxRecDepth 100000

abbrev OkA (t : Tm) : Prop := t.okA = true
theorem arr_reads {A C B : List AV} {n : Nat} (hA : A.length = n) (hC : C.length = 4) :
    (n + 4 ≤ (A ++ C ++ B).length) ∧ List.take 4 (List.drop n (A ++ C ++ B)) = C ∧ (A ++ C ++ B)[n + 0]? = C[0]? := by
  refine ⟨by simp only [List.length_append]; omega, ?_, (midE (A := A) (B := B) hA).2.2.1 C 0 (by omega)⟩
  rw [← hA, List.append_assoc, List.drop_left, ← hC, List.take_left]
/-- One place of the reference's bindings, as it is read. -/
theorem ArrAt.none {st : Store} {b : Nat} {σ : Sub} (h : ArrAt st b σ) {i : Nat} (hi : i < 26) (hn : σ (i : Int) = Option.none) :
    ∃ D, st b = some (.cells D) ∧ D[i * 4 + 0]? = some (.int .i64 0) ∧ i * 4 + 4 ≤ D.length := by
  obtain ⟨A, B, e1, e2, _⟩ := h.mid hi
  rw [hn] at e1
  obtain ⟨r1, r2, r3⟩ := arr_reads (B := B) (C := (cellOf Option.none).cells) e2 rfl
  exact ⟨_, e1, r3, r1⟩
theorem ArrAt.some {st : Store} {b : Nat} {σ : Sub} (h : ArrAt st b σ) {i : Nat} (hi : i < 26) {k n : Int} {s : ByteArray} {ts : List Tm} (hn : σ (i : Int) = Option.some (.mk k n s ts)) :
    ∃ D, st b = Option.some (.cells D) ∧ D[i * 4 + 0]? = Option.some (.int .i64 k) ∧ i * 4 + 4 ≤ D.length ∧ List.take 4 (List.drop (i * 4) D) = [.int .i64 k, .int .i64 n, .str s, .slice (ts.map Tm.av)] := by
  obtain ⟨A, B, e1, e2, _⟩ := h.mid hi
  rw [hn] at e1
  simp only [cellOf, Tm.av_mk, AV.cells] at e1
  obtain ⟨r1, r2, r3⟩ := arr_reads (B := B) (C := [.int .i64 k, .int .i64 n, .str s, .slice (ts.map Tm.av)]) e2 rfl
  exact ⟨_, e1, r3, r1, r2⟩
theorem ArrAt.set {st : Store} {b : Nat} {σ : Sub} (h : ArrAt st b σ) {i : Nat} (hi : i < 26) (u : Tm) :
    ∃ D D', st b = Option.some (.cells D) ∧ i * 4 + 4 ≤ D.length ∧ setCells D (i * 4) u.av.cells = D' ∧ ArrAt (st.upd b (.cells D')) b (σ.set (i : Int) u) := by
  obtain ⟨A, B, e1, e2, e3⟩ := h.mid hi
  obtain ⟨p1, p2⟩ := partE (B := B) (C := (cellOf (σ (i : Int))).cells) (x := u.av.cells) e2 (cellOf_cells _) (Tm.av_cells u)
  exact ⟨_, _, e1, p2, p1, e3 u⟩

theorem ArrAt.acc {st : Store} {b bW : Nat} {σ : Sub} {l : List AV} (h : ArrAt st b σ) (hb : l ≠ [] → st bW = Option.none) : ArrAt (accS st bW l) b σ := by
  cases l with
  | nil => exact h
  | cons x l => exact h.upd (by rintro rfl; rw [ArrAt, hb (by simp)] at h; cases h)
abbrev OkN (t : Tm) : Prop := t.okA = true ∧ t.nodes ≤ 120
theorem okN_kids : ∀ t : Tm, t.k ≠ 1 → OkN t → ∀ x ∈ t.ts, OkN x := fun t hk h x hx => by
  refine ⟨okA_kids t hk h.1 x hx, ?_⟩
  have h2 := h.2
  cases t
  rw [Tm.nodes_mk] at h2
  have := sumL_mem (f := Tm.nodes) hx
  simp only [Tm.ts] at this
  omega

end Go.AW

/- Goals that are built in: what they come to. -/
namespace Go.AW
set_option linter.unusedSimpArgs false
set_option linter.unusedVariables false

/-- A number as a term. -/
def itm (n : Int) : Tm := .mk 2 n ⟨#[]⟩ []
def codeB (b : Bool) : Int := if b = true then 0 else 1
def cmpH (s : ByteArray) (a b : Int) : Bool :=
  if s = ⟨#[60]⟩ then decide (a < b) else if s = ⟨#[62]⟩ then decide (b < a) else if s = ⟨#[61, 60]⟩ then decide (a ≤ b) else if s = ⟨#[62, 61]⟩ then decide (b ≤ a) else decide (a = b)
noncomputable def uniC (a b : Tm) : Int × Sub := (codeB (uniR a b).1, (uniR a b).2.1)
def testB (s : ByteArray) (x : Tm) : Bool :=
  if s = ⟨#[118, 97, 114]⟩ then decide (x.k = 1) else if s = ⟨#[110, 111, 110, 118, 97, 114]⟩ then !decide (x.k = 1) else if s = ⟨#[97, 116, 111, 109]⟩ then decide (x.k = 3) && decide ((x.ts.length : Int) = 0) else decide (x.k = 2)
def cmpC (s : ByteArray) (x y : Tm) : Int := (both (fun a b => (0, codeB (cmpH s a b))) x.ev y.ev).2
def argT (x y : Tm) : Option Tm := if 1 ≤ x.n ∧ x.n ≤ y.ts.length then y.ts[(x.n - 1).toNat]? else none
noncomputable def argC (x y z : Tm) : Int × Sub :=
  if x.k = 1 ∨ y.k = 1 then (2, Sub.none) else if x.k ≠ 2 ∨ y.k ≠ 3 ∨ y.ts.length = 0 then (3, Sub.none) else match argT x y with
    | some u => uniC z u
    | none => (1, Sub.none)
noncomputable def solveB (s : ByteArray) : List Tm → Int × Sub
  | [] => (codeB (decide (s = ⟨#[116, 114, 117, 101]⟩)), Sub.none)
  | [x] => (codeB (testB s x), Sub.none)
  | [x, y] => if inN cmpNames s = true then (cmpC s x y, Sub.none) else if s = ⟨#[61]⟩ then uniC x y else if s = ⟨#[92, 61]⟩ then (codeB (!(uniR x y).1), Sub.none)
    else if s = ⟨#[61, 61]⟩ then (codeB (x.same y), Sub.none) else if y.ev.2 ≠ 0 then (y.ev.2, Sub.none) else uniC x (itm y.ev.1)
  | [x, y, z] => argC x y z
  | _ => (0, Sub.none)

/-- What is bound in the end. -/
structure SolB (σ : Sub) : Prop where
  good : IsGood σ
  okA : AllS (fun t => t.okA = true) σ
  okN : AllS OkN σ
theorem SolB.none : SolB Sub.none := ⟨IsGood.none, fun n u h => (by cases h), fun n u h => (by cases h)⟩
theorem SolB.uni {a b : Tm} (ha : a.valid = true) (hb : b.valid = true) : SolB (uniR a b).2.1 := by
  obtain ⟨r, σ, tr, h, e⟩ := unif_of ha hb
  rw [e]
  obtain ⟨g, hg⟩ := h.run
  exact ⟨h.uni.good, h.okA, (uni_all okN_kids g).1 Sub.none a b r σ tr IsGood.none hg (fun n u h => by cases h) ⟨Tm.valid_okA ha, Tm.valid_nodes ha⟩ ⟨Tm.valid_okA hb, Tm.valid_nodes hb⟩⟩
end Go.AW

/- The store of bindings in memory: what was bound, in order; steps. -/
namespace Go.AW
set_option linter.unusedSimpArgs false
set_option linter.unusedVariables false

/-- The block of a list that is held. -/
def tbk : AV → List Nat
  | .mslice b _ _ _ => [b]
  | _ => []
def Trail (st : Store) (q : AV) (tr : List Int) : Prop :=
  (q = .fslice [] ∧ tr = []) ∨ ∃ b cs, q = .mslice b 0 tr.length 1 ∧ st b = some (.cells cs) ∧ cs.take tr.length = tr.map iv
structure Sto (st : Store) (c m : Nat) (q : AV) (σ : Sub) (tr : List Int) : Prop where
  sub : SubAt st c m q σ
  trail : Trail st q tr
  apart : c ∉ tbk q
/-- From one store to a later one: only the struct, the map and the list's block have turned. -/
structure StepQ (c m : Nat) (st : Store) (q : AV) (st' : Store) (q' : AV) : Prop where
  frame : ∀ b o, st b = some o → b ≠ c → b ≠ m → b ∉ tbk q → st' b = some o
  fresh : ∀ b ∈ tbk q', b ∈ tbk q ∨ st b = none
def Post (c m : Nat) (st : Store) (q : AV) (σ' : Sub) (tr' : List Int) (st' : Store) : Prop := ∃ q', Sto st' c m q' σ' tr' ∧ StepQ c m st q st' q'

theorem StepQ.refl (c m : Nat) (st : Store) (q : AV) : StepQ c m st q st q := ⟨fun _ _ h _ _ _ => h, fun _ h => .inl h⟩
theorem StepQ.trans {c m : Nat} {st st' st'' : Store} {q q' q'' : AV} {σ : Sub} {tr : List Int} (x : StepQ c m st q st' q') (hS : Sto st' c m q' σ tr) (y : StepQ c m st' q' st'' q'') : StepQ c m st q st'' q'' := by
  refine ⟨fun b o h h1 h2 h3 => ?_, fun b hb => ?_⟩
  · refine y.frame b o (x.frame b o h h1 h2 h3) h1 h2 fun h4 => ?_
    rcases x.fresh b h4 with h5 | h5
    · exact h3 h5
    · rw [h5] at h; cases h
  · rcases y.fresh b hb with h | h
    · exact x.fresh b h
    · by_cases h1 : b ∈ tbk q
      · exact .inl h1
      · refine .inr ?_
        cases hst : st b with
        | none => rfl
        | some o =>
          exfalso
          by_cases hc : b = c
          · subst hc; rw [hS.sub.cells] at h; cases h
          · by_cases hm : b = m
            · subst hm; rw [hS.sub.map] at h; cases h
            · rw [x.frame b o hst hc hm h1] at h; cases h
theorem Sto.tb_some {st : Store} {c m : Nat} {q : AV} {σ : Sub} {tr : List Int} (h : Sto st c m q σ tr) : ∀ b ∈ tbk q, ∃ cs, st b = some (.cells cs) := by
  intro b hb
  rcases h.trail with ⟨rfl, _⟩ | ⟨b', cs, rfl, hb', _⟩
  · simp [tbk] at hb
  · simp only [tbk, List.mem_cons, List.not_mem_nil, or_false] at hb; subst hb; exact ⟨cs, hb'⟩
/-- Blocks beside it. -/
theorem Sto.upd {st : Store} {c m b : Nat} {q : AV} {σ : Sub} {tr : List Int} {o : AO} (h : Sto st c m q σ tr) (h1 : b ≠ c) (h2 : b ≠ m) (h3 : b ∉ tbk q) : Sto (st.upd b o) c m q σ tr := by
  refine ⟨h.sub.upd2 h1 h2, ?_, h.apart⟩
  rcases h.trail with h4 | ⟨b', cs, e1, e2, e3⟩
  · exact .inl h4
  · refine .inr ⟨b', cs, e1, ?_, e3⟩
    rw [Store.upd_ne _ _ (by rintro rfl; exact h3 (by rw [e1]; simp [tbk]))]
    exact e2
theorem Sto.upd0 {st : Store} {c m b : Nat} {q : AV} {σ : Sub} {tr : List Int} {o : AO} (h : Sto st c m q σ tr) (hb : st b = none) : Sto (st.upd b o) c m q σ tr :=
  h.upd (h.sub.ne hb).1 (h.sub.ne hb).2 fun h3 => by obtain ⟨cs, e⟩ := h.tb_some b h3; rw [hb] at e; cases e
theorem StepQ.upd0 {c m b : Nat} {st : Store} {q : AV} {o : AO} (hb : st b = none) : StepQ c m st q (st.upd b o) q :=
  ⟨fun x p h _ _ _ => by rw [Store.upd_ne _ _ (by rintro rfl; rw [hb] at h; cases h)]; exact h, fun _ h => .inl h⟩
theorem Sto.shape {st : Store} {c m : Nat} {q : AV} {σ : Sub} {tr : List Int} (h : Sto st c m q σ tr) : q.isAgg = false ∧ q.width = 1 ∧ q.isJunk = false ∧ q.cells = [q] ∧ q.storable = true := by
  rcases h.trail with ⟨rfl, _⟩ | ⟨b', cs, rfl, _⟩ <;> exact ⟨rfl, rfl, rfl, rfl, rfl⟩

theorem Post.from {c m : Nat} {st s0 st' : Store} {q q0 : AV} {σ σ' : Sub} {tr tr' : List Int} (h : Post c m s0 q0 σ' tr' st') (x : StepQ c m st q s0 q0) (hS : Sto s0 c m q0 σ tr) : Post c m st q σ' tr' st' := by
  obtain ⟨q', h1, h2⟩ := h
  exact ⟨q', h1, x.trans hS h2⟩
end Go.AW


/- The program's store of bindings: walking. -/
namespace Go.AW
open Go.Proofs.Try
set_option linter.unusedSimpArgs false
set_option maxRecDepth 100000

end Go.AW


/- The program's store of bindings: does a variable occur. -/
namespace Go.AW
open Go.Proofs.Try
set_option linter.unusedSimpArgs false
set_option maxRecDepth 100000

/-- What a look for a variable leaves. -/
def Occ (R : Int → Tm) (n : Int) (t : Tm) (st : Store) (mm : Nat) (M : List Int) (r : AV) (st' : Store) : Prop :=
  r = .bool (decide (n ∈ (t.mapv R).vl)) ∧ ∃ M', st' = st.upd mm (.map (metOf M')) ∧ (n ∉ (t.mapv R).vl → ∀ v ∈ M', v ∈ M ∨ n ∉ (R v).vl)

end Go.AW


/- The program's store of bindings: a binding, unification. -/
namespace Go.AW
open Go.Proofs.Try
set_option linter.unusedSimpArgs false
set_option maxRecDepth 100000

end Go.AW


/- The program's store of bindings: unification. -/
namespace Go.AW
open Go.Proofs.Try
set_option linter.unusedSimpArgs false
set_option maxRecDepth 100000

abbrev Sm (t : Tm) : Prop := t.small = true
end Go.AW


/- What was bound is taken back. -/
namespace Go.AW
open Go.Proofs.Try
set_option linter.unusedSimpArgs false
set_option maxRecDepth 100000

end Go.AW


/- The program's store of bindings: what a term stands for. -/
namespace Go.AW
open Go.Proofs.Try
set_option linter.unusedSimpArgs false
set_option maxRecDepth 100000

/-- What resolving leaves: the term, or nothing if it is too large. -/
def Rsv (v : Tm) (D : Nat) (cnt cb : Nat) (st : Store) (r : AV) (st' : Store) : Prop :=
  ∃ cnt' : Nat, cnt' ≤ 121 ∧ st' = st.upd cb (.cells [.int .i64 cnt']) ∧
    if v.flat D = true ∧ cnt + v.nodes ≤ 120 then r = .tup [v.av, .bool true] ∧ cnt' = cnt + v.nodes else r = .tup [Tm.zero.av, .bool false]

abbrev Cv (t : Tm) : Prop := t.cv = true
end Go.AW


/- The program's unification of terms. -/
namespace Go.AW
open Go.Proofs.Try
set_option linter.unusedSimpArgs false
set_option maxRecDepth 100000

/-- What is resolved, if it is not too large. -/
def optR (v : Tm) : AV := if v.flat 30 = true ∧ v.nodes ≤ 120 then .tup [v.av, .bool true] else .tup [Tm.zero.av, .bool false]

/-- The bindings of the first variables. -/
noncomputable def bindsTo (σ : Sub) (i : Nat) : List Bd := (List.range i).filterMap fun i : Nat => (σ (i : Int)).map fun u => ((i : Int), u.mapv (rs σ))
abbrev fitB (b : Bd) : Bool := b.2.flat 30 && decide (b.2.nodes ≤ 120)
/-- All bindings, if none is too large. -/
noncomputable def allAv (σ : Sub) : AV := if (bindsOf σ).all fitB = true then .tup [.slice ((bindsOf σ).map bdAv), .bool true] else .tup [.slice [], .bool false]
theorem SubAt.acc {st : Store} {c m b : Nat} {q : AV} {σ : Sub} {l : List AV} (h : SubAt st c m q σ) (hb : l ≠ [] → st b = none) : SubAt (accS st b l) c m q σ := by
  cases l with
  | nil => exact h
  | cons x l => exact h.upd (hb (by simp))
def uniAv : Option (List Bd) → AV
  | some bs => .tup [.slice (bs.map bdAv), .bool true]
  | none => .tup [.slice [], .bool false]
theorem Unif.fit {a b : Tm} {r : Bool} {σ : Sub} {tr : List Int} (h : Unif a b r σ tr) : ((bindsOf σ).all fun x => x.2.valid) = (bindsOf σ).all fitB := by
  obtain ⟨rk, B, G⟩ := h.uni.good.rs
  have key : ∀ l : List Bd, (∀ x ∈ l, x ∈ bindsOf σ) → (l.all fun x => x.2.valid) = l.all fitB := by
    intro l
    induction l with
    | nil => intro _; rfl
    | cons x l ih =>
      intro hl
      rw [List.all_cons, List.all_cons, ih fun y hy => hl y (by simp [hy])]
      congr 1
      have := hl x (by simp)
      unfold bindsOf at this
      rw [List.mem_filterMap] at this
      obtain ⟨i, _, hi⟩ := this
      cases hs : σ (i : Int) with
      | none => rw [hs] at hi; cases hi
      | some u =>
        rw [hs] at hi
        simp only [Option.map_some, Option.some.injEq] at hi
        subst hi
        exact Tm.valid_iff (G.okT h.okA (h.okA _ u hs))
  exact key _ fun _ h => h
end Go.AW


/- Terms: what the reference's and the program's functions return. -/
namespace Go.AW
open Go.Proofs.Try
set_option linter.unusedSimpArgs false
set_option maxRecDepth 100000
end Go.AW


/- Goals that are built in: the program's functions. -/
namespace Go.AW
open Go.Proofs.Try
set_option linter.unusedSimpArgs false
set_option maxRecDepth 100000

end Go.AW


/- Goals that are built in: the program solves one. -/
namespace Go.AW
open Go.Proofs.Try
set_option linter.unusedSimpArgs false
set_option maxRecDepth 100000

def CallPost (c m : Nat) (st : Store) (code : Int) (σ : Sub) (r : AV) (st' : Store) : Prop :=
  r = .int .i64 code ∧ (code = 0 → ∃ q', SubAt st' c m q' σ) ∧ ∀ x o, st x = some o → x ≠ c → x ≠ m → st' x = some o
theorem CallPost.same {c m : Nat} {st : Store} {q : AV} {code : Int} {r : AV} (h : SubAt st c m q Sub.none) (hr : r = .int .i64 code) : CallPost c m st code Sub.none r st := ⟨hr, fun _ => ⟨q, h⟩, fun _ _ h _ _ => h⟩
theorem StepQ.all {c m : Nat} {st st' : Store} {q' : AV} (h : StepQ c m st (.fslice []) st' q') : ∀ x o, st x = some o → x ≠ c → x ≠ m → st' x = some o := fun x o h0 h1 h2 => h.frame x o h0 h1 h2 (by simp [tbk])
end Go.AW


/- The reference's bindings: unification. -/
namespace Go.AW
open Go.Proofs.Try
set_option linter.unusedSimpArgs false
set_option maxRecDepth 100000

/-- The list of bindings has turned, nothing else. -/
def AQ (b : Nat) (st : Store) (σ' : Sub) (st' : Store) : Prop := ArrAt st' b σ' ∧ ∀ x o, st x = some o → x ≠ b → st' x = some o
theorem AQ.refl {b : Nat} {st : Store} {σ : Sub} (h : ArrAt st b σ) : AQ b st σ st := ⟨h, fun _ _ h _ => h⟩
theorem AQ.trans {b : Nat} {st s2 s3 : Store} {σ2 σ3 : Sub} (x : AQ b st σ2 s2) (y : AQ b s2 σ3 s3) : AQ b st σ3 s3 := ⟨y.1, fun q o h hn => y.2 q o (x.2 q o h hn) hn⟩
def UF (f : Nat) (b : Nat) (σ : Sub) (a c : Tm) (r : Bool) (σ' : Sub) : Prop := ∀ st, ArrAt st b σ → ACalls prog f [a.av, c.av, .mslice b 0 26 4] st (fun r' st' => r' = .bool r ∧ AQ b st σ' st')

end Go.AW

/- Lists that grow, beside a block that is held. -/
namespace Go.AW
set_option linter.unusedSimpArgs false
set_option linter.unusedVariables false
end Go.AW


/- The reference's unification of terms. -/
namespace Go.AW
open Go.Proofs.Try
set_option linter.unusedSimpArgs false
set_option maxRecDepth 100000

/-- What is left of the room. -/
def Full (v : Tm) (room : Nat) (st : Store) (r : AV) (st' : Store) : Prop :=
  st' = st ∧ ∃ (x : Tm) (left : Int), r = .tup [x.av, .int .i64 left] ∧ -1 ≤ left ∧ if v.nodes ≤ room then x = v ∧ left = (room : Int) - v.nodes else left < 0

end Go.AW


/- Draws: bytes, numbers that are picked. -/
namespace Go.AW
open Go.Proofs.Try
set_option linter.unusedSimpArgs false
set_option maxRecDepth 100000

abbrev Bt := Fin 256
def byteAv (b : Bt) : AV := .int .u8 (b.val : Int)
/-- What draws: bytes, and how many were drawn. -/
def RdAt (st : Store) (c : Nat) (bs : List Bt) (p : Nat) : Prop := st c = some (.cells [.slice (bs.map byteAv), .int .i64 (p : Int)])
def rdC (bs : List Bt) (p : Nat) : AO := .cells [.slice (bs.map byteAv), .int .i64 (p : Int)]

end Go.AW


/- Draws: elements of lists, the source, small terms. -/
namespace Go.AW
open Go.Proofs.Try
set_option linter.unusedSimpArgs false
set_option maxRecDepth 100000

/-- A term that was drawn: its variables are plain, its lists short. -/
abbrev Dn (t : Tm) : Prop := t.cv = true ∧ t.small = true
/-- What a draw of at most m steps leaves: p is where it stood. -/
def Dr (bs : List Bt) (c p m : Nat) (st : Store) (Q : AV → Prop) (r : AV) (st' : Store) : Prop := ∃ p', p ≤ p' ∧ p' ≤ p + m ∧ st' = st.upd c (rdC bs p') ∧ Q r
def DrT (r : AV) : Prop := ∃ t : Tm, Dn t ∧ r = t.av
theorem RdAt.upd {st : Store} {c p : Nat} {bs : List Bt} {b : Nat} {o : AO} (h : RdAt st c bs p) (hb : b ≠ c) : RdAt (st.upd b o) c bs p := by unfold RdAt; rw [Store.upd_ne _ _ (Ne.symm hb)]; exact h
theorem RdAt.new {st : Store} {c p : Nat} {bs : List Bt} : RdAt (st.upd c (rdC bs p)) c bs p := Store.upd_same _ _ _
theorem RdAt.ne {st : Store} {c p : Nat} {bs : List Bt} {b : Nat} (h : RdAt st c bs p) (hb : st b = none) : b ≠ c := by rintro rfl; rw [RdAt, hb] at h; cases h

end Go.AW


/- Goals that are built in: the reference's functions. -/
namespace Go.AW
open Go.Proofs.Try
set_option linter.unusedSimpArgs false
set_option maxRecDepth 100000

end Go.AW


/- Goals that are built in: the reference solves one. -/
namespace Go.AW
open Go.Proofs.Try
set_option linter.unusedSimpArgs false
set_option maxRecDepth 100000

def argR (x y : Tm) : Tm × Int := if x.k = 1 ∨ y.k = 1 then (Tm.zero, 2) else if x.k ≠ 2 ∨ y.k ≠ 3 ∨ y.ts.length = 0 then (Tm.zero, 3) else match argT x y with
  | some u => (u, 0)
  | none => (Tm.zero, 1)
def SolvePost (bb : Nat) (st : Store) (code : Int) (σ : Sub) (r : AV) (st' : Store) : Prop :=
  r = .int .i64 code ∧ (code = 0 → ArrAt st' bb σ) ∧ ∀ x o, st x = some o → x ≠ bb → st' x = some o
theorem SolvePost.same {bb : Nat} {st : Store} {code : Int} {r : AV} (h : ArrAt st bb Sub.none) (hr : r = .int .i64 code) : SolvePost bb st code Sub.none r st := ⟨hr, fun _ => h, fun _ _ h _ => h⟩
end Go.AW


/- Goals that are built in: two terms that cannot be unified, by the reference. -/
namespace Go.AW
open Go.Proofs.Try
set_option linter.unusedSimpArgs false
set_option maxRecDepth 100000

end Go.AW


/- Goals that are built in: the program's answer. -/
namespace Go.AW
open Go.Proofs.Try
set_option linter.unusedSimpArgs false
set_option maxRecDepth 100000

/-- The bindings of a goal, and its code. -/
noncomputable def callB (g : Tm) : List Bd × Int :=
  if g.valid = true ∧ g.k = 3 ∧ isBuiltin g.s (g.ts.length : Int) = true then
    (if (solveB g.s g.ts).1 ≠ 0 then ([], (solveB g.s g.ts).1) else if ((bindsOf (solveB g.s g.ts).2).all fun x => x.2.valid) = true then (bindsOf (solveB g.s g.ts).2, 0) else ([], 5))
  else ([], 6)
def callAv (p : List Bd × Int) : AV := .tup [.slice (p.1.map bdAv), .int .i64 p.2]
theorem SolB.fit {σ : Sub} (h : SolB σ) : ((bindsOf σ).all fun x => x.2.valid) = (bindsOf σ).all fitB := by
  obtain ⟨rk, B, G⟩ := h.good.rs
  have key : ∀ l : List Bd, (∀ x ∈ l, x ∈ bindsOf σ) → (l.all fun x => x.2.valid) = l.all fitB := by
    intro l
    induction l with
    | nil => intro _; rfl
    | cons x l ih =>
      intro hl
      rw [List.all_cons, List.all_cons, ih fun y hy => hl y (by simp [hy])]
      congr 1
      obtain ⟨i, u, _, hs, rfl⟩ := bindsOf_mem (hl x (by simp))
      exact Tm.valid_iff (G.okT h.okA (h.okA _ u hs))
  exact key _ fun _ h => h

end Go.AW


/- Goals that are built in: the reference's answer. -/
namespace Go.AW
open Go.Proofs.Try
set_option linter.unusedSimpArgs false
set_option maxRecDepth 100000

end Go.AW


/- Goals that are built in: the reference's answer, walked. -/
namespace Go.AW
open Go.Proofs.Try
set_option linter.unusedSimpArgs false
set_option maxRecDepth 100000

end Go.AW

/- Goals that are built in: they hold with their bindings; plain facts. -/
namespace Go.AW
set_option linter.unusedSimpArgs false
set_option linter.unusedVariables false

end Go.AW

/- A held list and a struct that tells of it: the list is never written again. -/
namespace Go.AW
set_option linter.unusedSimpArgs false
theorem StepH.of {h : Heap} {st st' : Store} (hk : ∀ x, st x = none → st' x = none) : StepH h st h st' := ⟨Nat.le_refl _, fun x _ e => ⟨rfl, hk x e⟩, fun _ c _ _ e => ⟨c, e, rfl⟩⟩
end Go.AW


/- Draws: terms that are shifted, copied, turned. -/
namespace Go.AW
open Go.Proofs.Try
set_option linter.unusedSimpArgs false
set_option maxRecDepth 100000

/-! ### Shifted variables -/
mutual
def Tm.sh (m : Int) : Tm → Tm
  | .mk k n s ts => .mk k (if k = 1 then IntKind.i64.wrap (n + m) else n) s (tmsSh m ts)
def tmsSh (m : Int) : List Tm → List Tm
  | [] => []
  | t :: ts => t.sh m :: tmsSh m ts
end
end Go.AW


/- Draws: goals that are built in. -/
namespace Go.AW
open Go.Proofs.Try
set_option linter.unusedSimpArgs false
set_option maxRecDepth 100000

end Go.AW


/- Draws: two terms. -/
namespace Go.AW
open Go.Proofs.Try
set_option linter.unusedSimpArgs false
set_option maxRecDepth 100000

end Go.AW


/- Unified terms are equal: the law. -/
namespace Go.AW
open Go.Proofs.Try
set_option linter.unusedSimpArgs false
set_option maxRecDepth 100000

end Go.AW


/- Goals hold with their bindings: the law. -/
namespace Go.AW
open Go.Proofs.Try
set_option linter.unusedSimpArgs false
set_option maxRecDepth 100000

end Go.AW
