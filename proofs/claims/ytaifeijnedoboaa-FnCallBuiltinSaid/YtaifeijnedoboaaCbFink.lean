/- Unification of valid terms: what is bound is well-formed; the bindings in the end. -/
import Derived.Test.YtaifeijnedoboaaCbFinj
import Derived.Test.YtaifeijnedoboaaCbFini
import Derived.Test.YtaifeijnedoboaaCbFinf
import Derived.Test.YtaifeijnedoboaaCbFinh
namespace Go.AW
set_option linter.unusedSimpArgs false
set_option linter.unusedVariables false
mutual
def Tm.flat : Tm → Nat → Bool
  | .mk _ _ _ _, 0 => false
  | .mk _ _ _ ts, d + 1 => tmsFlat ts d
def tmsFlat : List Tm → Nat → Bool
  | [], _ => true
  | t :: ts, d => t.flat d && tmsFlat ts d
end
theorem tmsFlat_all : ∀ (ts : List Tm) (d : Nat), tmsFlat ts d = ts.all fun t => t.flat d
  | [], _ => rfl
  | t :: ts, d => by simp only [tmsFlat, List.all_cons, tmsFlat_all ts d]
theorem Tm.flat_zero (t : Tm) : t.flat 0 = false := by cases t; simp only [Tm.flat]
theorem Tm.flat_succ (k n : Int) (s : ByteArray) (ts : List Tm) (d : Nat) : (Tm.mk k n s ts).flat (d + 1) = ts.all fun t => t.flat d := by simp only [Tm.flat, tmsFlat_all]
mutual
def Tm.okA : Tm → Bool
  | .mk k n s ts => ownOk k n s ts.length && tmsOkA ts
def tmsOkA : List Tm → Bool
  | [] => true
  | t :: ts => t.okA && tmsOkA ts
end
theorem tmsOkA_all : ∀ (ts : List Tm), tmsOkA ts = ts.all Tm.okA
  | [] => rfl
  | t :: ts => by simp only [tmsOkA, List.all_cons, tmsOkA_all ts]
theorem Tm.okA_mk (k n : Int) (s : ByteArray) (ts : List Tm) : (Tm.mk k n s ts).okA = (ownOk k n s ts.length && ts.all Tm.okA) := by simp only [Tm.okA, tmsOkA_all]
theorem all_and {α : Type} (p q : α → Bool) : ∀ l : List α, (l.all fun x => p x && q x) = (l.all p && l.all q)
  | [] => rfl
  | x :: l => by simp only [List.all_cons, all_and p q l]; cases p x <;> cases q x <;> cases l.all p <;> simp
theorem Tm.shape_flat : ∀ (t : Tm) (d : Nat), t.shape (d : Int) = (t.okA && t.flat d) := by
  intro t
  induction t using Tm.ind with
  | h k n s ts ih =>
    intro d
    cases d with
    | zero => rw [Tm.flat_zero, Bool.and_false, Tm.shape_mk]; rfl
    | succ d =>
      rw [Tm.shape_mk, Tm.okA_mk, Tm.flat_succ, show decide ((1 : Int) ≤ ((d + 1 : Nat) : Int)) = true by simp; omega, Bool.true_and, Bool.and_assoc, ← all_and]
      congr 1
      rw [show (((d + 1 : Nat) : Int) - 1) = (d : Int) by omega]
      have : ∀ l : List Tm, (∀ x ∈ l, x ∈ ts) → (l.all fun t => t.shape (d : Int)) = l.all fun x => x.okA && x.flat d := by
        intro l
        induction l with
        | nil => intro _; rfl
        | cons x l ihl => intro h; rw [List.all_cons, List.all_cons, ih x (h x (by simp)), ihl fun y hy => h y (by simp [hy])]
      exact this ts fun _ h => h
theorem Tm.valid_okA {t : Tm} (h : t.valid = true) : t.okA = true := by
  simp only [Tm.valid, Bool.and_eq_true] at h
  have := h.1
  rw [show (30 : Int) = ((30 : Nat) : Int) from rfl, Tm.shape_flat, Bool.and_eq_true] at this
  exact this.1
theorem Tm.valid_iff {t : Tm} (h : t.okA = true) : t.valid = (t.flat 30 && decide (t.nodes ≤ 120)) := by
  unfold Tm.valid
  rw [show (30 : Int) = ((30 : Nat) : Int) from rfl, Tm.shape_flat, h, Bool.true_and]
theorem okA_kids : ∀ t : Tm, t.k ≠ 1 → t.okA = true → ∀ x ∈ t.ts, x.okA = true := fun t _ h x hx => by
  cases t
  rw [Tm.okA_mk, Bool.and_eq_true] at h
  exact List.all_eq_true.1 h.2 x hx
theorem Tm.okA_own {k n : Int} {s : ByteArray} {ts : List Tm} (h : (Tm.mk k n s ts).okA = true) : ownOk k n s ts.length = true ∧ ∀ x ∈ ts, x.okA = true := by
  rw [Tm.okA_mk, Bool.and_eq_true] at h
  exact ⟨h.1, List.all_eq_true.1 h.2⟩
theorem ownOk_var {n : Int} {s : ByteArray} {len : Int} (h : ownOk 1 n s len = true) : 0 ≤ n ∧ n ≤ 25 ∧ s = ⟨#[]⟩ ∧ len = 0 := by
  simp [ownOk] at h
  exact ⟨h.1.1.1, h.1.1.2, h.1.2, h.2⟩
theorem ownOk_kind {k n : Int} {s : ByteArray} {len : Int} (h : ownOk k n s len = true) : (k = 1 ∨ k = 2 ∨ k = 3) ∧ len ≤ 4 := by
  unfold ownOk at h
  by_cases h1 : k = 1
  · simp [h1] at h; omega
  · by_cases h2 : k = 2
    · simp [h2] at h; omega
    · by_cases h3 : k = 3
      · simp [h3] at h; omega
      · simp [h1, h2, h3] at h
theorem Tm.okA_cv : ∀ (t : Tm), t.okA = true → t.cv = true := by
  intro t
  induction t using Tm.ind with
  | h k n s ts ih =>
    intro h
    obtain ⟨h1, h2⟩ := Tm.okA_own h
    refine Tm.cv_mk.2 ⟨fun hk => ?_, fun x hx => ih x hx (h2 x hx)⟩
    subst hk
    obtain ⟨_, _, h3, h4⟩ := ownOk_var h1
    exact ⟨h3, List.eq_nil_of_length_eq_zero (by omega)⟩
theorem Tm.okA_small : ∀ (t : Tm), t.okA = true → t.small = true := by
  intro t
  induction t using Tm.ind with
  | h k n s ts ih =>
    intro h
    obtain ⟨h1, h2⟩ := Tm.okA_own h
    have := (ownOk_kind h1).2
    simp only [Tm.small, tmsSmall_all, Bool.and_eq_true, decide_eq_true_eq, List.all_eq_true]
    exact ⟨by omega, fun x hx => ih x hx (h2 x hx)⟩
def V25 : List Int := (List.range 26).map fun i : Nat => (i : Int)
theorem mem_V25 {n : Int} : n ∈ V25 ↔ 0 ≤ n ∧ n ≤ 25 := by
  simp only [V25, List.mem_map, List.mem_range]
  constructor
  · rintro ⟨i, h, rfl⟩; omega
  · intro h; exact ⟨n.toNat, by omega, by omega⟩
theorem Tm.okA_inV : ∀ (t : Tm), t.okA = true → InV V25 t := by
  intro t
  induction t using Tm.ind with
  | h k n s ts ih =>
    intro h v hv
    obtain ⟨h1, h2⟩ := Tm.okA_own h
    by_cases hk : k = 1
    · rw [Tm.vl_var hk] at hv
      simp only [List.mem_cons, List.not_mem_nil, or_false] at hv
      subst hv hk
      obtain ⟨h3, h4, _⟩ := ownOk_var h1
      exact mem_V25.2 ⟨h3, h4⟩
    · obtain ⟨x, hx, hvx⟩ := (Tm.vl_mk hk).1 hv
      exact ih x hx (h2 x hx) v hvx
theorem mapv_okA {f : Int → Tm} : ∀ (t : Tm), t.okA = true → (∀ v ∈ t.vl, (f v).okA = true) → (t.mapv f).okA = true := by
  intro t
  induction t using Tm.ind with
  | h k n s ts ih =>
    intro h hf
    obtain ⟨h1, h2⟩ := Tm.okA_own h
    by_cases hk : k = 1
    · rw [Tm.mapv_var f hk]; exact hf n (by rw [Tm.vl_var hk]; simp)
    · rw [Tm.mapv_mk f hk, Tm.okA_mk, List.length_map, h1, Bool.true_and, List.all_map, List.all_eq_true]
      exact fun x hx => ih x hx (h2 x hx) fun v hv => hf v ((Tm.vl_mk hk).2 ⟨x, hx, hv⟩)
theorem vr_okA {n : Int} (h : n ∈ V25) : (vr n).okA = true := by
  rw [mem_V25] at h
  rw [vr, Tm.okA_mk]
  simp [ownOk, h]
theorem Good.okA {σ : Sub} {R : Int → Tm} {rk : Int → Nat} {B : Nat} (G : Good σ R rk B) (ho : AllS (fun t => t.okA = true) σ) : ∀ n ∈ V25, (R n).okA = true := by
  refine fun n => G.ind (p := fun n => n ∈ V25 → (R n).okA = true) (fun n h hn => ?_) (fun n u h ih hn => ?_) n
  · rw [G.free h]; exact vr_okA hn
  · rw [G.bound h]
    exact mapv_okA u (ho n u h) fun v hv => ih v hv (Tm.okA_inV u (ho n u h) v hv)
theorem Good.okT {σ : Sub} {R : Int → Tm} {rk : Int → Nat} {B : Nat} (G : Good σ R rk B) (ho : AllS (fun t => t.okA = true) σ) {t : Tm} (h : t.okA = true) : (t.mapv R).okA = true :=
  mapv_okA t h fun v hv => G.okA ho v (Tm.okA_inV t h v hv)
theorem uniF_det {g g' : Nat} {σ : Sub} {a b : Tm} {x y : Bool × Sub × List Int} (h : uniF g σ a b = some x) (h' : uniF g' σ a b = some y) : x = y := by
  have h1 := uniF_le (Nat.le_max_left g g') h
  rw [uniF_le (Nat.le_max_right g g') h'] at h1
  exact (Option.some.inj h1).symm
open Classical in
noncomputable def uniR (a b : Tm) : Bool × Sub × List Int := if h : ∃ x g, uniF g Sub.none a b = some x then h.choose else (false, Sub.none, [])
theorem uniR_eq {g : Nat} {a b : Tm} {x : Bool × Sub × List Int} (h : uniF g Sub.none a b = some x) : uniR a b = x := by
  unfold uniR
  have h' : ∃ x g, uniF g Sub.none a b = some x := ⟨x, g, h⟩
  rw [dif_pos h']
  obtain ⟨g', h''⟩ := h'.choose_spec
  exact uniF_det h'' h
noncomputable def bindsOf (σ : Sub) : List Bd := (List.range 26).filterMap fun i : Nat => (σ (i : Int)).map fun u => ((i : Int), u.mapv (rs σ))
structure Unif (a b : Tm) (r : Bool) (σ : Sub) (tr : List Int) : Prop where
  run : ∃ g, uniF g Sub.none a b = some (r, σ, tr)
  uni : Uni Sub.none [a] [b] r σ tr
  okA : AllS (fun t => t.okA = true) σ
  inV : RangeIn V25 σ
  trV : ∀ m ∈ tr, m ∈ V25
theorem Uni.out {σ : Sub} {a b : List Tm} {r : Bool} {tr : List Int} (h : Uni Sub.none a b r σ tr) {n : Int} {u : Tm} (e : σ n = some u) : n ∈ tr := by
  refine Classical.byContradiction fun hn => ?_
  rw [h.keep n hn] at e
  cases e
theorem unif_of {a b : Tm} (ha : a.valid = true) (hb : b.valid = true) : ∃ r σ tr, Unif a b r σ tr ∧ uniR a b = (r, σ, tr) := by
  have oa := Tm.valid_okA ha
  have ob := Tm.valid_okA hb
  have hn : RangeIn V25 Sub.none := fun n u h => (by cases h)
  obtain ⟨g, ⟨r, σ, tr⟩, h⟩ := uniF_total V25 _ _ Sub.none a b IsGood.none hn (Tm.okA_inV a oa) (Tm.okA_inV b ob) (Nat.le_refl _) (Nat.le_refl _)
  obtain ⟨h1, h2⟩ := (uni_inV g).1 Sub.none a b r σ tr V25 IsGood.none h hn (Tm.okA_inV a oa) (Tm.okA_inV b ob)
  exact ⟨r, σ, tr, ⟨⟨g, h⟩, uniF_uni IsGood.none h, (uni_all okA_kids g).1 Sub.none a b r σ tr IsGood.none h (fun n u h => (by cases h)) oa ob, h1, h2⟩, uniR_eq h⟩
theorem findB_filterMap (σ : Sub) (f : Tm → Tm) (n : Int) : ∀ l : List Nat, findB (l.filterMap fun i : Nat => (σ (i : Int)).map fun u => ((i : Int), f u)) n = if n ∈ l.map (fun i : Nat => (i : Int)) then (σ n).map f else none
  | [] => rfl
  | i :: l => by
    have ih := findB_filterMap σ f n l
    rw [List.filterMap_cons]
    cases h : σ (i : Int) with
    | none =>
      simp only [Option.map_none, ih, List.map_cons, List.mem_cons]
      by_cases h2 : n = (i : Int)
      · subst h2
        rw [h]
        simp
      · simp [h2]
    | some u =>
      simp only [Option.map_some, findB, List.map_cons, List.mem_cons, ih]
      by_cases h2 : (i : Int) = n
      · subst h2
        rw [h]
        simp
      · rw [if_neg h2]
        simp [Ne.symm h2]
theorem Unif.subB {a b : Tm} {r : Bool} {σ : Sub} {tr : List Int} (h : Unif a b r σ tr) : AW.subB (bindsOf σ) = rs σ := by
  obtain ⟨rk, B, G⟩ := h.uni.good.rs
  funext n
  have e : findB (bindsOf σ) n = if n ∈ V25 then (σ n).map (Tm.mapv (rs σ)) else none := findB_filterMap σ _ n _
  unfold AW.subB
  rw [e, G.sol n]
  split
  · cases σ n <;> rfl
  · rename_i hn
    cases hs : σ n with
    | none => rfl
    | some u => exact absurd (h.trV n (h.uni.out hs)) hn
theorem nodup_len : ∀ {l V : List Int}, l.Nodup → (∀ x ∈ l, x ∈ V) → l.length ≤ V.length
  | [], _, _, _ => Nat.zero_le _
  | x :: l, V, h, hV => by
    rw [List.nodup_cons] at h
    have hx := hV x (by simp)
    have := nodup_len (V := V.erase x) h.2 fun y hy => (List.mem_erase_of_ne (by rintro rfl; exact h.1 hy)).2 (hV y (by simp [hy]))
    rw [List.length_erase_of_mem hx] at this
    have := List.length_pos_of_mem hx
    simp only [List.length_cons]
    omega
theorem nodup_V25 {tr : List Int} (h : tr.Nodup) (hV : ∀ m ∈ tr, m ∈ V25) : tr.length ≤ 26 := by
  have := nodup_len h hV
  simpa [V25] using this
end Go.AW

/- Unified terms are equal: plain facts. -/
namespace Go.AW
set_option linter.unusedSimpArgs false
set_option linter.unusedVariables false
theorem bindsOf_mem {σ : Sub} {x : Bd} (h : x ∈ bindsOf σ) : ∃ (i : Nat) (u : Tm), i < 26 ∧ σ (i : Int) = some u ∧ x = ((i : Int), u.mapv (rs σ)) := by
  unfold bindsOf at h
  rw [List.mem_filterMap] at h
  obtain ⟨i, hi, h⟩ := h
  cases hs : σ (i : Int) with
  | none => rw [hs] at h; cases h
  | some u => rw [hs] at h; simp only [Option.map_some, Option.some.injEq] at h; exact ⟨i, u, by simpa using hi, hs, h.symm⟩
structure Fine (a b : Tm) (bs : List Bd) : Prop where
  va : a.valid = true
  vb : b.valid = true
  vs : (bs.all fun x => x.2.valid) = true
  eq : a.mapv (subB bs) = b.mapv (subB bs)
  idem : ∀ x ∈ bs, x.2.mapv (subB bs) = x.2
  sorted : bs.Pairwise fun x y => x.1 < y.1
end Go.AW

/- The store of bindings in memory. -/
namespace Go.AW
set_option linter.unusedSimpArgs false
set_option linter.unusedVariables false
abbrev zt : AV := .agg [.int .i64 0, .int .i64 0, .str ⟨#[]⟩, .fslice []]
def mapOf (σ : Sub) : Int → Option AV := fun n => (σ n).map Tm.av
def found : Option Tm → AV
  | some u => .tup [u.av, .bool true]
  | none => .tup [zt, .bool false]
theorem look_sub {P : Program} {st : zy7} {m : Nat} {σ : Sub} {t kt et : TypeId} {n : Int} (hm : st m = some (.map (mapOf σ))) (hu : P.underlying t = some (.map kt et)) (hk : P.underlying kt = some (.int .i64)) (hz : zV P et = some zt) :
    aLookup P st t true (.map m) (.int .i64 n) = some (found (σ n)) := by
  unfold aLookup
  simp only [hm, hu, hk, mapOf]
  cases h : σ n with
  | none => simp [hz, found, AV.isJunk]
  | some u => simp [found, Tm.av_junk]
theorem upd_sub {P : Program} {st : zy7} {m : Nat} {σ : Sub} {t kt et : TypeId} {n : Int} {u : Tm} {K : AV → zy7 → Prop} (hm : st m = some (.map (mapOf σ))) (hu : P.underlying t = some (.map kt et)) (hk : P.underlying kt = some (.int .i64))
    (h : K .undef (st.upd m (.map (mapOf (σ.set n u))))) : aMapUpdate P t st (.map m) (.int .i64 n) u.av K := by
  unfold aMapUpdate
  simp only [hu, hm, hk]
  refine ⟨Tm.av_junk u, ?_⟩
  have : mapSet (mapOf σ) n (some u.av) = mapOf (σ.set n u) := by
    funext x
    unfold mapSet mapOf Sub.set
    split <;> rfl
  rw [this]
  exact h
structure SubAt (st : zy7) (c m : Nat) (q : AV) (σ : Sub) : Prop where
  cells : st c = some (.cells [.map m, q])
  map : st m = some (.map (mapOf σ))
theorem SubAt.upd {st : zy7} {c m b : Nat} {q : AV} {σ : Sub} {o : AO} (h : SubAt st c m q σ) (hb : st b = none) : SubAt (st.upd b o) c m q σ :=
  ⟨(by rw [zy7.upd_ne _ _ (by rintro rfl; rw [h.cells] at hb; cases hb)]; exact h.cells), (by rw [zy7.upd_ne _ _ (by rintro rfl; rw [h.map] at hb; cases hb)]; exact h.map)⟩
theorem SubAt.upd2 {st : zy7} {c m b : Nat} {q : AV} {σ : Sub} {o : AO} (h : SubAt st c m q σ) (h1 : b ≠ c) (h2 : b ≠ m) : SubAt (st.upd b o) c m q σ :=
  ⟨(by rw [zy7.upd_ne _ _ (Ne.symm h1)]; exact h.cells), by rw [zy7.upd_ne _ _ (Ne.symm h2)]; exact h.map⟩
theorem SubAt.ne {st : zy7} {c m b : Nat} {q : AV} {σ : Sub} (h : SubAt st c m q σ) (hb : st b = none) : b ≠ c ∧ b ≠ m := ⟨(by rintro rfl; rw [h.cells] at hb; cases hb), (by rintro rfl; rw [h.map] at hb; cases hb)⟩
theorem SubAt.cm {st : zy7} {c m : Nat} {q : AV} {σ : Sub} (h : SubAt st c m q σ) : c ≠ m := by rintro rfl; have := h.cells; rw [h.map] at this; cases this
def metOf (M : List Int) : Int → Option AV := fun x => if x ∈ M then some (.bool true) else none
theorem look_met {P : Program} {st : zy7} {mm : Nat} {M : List Int} {t kt et : TypeId} {n : Int} (hm : st mm = some (.map (metOf M))) (hu : P.underlying t = some (.map kt et)) (hk : P.underlying kt = some (.int .i64)) (hz : zV P et = some (.bool false)) :
    aLookup P st t false (.map mm) (.int .i64 n) = some (.bool (decide (n ∈ M))) := by
  unfold aLookup
  simp only [hm, hu, hk, metOf]
  by_cases h : n ∈ M
  · simp [h, AV.isJunk]
  · simp [h, hz, AV.isJunk]
theorem upd_met {P : Program} {st : zy7} {mm : Nat} {M : List Int} {t kt et : TypeId} {n : Int} {K : AV → zy7 → Prop} (hm : st mm = some (.map (metOf M))) (hu : P.underlying t = some (.map kt et)) (hk : P.underlying kt = some (.int .i64))
    (h : K .undef (st.upd mm (.map (metOf (n :: M))))) : aMapUpdate P t st (.map mm) (.int .i64 n) (.bool true) K := by
  unfold aMapUpdate
  simp only [hu, hm, hk]
  refine ⟨rfl, ?_⟩
  have : mapSet (metOf M) n (some (.bool true)) = metOf (n :: M) := by
    funext x
    unfold mapSet metOf
    by_cases e : x = n
    · simp [e]
    · simp [e]
  rw [this]
  exact h
theorem metOf_nil : metOf [] = fun _ => none := by funext x; simp [metOf]
end Go.AW

/- Unification: variables as they are met; the reference's list of bindings in memory. -/
namespace Go.AW
set_option linter.unusedSimpArgs false
set_option linter.unusedVariables false
theorem vars_spec (t : Tm) : t.wf = true → ∀ l : List Int, (∀ v, v ∈ t.vars l ↔ v ∈ l ∨ v ∈ t.vl) ∧ (l.Nodup → (t.vars l).Nodup) ∧ ∃ m, t.vars l = l ++ m := by
  induction t using Tm.ind with
  | h k n s ts ih =>
    intro h l
    obtain ⟨hk, hw⟩ := Tm.wf_mk h
    have list : ∀ xs : List Tm, (∀ x ∈ xs, x ∈ ts) → ∀ l : List Int, (∀ v, v ∈ tmsVars xs l ↔ v ∈ l ∨ ∃ x ∈ xs, v ∈ x.vl) ∧ (l.Nodup → (tmsVars xs l).Nodup) ∧ ∃ m, tmsVars xs l = l ++ m := by
      intro xs
      induction xs with
      | nil => intro _ l; exact ⟨by simp [tmsVars], fun h => h, [], by simp [tmsVars]⟩
      | cons x xs ihx =>
        intro hs l
        obtain ⟨a1, a2, m1, a3⟩ := ih x (hs x (by simp)) (hw x (hs x (by simp))) l
        obtain ⟨b1, b2, m2, b3⟩ := ihx (fun y hy => hs y (by simp [hy])) (x.vars l)
        simp only [tmsVars]
        refine ⟨fun v => ?_, fun hn => b2 (a2 hn), m1 ++ m2, by rw [b3, a3, List.append_assoc]⟩
        rw [b1, a1]
        simp [or_assoc]
    rw [Tm.vars]
    by_cases hk1 : k = 1
    · obtain rfl := hk hk1
      rw [Tm.vl_var hk1]
      simp only [tmsVars]
      split
      · rename_i hc
        refine ⟨fun v => by simp, fun hn => ?_, [n], rfl⟩
        rw [List.nodup_append]
        refine ⟨hn, by simp, fun x hx y hy e => ?_⟩
        simp only [List.mem_cons, List.not_mem_nil, or_false] at hy
        subst hy e
        exact hc.2 hx
      · rename_i hc
        refine ⟨fun v => ?_, fun hn => hn, [], by simp⟩
        have hm : n ∈ l := Classical.byContradiction fun h => hc ⟨hk1, h⟩
        simp only [List.mem_cons, List.not_mem_nil, or_false]
        exact ⟨.inl, fun h => h.elim id fun e => e ▸ hm⟩
    · rw [if_neg (by simp [hk1])]
      obtain ⟨c1, c2, c3⟩ := list ts (fun _ h => h) l
      exact ⟨fun v => by rw [c1, Tm.vl_mk hk1], c2, c3⟩
theorem within_no {σ : Sub} {R : Int → Tm} {rk : Int → Nat} {B : Nat} (G : Good σ R rk B) {n : Int} {W : List Int} (hW : ∀ w ∈ W, w ≠ n ∧ ∀ u, σ w = some u → ∀ v ∈ u.vl, v ∈ W) : ∀ w ∈ W, n ∉ (R w).vl := by
  refine fun w => G.ind (p := fun w => w ∈ W → n ∉ (R w).vl) (fun w h hw hm => ?_) (fun w u h ih hw hm => ?_) w
  · rw [G.free h, vl_vr] at hm
    simp only [List.mem_cons, List.not_mem_nil, or_false] at hm
    exact (hW w hw).1 hm.symm
  · rw [G.bound h] at hm
    obtain ⟨v, hv, hnv⟩ := (vl_mapv u).1 hm
    exact ih v hv ((hW w hw).2 u h v hv) hnv
theorem flat_mid {w : Nat} {l : List AV} {i : Nat} {e : AV} (hw : ∀ e ∈ l, e.width = w) (h : l[i]? = some e) :
    ∃ A B, l.flatMap AV.cells = A ++ e.cells ++ B ∧ A.length = i * w ∧ ∀ e', (l.set i e').flatMap AV.cells = A ++ e'.cells ++ B := by
  obtain ⟨hi, he⟩ := List.getElem?_eq_some_iff.1 h
  refine ⟨(l.take i).flatMap AV.cells, (l.drop (i + 1)).flatMap AV.cells, ?_, ?_, fun e' => ?_⟩
  · have : l = l.take i ++ e :: l.drop (i + 1) := by rw [← he, ← List.drop_eq_getElem_cons hi, List.take_append_drop]
    conv => lhs; rw [this]
    simp
  · rw [flat_length (fun e he => hw e (List.mem_of_mem_take he)), List.length_take, Nat.min_eq_left (by omega)]
  · rw [List.set_eq_take_append_cons_drop, if_pos hi]
    simp
def cellOf : Option Tm → AV
  | some u => u.av
  | none => zt
def arrS (σ : Sub) : List AV := (List.range 26).map fun i : Nat => cellOf (σ (i : Int))
theorem cellOf_width (o : Option Tm) : (cellOf o).width = 4 := by cases o <;> first | rfl | exact Tm.av_width _
theorem cellOf_cells (o : Option Tm) : (cellOf o).cells.length = 4 := by rw [cells_width, cellOf_width]
theorem arrS_widths (σ : Sub) : ∀ e ∈ arrS σ, e.width = 4 := by intro e h; simp only [arrS, List.mem_map] at h; obtain ⟨i, _, rfl⟩ := h; exact cellOf_width _
theorem arrS_get (σ : Sub) {i : Nat} (h : i < 26) : (arrS σ)[i]? = some (cellOf (σ (i : Int))) := by
  simp only [arrS, List.getElem?_map, List.getElem?_range h, Option.map_some]
theorem arrS_set (σ : Sub) {i : Nat} (h : i < 26) (u : Tm) : (arrS σ).set i u.av = arrS (σ.set (i : Int) u) := by
  apply List.ext_getElem?
  intro j
  by_cases hj : j < 26
  · rw [arrS_get _ hj, List.getElem?_set]
    by_cases e : i = j
    · subst e
      simp [arrS, hj, Sub.set, cellOf]
    · rw [if_neg e, arrS_get _ hj]
      simp only [Sub.set]
      rw [if_neg (by omega)]
  · rw [List.getElem?_eq_none (by simp [arrS]; omega), List.getElem?_eq_none (by simp [arrS]; omega)]
theorem arrS_none : (List.replicate 26 zt).flatMap AV.cells = (arrS Sub.none).flatMap AV.cells := by
  simp only [arrS, Sub.none, cellOf]
  rw [List.map_const', List.length_range]
def ArrAt (st : zy7) (b : Nat) (σ : Sub) : Prop := st b = some (.cells ((arrS σ).flatMap AV.cells))
theorem ArrAt.mid {st : zy7} {b : Nat} {σ : Sub} (h : ArrAt st b σ) {i : Nat} (hi : i < 26) :
    ∃ A B, st b = some (.cells (A ++ (cellOf (σ (i : Int))).cells ++ B)) ∧ A.length = i * 4 ∧ ∀ (u : Tm), ArrAt (st.upd b (.cells (A ++ u.av.cells ++ B))) b (σ.set (i : Int) u) := by
  obtain ⟨A, B, h1, h2, h3⟩ := flat_mid (arrS_widths σ) (arrS_get σ hi)
  refine ⟨A, B, by rw [← h1]; exact h, h2, fun u => ?_⟩
  unfold ArrAt
  rw [zy7.upd_same, ← arrS_set σ hi, h3]
theorem ArrAt.upd {st : zy7} {b x : Nat} {σ : Sub} {o : AO} (h : ArrAt st b σ) (hx : x ≠ b) : ArrAt (st.upd x o) b σ := by
  unfold ArrAt
  rw [zy7.upd_ne _ _ (Ne.symm hx)]
  exact h
end Go.AW

/- Unification either way: plain facts. -/
namespace Go.AW
set_option linter.unusedSimpArgs false
set_option linter.unusedVariables false
theorem Sol.none (θ : Int → Tm) : Sol θ Sub.none := fun n u h => by cases h
theorem Unif.free {a b : Tm} {r : Bool} {σ : Sub} {tr : List Int} (h : Unif a b r σ tr) {θ : Int → Tm} (e : a.mapv θ = b.mapv θ) : r = true ∧ Sol θ σ := h.uni.gen θ (Sol.none θ) (by simp [e])
theorem mapv_id : ∀ t : Tm, t.cv = true → t.mapv vr = t := by
  intro t
  induction t using Tm.ind with
  | h k n s ts ih =>
    intro h
    obtain ⟨h1, h2⟩ := Tm.cv_mk.1 h
    by_cases hk : k = 1
    · obtain ⟨rfl, rfl⟩ := h1 hk
      rw [Tm.mapv_var vr hk, hk]; rfl
    · rw [Tm.mapv_mk vr hk]
      congr 1
      have : ∀ l : List Tm, (∀ x ∈ l, x ∈ ts) → l.map (Tm.mapv vr) = l := by
        intro l
        induction l with
        | nil => intro _; rfl
        | cons x l ihl => intro hl; rw [List.map_cons, ih x (hl x (by simp)) (h2 x (hl x (by simp))), ihl fun y hy => hl y (by simp [hy])]
      exact this ts fun _ h => h
end Go.AW

/- Goals that are built in: numbers. -/
namespace Go.AW
set_option linter.unusedSimpArgs false
set_option linter.unusedVariables false
def arNames : List ByteArray := [⟨#[43]⟩, ⟨#[45]⟩, ⟨#[42]⟩, ⟨#[47, 47]⟩, ⟨#[109, 111, 100]⟩]
def cmpNames : List ByteArray := [⟨#[60]⟩, ⟨#[62]⟩, ⟨#[61, 60]⟩, ⟨#[62, 61]⟩, ⟨#[61, 58, 61]⟩]
def inN (l : List ByteArray) (s : ByteArray) : Bool := l.any fun x => decide (s = x)
def ranged (n : Int) : Int × Int := if -999 ≤ n ∧ n ≤ 999 then (n, 0) else (0, 5)
def fmodI (a b : Int) : Int := if a.tmod b ≠ 0 ∧ decide (a.tmod b < 0) ≠ decide (b < 0) then a.tmod b + b else a.tmod b
def arOp (s : ByteArray) (a b : Int) : Int × Int :=
  if s = ⟨#[43]⟩ then ranged (a + b) else if s = ⟨#[45]⟩ then ranged (a - b) else if s = ⟨#[42]⟩ then ranged (a * b) else if b = 0 then (0, 4) else if s = ⟨#[109, 111, 100]⟩ then (fmodI a b, 0) else (a.tdiv b, 0)
def both (f : Int → Int → Int × Int) (x y : Int × Int) : Int × Int := if x.2 ≠ 0 then (0, x.2) else if y.2 ≠ 0 then (0, y.2) else f x.1 y.1
def two (f : Int → Int → Int × Int) : List (Int × Int) → Int × Int
  | [x, y] => both f x y
  | _ => (0, 3)
mutual
def Tm.ev : Tm → Int × Int
  | .mk k n s ts => if k = 2 then (n, 0) else if k = 1 then (0, 2) else if inN arNames s = true then two (arOp s) (tmsEv ts) else (0, 3)
def tmsEv : List Tm → List (Int × Int)
  | [] => []
  | t :: ts => t.ev :: tmsEv ts
end
theorem tmsEv_map : ∀ ts : List Tm, tmsEv ts = ts.map Tm.ev
  | [] => rfl
  | t :: ts => by simp only [tmsEv, List.map_cons, tmsEv_map ts]
theorem Tm.ev_mk (k n : Int) (s : ByteArray) (ts : List Tm) : (Tm.mk k n s ts).ev = if k = 2 then (n, 0) else if k = 1 then (0, 2) else if inN arNames s = true then two (arOp s) (ts.map Tm.ev) else (0, 3) := by simp only [Tm.ev, tmsEv_map]
theorem tmod_lt (a b : Int) (hb : b ≠ 0) : (0 < b → -b < a.tmod b ∧ a.tmod b < b) ∧ (b < 0 → b < a.tmod b ∧ a.tmod b < -b) := by
  have h1 := Int.tmod_lt_of_pos (-a) (b := b)
  have h2 := Int.tmod_lt_of_pos a (b := b)
  have h3 := Int.tmod_lt_of_pos (-a) (b := -b)
  have h4 := Int.tmod_lt_of_pos a (b := -b)
  rw [Int.tmod_neg] at h3 h4
  rw [Int.neg_tmod] at h1 h3
  constructor
  · intro h; exact ⟨by have := h1 h; omega, h2 h⟩
  · intro h; exact ⟨by have := h3 (by omega); omega, h4 (by omega)⟩
theorem tdiv_le (a b : Int) (ha : -999 ≤ a ∧ a ≤ 999) : -999 ≤ a.tdiv b ∧ a.tdiv b ≤ 999 := by
  have : (a.tdiv b).natAbs ≤ a.natAbs := by rw [Int.natAbs_tdiv]; exact Nat.div_le_self _ _
  omega
theorem ranged_le (n : Int) : -999 ≤ (ranged n).1 ∧ (ranged n).1 ≤ 999 := by unfold ranged; split <;> simp_all
theorem fmodI_le (a b : Int) (ha : -999 ≤ a ∧ a ≤ 999) (hb : -999 ≤ b ∧ b ≤ 999) (h0 : b ≠ 0) : -999 ≤ fmodI a b ∧ fmodI a b ≤ 999 := by
  have h1 := tmod_lt a b h0
  unfold fmodI
  split
  · rename_i h
    have h2 := h.2
    by_cases hb' : b < 0
    · have : ¬ a.tmod b < 0 := by intro hc; simp [hb', hc] at h2
      have := h1.2 hb'
      omega
    · have : a.tmod b < 0 := by
        apply Classical.byContradiction; intro hc; simp [hb', hc] at h2
      have := h1.1 (by omega)
      omega
  · rcases Int.lt_or_gt_of_ne h0 with h | h
    · have := h1.2 h; omega
    · have := h1.1 h; omega
theorem add_tmod_aux (m b : Int) (h1 : 0 ≤ m) (h2 : m < b) : (m + b).tmod b = m := by
  obtain ⟨x, rfl⟩ : ∃ x : Nat, m = x := ⟨m.toNat, by omega⟩
  obtain ⟨y, rfl⟩ : ∃ y : Nat, b = y := ⟨b.toNat, by omega⟩
  rw [show (x : Int) + (y : Int) = ((x + y : Nat) : Int) by omega, ← Int.ofNat_tmod, Nat.add_mod_right, Nat.mod_eq_of_lt (by omega)]
theorem fmodI_eq (a b : Int) (h0 : b ≠ 0) : (a.tmod b + b).tmod b = fmodI a b := by
  have h1 := tmod_lt a b h0
  have hs : ∀ x : Int, 0 ≤ x → x < b → x.tmod b = x := fun x h2 h3 => Int.tmod_eq_of_lt h2 h3
  have hn : ∀ x : Int, x ≤ 0 → b < x → x.tmod b = x := fun x h2 h3 => by
    have := Int.tmod_eq_of_lt (a := -x) (b := -b) (by omega) (by omega)
    rw [Int.tmod_neg, Int.neg_tmod] at this
    omega
  unfold fmodI
  generalize a.tmod b = m at *
  by_cases hb : b < 0
  · have h2 := h1.2 hb
    by_cases hm : m < 0
    · rw [if_neg (by simp [hb, hm])]
      rw [show m + b = b + m by omega]
      have e : (b + m).tmod b = ((-b) + (-m)).tmod (-b) * (-1) := by
        rw [show (-b) + (-m) = -(b + m) by omega, Int.neg_tmod, Int.tmod_neg]; omega
      rw [e, Int.add_comm, add_tmod_aux (-m) (-b) (by omega) (by omega)]
      omega
    · by_cases hm0 : m = 0
      · subst hm0; rw [if_neg (by simp), Int.zero_add, Int.tmod_self]
      · rw [if_pos ⟨hm0, by simp [hb, hm]⟩]
        exact hn _ (by omega) (by omega)
  · have h2 := h1.1 (by omega)
    by_cases hm : m < 0
    · rw [if_pos ⟨by omega, by simp [hb, hm]⟩]
      exact hs _ (by omega) (by omega)
    · rw [if_neg (by simp [hb, hm])]
      rw [add_tmod_aux m b (by omega) (by omega)]
end Go.AW

/- Terms whose variables lie below a bound; unification from any bindings; renaming of variables. -/
namespace Go.AW
set_option linter.unusedSimpArgs false
set_option linter.unusedVariables false
def OkV (N : Int) (t : Tm) : Prop := (t.mapv fun _ => vr 0).okA = true ∧ t.cv = true ∧ ∀ v ∈ t.vl, 0 ≤ v ∧ v < N
theorem OkV.own {N k n : Int} {s : ByteArray} {ts : List Tm} (h : OkV N (.mk k n s ts)) (hk : k ≠ 1) : ownOk k n s ts.length = true ∧ ∀ x ∈ ts, OkV N x := by
  obtain ⟨h1, h2, h3⟩ := h
  rw [Tm.mapv_mk _ hk] at h1
  obtain ⟨h4, h5⟩ := Tm.okA_own h1
  rw [List.length_map] at h4
  exact ⟨h4, fun x hx => ⟨h5 _ (List.mem_map.2 ⟨x, hx, rfl⟩), (Tm.cv_mk.1 h2).2 x hx, fun v hv => h3 v ((Tm.vl_mk hk).2 ⟨x, hx, hv⟩)⟩⟩
theorem OkV.var {N n : Int} {s : ByteArray} {ts : List Tm} (h : OkV N (.mk 1 n s ts)) : 0 ≤ n ∧ n < N ∧ s = ⟨#[]⟩ ∧ ts = [] := by
  obtain ⟨_, h2, h3⟩ := h
  obtain ⟨h4, h5⟩ := (Tm.cv_mk.1 h2).1 rfl
  obtain ⟨h6, h7⟩ := h3 n (by rw [Tm.vl_var rfl]; simp)
  exact ⟨h6, h7, h4, h5⟩
theorem OkV.kind {N k n : Int} {s : ByteArray} {ts : List Tm} (h : OkV N (.mk k n s ts)) : (k = 1 ∨ k = 2 ∨ k = 3) ∧ ts.length ≤ 4 := by
  by_cases hk : k = 1
  · subst hk
    rw [h.var.2.2.2]
    simp
  · have := ownOk_kind (h.own hk).1
    omega
theorem ownOk_int' {n : Int} {s : ByteArray} {len : Int} (h : ownOk 2 n s len = true) : -999 ≤ n ∧ n ≤ 999 := by
  simp [ownOk] at h
  omega
theorem OkV.all {N k n : Int} {s : ByteArray} {ts : List Tm} (h : OkV N (.mk k n s ts)) : (k = 2 → -999 ≤ n ∧ n ≤ 999) ∧ ∀ x ∈ ts, OkV N x := by
  by_cases hk : k = 1
  · subst hk
    rw [h.var.2.2.2]
    simp
  · obtain ⟨h1, h2⟩ := h.own hk
    refine ⟨fun h2 => ?_, h2⟩
    subst h2
    exact ownOk_int' h1
theorem okV_26 {t : Tm} : t.okA = true ↔ OkV 26 t := by
  constructor
  · intro h
    refine ⟨mapv_okA t h fun v _ => vr_okA (mem_V25.2 (by omega)), Tm.okA_cv t h, fun v hv => ?_⟩
    have := mem_V25.1 (Tm.okA_inV t h v hv)
    omega
  · induction t using Tm.ind with
    | h k n s ts ih =>
      intro h
      rw [Tm.okA_mk]
      by_cases hk : k = 1
      · subst hk
        obtain ⟨h0, h1, rfl, rfl⟩ := h.var
        have h1' : n ≤ 25 := by omega
        simp [ownOk, h0, h1']
      · obtain ⟨h1, h2⟩ := h.own hk
        rw [h1, Bool.true_and, List.all_eq_true]
        exact fun x hx => ih x hx (h2 x hx)
theorem Tm.valid_okV {t : Tm} (h : t.valid = true) : OkV 26 t := okV_26.1 (Tm.valid_okA h)
def OkX (N : Int) (t : Tm) : Prop := OkV N t ∧ t.nodes ≤ 120
open Classical in
noncomputable def uniG (σ : Sub) (a b : Tm) : Bool × Sub × List Int := if h : ∃ x g, uniF g σ a b = some x then h.choose else (false, σ, [])
structure UniG (N : Int) (σ : Sub) (a b : Tm) (r : Bool) (σ' : Sub) (tr : List Int) : Prop where
  run : ∃ g, uniF g σ a b = some (r, σ', tr)
  eq : uniG σ a b = (r, σ', tr)
  uni : Uni σ [a] [b] r σ' tr
  ok : AllS (OkX N) σ'
  inN : ∀ m ∈ tr, 0 ≤ m ∧ m < N
def Sub.out (σ : Sub) (l : List Int) : Sub := fun n => if n ∈ l then Option.none else σ n
def ren (ρ : Int → Int) (t : Tm) : Tm := t.mapv fun v => vr (ρ v)
structure Sim (ρ : Int → Int) (N : Int) (σ τ : Sub) : Prop where
  inj : ∀ v w, 0 ≤ v → v < N → 0 ≤ w → w < N → ρ v = ρ w → v = w
  map : ∀ v, 0 ≤ v → v < N → τ (ρ v) = (σ v).map (ren ρ)
section
variable {ρ : Int → Int} {N : Int} {σ τ : Sub}
end
end Go.AW


namespace Go.AW
open Go.Proofs.Try
set_option linter.unusedSimpArgs false
set_option maxRecDepth 100000
def InR (n : Int) : Prop := -999 ≤ n ∧ n ≤ 999
theorem arOp_in (s : ByteArray) (a b : Int) (ha : InR a) (hb : InR b) : InR (arOp s a b).1 := by
  unfold arOp InR
  split
  · exact ranged_le _
  split
  · exact ranged_le _
  split
  · exact ranged_le _
  split
  · simp
  rename_i h0
  split
  · exact fmodI_le a b ha hb h0
  · exact tdiv_le a b ha
theorem both_in {f : Int → Int → Int × Int} {x y : Int × Int} (h : InR (f x.1 y.1).1) : InR (both f x y).1 := by
  unfold both InR
  split
  · simp
  split
  · simp
  · exact h
theorem Tm.ev_in {N : Int} : ∀ t : Tm, OkV N t → InR t.ev.1 := by
  intro t
  induction t using Tm.ind with
  | h k n s ts ih =>
    intro h
    obtain ⟨h1, h2⟩ := h.all
    rw [Tm.ev_mk]
    split
    · rename_i hk; exact h1 hk
    split
    · simp [InR]
    split
    · match ts, h2, ih with
      | [], _, _ => simp [two, InR]
      | [x], _, _ => simp [two, InR]
      | [x, y], h2, ih => exact both_in (arOp_in _ _ _ (ih x (by simp) (h2 x (by simp))) (ih y (by simp) (h2 y (by simp))))
      | x :: y :: z :: l, _, _ => simp [two, InR]
    · simp [InR]
theorem two_kids {ts : List Tm} (h : (ts.length : Int) = 2) : ∃ x y, ts = [x, y] := by
  match ts, h with
  | [x, y], _ => exact ⟨x, y, rfl⟩
  | [], h => simp at h
  | [x], h => simp at h
  | x :: y :: z :: l, h => simp at h; omega
abbrev tf_B1_45 := And.intro tI_2 (And.intro zI_2 (And.intro underlying2 (And.intro tI_3 (And.intro zI_3 (And.intro underlying3 (And.intro tI_4 (And.intro zI_4 (And.intro underlying4 (And.intro tI_5 (And.intro zI_5 (And.intro underlying5 (And.intro tI_6 (And.intro zI_6 (And.intro underlying6 (And.intro tI_7 (And.intro zI_7 (And.intro fI_7_0 (And.intro fI_7_1 (And.intro fI_7_2 (And.intro fI_7_3 (And.intro bI_7 (And.intro tI_8 (And.intro zI_8 (And.intro fI_8_0 (And.intro fI_8_1 (And.intro fI_8_2 (And.intro fI_8_3 (And.intro bI_8 (And.intro tI_9 (And.intro zI_9 (And.intro underlying9 (And.intro tI_10 (And.intro zI_10 (And.intro underlying10 (And.intro tI_11 (And.intro zI_11 (And.intro underlying11 (And.intro tI_12 (And.intro zI_12 (And.intro underlying12 (And.intro tI_13 (And.intro zI_13 (And.intro fI_13_0 (And.intro fI_13_1 (And.intro bI_13 (And.intro tI_14 (And.intro zI_14 (And.intro fI_14_0 (And.intro fI_14_1 (And.intro bI_14 (And.intro tI_15 (And.intro zI_15 (And.intro tI_16 (And.intro zI_16 (And.intro tI_17 (And.intro zI_17 (And.intro tI_18 (And.intro zI_18 (And.intro fI_18_0 (And.intro bI_18 (And.intro tI_19 (And.intro zI_19 (And.intro fI_19_0 (And.intro bI_19 (And.intro tI_21 (And.intro zI_21 (And.intro underlying21 (And.intro tI_22 (And.intro zI_22 (And.intro eI_22 (And.intro eB_22 (And.intro eZ_22 (And.intro underlying22 (And.intro tI_23 (And.intro zI_23 (And.intro eI_23 (And.intro eB_23 (And.intro eZ_23 (And.intro underlying23 (And.intro tI_24 (And.intro zI_24 (And.intro fI_24_0 (And.intro fI_24_1 (And.intro fI_24_2 (And.intro fI_24_3 (And.intro bI_24 (And.intro tI_25 (And.intro zI_25 (And.intro fI_25_0 (And.intro fI_25_1 (And.intro fI_25_2 (And.intro fI_25_3 (And.intro bI_25 (And.intro tI_27 (And.intro zI_27 (And.intro eI_27 (And.intro eB_27 (And.intro eZ_27 (And.intro underlying27 (And.intro tI_34 (And.intro zI_34 (And.intro tI_48 (And.intro zI_48 (And.intro fI_48_0 (And.intro fI_48_1 (And.intro bI_48 (And.intro tI_63 (And.intro zI_63 (And.intro eI_63 (And.intro eB_63 (And.intro eZ_63 (And.intro underlying63 (And.intro tI_67 (And.intro zI_67 (And.intro tI_109 (And.intro zI_109 underlying109))))))))))))))))))))))))))))))))))))))))))))))))))))))))))))))))))))))))))))))))))))))))))))))))))))))))))))))))))))
theorem c_arith {N : Int} : ∀ (t : Tm) (st : zy7), OkV N t → zq7 prog 45 [t.av] st (fun r st' => r = .tup [.int .i64 t.ev.1, .int .i64 t.ev.2] ∧ st' = st)
  | .mk k n s ts, st, hok => by
    obtain ⟨h1, h2⟩ := hok.all
    have IH := fun (x : Tm) (hx : x ∈ ts) st => c_arith x st (h2 x hx)
    rw [Tm.ev_mk]
    simp only [Tm.av_mk]
    refine zw6 [1000000] func45 ntmps45 rfl rfl (by kernel_rfl) (by decide +kernel) (by show 1 ≤ _; decide +kernel) ?_
    intro _
    simp -implicitDefEqProofs only [List.length_map, evE, ↓evZ2, ↓evZ3, ↓Int.cast_ofNat_Int, implies_true, zy2, aFn, List.contains, List.elem, zq3, zy1, zq2, sub, zx3, zw2, zw3, zy3, gd, zq1, zw0, zq0, zx0, zx2, zx1, zy0, zw1, List.range', ↓reduceIte, reduceCtorEq, Nat.reduceEqDiff, Nat.reduceAdd, Nat.reduceLeDiff, Nat.reduceMul, Nat.reduceLT, Nat.reduceBEq, Int.reduceEq, tf_B1_45]
    refine zq4 (fun hk => ?_) (fun hk => ?_)
    · simp -implicitDefEqProofs only [List.length_map, evE, ↓evZ2, ↓evZ3, ↓Int.cast_ofNat_Int, implies_true, zy2, aFn, List.contains, List.elem, zq3, zy1, zq2, sub, zx3, zw2, zw3, zy3, gd, zq1, zw0, zq0, zx0, zx2, zx1, zy0, zw1, List.range', ↓reduceIte, reduceCtorEq, Nat.reduceEqDiff, Nat.reduceAdd, Nat.reduceLeDiff, Nat.reduceMul, Nat.reduceLT, Nat.reduceBEq, Int.reduceEq, tf_B1_45]
      simp only [decide_eq_true_eq] at hk
      simp [hk]
    simp only [decide_eq_false_iff_not] at hk
    rw [if_neg hk]
    simp -implicitDefEqProofs only [List.length_map, evE, ↓evZ2, ↓evZ3, ↓Int.cast_ofNat_Int, implies_true, zy2, aFn, List.contains, List.elem, zq3, zy1, zq2, sub, zx3, zw2, zw3, zy3, gd, zq1, zw0, zq0, zx0, zx2, zx1, zy0, zw1, List.range', ↓reduceIte, reduceCtorEq, Nat.reduceEqDiff, Nat.reduceAdd, Nat.reduceLeDiff, Nat.reduceMul, Nat.reduceLT, Nat.reduceBEq, Int.reduceEq, tf_B1_45]
    refine zq4 (fun hk1 => ?_) (fun hk1 => ?_)
    · simp -implicitDefEqProofs only [List.length_map, evE, ↓evZ2, ↓evZ3, ↓Int.cast_ofNat_Int, implies_true, zy2, aFn, List.contains, List.elem, zq3, zy1, zq2, sub, zx3, zw2, zw3, zy3, gd, zq1, zw0, zq0, zx0, zx2, zx1, zy0, zw1, List.range', ↓reduceIte, reduceCtorEq, Nat.reduceEqDiff, Nat.reduceAdd, Nat.reduceLeDiff, Nat.reduceMul, Nat.reduceLT, Nat.reduceBEq, Int.reduceEq, tf_B1_45]
      simp only [decide_eq_true_eq] at hk1
      simp [hk1]
    simp only [decide_eq_false_iff_not] at hk1
    rw [if_neg hk1]
    simp -implicitDefEqProofs only [List.length_map, evE, ↓evZ2, ↓evZ3, ↓Int.cast_ofNat_Int, implies_true, zy2, aFn, List.contains, List.elem, zq3, zy1, zq2, sub, zx3, zw2, zw3, zy3, gd, zq1, zw0, zq0, zx0, zx2, zx1, zy0, zw1, List.range', ↓reduceIte, reduceCtorEq, Nat.reduceEqDiff, Nat.reduceAdd, Nat.reduceLeDiff, Nat.reduceMul, Nat.reduceLT, Nat.reduceBEq, Int.reduceEq, tf_B1_45]
    have hty : ∀ s0 : zy7, ts.length ≠ 2 ∨ inN arNames s = false → (if inN arNames s = true then two (arOp s) (ts.map Tm.ev) else (0, 3)) = ((0 : Int), (3 : Int)) := fun _ h => by
      split
      · rename_i h3
        rcases h with h | h
        · match ts, h with
          | [], _ => rfl
          | [x], _ => rfl
          | [x, y], h => simp at h
          | x :: y :: z :: l, _ => rfl
        · rw [h] at h3; cases h3
      · rfl
    refine zx4 (fun h => ?_) (fun h => ?_)
    case refine_2 =>
      simp -implicitDefEqProofs only [h, List.length_map, evE, ↓evZ2, ↓evZ3, ↓Int.cast_ofNat_Int, implies_true, zy2, aFn, List.contains, List.elem, zq3, zy1, zq2, sub, zx3, zw2, zw3, zy3, gd, zq1, zw0, zq0, zx0, zx2, zx1, zy0, zw1, List.range', ↓reduceIte, reduceCtorEq, Nat.reduceEqDiff, Nat.reduceAdd, Nat.reduceLeDiff, Nat.reduceMul, Nat.reduceLT, Nat.reduceBEq, Int.reduceEq, tf_B1_45]
      rw [hty st (.inl (by simp at h; omega))]
    simp -implicitDefEqProofs only [h, List.length_map, evE, ↓evZ2, ↓evZ3, ↓Int.cast_ofNat_Int, implies_true, zy2, aFn, List.contains, List.elem, zq3, zy1, zq2, sub, zx3, zw2, zw3, zy3, gd, zq1, zw0, zq0, zx0, zx2, zx1, zy0, zw1, List.range', ↓reduceIte, reduceCtorEq, Nat.reduceEqDiff, Nat.reduceAdd, Nat.reduceLeDiff, Nat.reduceMul, Nat.reduceLT, Nat.reduceBEq, Int.reduceEq, tf_B1_45]
    refine (c_ContainsS' arNames s _).to ?_
    simp -implicitDefEqProofs only [h, List.length_map, evE, ↓evZ2, ↓evZ3, ↓Int.cast_ofNat_Int, implies_true, zy2, aFn, List.contains, List.elem, zq3, zy1, zq2, sub, zx3, zw2, zw3, zy3, gd, zq1, zw0, zq0, zx0, zx2, zx1, zy0, zw1, List.range', ↓reduceIte, reduceCtorEq, Nat.reduceEqDiff, Nat.reduceAdd, Nat.reduceLeDiff, Nat.reduceMul, Nat.reduceLT, Nat.reduceBEq, Int.reduceEq, tf_B1_45]
    refine zq4 (fun h3 => ?_) (fun h3 => ?_)
    · simp -implicitDefEqProofs only [List.length_map, evE, ↓evZ2, ↓evZ3, ↓Int.cast_ofNat_Int, implies_true, zy2, aFn, List.contains, List.elem, zq3, zy1, zq2, sub, zx3, zw2, zw3, zy3, gd, zq1, zw0, zq0, zx0, zx2, zx1, zy0, zw1, List.range', ↓reduceIte, reduceCtorEq, Nat.reduceEqDiff, Nat.reduceAdd, Nat.reduceLeDiff, Nat.reduceMul, Nat.reduceLT, Nat.reduceBEq, Int.reduceEq, tf_B1_45]
      rw [hty st (.inr (by simpa [inN] using h3))]
    have hin : inN arNames s = true := by simpa [inN] using h3
    rw [if_pos hin]
    clear hty
    obtain ⟨x, y, rfl⟩ := two_kids (by simpa using h)
    have hat0 : aIndexAddr prog 23 (.slice [x.av, y.av]) (.int .i64 0) = some (.pptr x.av) := ev_at (av := Tm.av) (l := [x, y]) (i := 0) eI_23 rfl (Tm.av_width x)
    have hat1 : aIndexAddr prog 23 (.slice [x.av, y.av]) (.int .i64 1) = some (.pptr y.av) := ev_at (av := Tm.av) (l := [x, y]) (i := 1) eI_23 rfl (Tm.av_width y)
    have hx := Tm.ev_in x (h2 x (by simp))
    have hy := Tm.ev_in y (h2 y (by simp))
    have IHx := fun st => IH x (by simp) st
    have IHy := fun st => IH y (by simp) st
    simp -implicitDefEqProofs only [hat0, hat1, Tm.av_agg, Tm.av_width, evE, ↓evZ2, ↓evZ3, ↓Int.cast_ofNat_Int, implies_true, zy2, aFn, List.contains, List.elem, zq3, zy1, zq2, sub, zx3, zw2, zw3, zy3, gd, zq1, zw0, zq0, zx0, zx2, zx1, zy0, zw1, List.range', ↓reduceIte, reduceCtorEq, Nat.reduceEqDiff, Nat.reduceAdd, Nat.reduceLeDiff, Nat.reduceMul, Nat.reduceLT, Nat.reduceBEq, Int.reduceEq, tf_B1_45]
    refine (IHx _).to ?_
    simp only [List.map_cons, List.map_nil, two, both]
    generalize x.ev.1 = a at *
    generalize x.ev.2 = ca at *
    generalize y.ev.1 = b at *
    generalize y.ev.2 = cb at *
    simp -implicitDefEqProofs only [hat0, hat1, Tm.av_agg, Tm.av_width, evE, ↓evZ2, ↓evZ3, ↓Int.cast_ofNat_Int, implies_true, zy2, aFn, List.contains, List.elem, zq3, zy1, zq2, sub, zx3, zw2, zw3, zy3, gd, zq1, zw0, zq0, zx0, zx2, zx1, zy0, zw1, List.range', ↓reduceIte, reduceCtorEq, Nat.reduceEqDiff, Nat.reduceAdd, Nat.reduceLeDiff, Nat.reduceMul, Nat.reduceLT, Nat.reduceBEq, Int.reduceEq, tf_B1_45]
    refine zq4 (fun h4 => ?_) (fun h4 => ?_)
    · simp -implicitDefEqProofs only [hat0, hat1, Tm.av_agg, Tm.av_width, evE, ↓evZ2, ↓evZ3, ↓Int.cast_ofNat_Int, implies_true, zy2, aFn, List.contains, List.elem, zq3, zy1, zq2, sub, zx3, zw2, zw3, zy3, gd, zq1, zw0, zq0, zx0, zx2, zx1, zy0, zw1, List.range', ↓reduceIte, reduceCtorEq, Nat.reduceEqDiff, Nat.reduceAdd, Nat.reduceLeDiff, Nat.reduceMul, Nat.reduceLT, Nat.reduceBEq, Int.reduceEq, tf_B1_45]
      have h4' : ca ≠ 0 := by simpa using h4
      rw [if_pos h4']
    have h4' : ca = 0 := by simpa using h4
    subst h4'
    rw [if_neg (by simp)]
    simp -implicitDefEqProofs only [hat0, hat1, Tm.av_agg, Tm.av_width, evE, ↓evZ2, ↓evZ3, ↓Int.cast_ofNat_Int, implies_true, zy2, aFn, List.contains, List.elem, zq3, zy1, zq2, sub, zx3, zw2, zw3, zy3, gd, zq1, zw0, zq0, zx0, zx2, zx1, zy0, zw1, List.range', ↓reduceIte, reduceCtorEq, Nat.reduceEqDiff, Nat.reduceAdd, Nat.reduceLeDiff, Nat.reduceMul, Nat.reduceLT, Nat.reduceBEq, Int.reduceEq, tf_B1_45]
    refine (IHy _).to ?_
    simp -implicitDefEqProofs only [hat0, hat1, Tm.av_agg, Tm.av_width, evE, ↓evZ2, ↓evZ3, ↓Int.cast_ofNat_Int, implies_true, zy2, aFn, List.contains, List.elem, zq3, zy1, zq2, sub, zx3, zw2, zw3, zy3, gd, zq1, zw0, zq0, zx0, zx2, zx1, zy0, zw1, List.range', ↓reduceIte, reduceCtorEq, Nat.reduceEqDiff, Nat.reduceAdd, Nat.reduceLeDiff, Nat.reduceMul, Nat.reduceLT, Nat.reduceBEq, Int.reduceEq, tf_B1_45]
    refine zq4 (fun h5 => ?_) (fun h5 => ?_)
    · simp -implicitDefEqProofs only [hat0, hat1, Tm.av_agg, Tm.av_width, evE, ↓evZ2, ↓evZ3, ↓Int.cast_ofNat_Int, implies_true, zy2, aFn, List.contains, List.elem, zq3, zy1, zq2, sub, zx3, zw2, zw3, zy3, gd, zq1, zw0, zq0, zx0, zx2, zx1, zy0, zw1, List.range', ↓reduceIte, reduceCtorEq, Nat.reduceEqDiff, Nat.reduceAdd, Nat.reduceLeDiff, Nat.reduceMul, Nat.reduceLT, Nat.reduceBEq, Int.reduceEq, tf_B1_45]
      have h5' : cb ≠ 0 := by simpa using h5
      rw [if_pos h5']
    have h5' : cb = 0 := by simpa using h5
    subst h5'
    rw [if_neg (by simp)]
    unfold InR at hx hy
    have hmul : -998001 ≤ a * b ∧ a * b ≤ 998001 := by
      have h6 : (a * b).natAbs ≤ 998001 := by
        rw [Int.natAbs_mul]
        have := Nat.mul_le_mul (show a.natAbs ≤ 999 by omega) (show b.natAbs ≤ 999 by omega)
        omega
      omega
    have hw1 := wrap64 (n := a + b) (by omega) (by omega)
    have hw2 := wrap64 (n := a - b) (by omega) (by omega)
    have hw3 := wrap64 (n := a * b) (by omega) (by omega)
    have hrg : ∀ (v : Int) (st' : zy7), zq7 prog 48 [.int .i64 v, .int .i64 (-999), .int .i64 999] st' (fun r s' => r = .bool (decide (ranged v = (v, 0))) ∧ s' = st') := fun v st' => by
      refine (c_within v (-999) 999 st').mono ?_
      rintro _ _ ⟨rfl, rfl⟩
      refine ⟨?_, rfl⟩
      congr 1
      unfold ranged
      split
      · rename_i h; simp [h.1, h.2]
      · rename_i h
        rw [show (decide (((0 : Int), (5 : Int)) = (v, 0))) = false from decide_eq_false (by simp)]
        simp only [Bool.and_eq_false_iff, decide_eq_false_iff_not]
        omega
    have hrn : ∀ v, ranged v ≠ (v, 0) → ranged v = (0, 5) := fun v h => by
      unfold ranged at h ⊢
      split
      · rename_i h'; rw [if_pos h'] at h; exact absurd rfl h
      · rfl
    unfold arOp
    simp -implicitDefEqProofs only [hw1, hw2, hw3, evE, ↓evZ2, ↓evZ3, ↓Int.cast_ofNat_Int, implies_true, zy2, aFn, List.contains, List.elem, zq3, zy1, zq2, sub, zx3, zw2, zw3, zy3, gd, zq1, zw0, zq0, zx0, zx2, zx1, zy0, zw1, List.range', ↓reduceIte, reduceCtorEq, Nat.reduceEqDiff, Nat.reduceAdd, Nat.reduceLeDiff, Nat.reduceMul, Nat.reduceLT, Nat.reduceBEq, Int.reduceEq, tf_B1_45]
    refine zq4 (fun h6 => ?_) (fun h6 => ?_)
    · simp -implicitDefEqProofs only [hw1, hw2, hw3, evE, ↓evZ2, ↓evZ3, ↓Int.cast_ofNat_Int, implies_true, zy2, aFn, List.contains, List.elem, zq3, zy1, zq2, sub, zx3, zw2, zw3, zy3, gd, zq1, zw0, zq0, zx0, zx2, zx1, zy0, zw1, List.range', ↓reduceIte, reduceCtorEq, Nat.reduceEqDiff, Nat.reduceAdd, Nat.reduceLeDiff, Nat.reduceMul, Nat.reduceLT, Nat.reduceBEq, Int.reduceEq, tf_B1_45]
      rw [if_pos (by simpa using h6)]
      refine (hrg (a + b) _).to ?_
      simp -implicitDefEqProofs only [hw1, hw2, hw3, evE, ↓evZ2, ↓evZ3, ↓Int.cast_ofNat_Int, implies_true, zy2, aFn, List.contains, List.elem, zq3, zy1, zq2, sub, zx3, zw2, zw3, zy3, gd, zq1, zw0, zq0, zx0, zx2, zx1, zy0, zw1, List.range', ↓reduceIte, reduceCtorEq, Nat.reduceEqDiff, Nat.reduceAdd, Nat.reduceLeDiff, Nat.reduceMul, Nat.reduceLT, Nat.reduceBEq, Int.reduceEq, tf_B1_45]
      refine zq4 (fun h8 => ?_) (fun h8 => ?_)
      · simp -implicitDefEqProofs only [hw1, hw2, hw3, evE, ↓evZ2, ↓evZ3, ↓Int.cast_ofNat_Int, implies_true, zy2, aFn, List.contains, List.elem, zq3, zy1, zq2, sub, zx3, zw2, zw3, zy3, gd, zq1, zw0, zq0, zx0, zx2, zx1, zy0, zw1, List.range', ↓reduceIte, reduceCtorEq, Nat.reduceEqDiff, Nat.reduceAdd, Nat.reduceLeDiff, Nat.reduceMul, Nat.reduceLT, Nat.reduceBEq, Int.reduceEq, tf_B1_45]
        rw [hrn _ (by simpa using h8)]
      · simp -implicitDefEqProofs only [hw1, hw2, hw3, evE, ↓evZ2, ↓evZ3, ↓Int.cast_ofNat_Int, implies_true, zy2, aFn, List.contains, List.elem, zq3, zy1, zq2, sub, zx3, zw2, zw3, zy3, gd, zq1, zw0, zq0, zx0, zx2, zx1, zy0, zw1, List.range', ↓reduceIte, reduceCtorEq, Nat.reduceEqDiff, Nat.reduceAdd, Nat.reduceLeDiff, Nat.reduceMul, Nat.reduceLT, Nat.reduceBEq, Int.reduceEq, tf_B1_45]
        rw [show ranged (a + b) = (a + b, 0) by simpa using h8]
    rw [if_neg (by simpa using h6)]
    simp -implicitDefEqProofs only [hw1, hw2, hw3, evE, ↓evZ2, ↓evZ3, ↓Int.cast_ofNat_Int, implies_true, zy2, aFn, List.contains, List.elem, zq3, zy1, zq2, sub, zx3, zw2, zw3, zy3, gd, zq1, zw0, zq0, zx0, zx2, zx1, zy0, zw1, List.range', ↓reduceIte, reduceCtorEq, Nat.reduceEqDiff, Nat.reduceAdd, Nat.reduceLeDiff, Nat.reduceMul, Nat.reduceLT, Nat.reduceBEq, Int.reduceEq, tf_B1_45]
    refine zq4 (fun h7 => ?_) (fun h7 => ?_)
    · simp -implicitDefEqProofs only [hw1, hw2, hw3, evE, ↓evZ2, ↓evZ3, ↓Int.cast_ofNat_Int, implies_true, zy2, aFn, List.contains, List.elem, zq3, zy1, zq2, sub, zx3, zw2, zw3, zy3, gd, zq1, zw0, zq0, zx0, zx2, zx1, zy0, zw1, List.range', ↓reduceIte, reduceCtorEq, Nat.reduceEqDiff, Nat.reduceAdd, Nat.reduceLeDiff, Nat.reduceMul, Nat.reduceLT, Nat.reduceBEq, Int.reduceEq, tf_B1_45]
      rw [if_pos (by simpa using h7)]
      refine (hrg (a - b) _).to ?_
      simp -implicitDefEqProofs only [hw1, hw2, hw3, evE, ↓evZ2, ↓evZ3, ↓Int.cast_ofNat_Int, implies_true, zy2, aFn, List.contains, List.elem, zq3, zy1, zq2, sub, zx3, zw2, zw3, zy3, gd, zq1, zw0, zq0, zx0, zx2, zx1, zy0, zw1, List.range', ↓reduceIte, reduceCtorEq, Nat.reduceEqDiff, Nat.reduceAdd, Nat.reduceLeDiff, Nat.reduceMul, Nat.reduceLT, Nat.reduceBEq, Int.reduceEq, tf_B1_45]
      refine zq4 (fun h8 => ?_) (fun h8 => ?_)
      · simp -implicitDefEqProofs only [hw1, hw2, hw3, evE, ↓evZ2, ↓evZ3, ↓Int.cast_ofNat_Int, implies_true, zy2, aFn, List.contains, List.elem, zq3, zy1, zq2, sub, zx3, zw2, zw3, zy3, gd, zq1, zw0, zq0, zx0, zx2, zx1, zy0, zw1, List.range', ↓reduceIte, reduceCtorEq, Nat.reduceEqDiff, Nat.reduceAdd, Nat.reduceLeDiff, Nat.reduceMul, Nat.reduceLT, Nat.reduceBEq, Int.reduceEq, tf_B1_45]
        rw [hrn _ (by simpa using h8)]
      · simp -implicitDefEqProofs only [hw1, hw2, hw3, evE, ↓evZ2, ↓evZ3, ↓Int.cast_ofNat_Int, implies_true, zy2, aFn, List.contains, List.elem, zq3, zy1, zq2, sub, zx3, zw2, zw3, zy3, gd, zq1, zw0, zq0, zx0, zx2, zx1, zy0, zw1, List.range', ↓reduceIte, reduceCtorEq, Nat.reduceEqDiff, Nat.reduceAdd, Nat.reduceLeDiff, Nat.reduceMul, Nat.reduceLT, Nat.reduceBEq, Int.reduceEq, tf_B1_45]
        rw [show ranged (a - b) = (a - b, 0) by simpa using h8]
    rw [if_neg (by simpa using h7)]
    simp -implicitDefEqProofs only [hw1, hw2, hw3, evE, ↓evZ2, ↓evZ3, ↓Int.cast_ofNat_Int, implies_true, zy2, aFn, List.contains, List.elem, zq3, zy1, zq2, sub, zx3, zw2, zw3, zy3, gd, zq1, zw0, zq0, zx0, zx2, zx1, zy0, zw1, List.range', ↓reduceIte, reduceCtorEq, Nat.reduceEqDiff, Nat.reduceAdd, Nat.reduceLeDiff, Nat.reduceMul, Nat.reduceLT, Nat.reduceBEq, Int.reduceEq, tf_B1_45]
    refine zq4 (fun h9 => ?_) (fun h9 => ?_)
    · simp -implicitDefEqProofs only [hw1, hw2, hw3, evE, ↓evZ2, ↓evZ3, ↓Int.cast_ofNat_Int, implies_true, zy2, aFn, List.contains, List.elem, zq3, zy1, zq2, sub, zx3, zw2, zw3, zy3, gd, zq1, zw0, zq0, zx0, zx2, zx1, zy0, zw1, List.range', ↓reduceIte, reduceCtorEq, Nat.reduceEqDiff, Nat.reduceAdd, Nat.reduceLeDiff, Nat.reduceMul, Nat.reduceLT, Nat.reduceBEq, Int.reduceEq, tf_B1_45]
      rw [if_pos (by simpa using h9)]
      refine (hrg (a * b) _).to ?_
      simp -implicitDefEqProofs only [hw1, hw2, hw3, evE, ↓evZ2, ↓evZ3, ↓Int.cast_ofNat_Int, implies_true, zy2, aFn, List.contains, List.elem, zq3, zy1, zq2, sub, zx3, zw2, zw3, zy3, gd, zq1, zw0, zq0, zx0, zx2, zx1, zy0, zw1, List.range', ↓reduceIte, reduceCtorEq, Nat.reduceEqDiff, Nat.reduceAdd, Nat.reduceLeDiff, Nat.reduceMul, Nat.reduceLT, Nat.reduceBEq, Int.reduceEq, tf_B1_45]
      refine zq4 (fun h8 => ?_) (fun h8 => ?_)
      · simp -implicitDefEqProofs only [hw1, hw2, hw3, evE, ↓evZ2, ↓evZ3, ↓Int.cast_ofNat_Int, implies_true, zy2, aFn, List.contains, List.elem, zq3, zy1, zq2, sub, zx3, zw2, zw3, zy3, gd, zq1, zw0, zq0, zx0, zx2, zx1, zy0, zw1, List.range', ↓reduceIte, reduceCtorEq, Nat.reduceEqDiff, Nat.reduceAdd, Nat.reduceLeDiff, Nat.reduceMul, Nat.reduceLT, Nat.reduceBEq, Int.reduceEq, tf_B1_45]
        rw [hrn _ (by simpa using h8)]
      · simp -implicitDefEqProofs only [hw1, hw2, hw3, evE, ↓evZ2, ↓evZ3, ↓Int.cast_ofNat_Int, implies_true, zy2, aFn, List.contains, List.elem, zq3, zy1, zq2, sub, zx3, zw2, zw3, zy3, gd, zq1, zw0, zq0, zx0, zx2, zx1, zy0, zw1, List.range', ↓reduceIte, reduceCtorEq, Nat.reduceEqDiff, Nat.reduceAdd, Nat.reduceLeDiff, Nat.reduceMul, Nat.reduceLT, Nat.reduceBEq, Int.reduceEq, tf_B1_45]
        rw [show ranged (a * b) = (a * b, 0) by simpa using h8]
    rw [if_neg (by simpa using h9)]
    simp -implicitDefEqProofs only [hw1, hw2, hw3, evE, ↓evZ2, ↓evZ3, ↓Int.cast_ofNat_Int, implies_true, zy2, aFn, List.contains, List.elem, zq3, zy1, zq2, sub, zx3, zw2, zw3, zy3, gd, zq1, zw0, zq0, zx0, zx2, zx1, zy0, zw1, List.range', ↓reduceIte, reduceCtorEq, Nat.reduceEqDiff, Nat.reduceAdd, Nat.reduceLeDiff, Nat.reduceMul, Nat.reduceLT, Nat.reduceBEq, Int.reduceEq, tf_B1_45]
    refine zq4 (fun h0 => ?_) (fun h0 => ?_)
    · simp -implicitDefEqProofs only [hw1, hw2, hw3, evE, ↓evZ2, ↓evZ3, ↓Int.cast_ofNat_Int, implies_true, zy2, aFn, List.contains, List.elem, zq3, zy1, zq2, sub, zx3, zw2, zw3, zy3, gd, zq1, zw0, zq0, zx0, zx2, zx1, zy0, zw1, List.range', ↓reduceIte, reduceCtorEq, Nat.reduceEqDiff, Nat.reduceAdd, Nat.reduceLeDiff, Nat.reduceMul, Nat.reduceLT, Nat.reduceBEq, Int.reduceEq, tf_B1_45]
      rw [if_pos (by simpa using h0)]
    have h0' : b ≠ 0 := by simpa using h0
    rw [if_neg h0']
    have hq := tdiv_le a b hx
    have hr := tmod_lt a b h0'
    have hf := fmodI_le a b hx hy h0'
    have hfe := fmodI_eq a b h0'
    have hw4 := wrap64 (n := a.tdiv b) (by omega) (by omega)
    have hw5 := wrap64 (n := a.tmod b + b) (by omega) (by omega)
    have hin1 : ranged (a.tdiv b) = (a.tdiv b, 0) := by unfold ranged; rw [if_pos hq]
    have hin2 : ranged (fmodI a b) = (fmodI a b, 0) := by unfold ranged; rw [if_pos hf]
    simp -implicitDefEqProofs only [hw4, hw5, h0', hfe, evE, ↓evZ2, ↓evZ3, ↓Int.cast_ofNat_Int, implies_true, zy2, aFn, List.contains, List.elem, zq3, zy1, zq2, sub, zx3, zw2, zw3, zy3, gd, zq1, zw0, zq0, zx0, zx2, zx1, zy0, zw1, List.range', ↓reduceIte, reduceCtorEq, Nat.reduceEqDiff, Nat.reduceAdd, Nat.reduceLeDiff, Nat.reduceMul, Nat.reduceLT, Nat.reduceBEq, Int.reduceEq, tf_B1_45]
    refine zq4 (fun h10 => ?_) (fun h10 => ?_)
    · simp -implicitDefEqProofs only [hw4, hw5, h0', hfe, evE, ↓evZ2, ↓evZ3, ↓Int.cast_ofNat_Int, implies_true, zy2, aFn, List.contains, List.elem, zq3, zy1, zq2, sub, zx3, zw2, zw3, zy3, gd, zq1, zw0, zq0, zx0, zx2, zx1, zy0, zw1, List.range', ↓reduceIte, reduceCtorEq, Nat.reduceEqDiff, Nat.reduceAdd, Nat.reduceLeDiff, Nat.reduceMul, Nat.reduceLT, Nat.reduceBEq, Int.reduceEq, tf_B1_45]
      rw [if_pos (by simpa using h10)]
      refine (hrg (fmodI a b) _).to ?_
      have hd : decide (ranged (fmodI a b) = (fmodI a b, 0)) = true := by rw [hin2]; simp
      simp -implicitDefEqProofs only [hd, hw4, hw5, h0', hfe, evE, ↓evZ2, ↓evZ3, ↓Int.cast_ofNat_Int, implies_true, zy2, aFn, List.contains, List.elem, zq3, zy1, zq2, sub, zx3, zw2, zw3, zy3, gd, zq1, zw0, zq0, zx0, zx2, zx1, zy0, zw1, List.range', ↓reduceIte, reduceCtorEq, Nat.reduceEqDiff, Nat.reduceAdd, Nat.reduceLeDiff, Nat.reduceMul, Nat.reduceLT, Nat.reduceBEq, Int.reduceEq, tf_B1_45]
    · simp -implicitDefEqProofs only [hw4, hw5, h0', hfe, evE, ↓evZ2, ↓evZ3, ↓Int.cast_ofNat_Int, implies_true, zy2, aFn, List.contains, List.elem, zq3, zy1, zq2, sub, zx3, zw2, zw3, zy3, gd, zq1, zw0, zq0, zx0, zx2, zx1, zy0, zw1, List.range', ↓reduceIte, reduceCtorEq, Nat.reduceEqDiff, Nat.reduceAdd, Nat.reduceLeDiff, Nat.reduceMul, Nat.reduceLT, Nat.reduceBEq, Int.reduceEq, tf_B1_45]
      rw [if_neg (by simpa using h10)]
      refine (hrg (a.tdiv b) _).to ?_
      have hd : decide (ranged (a.tdiv b) = (a.tdiv b, 0)) = true := by rw [hin1]; simp
      simp -implicitDefEqProofs only [hd, hw4, hw5, h0', hfe, evE, ↓evZ2, ↓evZ3, ↓Int.cast_ofNat_Int, implies_true, zy2, aFn, List.contains, List.elem, zq3, zy1, zq2, sub, zx3, zw2, zw3, zy3, gd, zq1, zw0, zq0, zx0, zx2, zx1, zy0, zw1, List.range', ↓reduceIte, reduceCtorEq, Nat.reduceEqDiff, Nat.reduceAdd, Nat.reduceLeDiff, Nat.reduceMul, Nat.reduceLT, Nat.reduceBEq, Int.reduceEq, tf_B1_45]
termination_by t => SizeOf.sizeOf t
decreasing_by have := List.sizeOf_lt_of_mem hx; simp only [Tm.mk.sizeOf_spec]; omega
abbrev tf_B1_83 := And.intro tI_2 (And.intro zI_2 (And.intro underlying2 (And.intro tI_3 (And.intro zI_3 (And.intro underlying3 (And.intro tI_5 (And.intro zI_5 (And.intro underlying5 (And.intro tI_11 (And.intro zI_11 underlying11))))))))))
theorem c_l5Ranged (n : Int) (st : zy7) : zq7 prog 83 [.int .i64 n] st (fun r st' => r = .tup [.int .i64 (ranged n).1, .int .i64 (ranged n).2] ∧ st' = st) := by
  refine zw6 [1000000] func83 ntmps83 rfl rfl (by kernel_rfl) (by decide +kernel) (by show 1 ≤ _; decide +kernel) ?_
  intro _
  simp -implicitDefEqProofs only [evE, ↓evZ2, ↓evZ3, ↓Int.cast_ofNat_Int, implies_true, zy2, aFn, List.contains, List.elem, zq3, zy1, zq2, sub, zx3, zw2, zw3, zy3, gd, zq1, zw0, zq0, zx0, zx2, zx1, zy0, zw1, List.range', ↓reduceIte, reduceCtorEq, Nat.reduceEqDiff, Nat.reduceAdd, Nat.reduceLeDiff, Nat.reduceMul, Nat.reduceLT, Nat.reduceBEq, Int.reduceEq, tf_B1_83]
  refine zx4 (fun h => ?_) (fun h => ?_)
  · simp -implicitDefEqProofs only [h, evE, ↓evZ2, ↓evZ3, ↓Int.cast_ofNat_Int, implies_true, zy2, aFn, List.contains, List.elem, zq3, zy1, zq2, sub, zx3, zw2, zw3, zy3, gd, zq1, zw0, zq0, zx0, zx2, zx1, zy0, zw1, List.range', ↓reduceIte, reduceCtorEq, Nat.reduceEqDiff, Nat.reduceAdd, Nat.reduceLeDiff, Nat.reduceMul, Nat.reduceLT, Nat.reduceBEq, Int.reduceEq, tf_B1_83]
    have h1 : ¬ n < -999 := by simpa using h
    refine zq4 (fun h2 => ?_) (fun h2 => ?_)
    · simp -implicitDefEqProofs only [evE, ↓evZ2, ↓evZ3, ↓Int.cast_ofNat_Int, implies_true, zy2, aFn, List.contains, List.elem, zq3, zy1, zq2, sub, zx3, zw2, zw3, zy3, gd, zq1, zw0, zq0, zx0, zx2, zx1, zy0, zw1, List.range', ↓reduceIte, reduceCtorEq, Nat.reduceEqDiff, Nat.reduceAdd, Nat.reduceLeDiff, Nat.reduceMul, Nat.reduceLT, Nat.reduceBEq, Int.reduceEq, tf_B1_83]
      have h2' : 999 < n := by simpa using h2
      unfold ranged
      rw [if_neg (by omega)]
    · simp -implicitDefEqProofs only [evE, ↓evZ2, ↓evZ3, ↓Int.cast_ofNat_Int, implies_true, zy2, aFn, List.contains, List.elem, zq3, zy1, zq2, sub, zx3, zw2, zw3, zy3, gd, zq1, zw0, zq0, zx0, zx2, zx1, zy0, zw1, List.range', ↓reduceIte, reduceCtorEq, Nat.reduceEqDiff, Nat.reduceAdd, Nat.reduceLeDiff, Nat.reduceMul, Nat.reduceLT, Nat.reduceBEq, Int.reduceEq, tf_B1_83]
      have h2' : ¬ 999 < n := by simpa using h2
      unfold ranged
      rw [if_pos (by omega)]
  · simp -implicitDefEqProofs only [h, evE, ↓evZ2, ↓evZ3, ↓Int.cast_ofNat_Int, implies_true, zy2, aFn, List.contains, List.elem, zq3, zy1, zq2, sub, zx3, zw2, zw3, zy3, gd, zq1, zw0, zq0, zx0, zx2, zx1, zy0, zw1, List.range', ↓reduceIte, reduceCtorEq, Nat.reduceEqDiff, Nat.reduceAdd, Nat.reduceLeDiff, Nat.reduceMul, Nat.reduceLT, Nat.reduceBEq, Int.reduceEq, tf_B1_83]
    have h1 : n < -999 := by simpa using h
    unfold ranged
    rw [if_neg (by omega)]
abbrev tf_B1_84 := And.intro tI_2 (And.intro zI_2 (And.intro underlying2 (And.intro tI_3 (And.intro zI_3 (And.intro underlying3 (And.intro tI_4 (And.intro zI_4 (And.intro underlying4 (And.intro tI_5 (And.intro zI_5 (And.intro underlying5 (And.intro tI_22 (And.intro zI_22 (And.intro eI_22 (And.intro eB_22 (And.intro eZ_22 underlying22))))))))))))))))
theorem c_l5Mod (a b : Int) (ha : InR a) (hb : InR b) (h0 : b ≠ 0) (st : zy7) : zq7 prog 84 [.int .i64 a, .int .i64 b] st (fun r st' => r = .int .i64 (fmodI a b) ∧ st' = st) := by
  have hl := tmod_lt a b h0
  unfold InR at ha hb
  have hw := wrap64 (n := a.tmod b + b) (by omega) (by omega)
  refine zw6 [1000000] func84 ntmps84 rfl rfl (by kernel_rfl) (by decide +kernel) (by show 2 ≤ _; decide +kernel) ?_
  intro _
  simp -implicitDefEqProofs only [h0, hw, evE, ↓evZ2, ↓evZ3, ↓Int.cast_ofNat_Int, implies_true, zy2, aFn, List.contains, List.elem, zq3, zy1, zq2, sub, zx3, zw2, zw3, zy3, gd, zq1, zw0, zq0, zx0, zx2, zx1, zy0, zw1, List.range', ↓reduceIte, reduceCtorEq, Nat.reduceEqDiff, Nat.reduceAdd, Nat.reduceLeDiff, Nat.reduceMul, Nat.reduceLT, Nat.reduceBEq, Int.reduceEq, tf_B1_84]
  have hf : fmodI a b = if a.tmod b ≠ 0 ∧ decide (a.tmod b < 0) ≠ decide (b < 0) then a.tmod b + b else a.tmod b := rfl
  rw [hf]
  clear hf
  generalize hm : a.tmod b = m at *
  refine zx4 (fun h => ?_) (fun h => ?_)
  · have h' : m ≠ 0 := by simpa using h
    simp -implicitDefEqProofs only [h, h0, hw, evE, ↓evZ2, ↓evZ3, ↓Int.cast_ofNat_Int, implies_true, zy2, aFn, List.contains, List.elem, zq3, zy1, zq2, sub, zx3, zw2, zw3, zy3, gd, zq1, zw0, zq0, zx0, zx2, zx1, zy0, zw1, List.range', ↓reduceIte, reduceCtorEq, Nat.reduceEqDiff, Nat.reduceAdd, Nat.reduceLeDiff, Nat.reduceMul, Nat.reduceLT, Nat.reduceBEq, Int.reduceEq, tf_B1_84]
    refine zq4 (fun h2 => ?_) (fun h2 => ?_)
    · simp -implicitDefEqProofs only [h0, hw, evE, ↓evZ2, ↓evZ3, ↓Int.cast_ofNat_Int, implies_true, zy2, aFn, List.contains, List.elem, zq3, zy1, zq2, sub, zx3, zw2, zw3, zy3, gd, zq1, zw0, zq0, zx0, zx2, zx1, zy0, zw1, List.range', ↓reduceIte, reduceCtorEq, Nat.reduceEqDiff, Nat.reduceAdd, Nat.reduceLeDiff, Nat.reduceMul, Nat.reduceLT, Nat.reduceBEq, Int.reduceEq, tf_B1_84]
      rw [if_pos ⟨h', by simpa using h2⟩]
    · simp -implicitDefEqProofs only [h0, hw, evE, ↓evZ2, ↓evZ3, ↓Int.cast_ofNat_Int, implies_true, zy2, aFn, List.contains, List.elem, zq3, zy1, zq2, sub, zx3, zw2, zw3, zy3, gd, zq1, zw0, zq0, zx0, zx2, zx1, zy0, zw1, List.range', ↓reduceIte, reduceCtorEq, Nat.reduceEqDiff, Nat.reduceAdd, Nat.reduceLeDiff, Nat.reduceMul, Nat.reduceLT, Nat.reduceBEq, Int.reduceEq, tf_B1_84]
      rw [if_neg (by intro h3; exact h3.2 (by simpa using h2))]
  · have h' : m = 0 := by simpa using h
    simp -implicitDefEqProofs only [h, h0, hw, evE, ↓evZ2, ↓evZ3, ↓Int.cast_ofNat_Int, implies_true, zy2, aFn, List.contains, List.elem, zq3, zy1, zq2, sub, zx3, zw2, zw3, zy3, gd, zq1, zw0, zq0, zx0, zx2, zx1, zy0, zw1, List.range', ↓reduceIte, reduceCtorEq, Nat.reduceEqDiff, Nat.reduceAdd, Nat.reduceLeDiff, Nat.reduceMul, Nat.reduceLT, Nat.reduceBEq, Int.reduceEq, tf_B1_84]
    rw [if_neg (by intro h3; exact h3.1 h')]
abbrev tf_B1_85 := And.intro tI_3 (And.intro zI_3 (And.intro underlying3 (And.intro tI_5 (And.intro zI_5 (And.intro underlying5 (And.intro tI_8 (And.intro zI_8 (And.intro fI_8_0 (And.intro fI_8_1 (And.intro fI_8_2 (And.intro fI_8_3 bI_8)))))))))))
theorem c_l5Div (a b : Int) (ha : InR a) (hb : InR b) (h0 : b ≠ 0) (st : zy7) : zq7 prog 85 [.int .i64 a, .int .i64 b] st (fun r st' => r = .int .i64 (a.tdiv b) ∧ st' = st) := by
  have hl := tdiv_le a b ha
  have hw := wrap64 (n := a.tdiv b) (by omega) (by omega)
  refine zw6 [1000000] func85 ntmps85 rfl rfl (by kernel_rfl) (by decide +kernel) (by show 2 ≤ _; decide +kernel) ?_
  intro _
  simp -implicitDefEqProofs only [h0, hw, evE, ↓evZ2, ↓evZ3, ↓Int.cast_ofNat_Int, implies_true, zy2, aFn, List.contains, List.elem, zq3, zy1, zq2, sub, zx3, zw2, zw3, zy3, gd, zq1, zw0, zq0, zx0, zx2, zx1, zy0, zw1, List.range', ↓reduceIte, reduceCtorEq, Nat.reduceEqDiff, Nat.reduceAdd, Nat.reduceLeDiff, Nat.reduceMul, Nat.reduceLT, Nat.reduceBEq, Int.reduceEq, tf_B1_85]
abbrev tf_B1_74 := And.intro tI_2 (And.intro zI_2 (And.intro underlying2 (And.intro tI_3 (And.intro zI_3 (And.intro underlying3 (And.intro tI_4 (And.intro zI_4 (And.intro underlying4 (And.intro tI_5 (And.intro zI_5 (And.intro underlying5 (And.intro tI_6 (And.intro zI_6 (And.intro underlying6 (And.intro tI_7 (And.intro zI_7 (And.intro fI_7_0 (And.intro fI_7_1 (And.intro fI_7_2 (And.intro fI_7_3 (And.intro bI_7 (And.intro tI_8 (And.intro zI_8 (And.intro fI_8_0 (And.intro fI_8_1 (And.intro fI_8_2 (And.intro fI_8_3 (And.intro bI_8 (And.intro tI_9 (And.intro zI_9 (And.intro underlying9 (And.intro tI_10 (And.intro zI_10 (And.intro underlying10 (And.intro tI_11 (And.intro zI_11 (And.intro underlying11 (And.intro tI_12 (And.intro zI_12 (And.intro underlying12 (And.intro tI_13 (And.intro zI_13 (And.intro fI_13_0 (And.intro fI_13_1 (And.intro bI_13 (And.intro tI_14 (And.intro zI_14 (And.intro fI_14_0 (And.intro fI_14_1 (And.intro bI_14 (And.intro tI_21 (And.intro zI_21 (And.intro underlying21 (And.intro tI_22 (And.intro zI_22 (And.intro eI_22 (And.intro eB_22 (And.intro eZ_22 (And.intro underlying22 (And.intro tI_39 (And.intro zI_39 (And.intro tI_109 (And.intro zI_109 underlying109)))))))))))))))))))))))))))))))))))))))))))))))))))))))))))))))
theorem c_l5Op (s : ByteArray) (a b : Int) (hx : InR a) (hy : InR b) (st : zy7) : zq7 prog 74 [.str s, .int .i64 a, .int .i64 b] st (fun r st' => r = .tup [.int .i64 (arOp s a b).1, .int .i64 (arOp s a b).2] ∧ st' = st) := by
  have hMod := fun h0 => c_l5Mod a b hx hy h0
  have hDiv := fun h0 => c_l5Div a b hx hy h0
  unfold InR at hx hy
  have hmul : -998001 ≤ a * b ∧ a * b ≤ 998001 := by
    have h6 : (a * b).natAbs ≤ 998001 := by
      rw [Int.natAbs_mul]
      have := Nat.mul_le_mul (show a.natAbs ≤ 999 by omega) (show b.natAbs ≤ 999 by omega)
      omega
    omega
  have hw1 := wrap64 (n := a + b) (by omega) (by omega)
  have hw2 := wrap64 (n := a - b) (by omega) (by omega)
  have hw3 := wrap64 (n := a * b) (by omega) (by omega)
  unfold arOp
  refine zw6 [1000000] func74 ntmps74 rfl rfl (by kernel_rfl) (by decide +kernel) (by show 3 ≤ _; decide +kernel) ?_
  intro _
  simp -implicitDefEqProofs only [hw1, hw2, hw3, evE, ↓evZ2, ↓evZ3, ↓Int.cast_ofNat_Int, implies_true, zy2, aFn, List.contains, List.elem, zq3, zy1, zq2, sub, zx3, zw2, zw3, zy3, gd, zq1, zw0, zq0, zx0, zx2, zx1, zy0, zw1, List.range', ↓reduceIte, reduceCtorEq, Nat.reduceEqDiff, Nat.reduceAdd, Nat.reduceLeDiff, Nat.reduceMul, Nat.reduceLT, Nat.reduceBEq, Int.reduceEq, tf_B1_74]
  refine zq4 (fun h6 => ?_) (fun h6 => ?_)
  · simp -implicitDefEqProofs only [hw1, hw2, hw3, evE, ↓evZ2, ↓evZ3, ↓Int.cast_ofNat_Int, implies_true, zy2, aFn, List.contains, List.elem, zq3, zy1, zq2, sub, zx3, zw2, zw3, zy3, gd, zq1, zw0, zq0, zx0, zx2, zx1, zy0, zw1, List.range', ↓reduceIte, reduceCtorEq, Nat.reduceEqDiff, Nat.reduceAdd, Nat.reduceLeDiff, Nat.reduceMul, Nat.reduceLT, Nat.reduceBEq, Int.reduceEq, tf_B1_74]
    rw [if_pos (by simpa using h6)]
    refine (c_l5Ranged _ _).to ?_
    simp -implicitDefEqProofs only [hw1, hw2, hw3, evE, ↓evZ2, ↓evZ3, ↓Int.cast_ofNat_Int, implies_true, zy2, aFn, List.contains, List.elem, zq3, zy1, zq2, sub, zx3, zw2, zw3, zy3, gd, zq1, zw0, zq0, zx0, zx2, zx1, zy0, zw1, List.range', ↓reduceIte, reduceCtorEq, Nat.reduceEqDiff, Nat.reduceAdd, Nat.reduceLeDiff, Nat.reduceMul, Nat.reduceLT, Nat.reduceBEq, Int.reduceEq, tf_B1_74]
  rw [if_neg (by simpa using h6)]
  simp -implicitDefEqProofs only [hw1, hw2, hw3, evE, ↓evZ2, ↓evZ3, ↓Int.cast_ofNat_Int, implies_true, zy2, aFn, List.contains, List.elem, zq3, zy1, zq2, sub, zx3, zw2, zw3, zy3, gd, zq1, zw0, zq0, zx0, zx2, zx1, zy0, zw1, List.range', ↓reduceIte, reduceCtorEq, Nat.reduceEqDiff, Nat.reduceAdd, Nat.reduceLeDiff, Nat.reduceMul, Nat.reduceLT, Nat.reduceBEq, Int.reduceEq, tf_B1_74]
  refine zq4 (fun h7 => ?_) (fun h7 => ?_)
  · simp -implicitDefEqProofs only [hw1, hw2, hw3, evE, ↓evZ2, ↓evZ3, ↓Int.cast_ofNat_Int, implies_true, zy2, aFn, List.contains, List.elem, zq3, zy1, zq2, sub, zx3, zw2, zw3, zy3, gd, zq1, zw0, zq0, zx0, zx2, zx1, zy0, zw1, List.range', ↓reduceIte, reduceCtorEq, Nat.reduceEqDiff, Nat.reduceAdd, Nat.reduceLeDiff, Nat.reduceMul, Nat.reduceLT, Nat.reduceBEq, Int.reduceEq, tf_B1_74]
    rw [if_pos (by simpa using h7)]
    refine (c_l5Ranged _ _).to ?_
    simp -implicitDefEqProofs only [hw1, hw2, hw3, evE, ↓evZ2, ↓evZ3, ↓Int.cast_ofNat_Int, implies_true, zy2, aFn, List.contains, List.elem, zq3, zy1, zq2, sub, zx3, zw2, zw3, zy3, gd, zq1, zw0, zq0, zx0, zx2, zx1, zy0, zw1, List.range', ↓reduceIte, reduceCtorEq, Nat.reduceEqDiff, Nat.reduceAdd, Nat.reduceLeDiff, Nat.reduceMul, Nat.reduceLT, Nat.reduceBEq, Int.reduceEq, tf_B1_74]
  rw [if_neg (by simpa using h7)]
  simp -implicitDefEqProofs only [hw1, hw2, hw3, evE, ↓evZ2, ↓evZ3, ↓Int.cast_ofNat_Int, implies_true, zy2, aFn, List.contains, List.elem, zq3, zy1, zq2, sub, zx3, zw2, zw3, zy3, gd, zq1, zw0, zq0, zx0, zx2, zx1, zy0, zw1, List.range', ↓reduceIte, reduceCtorEq, Nat.reduceEqDiff, Nat.reduceAdd, Nat.reduceLeDiff, Nat.reduceMul, Nat.reduceLT, Nat.reduceBEq, Int.reduceEq, tf_B1_74]
  refine zq4 (fun h9 => ?_) (fun h9 => ?_)
  · simp -implicitDefEqProofs only [hw1, hw2, hw3, evE, ↓evZ2, ↓evZ3, ↓Int.cast_ofNat_Int, implies_true, zy2, aFn, List.contains, List.elem, zq3, zy1, zq2, sub, zx3, zw2, zw3, zy3, gd, zq1, zw0, zq0, zx0, zx2, zx1, zy0, zw1, List.range', ↓reduceIte, reduceCtorEq, Nat.reduceEqDiff, Nat.reduceAdd, Nat.reduceLeDiff, Nat.reduceMul, Nat.reduceLT, Nat.reduceBEq, Int.reduceEq, tf_B1_74]
    rw [if_pos (by simpa using h9)]
    refine (c_l5Ranged _ _).to ?_
    simp -implicitDefEqProofs only [hw1, hw2, hw3, evE, ↓evZ2, ↓evZ3, ↓Int.cast_ofNat_Int, implies_true, zy2, aFn, List.contains, List.elem, zq3, zy1, zq2, sub, zx3, zw2, zw3, zy3, gd, zq1, zw0, zq0, zx0, zx2, zx1, zy0, zw1, List.range', ↓reduceIte, reduceCtorEq, Nat.reduceEqDiff, Nat.reduceAdd, Nat.reduceLeDiff, Nat.reduceMul, Nat.reduceLT, Nat.reduceBEq, Int.reduceEq, tf_B1_74]
  rw [if_neg (by simpa using h9)]
  simp -implicitDefEqProofs only [hw1, hw2, hw3, evE, ↓evZ2, ↓evZ3, ↓Int.cast_ofNat_Int, implies_true, zy2, aFn, List.contains, List.elem, zq3, zy1, zq2, sub, zx3, zw2, zw3, zy3, gd, zq1, zw0, zq0, zx0, zx2, zx1, zy0, zw1, List.range', ↓reduceIte, reduceCtorEq, Nat.reduceEqDiff, Nat.reduceAdd, Nat.reduceLeDiff, Nat.reduceMul, Nat.reduceLT, Nat.reduceBEq, Int.reduceEq, tf_B1_74]
  refine zq4 (fun h0 => ?_) (fun h0 => ?_)
  · simp -implicitDefEqProofs only [hw1, hw2, hw3, evE, ↓evZ2, ↓evZ3, ↓Int.cast_ofNat_Int, implies_true, zy2, aFn, List.contains, List.elem, zq3, zy1, zq2, sub, zx3, zw2, zw3, zy3, gd, zq1, zw0, zq0, zx0, zx2, zx1, zy0, zw1, List.range', ↓reduceIte, reduceCtorEq, Nat.reduceEqDiff, Nat.reduceAdd, Nat.reduceLeDiff, Nat.reduceMul, Nat.reduceLT, Nat.reduceBEq, Int.reduceEq, tf_B1_74]
    rw [if_pos (by simpa using h0)]
  have h0' : b ≠ 0 := by simpa using h0
  rw [if_neg h0']
  simp -implicitDefEqProofs only [hw1, hw2, hw3, evE, ↓evZ2, ↓evZ3, ↓Int.cast_ofNat_Int, implies_true, zy2, aFn, List.contains, List.elem, zq3, zy1, zq2, sub, zx3, zw2, zw3, zy3, gd, zq1, zw0, zq0, zx0, zx2, zx1, zy0, zw1, List.range', ↓reduceIte, reduceCtorEq, Nat.reduceEqDiff, Nat.reduceAdd, Nat.reduceLeDiff, Nat.reduceMul, Nat.reduceLT, Nat.reduceBEq, Int.reduceEq, tf_B1_74]
  refine zq4 (fun h10 => ?_) (fun h10 => ?_)
  · simp -implicitDefEqProofs only [hw1, hw2, hw3, evE, ↓evZ2, ↓evZ3, ↓Int.cast_ofNat_Int, implies_true, zy2, aFn, List.contains, List.elem, zq3, zy1, zq2, sub, zx3, zw2, zw3, zy3, gd, zq1, zw0, zq0, zx0, zx2, zx1, zy0, zw1, List.range', ↓reduceIte, reduceCtorEq, Nat.reduceEqDiff, Nat.reduceAdd, Nat.reduceLeDiff, Nat.reduceMul, Nat.reduceLT, Nat.reduceBEq, Int.reduceEq, tf_B1_74]
    rw [if_pos (by simpa using h10)]
    refine (hMod h0' _).to ?_
    simp -implicitDefEqProofs only [hw1, hw2, hw3, evE, ↓evZ2, ↓evZ3, ↓Int.cast_ofNat_Int, implies_true, zy2, aFn, List.contains, List.elem, zq3, zy1, zq2, sub, zx3, zw2, zw3, zy3, gd, zq1, zw0, zq0, zx0, zx2, zx1, zy0, zw1, List.range', ↓reduceIte, reduceCtorEq, Nat.reduceEqDiff, Nat.reduceAdd, Nat.reduceLeDiff, Nat.reduceMul, Nat.reduceLT, Nat.reduceBEq, Int.reduceEq, tf_B1_74]
  · simp -implicitDefEqProofs only [hw1, hw2, hw3, evE, ↓evZ2, ↓evZ3, ↓Int.cast_ofNat_Int, implies_true, zy2, aFn, List.contains, List.elem, zq3, zy1, zq2, sub, zx3, zw2, zw3, zy3, gd, zq1, zw0, zq0, zx0, zx2, zx1, zy0, zw1, List.range', ↓reduceIte, reduceCtorEq, Nat.reduceEqDiff, Nat.reduceAdd, Nat.reduceLeDiff, Nat.reduceMul, Nat.reduceLT, Nat.reduceBEq, Int.reduceEq, tf_B1_74]
    rw [if_neg (by simpa using h10)]
    refine (hDiv h0' _).to ?_
    simp -implicitDefEqProofs only [hw1, hw2, hw3, evE, ↓evZ2, ↓evZ3, ↓Int.cast_ofNat_Int, implies_true, zy2, aFn, List.contains, List.elem, zq3, zy1, zq2, sub, zx3, zw2, zw3, zy3, gd, zq1, zw0, zq0, zx0, zx2, zx1, zy0, zw1, List.range', ↓reduceIte, reduceCtorEq, Nat.reduceEqDiff, Nat.reduceAdd, Nat.reduceLeDiff, Nat.reduceMul, Nat.reduceLT, Nat.reduceBEq, Int.reduceEq, tf_B1_74]
theorem arLevel (s : ByteArray) : inN arNames s = decide (opLevel s = 1 ∨ opLevel s = 2) := by
  unfold inN arNames opLevel
  simp only [List.any_cons, List.any_nil, Bool.or_false]
  by_cases h1 : s = ⟨#[43]⟩
  · subst h1; decide
  by_cases h2 : s = ⟨#[45]⟩
  · subst h2; decide
  by_cases h3 : s = ⟨#[42]⟩
  · subst h3; decide
  by_cases h4 : s = ⟨#[47, 47]⟩
  · subst h4; decide
  by_cases h5 : s = ⟨#[109, 111, 100]⟩
  · subst h5; decide
  simp only [h1, h2, h3, h4, h5, decide_false, Bool.or_false, cond_false]
  cases (decide (s = ⟨#[61]⟩) || decide (s = ⟨#[92, 61]⟩) || decide (s = ⟨#[61, 61]⟩) || decide (s = ⟨#[60]⟩) || decide (s = ⟨#[62]⟩) || decide (s = ⟨#[61, 60]⟩) || decide (s = ⟨#[62, 61]⟩) || decide (s = ⟨#[61, 58, 61]⟩) || decide (s = ⟨#[105, 115]⟩)) <;> rfl
abbrev tf_B1_55 := And.intro tI_2 (And.intro zI_2 (And.intro underlying2 (And.intro tI_3 (And.intro zI_3 (And.intro underlying3 (And.intro tI_4 (And.intro zI_4 (And.intro underlying4 (And.intro tI_5 (And.intro zI_5 (And.intro underlying5 (And.intro tI_6 (And.intro zI_6 (And.intro underlying6 (And.intro tI_7 (And.intro zI_7 (And.intro fI_7_0 (And.intro fI_7_1 (And.intro fI_7_2 (And.intro fI_7_3 (And.intro bI_7 (And.intro tI_8 (And.intro zI_8 (And.intro fI_8_0 (And.intro fI_8_1 (And.intro fI_8_2 (And.intro fI_8_3 (And.intro bI_8 (And.intro tI_9 (And.intro zI_9 (And.intro underlying9 (And.intro tI_10 (And.intro zI_10 (And.intro underlying10 (And.intro tI_11 (And.intro zI_11 (And.intro underlying11 (And.intro tI_12 (And.intro zI_12 (And.intro underlying12 (And.intro tI_13 (And.intro zI_13 (And.intro fI_13_0 (And.intro fI_13_1 (And.intro bI_13 (And.intro tI_14 (And.intro zI_14 (And.intro fI_14_0 (And.intro fI_14_1 (And.intro bI_14 (And.intro tI_15 (And.intro zI_15 (And.intro tI_18 (And.intro zI_18 (And.intro fI_18_0 (And.intro bI_18 (And.intro tI_19 (And.intro zI_19 (And.intro fI_19_0 (And.intro bI_19 (And.intro tI_21 (And.intro zI_21 (And.intro underlying21 (And.intro tI_22 (And.intro zI_22 (And.intro eI_22 (And.intro eB_22 (And.intro eZ_22 (And.intro underlying22 (And.intro tI_23 (And.intro zI_23 (And.intro eI_23 (And.intro eB_23 (And.intro eZ_23 (And.intro underlying23 (And.intro tI_25 (And.intro zI_25 (And.intro fI_25_0 (And.intro fI_25_1 (And.intro fI_25_2 (And.intro fI_25_3 (And.intro bI_25 (And.intro tI_48 (And.intro zI_48 (And.intro fI_48_0 (And.intro fI_48_1 (And.intro bI_48 (And.intro tI_57 (And.intro zI_57 (And.intro fI_57_0 (And.intro fI_57_1 (And.intro bI_57 (And.intro tI_58 (And.intro zI_58 (And.intro fI_58_0 (And.intro fI_58_1 (And.intro bI_58 (And.intro tI_61 (And.intro zI_61 (And.intro eI_61 (And.intro eB_61 (And.intro eZ_61 underlying61))))))))))))))))))))))))))))))))))))))))))))))))))))))))))))))))))))))))))))))))))))))))))))))))))))))
theorem c_l5Arith {N : Int} : ∀ (t : Tm) (st : zy7), OkV N t → zq7 prog 55 [t.av] st (fun r st' => r = .tup [.int .i64 t.ev.1, .int .i64 t.ev.2] ∧ st' = st)
  | .mk k n s ts, st, hok => by
    obtain ⟨h1, h2⟩ := hok.all
    have IH := fun (x : Tm) (hx : x ∈ ts) st => c_l5Arith x st (h2 x hx)
    rw [Tm.ev_mk]
    simp only [Tm.av_mk]
    refine zw6 [1000000] func55 ntmps55 rfl rfl (by kernel_rfl) (by decide +kernel) (by show 1 ≤ _; decide +kernel) ?_
    intro _
    simp -implicitDefEqProofs only [List.length_map, evE, ↓evZ2, ↓evZ3, ↓Int.cast_ofNat_Int, implies_true, zy2, aFn, List.contains, List.elem, zq3, zy1, zq2, sub, zx3, zw2, zw3, zy3, gd, zq1, zw0, zq0, zx0, zx2, zx1, zy0, zw1, List.range', ↓reduceIte, reduceCtorEq, Nat.reduceEqDiff, Nat.reduceAdd, Nat.reduceLeDiff, Nat.reduceMul, Nat.reduceLT, Nat.reduceBEq, Int.reduceEq, tf_B1_55]
    refine zq4 (fun hk1 => ?_) (fun hk1 => ?_)
    · simp -implicitDefEqProofs only [List.length_map, evE, ↓evZ2, ↓evZ3, ↓Int.cast_ofNat_Int, implies_true, zy2, aFn, List.contains, List.elem, zq3, zy1, zq2, sub, zx3, zw2, zw3, zy3, gd, zq1, zw0, zq0, zx0, zx2, zx1, zy0, zw1, List.range', ↓reduceIte, reduceCtorEq, Nat.reduceEqDiff, Nat.reduceAdd, Nat.reduceLeDiff, Nat.reduceMul, Nat.reduceLT, Nat.reduceBEq, Int.reduceEq, tf_B1_55]
      simp only [decide_eq_true_eq] at hk1
      rw [if_neg (by omega), if_pos hk1]
    simp only [decide_eq_false_iff_not] at hk1
    rw [if_neg hk1]
    simp -implicitDefEqProofs only [List.length_map, evE, ↓evZ2, ↓evZ3, ↓Int.cast_ofNat_Int, implies_true, zy2, aFn, List.contains, List.elem, zq3, zy1, zq2, sub, zx3, zw2, zw3, zy3, gd, zq1, zw0, zq0, zx0, zx2, zx1, zy0, zw1, List.range', ↓reduceIte, reduceCtorEq, Nat.reduceEqDiff, Nat.reduceAdd, Nat.reduceLeDiff, Nat.reduceMul, Nat.reduceLT, Nat.reduceBEq, Int.reduceEq, tf_B1_55]
    refine zq4 (fun hk => ?_) (fun hk => ?_)
    · simp -implicitDefEqProofs only [List.length_map, evE, ↓evZ2, ↓evZ3, ↓Int.cast_ofNat_Int, implies_true, zy2, aFn, List.contains, List.elem, zq3, zy1, zq2, sub, zx3, zw2, zw3, zy3, gd, zq1, zw0, zq0, zx0, zx2, zx1, zy0, zw1, List.range', ↓reduceIte, reduceCtorEq, Nat.reduceEqDiff, Nat.reduceAdd, Nat.reduceLeDiff, Nat.reduceMul, Nat.reduceLT, Nat.reduceBEq, Int.reduceEq, tf_B1_55]
      simp only [decide_eq_true_eq] at hk
      simp [hk]
    simp only [decide_eq_false_iff_not] at hk
    rw [if_neg hk]
    simp -implicitDefEqProofs only [List.length_map, evE, ↓evZ2, ↓evZ3, ↓Int.cast_ofNat_Int, implies_true, zy2, aFn, List.contains, List.elem, zq3, zy1, zq2, sub, zx3, zw2, zw3, zy3, gd, zq1, zw0, zq0, zx0, zx2, zx1, zy0, zw1, List.range', ↓reduceIte, reduceCtorEq, Nat.reduceEqDiff, Nat.reduceAdd, Nat.reduceLeDiff, Nat.reduceMul, Nat.reduceLT, Nat.reduceBEq, Int.reduceEq, tf_B1_55]
    refine (c_l2Level s _).to ?_
    simp -implicitDefEqProofs only [List.length_map, evE, ↓evZ2, ↓evZ3, ↓Int.cast_ofNat_Int, implies_true, zy2, aFn, List.contains, List.elem, zq3, zy1, zq2, sub, zx3, zw2, zw3, zy3, gd, zq1, zw0, zq0, zx0, zx2, zx1, zy0, zw1, List.range', ↓reduceIte, reduceCtorEq, Nat.reduceEqDiff, Nat.reduceAdd, Nat.reduceLeDiff, Nat.reduceMul, Nat.reduceLT, Nat.reduceBEq, Int.reduceEq, tf_B1_55]
    have hty : ∀ s0 : zy7, ts.length ≠ 2 ∨ inN arNames s = false → (if inN arNames s = true then two (arOp s) (ts.map Tm.ev) else (0, 3)) = ((0 : Int), (3 : Int)) := fun _ h => by
      split
      · rename_i h3
        rcases h with h | h
        · match ts, h with
          | [], _ => rfl
          | [x], _ => rfl
          | [x, y], h => simp at h
          | x :: y :: z :: l, _ => rfl
        · rw [h] at h3; cases h3
      · rfl
    refine zx4 (fun h => ?_) (fun h => ?_)
    case refine_2 =>
      simp -implicitDefEqProofs only [h, List.length_map, evE, ↓evZ2, ↓evZ3, ↓Int.cast_ofNat_Int, implies_true, zy2, aFn, List.contains, List.elem, zq3, zy1, zq2, sub, zx3, zw2, zw3, zy3, gd, zq1, zw0, zq0, zx0, zx2, zx1, zy0, zw1, List.range', ↓reduceIte, reduceCtorEq, Nat.reduceEqDiff, Nat.reduceAdd, Nat.reduceLeDiff, Nat.reduceMul, Nat.reduceLT, Nat.reduceBEq, Int.reduceEq, tf_B1_55]
      rw [hty st (.inl (by simp at h; omega))]
    simp -implicitDefEqProofs only [h, List.length_map, evE, ↓evZ2, ↓evZ3, ↓Int.cast_ofNat_Int, implies_true, zy2, aFn, List.contains, List.elem, zq3, zy1, zq2, sub, zx3, zw2, zw3, zy3, gd, zq1, zw0, zq0, zx0, zx2, zx1, zy0, zw1, List.range', ↓reduceIte, reduceCtorEq, Nat.reduceEqDiff, Nat.reduceAdd, Nat.reduceLeDiff, Nat.reduceMul, Nat.reduceLT, Nat.reduceBEq, Int.reduceEq, tf_B1_55]
    have hlev : inN arNames s = false → opLevel s ≠ 1 ∧ opLevel s ≠ 2 := fun h => by
      rw [arLevel] at h
      have := of_decide_eq_false h
      omega
    refine zx4 (fun h3 => ?_) (fun h3 => ?_)
    · simp -implicitDefEqProofs only [h3, List.length_map, evE, ↓evZ2, ↓evZ3, ↓Int.cast_ofNat_Int, implies_true, zy2, aFn, List.contains, List.elem, zq3, zy1, zq2, sub, zx3, zw2, zw3, zy3, gd, zq1, zw0, zq0, zx0, zx2, zx1, zy0, zw1, List.range', ↓reduceIte, reduceCtorEq, Nat.reduceEqDiff, Nat.reduceAdd, Nat.reduceLeDiff, Nat.reduceMul, Nat.reduceLT, Nat.reduceBEq, Int.reduceEq, tf_B1_55]
      have h3' : opLevel s ≠ 1 := by simp at h3; omega
      refine zq4 (fun h6 => ?_) (fun h6 => ?_)
      · have h6' : opLevel s ≠ 2 := by simp at h6; omega
        simp -implicitDefEqProofs only [List.length_map, evE, ↓evZ2, ↓evZ3, ↓Int.cast_ofNat_Int, implies_true, zy2, aFn, List.contains, List.elem, zq3, zy1, zq2, sub, zx3, zw2, zw3, zy3, gd, zq1, zw0, zq0, zx0, zx2, zx1, zy0, zw1, List.range', ↓reduceIte, reduceCtorEq, Nat.reduceEqDiff, Nat.reduceAdd, Nat.reduceLeDiff, Nat.reduceMul, Nat.reduceLT, Nat.reduceBEq, Int.reduceEq, tf_B1_55]
        rw [hty st (.inr (by rw [arLevel]; simp [h3', h6']))]
      · have h6' : opLevel s = 2 := by simp at h6; omega
        have hin : inN arNames s = true := by rw [arLevel]; simp [h6']
        simp -implicitDefEqProofs only [List.length_map, evE, ↓evZ2, ↓evZ3, ↓Int.cast_ofNat_Int, implies_true, zy2, aFn, List.contains, List.elem, zq3, zy1, zq2, sub, zx3, zw2, zw3, zy3, gd, zq1, zw0, zq0, zx0, zx2, zx1, zy0, zw1, List.range', ↓reduceIte, reduceCtorEq, Nat.reduceEqDiff, Nat.reduceAdd, Nat.reduceLeDiff, Nat.reduceMul, Nat.reduceLT, Nat.reduceBEq, Int.reduceEq, tf_B1_55]
        rw [if_pos hin]
        clear hty hlev
        obtain ⟨x, y, rfl⟩ := two_kids (by simpa using h)
        have hat0 : aIndexAddr prog 23 (.slice [x.av, y.av]) (.int .i64 0) = some (.pptr x.av) := ev_at (av := Tm.av) (l := [x, y]) (i := 0) eI_23 rfl (Tm.av_width x)
        have hat1 : aIndexAddr prog 23 (.slice [x.av, y.av]) (.int .i64 1) = some (.pptr y.av) := ev_at (av := Tm.av) (l := [x, y]) (i := 1) eI_23 rfl (Tm.av_width y)
        have hx := Tm.ev_in x (h2 x (by simp))
        have hy := Tm.ev_in y (h2 y (by simp))
        have IHx := fun st => IH x (by simp) st
        have IHy := fun st => IH y (by simp) st
        simp only [List.map_cons, List.map_nil, two, both]
        simp -implicitDefEqProofs only [hat0, hat1, Tm.av_agg, Tm.av_width, evE, ↓evZ2, ↓evZ3, ↓Int.cast_ofNat_Int, implies_true, zy2, aFn, List.contains, List.elem, zq3, zy1, zq2, sub, zx3, zw2, zw3, zy3, gd, zq1, zw0, zq0, zx0, zx2, zx1, zy0, zw1, List.range', ↓reduceIte, reduceCtorEq, Nat.reduceEqDiff, Nat.reduceAdd, Nat.reduceLeDiff, Nat.reduceMul, Nat.reduceLT, Nat.reduceBEq, Int.reduceEq, tf_B1_55]
        refine (IHx _).to ?_
        generalize x.ev.1 = a at *
        generalize x.ev.2 = ca at *
        generalize y.ev.1 = b at *
        generalize y.ev.2 = cb at *
        simp -implicitDefEqProofs only [hat0, hat1, Tm.av_agg, Tm.av_width, evE, ↓evZ2, ↓evZ3, ↓Int.cast_ofNat_Int, implies_true, zy2, aFn, List.contains, List.elem, zq3, zy1, zq2, sub, zx3, zw2, zw3, zy3, gd, zq1, zw0, zq0, zx0, zx2, zx1, zy0, zw1, List.range', ↓reduceIte, reduceCtorEq, Nat.reduceEqDiff, Nat.reduceAdd, Nat.reduceLeDiff, Nat.reduceMul, Nat.reduceLT, Nat.reduceBEq, Int.reduceEq, tf_B1_55]
        refine zq4 (fun h4 => ?_) (fun h4 => ?_)
        · simp -implicitDefEqProofs only [hat0, hat1, Tm.av_agg, Tm.av_width, evE, ↓evZ2, ↓evZ3, ↓Int.cast_ofNat_Int, implies_true, zy2, aFn, List.contains, List.elem, zq3, zy1, zq2, sub, zx3, zw2, zw3, zy3, gd, zq1, zw0, zq0, zx0, zx2, zx1, zy0, zw1, List.range', ↓reduceIte, reduceCtorEq, Nat.reduceEqDiff, Nat.reduceAdd, Nat.reduceLeDiff, Nat.reduceMul, Nat.reduceLT, Nat.reduceBEq, Int.reduceEq, tf_B1_55]
          have h4' : ca ≠ 0 := by simpa using h4
          rw [if_pos h4']
        have h4' : ca = 0 := by simpa using h4
        subst h4'
        rw [if_neg (by simp)]
        simp -implicitDefEqProofs only [hat0, hat1, Tm.av_agg, Tm.av_width, evE, ↓evZ2, ↓evZ3, ↓Int.cast_ofNat_Int, implies_true, zy2, aFn, List.contains, List.elem, zq3, zy1, zq2, sub, zx3, zw2, zw3, zy3, gd, zq1, zw0, zq0, zx0, zx2, zx1, zy0, zw1, List.range', ↓reduceIte, reduceCtorEq, Nat.reduceEqDiff, Nat.reduceAdd, Nat.reduceLeDiff, Nat.reduceMul, Nat.reduceLT, Nat.reduceBEq, Int.reduceEq, tf_B1_55]
        refine (IHy _).to ?_
        simp -implicitDefEqProofs only [hat0, hat1, Tm.av_agg, Tm.av_width, evE, ↓evZ2, ↓evZ3, ↓Int.cast_ofNat_Int, implies_true, zy2, aFn, List.contains, List.elem, zq3, zy1, zq2, sub, zx3, zw2, zw3, zy3, gd, zq1, zw0, zq0, zx0, zx2, zx1, zy0, zw1, List.range', ↓reduceIte, reduceCtorEq, Nat.reduceEqDiff, Nat.reduceAdd, Nat.reduceLeDiff, Nat.reduceMul, Nat.reduceLT, Nat.reduceBEq, Int.reduceEq, tf_B1_55]
        refine zq4 (fun h5 => ?_) (fun h5 => ?_)
        · simp -implicitDefEqProofs only [hat0, hat1, Tm.av_agg, Tm.av_width, evE, ↓evZ2, ↓evZ3, ↓Int.cast_ofNat_Int, implies_true, zy2, aFn, List.contains, List.elem, zq3, zy1, zq2, sub, zx3, zw2, zw3, zy3, gd, zq1, zw0, zq0, zx0, zx2, zx1, zy0, zw1, List.range', ↓reduceIte, reduceCtorEq, Nat.reduceEqDiff, Nat.reduceAdd, Nat.reduceLeDiff, Nat.reduceMul, Nat.reduceLT, Nat.reduceBEq, Int.reduceEq, tf_B1_55]
          have h5' : cb ≠ 0 := by simpa using h5
          rw [if_pos h5']
        have h5' : cb = 0 := by simpa using h5
        subst h5'
        rw [if_neg (by simp)]
        simp -implicitDefEqProofs only [hat0, hat1, Tm.av_agg, Tm.av_width, evE, ↓evZ2, ↓evZ3, ↓Int.cast_ofNat_Int, implies_true, zy2, aFn, List.contains, List.elem, zq3, zy1, zq2, sub, zx3, zw2, zw3, zy3, gd, zq1, zw0, zq0, zx0, zx2, zx1, zy0, zw1, List.range', ↓reduceIte, reduceCtorEq, Nat.reduceEqDiff, Nat.reduceAdd, Nat.reduceLeDiff, Nat.reduceMul, Nat.reduceLT, Nat.reduceBEq, Int.reduceEq, tf_B1_55]
        refine (c_l5Op s a b hx hy _).to ?_
        simp -implicitDefEqProofs only [hat0, hat1, Tm.av_agg, Tm.av_width, evE, ↓evZ2, ↓evZ3, ↓Int.cast_ofNat_Int, implies_true, zy2, aFn, List.contains, List.elem, zq3, zy1, zq2, sub, zx3, zw2, zw3, zy3, gd, zq1, zw0, zq0, zx0, zx2, zx1, zy0, zw1, List.range', ↓reduceIte, reduceCtorEq, Nat.reduceEqDiff, Nat.reduceAdd, Nat.reduceLeDiff, Nat.reduceMul, Nat.reduceLT, Nat.reduceBEq, Int.reduceEq, tf_B1_55]
    · have h3' : opLevel s = 1 := by simp at h3; omega
      have hin : inN arNames s = true := by rw [arLevel]; simp [h3']
      simp -implicitDefEqProofs only [h3, List.length_map, evE, ↓evZ2, ↓evZ3, ↓Int.cast_ofNat_Int, implies_true, zy2, aFn, List.contains, List.elem, zq3, zy1, zq2, sub, zx3, zw2, zw3, zy3, gd, zq1, zw0, zq0, zx0, zx2, zx1, zy0, zw1, List.range', ↓reduceIte, reduceCtorEq, Nat.reduceEqDiff, Nat.reduceAdd, Nat.reduceLeDiff, Nat.reduceMul, Nat.reduceLT, Nat.reduceBEq, Int.reduceEq, tf_B1_55]
      rw [if_pos hin]
      clear hty hlev
      obtain ⟨x, y, rfl⟩ := two_kids (by simpa using h)
      have hat0 : aIndexAddr prog 23 (.slice [x.av, y.av]) (.int .i64 0) = some (.pptr x.av) := ev_at (av := Tm.av) (l := [x, y]) (i := 0) eI_23 rfl (Tm.av_width x)
      have hat1 : aIndexAddr prog 23 (.slice [x.av, y.av]) (.int .i64 1) = some (.pptr y.av) := ev_at (av := Tm.av) (l := [x, y]) (i := 1) eI_23 rfl (Tm.av_width y)
      have hx := Tm.ev_in x (h2 x (by simp))
      have hy := Tm.ev_in y (h2 y (by simp))
      have IHx := fun st => IH x (by simp) st
      have IHy := fun st => IH y (by simp) st
      simp only [List.map_cons, List.map_nil, two, both]
      simp -implicitDefEqProofs only [hat0, hat1, Tm.av_agg, Tm.av_width, evE, ↓evZ2, ↓evZ3, ↓Int.cast_ofNat_Int, implies_true, zy2, aFn, List.contains, List.elem, zq3, zy1, zq2, sub, zx3, zw2, zw3, zy3, gd, zq1, zw0, zq0, zx0, zx2, zx1, zy0, zw1, List.range', ↓reduceIte, reduceCtorEq, Nat.reduceEqDiff, Nat.reduceAdd, Nat.reduceLeDiff, Nat.reduceMul, Nat.reduceLT, Nat.reduceBEq, Int.reduceEq, tf_B1_55]
      refine (IHx _).to ?_
      generalize x.ev.1 = a at *
      generalize x.ev.2 = ca at *
      generalize y.ev.1 = b at *
      generalize y.ev.2 = cb at *
      simp -implicitDefEqProofs only [hat0, hat1, Tm.av_agg, Tm.av_width, evE, ↓evZ2, ↓evZ3, ↓Int.cast_ofNat_Int, implies_true, zy2, aFn, List.contains, List.elem, zq3, zy1, zq2, sub, zx3, zw2, zw3, zy3, gd, zq1, zw0, zq0, zx0, zx2, zx1, zy0, zw1, List.range', ↓reduceIte, reduceCtorEq, Nat.reduceEqDiff, Nat.reduceAdd, Nat.reduceLeDiff, Nat.reduceMul, Nat.reduceLT, Nat.reduceBEq, Int.reduceEq, tf_B1_55]
      refine zq4 (fun h4 => ?_) (fun h4 => ?_)
      · simp -implicitDefEqProofs only [hat0, hat1, Tm.av_agg, Tm.av_width, evE, ↓evZ2, ↓evZ3, ↓Int.cast_ofNat_Int, implies_true, zy2, aFn, List.contains, List.elem, zq3, zy1, zq2, sub, zx3, zw2, zw3, zy3, gd, zq1, zw0, zq0, zx0, zx2, zx1, zy0, zw1, List.range', ↓reduceIte, reduceCtorEq, Nat.reduceEqDiff, Nat.reduceAdd, Nat.reduceLeDiff, Nat.reduceMul, Nat.reduceLT, Nat.reduceBEq, Int.reduceEq, tf_B1_55]
        have h4' : ca ≠ 0 := by simpa using h4
        rw [if_pos h4']
      have h4' : ca = 0 := by simpa using h4
      subst h4'
      rw [if_neg (by simp)]
      simp -implicitDefEqProofs only [hat0, hat1, Tm.av_agg, Tm.av_width, evE, ↓evZ2, ↓evZ3, ↓Int.cast_ofNat_Int, implies_true, zy2, aFn, List.contains, List.elem, zq3, zy1, zq2, sub, zx3, zw2, zw3, zy3, gd, zq1, zw0, zq0, zx0, zx2, zx1, zy0, zw1, List.range', ↓reduceIte, reduceCtorEq, Nat.reduceEqDiff, Nat.reduceAdd, Nat.reduceLeDiff, Nat.reduceMul, Nat.reduceLT, Nat.reduceBEq, Int.reduceEq, tf_B1_55]
      refine (IHy _).to ?_
      simp -implicitDefEqProofs only [hat0, hat1, Tm.av_agg, Tm.av_width, evE, ↓evZ2, ↓evZ3, ↓Int.cast_ofNat_Int, implies_true, zy2, aFn, List.contains, List.elem, zq3, zy1, zq2, sub, zx3, zw2, zw3, zy3, gd, zq1, zw0, zq0, zx0, zx2, zx1, zy0, zw1, List.range', ↓reduceIte, reduceCtorEq, Nat.reduceEqDiff, Nat.reduceAdd, Nat.reduceLeDiff, Nat.reduceMul, Nat.reduceLT, Nat.reduceBEq, Int.reduceEq, tf_B1_55]
      refine zq4 (fun h5 => ?_) (fun h5 => ?_)
      · simp -implicitDefEqProofs only [hat0, hat1, Tm.av_agg, Tm.av_width, evE, ↓evZ2, ↓evZ3, ↓Int.cast_ofNat_Int, implies_true, zy2, aFn, List.contains, List.elem, zq3, zy1, zq2, sub, zx3, zw2, zw3, zy3, gd, zq1, zw0, zq0, zx0, zx2, zx1, zy0, zw1, List.range', ↓reduceIte, reduceCtorEq, Nat.reduceEqDiff, Nat.reduceAdd, Nat.reduceLeDiff, Nat.reduceMul, Nat.reduceLT, Nat.reduceBEq, Int.reduceEq, tf_B1_55]
        have h5' : cb ≠ 0 := by simpa using h5
        rw [if_pos h5']
      have h5' : cb = 0 := by simpa using h5
      subst h5'
      rw [if_neg (by simp)]
      simp -implicitDefEqProofs only [hat0, hat1, Tm.av_agg, Tm.av_width, evE, ↓evZ2, ↓evZ3, ↓Int.cast_ofNat_Int, implies_true, zy2, aFn, List.contains, List.elem, zq3, zy1, zq2, sub, zx3, zw2, zw3, zy3, gd, zq1, zw0, zq0, zx0, zx2, zx1, zy0, zw1, List.range', ↓reduceIte, reduceCtorEq, Nat.reduceEqDiff, Nat.reduceAdd, Nat.reduceLeDiff, Nat.reduceMul, Nat.reduceLT, Nat.reduceBEq, Int.reduceEq, tf_B1_55]
      refine (c_l5Op s a b hx hy _).to ?_
      simp -implicitDefEqProofs only [hat0, hat1, Tm.av_agg, Tm.av_width, evE, ↓evZ2, ↓evZ3, ↓Int.cast_ofNat_Int, implies_true, zy2, aFn, List.contains, List.elem, zq3, zy1, zq2, sub, zx3, zw2, zw3, zy3, gd, zq1, zw0, zq0, zx0, zx2, zx1, zy0, zw1, List.range', ↓reduceIte, reduceCtorEq, Nat.reduceEqDiff, Nat.reduceAdd, Nat.reduceLeDiff, Nat.reduceMul, Nat.reduceLT, Nat.reduceBEq, Int.reduceEq, tf_B1_55]
termination_by t => SizeOf.sizeOf t
decreasing_by have := List.sizeOf_lt_of_mem hx; simp only [Tm.mk.sizeOf_spec]; omega
end Go.AW


namespace Go.AW
open Go.Proofs.Try
set_option linter.unusedSimpArgs false
set_option maxRecDepth 100000
def Grown (st : zy7) (l : List Int) (r : AV) (st' : zy7) : Prop := ∃ b', r = accV 1 b' (l.map iv) ∧ st' = accS st b' (l.map iv) ∧ (l.map iv ≠ [] → st b' = none)
end Go.AW


namespace Go.AW
open Go.Proofs.Try
set_option linter.unusedSimpArgs false
set_option maxRecDepth 100000
abbrev tf_V4_82 := And.intro tI_2 (And.intro zI_2 (And.intro underlying2 (And.intro tI_3 (And.intro zI_3 (And.intro underlying3 (And.intro tI_4 (And.intro zI_4 (And.intro underlying4 (And.intro tI_5 (And.intro zI_5 (And.intro underlying5 (And.intro tI_6 (And.intro zI_6 (And.intro underlying6 (And.intro tI_7 (And.intro zI_7 (And.intro fI_7_0 (And.intro fI_7_1 (And.intro fI_7_2 (And.intro fI_7_3 (And.intro bI_7 (And.intro tI_8 (And.intro zI_8 (And.intro fI_8_0 (And.intro fI_8_1 (And.intro fI_8_2 (And.intro fI_8_3 (And.intro bI_8 (And.intro tI_9 (And.intro zI_9 (And.intro underlying9 (And.intro tI_10 (And.intro zI_10 (And.intro underlying10 (And.intro tI_11 (And.intro zI_11 (And.intro underlying11 (And.intro tI_12 (And.intro zI_12 (And.intro underlying12 (And.intro tI_23 (And.intro zI_23 (And.intro eI_23 (And.intro eB_23 (And.intro eZ_23 (And.intro underlying23 (And.intro tI_24 (And.intro zI_24 (And.intro fI_24_0 (And.intro fI_24_1 (And.intro fI_24_2 (And.intro fI_24_3 (And.intro bI_24 (And.intro tI_25 (And.intro zI_25 (And.intro fI_25_0 (And.intro fI_25_1 (And.intro fI_25_2 (And.intro fI_25_3 (And.intro bI_25 (And.intro tI_27 (And.intro zI_27 (And.intro eI_27 (And.intro eB_27 (And.intro eZ_27 (And.intro underlying27 (And.intro tI_61 (And.intro zI_61 (And.intro eI_61 (And.intro eB_61 (And.intro eZ_61 underlying61)))))))))))))))))))))))))))))))))))))))))))))))))))))))))))))))))))))))
theorem c_l1Vars : ∀ (t : Tm) (l : List Int) (b : Nat) (st : zy7), t.wf = true → (l.map iv ≠ [] → st b = none) → l.length + t.nodes ≤ 1099511627776 → zq7 prog 82 [accV 1 b (l.map iv), t.av] (accS st b (l.map iv)) (Grown st (t.vars l))
  | .mk k n s ts, l, b, st, hwf, hb, hsz => by
    obtain ⟨hk, hwfs⟩ := Tm.wf_mk hwf
    have IH := fun (x : Tm) (hx : x ∈ ts) l b st => c_l1Vars x l b st (hwfs x hx)
    have haL := accV_len (w := 1) (b := b) (l := l.map iv) underlying61
    simp only [Tm.vars]
    rw [Tm.nodes_mk] at hsz
    refine zw6 [] func82 ntmps82 rfl rfl (by kernel_rfl) (by decide +kernel) (by show 2 ≤ _; decide +kernel) ?_
    simp only [Tm.av_mk, fitsL, AV.fits, and_true, List.length_map]
    intro ⟨_, ⟨_, _, _, hl, _⟩⟩
    simp -implicitDefEqProofs only [evE, ↓evZ2, ↓evZ3, ↓Int.cast_ofNat_Int, implies_true, zy2, aFn, List.contains, List.elem, zq3, zy1, zq2, sub, zx3, zw2, zw3, zy3, gd, zq1, zw0, zq0, zx0, zx2, zx1, zy0, zw1, List.range', ↓reduceIte, reduceCtorEq, Nat.reduceEqDiff, Nat.reduceAdd, Nat.reduceLeDiff, Nat.reduceMul, Nat.reduceLT, Nat.reduceBEq, Int.reduceEq, tf_V4_82]
    refine zq4 (fun h => ?_) (fun h => ?_)
    · simp only [decide_eq_true_eq] at h
      obtain rfl := hk h
      subst h
      simp -implicitDefEqProofs only [evE, ↓evZ2, ↓evZ3, ↓Int.cast_ofNat_Int, implies_true, zy2, aFn, List.contains, List.elem, zq3, zy1, zq2, sub, zx3, zw2, zw3, zy3, gd, zq1, zw0, zq0, zx0, zx2, zx1, zy0, zw1, List.range', ↓reduceIte, reduceCtorEq, Nat.reduceEqDiff, Nat.reduceAdd, Nat.reduceLeDiff, Nat.reduceMul, Nat.reduceLT, Nat.reduceBEq, Int.reduceEq, tf_V4_82]
      have hnn : l.length ≤ 1099511627776 := by omega
      refine zy5 (σ := Unit) [] [0, 3] l (fun i _ => ∀ y ∈ l.take i, y ≠ n) (fun i _ => [(5, .int .i64 i)]) (fun _ _ => accS st b (l.map iv)) (by decide +kernel) ⟨(), by simp, zx7.mk (by simp -implicitDefEqProofs only [evE, ↓evZ2, ↓evZ3, ↓Int.cast_ofNat_Int, implies_true, zy2, aFn, List.contains, List.elem, zq3, zy1, zq2, sub, zx3, zw2, zw3, zy3, gd, zq1, zw0, zq0, zx0, zx2, zx1, zy0, zw1, List.range', ↓reduceIte, reduceCtorEq, Nat.reduceEqDiff, Nat.reduceAdd, Nat.reduceLeDiff, Nat.reduceMul, Nat.reduceLT, Nat.reduceBEq, Int.reduceEq, tf_V4_82])⟩ (fun i x _ hx hlt hlt' hdr hinv => ?_) (fun _ hge hinv => ?_)
      case refine_2 =>
        rw [List.take_length] at hinv
        have hmem : n ∉ l := fun h => hinv n h rfl
        simp -implicitDefEqProofs only [haL, List.length_map, hge, evE, ↓evZ2, ↓evZ3, ↓Int.cast_ofNat_Int, implies_true, zy2, aFn, List.contains, List.elem, zq3, zy1, zq2, sub, zx3, zw2, zw3, zy3, gd, zq1, zw0, zq0, zx0, zx2, zx1, zy0, zw1, List.range', ↓reduceIte, reduceCtorEq, Nat.reduceEqDiff, Nat.reduceAdd, Nat.reduceLeDiff, Nat.reduceMul, Nat.reduceLT, Nat.reduceBEq, Int.reduceEq, tf_V4_82]
        refine acc_append eI_61 eB_61 eZ_61 rfl rfl (by intro e he; simp only [List.mem_cons, List.not_mem_nil, or_false] at he; subst he; exact ⟨rfl, rfl⟩) (iv_widths l) hb (by simp; omega) (by simp; omega) (fun b' hb' => ?_)
        rw [show l.map iv ++ [AV.int .i64 n] = (l ++ [n]).map iv by simp] at hb' ⊢
        simp -implicitDefEqProofs only [evE, ↓evZ2, ↓evZ3, ↓Int.cast_ofNat_Int, implies_true, zy2, aFn, List.contains, List.elem, zq3, zy1, zq2, sub, zx3, zw2, zw3, zy3, gd, zq1, zw0, zq0, zx0, zx2, zx1, zy0, zw1, List.range', ↓reduceIte, reduceCtorEq, Nat.reduceEqDiff, Nat.reduceAdd, Nat.reduceLeDiff, Nat.reduceMul, Nat.reduceLT, Nat.reduceBEq, Int.reduceEq, tf_V4_82]
        exact ⟨b', by simp [tmsVars, hmem], by simp [tmsVars, hmem], by simp only [tmsVars, hmem, not_false_eq_true, and_self, if_true]; exact hb'⟩
      have hat := acc_at (b := b) (l := l.map iv) (i := i) (x := iv x) eI_61 (by rw [List.getElem?_map, hx]; rfl)
      obtain ⟨hblk, hget⟩ := acc_blk (st := st) (b := b) hx
      have hw := wrap64 (n := (i : Int) + 1) (by omega) (by omega)
      simp -implicitDefEqProofs only [haL, List.length_map, hlt', evE, ↓evZ2, ↓evZ3, ↓Int.cast_ofNat_Int, implies_true, zy2, aFn, List.contains, List.elem, zq3, zy1, zq2, sub, zx3, zw2, zw3, zy3, gd, zq1, zw0, zq0, zx0, zx2, zx1, zy0, zw1, List.range', ↓reduceIte, reduceCtorEq, Nat.reduceEqDiff, Nat.reduceAdd, Nat.reduceLeDiff, Nat.reduceMul, Nat.reduceLT, Nat.reduceBEq, Int.reduceEq, tf_V4_82]
      refine arun_drawA mixed (by decide +kernel) (by decide +kernel) ?_
      simp -implicitDefEqProofs only [hat, hblk, hget, Nat.mul_one, evE, ↓evZ2, ↓evZ3, ↓Int.cast_ofNat_Int, implies_true, zy2, aFn, List.contains, List.elem, zq3, zy1, zq2, sub, zx3, zw2, zw3, zy3, gd, zq1, zw0, zq0, zx0, zx2, zx1, zy0, zw1, List.range', ↓reduceIte, reduceCtorEq, Nat.reduceEqDiff, Nat.reduceAdd, Nat.reduceLeDiff, Nat.reduceMul, Nat.reduceLT, Nat.reduceBEq, Int.reduceEq, tf_V4_82]
      refine zq4 (fun h => ?_) (fun h => ?_)
      · simp only [decide_eq_true_eq] at h
        subst h
        have hmem := List.mem_of_getElem? hx
        simp -implicitDefEqProofs only [evE, ↓evZ2, ↓evZ3, ↓Int.cast_ofNat_Int, implies_true, zy2, aFn, List.contains, List.elem, zq3, zy1, zq2, sub, zx3, zw2, zw3, zy3, gd, zq1, zw0, zq0, zx0, zx2, zx1, zy0, zw1, List.range', ↓reduceIte, reduceCtorEq, Nat.reduceEqDiff, Nat.reduceAdd, Nat.reduceLeDiff, Nat.reduceMul, Nat.reduceLT, Nat.reduceBEq, Int.reduceEq, tf_V4_82]
        exact ⟨b, by simp [tmsVars, hmem], by simp [tmsVars, hmem], by simp only [tmsVars, hmem, not_true_eq_false, and_false, if_false]; exact hb⟩
      · simp only [decide_eq_false_iff_not] at h
        simp -implicitDefEqProofs only [evE, ↓evZ2, ↓evZ3, ↓Int.cast_ofNat_Int, implies_true, zy2, aFn, List.contains, List.elem, zq3, zy1, zq2, sub, zx3, zw2, zw3, zy3, gd, zq1, zw0, zq0, zx0, zx2, zx1, zy0, zw1, List.range', ↓reduceIte, reduceCtorEq, Nat.reduceEqDiff, Nat.reduceAdd, Nat.reduceLeDiff, Nat.reduceMul, Nat.reduceLT, Nat.reduceBEq, Int.reduceEq, tf_V4_82]
        refine ⟨(), ?_, zx7.mk (by simp -implicitDefEqProofs only [hw, evE, ↓evZ2, ↓evZ3, ↓Int.cast_ofNat_Int, implies_true, zy2, aFn, List.contains, List.elem, zq3, zy1, zq2, sub, zx3, zw2, zw3, zy3, gd, zq1, zw0, zq0, zx0, zx2, zx1, zy0, zw1, List.range', ↓reduceIte, reduceCtorEq, Nat.reduceEqDiff, Nat.reduceAdd, Nat.reduceLeDiff, Nat.reduceMul, Nat.reduceLT, Nat.reduceBEq, Int.reduceEq, tf_V4_82])⟩
        intro y hy
        rw [List.take_add_one, hx] at hy
        rcases List.mem_append.1 hy with hy | hy
        · exact hinv y hy
        · simp at hy; subst hy; exact h
    · simp only [decide_eq_false_iff_not] at h
      rw [if_neg (by simp [h])]
      simp -implicitDefEqProofs only [evE, ↓evZ2, ↓evZ3, ↓Int.cast_ofNat_Int, implies_true, zy2, aFn, List.contains, List.elem, zq3, zy1, zq2, sub, zx3, zw2, zw3, zy3, gd, zq1, zw0, zq0, zx0, zx2, zx1, zy0, zw1, List.range', ↓reduceIte, reduceCtorEq, Nat.reduceEqDiff, Nat.reduceAdd, Nat.reduceLeDiff, Nat.reduceMul, Nat.reduceLT, Nat.reduceBEq, Int.reduceEq, tf_V4_82]
      refine zy5 (σ := List Int × Nat) [] [3, 4] ts (fun i p => tmsVars (ts.drop i) p.1 = tmsVars ts l ∧ p.1.length + sumL Tm.nodes (ts.drop i) ≤ 1099511627776 ∧ (p.1.map iv ≠ [] → st p.2 = none)) (fun i p => [(0, accV 1 p.2 (p.1.map iv)), (6, .int .i64 i)]) (fun _ p => accS st p.2 (p.1.map iv)) (by decide +kernel)
        ⟨(l, b), ⟨rfl, by simp; omega, hb⟩, zx7.mk (by simp -implicitDefEqProofs only [List.length_map, evE, ↓evZ2, ↓evZ3, ↓Int.cast_ofNat_Int, implies_true, zy2, aFn, List.contains, List.elem, zq3, zy1, zq2, sub, zx3, zw2, zw3, zy3, gd, zq1, zw0, zq0, zx0, zx2, zx1, zy0, zw1, List.range', ↓reduceIte, reduceCtorEq, Nat.reduceEqDiff, Nat.reduceAdd, Nat.reduceLeDiff, Nat.reduceMul, Nat.reduceLT, Nat.reduceBEq, Int.reduceEq, tf_V4_82])⟩ (fun i x p hx hlt hlt' hdr hinv => ?_) (fun p hge hinv => ?_)
      case refine_2 =>
        simp -implicitDefEqProofs only [List.length_map, hge, evE, ↓evZ2, ↓evZ3, ↓Int.cast_ofNat_Int, implies_true, zy2, aFn, List.contains, List.elem, zq3, zy1, zq2, sub, zx3, zw2, zw3, zy3, gd, zq1, zw0, zq0, zx0, zx2, zx1, zy0, zw1, List.range', ↓reduceIte, reduceCtorEq, Nat.reduceEqDiff, Nat.reduceAdd, Nat.reduceLeDiff, Nat.reduceMul, Nat.reduceLT, Nat.reduceBEq, Int.reduceEq, tf_V4_82]
        rw [← hinv.1, List.drop_length]
        exact ⟨p.2, rfl, rfl, hinv.2.2⟩
      obtain ⟨acc, b⟩ := p
      rw [hdr] at hinv
      obtain ⟨i1, i2, i3⟩ := hinv
      simp only [sumL] at i2
      have hw := wrap64 (n := (i : Int) + 1) (by omega) (by omega)
      simp -implicitDefEqProofs only [List.length_map, hlt', ev_at (av := Tm.av) eI_23 hx (Tm.av_width x), Tm.av_agg, Tm.av_width, evE, ↓evZ2, ↓evZ3, ↓Int.cast_ofNat_Int, implies_true, zy2, aFn, List.contains, List.elem, zq3, zy1, zq2, sub, zx3, zw2, zw3, zy3, gd, zq1, zw0, zq0, zx0, zx2, zx1, zy0, zw1, List.range', ↓reduceIte, reduceCtorEq, Nat.reduceEqDiff, Nat.reduceAdd, Nat.reduceLeDiff, Nat.reduceMul, Nat.reduceLT, Nat.reduceBEq, Int.reduceEq, tf_V4_82]
      refine (IH x (List.mem_of_getElem? hx) acc b st i3 (by omega)).mono ?_
      rintro _ _ ⟨b', rfl, rfl, hb'⟩
      have hvl := Tm.vars_len x acc
      simp -implicitDefEqProofs only [hw, evE, ↓evZ2, ↓evZ3, ↓Int.cast_ofNat_Int, implies_true, zy2, aFn, List.contains, List.elem, zq3, zy1, zq2, sub, zx3, zw2, zw3, zy3, gd, zq1, zw0, zq0, zx0, zx2, zx1, zy0, zw1, List.range', ↓reduceIte, reduceCtorEq, Nat.reduceEqDiff, Nat.reduceAdd, Nat.reduceLeDiff, Nat.reduceMul, Nat.reduceLT, Nat.reduceBEq, Int.reduceEq, tf_V4_82]
      exact ⟨(x.vars acc, b'), ⟨i1, by simp only; omega, hb'⟩, zx7.mk (by simp -implicitDefEqProofs only [evE, ↓evZ2, ↓evZ3, ↓Int.cast_ofNat_Int, implies_true, zy2, aFn, List.contains, List.elem, zq3, zy1, zq2, sub, zx3, zw2, zw3, zy3, gd, zq1, zw0, zq0, zx0, zx2, zx1, zy0, zw1, List.range', ↓reduceIte, reduceCtorEq, Nat.reduceEqDiff, Nat.reduceAdd, Nat.reduceLeDiff, Nat.reduceMul, Nat.reduceLT, Nat.reduceBEq, Int.reduceEq, tf_V4_82])⟩
termination_by t => SizeOf.sizeOf t
decreasing_by have := List.sizeOf_lt_of_mem hx; simp only [Tm.mk.sizeOf_spec]; omega
end Go.AW
