import Derived.Test.YtepkgoabhlnkbaaGreatDoorSeso
import Derived.Test.YtepkgoabhlnkbaaGreatDoorSesl
import Derived.Test.YtepkgoabhlnkbaaGreatDoorSesn
import Derived.Test.YtepkgoabhlnkbaaGreatDoorSesm
import Derived.Test.YtepkgoabhlnkbaaGreatDoorSesk
import Derived.Test.YtepkgoabhlnkbaaGreatDoorSesj
set_option linter.unusedSimpArgs false
set_option linter.unusedVariables false
set_option maxRecDepth 100000
namespace Go.AW
open Go.Proofs.Tryz
theorem rTry_ok {p : List Cl} (hp : ∀ c ∈ p, ClX c ∧ c.2.length ≤ 6) {B : Nat} (hB : B ≤ 524288) {cs : List RC} {goal : Tm} {rest : List RG} {σ : Sub} {N : Nat} (hg : IsGood σ) (ho : AllS (OkX N) σ) (hd : ∀ n, ¬(0 ≤ n ∧ n < (N : Int)) → σ n = none)
 (hgo : OkX N goal) (hr : ∀ g ∈ rest, OkX N g.t ∧ g.t.k = 3) (h0 : 0 < N) (hN : N + 26 ≤ B) (hrl : rest.length + 26 ≤ B) (hcl : cs.length + 1 ≤ B) (hcs : ∀ c ∈ cs, RcOk p c ∧ c.N + 26 ≤ B ∧ c.rest.length + 26 ≤ B ∧ 0 < c.N) :
 ∀ (left : List Nat), (∀ i ∈ left, i < p.length) → left.length ≤ 1048576 → ∀ s, rTry p cs goal rest σ N left = some s → RsOk p B s
 | [], _, _, s, h => by simp [rTry] at h
 | i :: l, hle, hll, s, h => by
  have hil := hle i (by simp)
  obtain ⟨x, hx⟩ : ∃ x, p[i]? = some x := ⟨_, List.getElem?_eq_getElem hil⟩
  obtain ⟨hX, h6⟩ := hp x (List.mem_of_getElem? hx)
  have hl' : ∀ j ∈ l, j < p.length := fun j hj => hle j (by simp [hj])
  rw [rTry.eq_def] at h
  simp only [hx] at h
  split at h
  case isFalse => exact rTry_ok hp hB hg ho hd hgo hr h0 hN hrl hcl hcs l hl' (by simp at hll; omega) s h
  cases h
  have hfr := hX.fr.1
  have hsh := hX.shf N
  obtain ⟨r, σ', tr, U⟩ := uniG_of (N := N + frN x) hg (ho.upN (by omega)) (hgo.mono (by omega)) (hsh x.1 (by simp))
  rw [U.eq]
  have S := U.sol
  refine ⟨S.good, S.ok, fun n hn => ?_, ?_, by simp only; omega, by simp only; omega, ?_, ?_, ?_⟩
  · simp only at hn ⊢
    rw [S.keep n (fun h => hn (S.inN n h))]
    exact hd n (fun h => hn (by omega))
  · intro g hg'
    simp only [List.mem_append, List.mem_map] at hg'
    rcases hg' with ⟨t, ht, rfl⟩ | hg'
    · exact ⟨hsh t (List.mem_cons_of_mem _ ht), by rw [shf_k]; exact (hX.body t ht).2⟩
    · exact ⟨(hr g hg').1.mono (by simp only; omega), (hr g hg').2⟩
  · simp only [List.length_append, List.length_map]; omega
  · simp only
    split
    · omega
    · simp only [List.length_append, List.length_cons, List.length_nil]; omega
  · simp only
    split
    · exact hcs
    · intro c hc
      rcases List.mem_append.1 hc with hc | hc
      · exact hcs c hc
      · simp only [List.mem_cons, List.not_mem_nil, or_false] at hc
        subst hc
        exact ⟨⟨hg, ho, hd, hgo, hr, hl', by simp only; omega, by simp only; simp at hll; omega⟩, hN, hrl, h0⟩
theorem rBack_eq (p : List Cl) (chs : List RC) : rBack p chs.length chs = match chs.getLast? with
 | none => none
 | some c => match rTry p chs.dropLast c.goal c.rest c.σ c.N c.left with
  | some s => some s
  | none => rBack p chs.dropLast.length chs.dropLast := by
 cases chs with
 | nil => rfl
 | cons c l =>
  rw [List.length_cons, rBack]
  have : (c :: l).dropLast.length = l.length := by simp
  rw [this]
  rfl
theorem rBack_ok {p : List Cl} (hp : ∀ c ∈ p, ClX c ∧ c.2.length ≤ 6) {B : Nat} (hB : B ≤ 524288) : ∀ (n : Nat) (chs : List RC), chs.length ≤ B → (∀ c ∈ chs, RcOk p c ∧ c.N + 26 ≤ B ∧ c.rest.length + 26 ≤ B ∧ 0 < c.N) → ∀ s, rBack p n chs = some s → RsOk p B s
 | 0, _, _, _, s, h => by simp [rBack] at h
 | n + 1, chs, hl, hc, s, h => by
  rw [rBack] at h
  split at h
  · cases h
  · rename_i c hlast
    have hm := List.mem_of_getLast? hlast
    have hne : chs ≠ [] := by rintro rfl; simp at hm
    have hdl : chs.dropLast.length + 1 = chs.length := by
     have := List.length_pos_iff.2 hne
     simp; omega
    have hcd : ∀ c ∈ chs.dropLast, RcOk p c ∧ c.N + 26 ≤ B ∧ c.rest.length + 26 ≤ B ∧ 0 < c.N := fun c h => hc c (List.dropLast_subset _ h)
    obtain ⟨k, h1, h2, h3⟩ := hc c hm
    split at h
    · rename_i s' hs
      cases h
      exact rTry_ok hp hB k.good k.ok k.dom k.goal k.rest h3 h1 h2 (by omega) hcd c.left k.left k.llen s hs
    · exact rBack_ok hp hB n _ (by omega) hcd s h
theorem RsOk.up {p : List Cl} {B C : Nat} {s : RS} (h : RsOk p B s) (hC : B ≤ C) : RsOk p C s :=
 ⟨h.good, h.ok, h.dom, h.goals, h.pos, by have := h.hN; omega, by have := h.gl; omega, by have := h.chl; omega, fun c hc => by
  obtain ⟨h1, h2, h3, h4⟩ := h.chs c hc
  exact ⟨h1, by omega, by omega, h4⟩⟩
theorem RsOk.back {p : List Cl} (hp : ∀ c ∈ p, ClX c ∧ c.2.length ≤ 6) {B : Nat} (hB : B ≤ 524288) {s s' : RS} (h : RsOk p B s) (e : rBack p s.chs.length s.chs = some s') : RsOk p B s' :=
 rBack_ok hp hB _ _ h.chl h.chs s' e
theorem fit_ok {N : Nat} {σ : Sub} (hg : IsGood σ) (ho : AllS (OkX N) σ) {t : Tm} (ht : OkX N t) (hf : fitT (t.mapv (rs σ)) = true) : OkX N (t.mapv (rs σ)) := by
 obtain ⟨rk, B, G⟩ := hg.rs
 unfold fitT at hf
 simp only [Bool.and_eq_true, decide_eq_true_eq] at hf
 exact ⟨ht.1.mapv fun v hv => G.okV ho.okV v (ht.1.2.2 v hv).1 (ht.1.2.2 v hv).2, hf.2⟩
theorem RsOk.step {p : List Cl} (hp : ∀ c ∈ p, ClX c ∧ c.2.length ≤ 6) (hpl : p.length ≤ 1048576) {B : Nat} (hB : B + 26 ≤ 524288) {cnd : Tm → List Nat → List Nat} (hc : ∀ t l, (∀ i ∈ cnd t l, i ∈ l) ∧ (cnd t l).length ≤ l.length) {s s' : RS} {g : RG} {rest : List RG} (hgs : s.goals = g :: rest) (h : RsOk p B s)
 (e : rStep p cnd s g rest = .go s') : RsOk p (B + 26) s' := by
 have hgm : g ∈ s.goals := by rw [hgs]; simp
 have hrm : ∀ x ∈ rest, x ∈ s.goals := fun x hx => by rw [hgs]; simp [hx]
 have hgl := h.gl
 rw [hgs, List.length_cons] at hgl
 have hU := h.up (C := B + 26) (by omega)
 unfold rStep at e
 split at e
 · cases e
 rename_i hfit
 have hfit' : fitT (g.t.mapv (rs s.σ)) = true := by simpa using hfit
 have hok := fit_ok h.good h.ok (h.goals g hgm).1 hfit'
 generalize g.t.mapv (rs s.σ) = t at *
 split at e
 · cases e
   exact ⟨hU.good, hU.ok, hU.dom, fun x hx => hU.goals x (hrm x hx), hU.pos, hU.hN, by simp only; omega, by simp only [List.length_take]; have := hU.chl; omega, fun c hc => hU.chs c (List.mem_of_mem_take hc)⟩
 split at e
 · split at e
   · cases e
     have S := solveG_sol h.good h.ok t.s t.ts fun x hx => by
      obtain ⟨k, n, s', ts⟩ := t
      by_cases hk : k = 1
      · obtain ⟨_, _, _, h2⟩ := (show OkV s.N (.mk 1 n s' ts) from hk ▸ hok.1).var
        simp only [Tm.ts] at hx
        rw [h2] at hx; cases hx
      · exact okX_kids _ (.mk k n s' ts) hk hok x hx
     exact ⟨S.good, S.ok, fun n hn => by simp only at hn ⊢; rw [S.keep n (fun h => hn (S.inN n h))]; exact hU.dom n hn, fun x hx => hU.goals x (hrm x hx), hU.pos, hU.hN, by simp only; omega, hU.chl, hU.chs⟩
   · split at e <;> cases e
 split at e
 · cases e
 split at e
 case h_2 => cases e
 rename_i s2 hs
 cases e
 obtain ⟨c1, c2⟩ := hc t (forL p t)
 have hfl : (forL p t).length ≤ p.length := by rw [forL_eq]; exact forT_len p t p.length
 refine rTry_ok hp (by omega) h.good h.ok h.dom hok (fun x hx => h.goals x (hrm x hx)) h.pos (by have := h.hN; omega) (by omega) (by have := h.chl; omega) hU.chs _ (fun i hi => ?_) (by omega) s' hs
 have := c1 i hi
 unfold forL at this
 have := (List.mem_filter.1 this).1
 exact List.mem_range.1 this
def Keeps (n : Nat) (l : List RG) : Prop := l.Pairwise (fun a b => b.keep ≤ a.keep) ∧ ∀ g ∈ l, g.keep ≤ n
theorem Keeps.up {n m : Nat} {l : List RG} (h : Keeps n l) (hm : n ≤ m) : Keeps m l := ⟨h.1, fun g hg => Nat.le_trans (h.2 g hg) hm⟩
theorem Keeps.tail {n : Nat} {g : RG} {l : List RG} (h : Keeps n (g :: l)) : Keeps n l ∧ Keeps g.keep l := by
 obtain ⟨h1, h2⟩ := h
 rw [List.pairwise_cons] at h1
 exact ⟨⟨h1.2, fun x hx => h2 x (by simp [hx])⟩, h1.2, h1.1⟩
theorem Keeps.body {n : Nat} {l : List RG} (h : Keeps n l) (f : Tm → Tm) (bd : List Tm) : Keeps n (bd.map (fun t => (⟨f t, n⟩ : RG)) ++ l) := by
 refine ⟨List.pairwise_append.2 ⟨?_, h.1, fun a ha b hb => ?_⟩, fun g hg => ?_⟩
 · rw [List.pairwise_map]
   exact List.pairwise_of_forall fun _ _ => Nat.le_refl _
 · obtain ⟨t, _, rfl⟩ := List.mem_map.1 ha
   exact h.2 b hb
 · rcases List.mem_append.1 hg with hg | hg
   · obtain ⟨t, _, rfl⟩ := List.mem_map.1 hg
     exact Nat.le_refl _
   · exact h.2 g hg
structure RsK (s : RS) : Prop where
 goals : Keeps s.chs.length s.goals
 chs : ∀ i c, s.chs[i]? = some c → Keeps i c.rest
theorem rTry_K {p : List Cl} {cs : List RC} {goal : Tm} {rest : List RG} {σ : Sub} {N : Nat} (hr : Keeps cs.length rest) (hc : ∀ i c, cs[i]? = some c → Keeps i c.rest) :
 ∀ (left : List Nat) s, rTry p cs goal rest σ N left = some s → RsK s
 | [], s, h => by simp [rTry] at h
 | i :: l, s, h => by
  rw [rTry.eq_def] at h
  simp only at h
  split at h
  · cases h
  rename_i x hx
  split at h
  case isFalse => exact rTry_K hr hc l s h
  cases h
  have hb := hr.body (shf N) x.2
  refine ⟨?_, ?_⟩
  · simp only
    split
    · exact hb
    · exact hb.up (by simp)
  · simp only
    intro j c hj
    split at hj
    · exact hc j c hj
    · rw [List.getElem?_append] at hj
      split at hj
      · exact hc j c hj
      · rename_i hlt
        have hj0 : j - cs.length = 0 := by
         have := (List.getElem?_eq_some_iff.1 hj).1
         simp at this; omega
        rw [hj0] at hj
        simp only [List.getElem?_cons_zero, Option.some.injEq] at hj
        subst hj
        exact hr.up (by omega)
theorem rBack_K {p : List Cl} : ∀ (n : Nat) (chs : List RC), (∀ i c, chs[i]? = some c → Keeps i c.rest) → ∀ s, rBack p n chs = some s → RsK s
 | 0, _, _, s, h => by simp [rBack] at h
 | n + 1, chs, hc, s, h => by
  rw [rBack] at h
  split at h
  · cases h
  · rename_i c hlast
    have hd : ∀ i c, chs.dropLast[i]? = some c → Keeps i c.rest := fun i c hi => hc i c (by
     rw [List.dropLast_eq_take, List.getElem?_take] at hi
     split at hi
     · exact hi
     · cases hi)
    rw [List.getLast?_eq_getElem?] at hlast
    have hk := hc _ _ hlast
    split at h
    · rename_i s' hs
      cases h
      exact rTry_K (by rw [List.length_dropLast]; exact hk) hd _ s hs
    · exact rBack_K n _ hd s h
theorem RsK.step {p : List Cl} {cnd : Tm → List Nat → List Nat} {s s' : RS} {g : RG} {rest : List RG} (hgs : s.goals = g :: rest) (h : RsK s) (e : rStep p cnd s g rest = .go s') : RsK s' := by
 have hg := h.goals
 rw [hgs] at hg
 obtain ⟨h1, h2⟩ := hg.tail
 have h3 := hg.2 g (by simp)
 unfold rStep at e
 split at e
 · cases e
 split at e
 · cases e
   refine ⟨?_, fun i c hi => ?_⟩
   · simp only [List.length_take]
     exact h2.up (by omega)
   · simp only [List.getElem?_take] at hi
     split at hi
     · exact h.chs i c hi
     · cases hi
 split at e
 · split at e
   · cases e
     exact ⟨h1, h.chs⟩
   · split at e <;> cases e
 split at e
 · cases e
 split at e
 case h_2 => cases e
 rename_i s2 hs
 cases e
 exact rTry_K h1 h.chs _ s' hs
def RsL (s : RS) : Prop := 26 ≤ s.N ∧ ∀ c ∈ s.chs, 26 ≤ c.N
theorem rTry_L {p : List Cl} {cs : List RC} {goal : Tm} {rest : List RG} {σ : Sub} {N : Nat} (hN : 26 ≤ N) (hc : ∀ c ∈ cs, 26 ≤ c.N) :
 ∀ (left : List Nat) s, rTry p cs goal rest σ N left = some s → RsL s
 | [], s, h => by simp [rTry] at h
 | i :: l, s, h => by
  rw [rTry.eq_def] at h
  simp only at h
  split at h
  · cases h
  rename_i x hx
  split at h
  case isFalse => exact rTry_L hN hc l s h
  cases h
  refine ⟨by simp only; omega, ?_⟩
  simp only
  split
  · exact hc
  · intro c h
    rcases List.mem_append.1 h with h | h
    · exact hc c h
    · simp only [List.mem_cons, List.not_mem_nil, or_false] at h
      subst h; exact hN
theorem rBack_L {p : List Cl} : ∀ (n : Nat) (chs : List RC), (∀ c ∈ chs, 26 ≤ c.N) → ∀ s, rBack p n chs = some s → RsL s
 | 0, _, _, s, h => by simp [rBack] at h
 | n + 1, chs, hc, s, h => by
  rw [rBack] at h
  split at h
  · cases h
  · rename_i c hlast
    have hd : ∀ c ∈ chs.dropLast, 26 ≤ c.N := fun c h => hc c (List.dropLast_subset _ h)
    split at h
    · rename_i s' hs
      cases h
      exact rTry_L (hc c (List.mem_of_getLast? hlast)) hd _ s hs
    · exact rBack_L n _ hd s h
theorem RsL.step {p : List Cl} {cnd : Tm → List Nat → List Nat} {s s' : RS} {g : RG} {rest : List RG} (h : RsL s) (e : rStep p cnd s g rest = .go s') : RsL s' := by
 unfold rStep at e
 split at e
 · cases e
 split at e
 · cases e
   exact ⟨h.1, fun c hc => h.2 c (List.mem_of_mem_take hc)⟩
 split at e
 · split at e
   · cases e
     exact h
   · split at e <;> cases e
 split at e
 · cases e
 split at e
 case h_2 => cases e
 rename_i s2 hs
 cases e
 exact rTry_L h.1 h.2 _ s' hs
structure RsA (p : List Cl) (B : Nat) (s : RS) : Prop where
 a : RsOk p B s
 k : RsK s
 l : RsL s
theorem RsA.step {p : List Cl} (hp : ∀ c ∈ p, ClX c ∧ c.2.length ≤ 6) (hpl : p.length ≤ 1048576) {B : Nat} (hB : B + 26 ≤ 524288) {cnd : Tm → List Nat → List Nat} (hc : ∀ t l, (∀ i ∈ cnd t l, i ∈ l) ∧ (cnd t l).length ≤ l.length) {s s' : RS} {g : RG} {rest : List RG} (hgs : s.goals = g :: rest) (h : RsA p B s)
 (e : rStep p cnd s g rest = .go s') : RsA p (B + 26) s' := ⟨h.a.step hp hpl hB hc hgs e, h.k.step hgs e, h.l.step e⟩
theorem RsA.back {p : List Cl} (hp : ∀ c ∈ p, ClX c ∧ c.2.length ≤ 6) {B : Nat} (hB : B ≤ 524288) {s s' : RS} (h : RsA p B s) (e : rBack p s.chs.length s.chs = some s') : RsA p B s' :=
 ⟨h.a.back hp hB e, rBack_K _ _ h.k.chs s' e, rBack_L _ _ h.l.2 s' e⟩
theorem RsA.up {p : List Cl} {B C : Nat} {s : RS} (h : RsA p B s) (hC : B ≤ C) : RsA p C s := ⟨h.a.up hC, h.k, h.l⟩
theorem RsA.start {p : List Cl} {q : List Tm} (hq : ∀ t ∈ q, OkX 26 t ∧ t.k = 3) (h6 : q.length ≤ 6) : RsA p 26 (rStart q) := by
 refine ⟨⟨IsGood.none, fun n u h => (by cases h), fun n _ => rfl, ?_, (by show 0 < 26; omega), Nat.le_refl _, ?_, Nat.zero_le _, fun c hc => (by cases hc)⟩, ⟨⟨?_, ?_⟩, fun i c hi => (by cases hi)⟩, ⟨Nat.le_refl _, fun c hc => (by cases hc)⟩⟩
 · intro g hg
   simp only [rStart, List.mem_map] at hg
   obtain ⟨t, ht, rfl⟩ := hg
   exact hq t ht
 · simp only [rStart, List.length_map]; omega
 · simp only [rStart, List.pairwise_map]
   exact List.pairwise_of_forall fun _ _ => Nat.le_refl _
 · intro g hg
   simp only [rStart, List.mem_map] at hg
   obtain ⟨t, ht, rfl⟩ := hg
   exact Nat.zero_le _
end Go.AW
namespace Go.AW
theorem IX.node {p : List Cl} {M : Nat} {i : IS} (h : IX p M i) : IX p M { i with nn := i.nn + 1 } :=
 ⟨h.tnd, h.tin, h.phi, fun c hc => by obtain ⟨h1, h2, h3, h4⟩ := h.ch c hc; exact ⟨h1, by simp only; omega, h3, h4⟩, h.mono⟩
theorem IX.more {p : List Cl} {M : Nat} {i : IS} {σ' : Sub} {add : List Int} {gl : List IG} (h : IX p M i) (S : SolG (i.fresh : Int) i.σ σ' add) : IX p M { i with goals := gl, σ := σ', tr := i.tr ++ add } := by
 refine ⟨List.nodup_append.2 ⟨h.tnd, S.nodup, fun a ha b hb e => ?_⟩, fun n hn => ?_, h.phi, fun c hc => ?_, h.mono⟩
 · subst e
   exact (h.tin a ha).2 (S.new a hb).1
 · simp only [List.mem_append] at hn
   rcases hn with hn | hn
   · have h1 := h.tin n hn
     have hna : n ∉ add := fun ha => h1.2 (S.new n ha).1
     exact ⟨h1.1, by simp only; rw [S.keep n hna]; exact h1.2⟩
   · exact ⟨S.inN n hn, (S.new n hn).2⟩
 · obtain ⟨h1, h2, h3, h4⟩ := h.ch c hc
   exact ⟨h1, h2, by simp only [List.length_append]; omega, h4⟩
theorem IX.cut {p : List Cl} {M : Nat} {i : IS} {gl : List IG} (h : IX p M i) (k : Nat) : IX p M { i with goals := gl, chs := i.chs.take k } :=
 ⟨h.tnd, h.tin, by have := lsum_take i.chs k; have := h.phi; simp only; omega, fun c hc => h.ch c (List.mem_of_mem_take hc), h.mono.sublist (List.take_sublist _ _)⟩
def StepX (p : List Cl) (M : Nat) : IO' → Prop
 | .go s => IX p M s
 | .fail s => IX p M s
 | .stop _ => True
theorem iStep_X {p : List Cl} (hp : ∀ c ∈ p, ClX c) (hpl : p.length ≤ 20) {cnd : Tm → List Nat → List Nat} (hc : ∀ t l, (∀ i ∈ cnd t l, i ∈ l) ∧ (cnd t l).length ≤ l.length) {M : Nat} {i : IS} {g : IG} {rest : List IG} (h : IX p M i) (hg : IsGood i.σ) (ho : AllS (OkX i.fresh) i.σ) (hgo : OkX i.fresh g.t) :
 StepX p (M + 520) (iStep p cnd i g rest) := by
 have hU := h.up (M' := M + 520) (by omega)
 unfold iStep
 split
 · trivial
 rename_i hfit
 have hfit' : fitT (g.t.mapv (rs i.σ)) = true := by simpa using hfit
 have hok := fit_ok hg ho hgo hfit'
 generalize g.t.mapv (rs i.σ) = t at *
 split
 · exact (hU.cut (gl := rest) g.cut).node
 split
 · have S := solveG_sol hg ho t.s t.ts fun x hx => by
    obtain ⟨k, n, s', ts⟩ := t
    by_cases hk : k = 1
    · obtain ⟨_, _, _, h2⟩ := (show OkV i.fresh (.mk 1 n s' ts) from hk ▸ hok.1).var
      simp only [Tm.ts] at hx
      rw [h2] at hx; cases hx
    · exact okX_kids _ (.mk k n s' ts) hk hok x hx
   split
   · exact (hU.more (gl := rest) S).node
   · split
     · exact (hU.more (gl := i.goals) S).node
     · trivial
 split
 · trivial
 obtain ⟨c1, c2⟩ := hc t (forL p t)
 have hfl : (forL p t).length ≤ p.length := by
  have := List.length_filter_le (fun j => match p[j]? with | some c => hdOf c t | none => false) (List.range p.length)
  rw [List.length_range] at this
  exact this
 have hr : ∀ x ∈ cnd t (forL p t), x < p.length := fun x hx => by
  have := c1 x hx
  unfold forL at this
  exact List.mem_range.1 (List.mem_filter.1 this).1
 have hT := iTry_X hp (rest := rest) (cnd t (forL p t)) { i with nn := i.nn + 1 } hr (at' := i.nn) (by simp only; omega) (by have := h.phi; simp only; omega) hU.node hg ho hok
 split
 · exact hT
 · exact hT
end Go.AW
namespace Go.AW
open Go.Proofs.Tryz
theorem iTry_false {p : List Cl} {goal : Tm} {at' : Nat} {rest : List IG} : ∀ (l : List Nat) (s : IS), (iTry p goal at' rest l s).1 = false → ∃ F, (iTry p goal at' rest l s).2 = { s with fresh := F }
 | [], s, _ => ⟨s.fresh, by rw [iTry.eq_def]⟩
 | j :: l, s, h => by
  rw [iTry.eq_def] at h ⊢
  simp only at h ⊢
  split at h
  · exact ⟨s.fresh, rfl⟩
  · split at h
    · cases h
    · rename_i hu
      rw [if_neg hu]
      obtain ⟨F, e⟩ := iTry_false l { s with fresh := s.fresh + 26 } h
      exact ⟨F, e⟩
theorem iTry_nn {p : List Cl} {goal : Tm} {at' : Nat} {rest : List IG} : ∀ (l : List Nat) (s : IS), (iTry p goal at' rest l s).2.nn = s.nn
 | [], s => by rw [iTry.eq_def]
 | j :: l, s => by
  rw [iTry.eq_def]
  simp only
  split
  · rfl
  · split
    · rfl
    · exact iTry_nn l { s with fresh := s.fresh + 26 }
theorem Rl.facts {s : RS} {i : IS} (h : Rl s i) : IsGood i.σ ∧ AllS (OkX i.fresh) i.σ ∧ i.chs.length = s.chs.length ∧ i.goals.length = s.goals.length := by
 obtain ⟨ρ, S, G, C⟩ := h
 have := congrArg List.length G.1
 simp only [List.length_map] at this
 exact ⟨S.g2, S.o2, C.len, this⟩
theorem Rl.goal {s : RS} {i : IS} {h : IG} {hs : List IG} (hR : Rl s i) (hh : i.goals = h :: hs) : OkX i.fresh h.t ∧ h.t.k = 3 ∧ ∃ g gs, s.goals = g :: gs ∧ h.cut = g.keep := by
 obtain ⟨ρ, S, G, C⟩ := hR
 rw [hh] at G
 cases hg : s.goals with
 | nil => rw [hg] at G; exact absurd G.1 (by simp)
 | cons g gs =>
  rw [hg] at G
  have he := (List.cons.inj G.1).1
  simp only [Prod.mk.injEq] at he
  obtain ⟨e1, e2⟩ := he
  obtain ⟨h1, h2⟩ := G.2 g (by simp)
  rw [e1]
  exact ⟨S.renX h1, by rw [ren_k]; exact h2, g, gs, rfl, e2⟩
section
variable {p : List Cl} (hp : ∀ c ∈ p, ClX c) {cnd : Tm → List Nat → List Nat} (hc : ∀ (ρ : Int → Int) (t : Tm) (l : List Nat), cnd (ren ρ t) l = cnd t l)
include hp hc
theorem Rl.step {s : RS} {i : IS} {h : IG} {hs : List IG} (hR : Rl s i) (hh : i.goals = h :: hs) : ∃ g gs, s.goals = g :: gs ∧ match iStep p cnd i h hs with
 | .stop e => rStep p cnd s g gs = .stop e
 | .go i' => ∃ s', rStep p cnd s g gs = .go s' ∧ Rl s' i'
 | .fail i' => rStep p cnd s g gs = .fail ∧ ChR i'.fresh s.chs i'.chs i'.σ i'.tr := by
 obtain ⟨_, _, g, gs, hg, _⟩ := hR.goal hh
 obtain ⟨h', hs', e, k⟩ := step_sim hp hc hR hg
 rw [hh] at e
 cases e
 refine ⟨g, gs, hg, ?_⟩
 cases hr : rStep p cnd s g gs with
 | stop e => rw [hr] at k; simp only at k; rw [k]
 | go s' => rw [hr] at k; simp only at k; obtain ⟨i', e, k⟩ := k; rw [e]; exact ⟨s', rfl, k⟩
 | fail => rw [hr] at k; simp only at k; obtain ⟨i', e, k⟩ := k; rw [e]; exact ⟨rfl, k⟩
end
theorem forL_len (p : List Cl) (t : Tm) : (forL p t).length ≤ p.length := by
 have := List.length_filter_le (fun j => match p[j]? with | some c => hdOf c t | none => false) (List.range p.length)
 rw [List.length_range] at this
 exact this
theorem forL_lt (p : List Cl) (t : Tm) : ∀ x ∈ forL p t, x < p.length := fun x hx => by
 unfold forL at hx
 exact List.mem_range.1 (List.mem_filter.1 hx).1
theorem iBack_nn {p : List Cl} {N : Nat} {i' : IS} : ∀ (n : Nat) (i : IS), (∀ c ∈ i.chs, c.taken ≤ N) → iBack p n i = some i' → i'.nn ≤ N
 | 0, i, _, e => by simp [iBack] at e
 | n + 1, i, h, e => by
  rw [iBack] at e
  split at e
  · cases e
  · rename_i c hl
    split at e
    · cases e
      rw [iTry_nn]
      exact h c (List.mem_of_getLast? hl)
    · rename_i hf
      obtain ⟨F, e2⟩ := iTry_false _ _ (by simpa using hf)
      rw [e2] at e
      exact iBack_nn n _ (fun c hc => h c (List.dropLast_subset _ hc)) e
def StepN (k : Nat) : IO' → Prop
 | .go s => s.nn = k
 | .fail s => s.nn = k
 | .stop _ => True
theorem iStep_nn {p : List Cl} {cnd : Tm → List Nat → List Nat} {i : IS} {g : IG} {rest : List IG} : StepN (i.nn + 1) (iStep p cnd i g rest) := by
 unfold iStep
 split
 · trivial
 split
 · exact rfl
 split
 · split
   · exact rfl
   · split
     · exact rfl
     · trivial
 split
 · trivial
 split
 · exact iTry_nn _ _
 · exact iTry_nn _ _
def StopE : IO' → Prop
 | .stop e => e ≠ -1
 | _ => True
theorem iStep_stop {p : List Cl} {cnd : Tm → List Nat → List Nat} {i : IS} {g : IG} {rest : List IG} : StopE (iStep p cnd i g rest) := by
 unfold iStep
 split
 · exact (by decide : (3 : Int) ≠ -1)
 split
 · trivial
 split
 · split
   · trivial
   · split
     · trivial
     · show endC _ ≠ -1
       unfold endC
       split
       · decide
       · split
         · decide
         · split <;> decide
 split
 · exact (by decide : (8 : Int) ≠ -1)
 split <;> trivial
structure RI (p : List Cl) (B M k : Nat) (s : RS) (i : IS) : Prop where
 r : Rl s i
 a : RsA p B s
 x : IX p M i
 n : i.nn ≤ k
theorem RI.chl {p : List Cl} {B M k : Nat} {s : RS} {i : IS} (h : RI p B M k s i) : i.chs.length ≤ B := by rw [h.r.facts.2.2.1]; exact h.a.a.chl
theorem RI.cr {p : List Cl} {B M k : Nat} {s : RS} {i : IS} (h : RI p B M k s i) : ChR i.fresh s.chs i.chs i.σ i.tr := by obtain ⟨_, _, _, C⟩ := h.r; exact C
theorem RI.cut {p : List Cl} {B M k : Nat} {s : RS} {i : IS} {g : IG} {gs : List IG} (h : RI p B M k s i) (hg : i.goals = g :: gs) : g.cut ≤ i.chs.length := by
 obtain ⟨_, _, g', gs', e, e2⟩ := h.r.goal hg
 rw [e2, h.r.facts.2.2.1]
 have := h.a.k.goals.2 g' (by rw [e]; simp)
 exact this
section
variable {p : List Cl} (hp : ∀ c ∈ p, ClX c ∧ c.2.length ≤ 6) (hpl : p.length ≤ 20) {cnd : Tm → List Nat → List Nat} (hc : ∀ (ρ : Int → Int) (t : Tm) (l : List Nat), cnd (ren ρ t) l = cnd t l) (hd : ∀ t l, (∀ i ∈ cnd t l, i ∈ l) ∧ (cnd t l).length ≤ l.length)
include hp
theorem RI.backOf {B M k : Nat} (hB : B ≤ 524288) {s : RS} {i i' : IS} (ha : RsA p B s) (hC : ChR i.fresh s.chs i.chs i.σ i.tr) (hx : IX p M i) (hn : i.nn ≤ k) (e : iBack p i.chs.length i = some i') : ∃ s', RI p B M k s' i' := by
 have hp1 := fun c h => (hp c h).1
 have key := back_sim hp1 i.chs.length s.chs i hC
 cases hr : rBack p i.chs.length s.chs with
 | none => rw [hr] at key; simp only at key; rw [key] at e; cases e
 | some s' =>
  rw [hr] at key
  obtain ⟨i2, e2, R⟩ := key
  rw [e2] at e
  cases e
  rw [hC.len] at hr
  exact ⟨s', R, ha.back hp hB hr, iBack_X hp1 _ s.chs i hC hx i' e2, iBack_nn _ i (fun c hc => Nat.le_trans (hx.ch c hc).2.1 hn) e2⟩
theorem RI.back {B M k : Nat} (hB : B ≤ 524288) {s : RS} {i i' : IS} (h : RI p B M k s i) (e : iBack p i.chs.length i = some i') : ∃ s', RI p B M k s' i' :=
 RI.backOf hp hB h.a h.cr h.x h.n e
include hpl hc hd
theorem RI.step {B M k : Nat} (hB : B + 26 ≤ 524288) {s : RS} {i : IS} {g : IG} {gs : List IG} (h : RI p B M k s i) (hg : i.goals = g :: gs) : match iStep p cnd i g gs with
 | .stop e => True
 | .go i' => ∃ s', RI p (B + 26) (M + 520) (k + 1) s' i'
 | .fail i' => ChR i'.fresh s.chs i'.chs i'.σ i'.tr ∧ IX p (M + 520) i' ∧ i'.nn ≤ k + 1 ∧ ∀ i2, iBack p i'.chs.length i' = some i2 → ∃ s', RI p (B + 26) (M + 520) (k + 1) s' i2 := by
 have hp1 := fun c h => (hp c h).1
 have hn := iStep_nn (p := p) (cnd := cnd) (i := i) (g := g) (rest := gs)
 have hx := iStep_X hp1 hpl hd (rest := gs) h.x h.r.facts.1 h.r.facts.2.1 (h.r.goal hg).1
 obtain ⟨g', gs', e, k⟩ := h.r.step hp1 hc hg
 have hk := h.n
 cases hs : iStep p cnd i g gs with
 | stop e => trivial
 | go i' =>
  rw [hs] at hn hx k
  simp only [StepN, StepX] at hn hx k
  obtain ⟨s', e1, R⟩ := k
  exact ⟨s', R, h.a.step hp (by omega) hB hd e e1, hx, by omega⟩
 | fail i' =>
  rw [hs] at hn hx k
  simp only [StepN, StepX] at hn hx k
  obtain ⟨e1, C⟩ := k
  exact ⟨C, hx, by omega, fun i2 e2 => RI.backOf hp hB (h.a.up (by omega)) C hx (by omega) e2⟩
end
theorem RI.start {p : List Cl} {q : List Tm} (hq : ∀ t ∈ q, OkX 26 t ∧ t.k = 3) (h6 : q.length ≤ 6) : RI p 26 26 0 (rStart q) (iStart q) := by
 refine ⟨start_sim hq, RsA.start hq h6, ⟨List.nodup_nil, fun n hn => (by cases hn), (by show 26 + 26 * lsum [] ≤ 26; simp [lsum]), fun c hc => (by cases hc), List.Pairwise.nil⟩, Nat.le_refl _⟩
theorem iRun_nil {p : List Cl} {cnd : Tm → List Nat → List Nat} {vars : List Int} {most fuel : Nat} {s : IS} (hg : s.goals = []) : iRun p cnd vars most fuel s = if most = 0 then ([], 1) else match ansR s.σ vars with
 | none => ([], 3)
 | some a => match iBack p s.chs.length s with
  | none => ([a], 0)
  | some s' => (a :: (iRun p cnd vars (most - 1) fuel s').1, (iRun p cnd vars (most - 1) fuel s').2) := by
 rw [iRun.eq_def, hg]
 simp only
 split <;> rfl
theorem iRun_cons {p : List Cl} {cnd : Tm → List Nat → List Nat} {vars : List Int} {most fuel : Nat} {s : IS} {g : IG} {rest : List IG} (hg : s.goals = g :: rest) : iRun p cnd vars most fuel s = if fuel = 0 then ([], 2) else match iStep p cnd s g rest with
 | .stop e => ([], e)
 | .go s' => iRun p cnd vars most (fuel - 1) s'
 | .fail s' => match iBack p s'.chs.length s' with
  | none => ([], 0)
  | some s'' => iRun p cnd vars most (fuel - 1) s'' := by
 rw [iRun.eq_def, hg]
 simp only
 split <;> rfl
section
variable {st0 st : zy7} {S c m : Nat} {qt qc qn : AV} {p : List Cl} {q : List Tm} {idx : Bool} {fuel used mx : Int} {nd : List AV} {i : IS}
theorem SrA.acc {b : Nat} {l : List AV} (h : SrA st0 st S c m qt qc qn p q idx fuel used mx nd i) (hb : l ≠ [] → st b = none) : SrA (accS st0 b l) (accS st b l) S c m qt qc qn p q idx fuel used mx nd i := by
 cases l with
 | nil => exact h
 | cons x l =>
  have hn := hb (by simp)
  have hne : ∀ a ∈ srO S c m qt qc qn, accS st b (x :: l) a = st a := fun a ha => accS_ne (by rintro rfl; exact h.held a ha hn)
  have hne0 : ∀ a ∈ srO S c m qt qc qn, accS st0 b (x :: l) a = st0 a := fun a ha => accS_ne (by rintro rfl; exact h.held a ha hn)
  refine ⟨by rw [hne S (mem_srO.2 (.inl rfl))]; exact h.cell, h.sto.keepS (hne c (mem_srO.2 (.inr (.inl rfl)))) (hne m (mem_srO.2 (.inr (.inr (.inl rfl))))) (fun b hb => hne b (mem_srO.2 (.inr (.inr (.inr (.inl hb)))))),
   h.acC.keep fun b hb => hne b (mem_srO.2 (.inr (.inr (.inr (.inr (.inl hb)))))), h.acN.keep fun b hb => hne b (mem_srO.2 (.inr (.inr (.inr (.inr (.inr hb)))))), h.ndl, h.ndw, h.dis, fun a ha => by rw [hne0 a ha]; exact h.new a ha, fun a o ha => ?_⟩
  by_cases e : a = b
  · subst e
    rw [accS_cons (by simp), zy7.upd_same] at ha ⊢
    exact ha
  · rw [accS_ne e] at ha ⊢
    exact h.keep a o ha
theorem SrA.unacc {b : Nat} {l : List AV} {st2 : zy7} (h : SrA (accS st0 b l) st2 S c m qt qc qn p q idx fuel used mx nd i) (hb : l ≠ [] → st0 b = none) : ∃ s, st2 = accS s b l ∧ (l ≠ [] → s b = none) ∧ SrA st0 s S c m qt qc qn p q idx fuel used mx nd i := by
 cases l with
 | nil => exact ⟨st2, rfl, fun h => absurd rfl h, h⟩
 | cons x l =>
  have hn := hb (by simp)
  have h2 : st2 b = some (.cells ((x :: l).flatMap AV.cells)) := h.keep b _ (by rw [accS_cons (by simp), zy7.upd_same])
  have hbn : b ∉ srO S c m qt qc qn := fun hm => by
   have := h.new b hm
   rw [accS_cons (by simp), zy7.upd_same] at this
   cases this
  obtain ⟨s', hs'⟩ : ∃ s' : zy7, ∀ y, s' y = if y = b then none else st2 y := ⟨_, fun _ => rfl⟩
  have hne : ∀ a ∈ srO S c m qt qc qn, s' a = st2 a := fun a ha => by rw [hs', if_neg (by rintro rfl; exact hbn ha)]
  refine ⟨s', ?_, fun _ => by rw [hs', if_pos rfl], ?_⟩
  · funext y
    by_cases e : y = b
    · subst e; rw [accS_cons (by simp), zy7.upd_same, h2]
    · rw [accS_ne e, hs', if_neg e]
  · refine ⟨by rw [hne S (mem_srO.2 (.inl rfl))]; exact h.cell, h.sto.keepS (hne c (mem_srO.2 (.inr (.inl rfl)))) (hne m (mem_srO.2 (.inr (.inr (.inl rfl))))) (fun b hb => hne b (mem_srO.2 (.inr (.inr (.inr (.inl hb)))))),
     h.acC.keep fun b hb => hne b (mem_srO.2 (.inr (.inr (.inr (.inr (.inl hb)))))), h.acN.keep fun b hb => hne b (mem_srO.2 (.inr (.inr (.inr (.inr (.inr hb)))))), h.ndl, h.ndw, h.dis, fun a ha => ?_, fun a o ha => ?_⟩
    · have := h.new a ha
      rwa [accS_ne (by rintro rfl; exact hbn ha)] at this
    · have e : a ≠ b := by rintro rfl; rw [hn] at ha; cases ha
      rw [hs', if_neg e]
      exact h.keep a o (by rw [accS_ne e]; exact ha)
theorem ext_upd {st : zy7} {b : Nat} {o : AO} (h : st b = none) : ExtS st (st.upd b o) := fun x p hx => by
 rw [zy7.upd_ne _ _ (by rintro rfl; rw [h] at hx; cases hx)]; exact hx
theorem two_ext {S b : Nat} (hne : S ≠ b) (X Y : AO) : ∃ s0 : zy7, s0 S = some X ∧ s0 b = some Y ∧ ∀ st : zy7, st S = some X → st b = some Y → ExtS s0 st := by
 refine ⟨(one S X).upd b Y, by rw [zy7.upd_ne _ _ hne]; exact one_same, zy7.upd_same _ _ _, fun st h1 h2 x p hx => ?_⟩
 by_cases e : x = b
 · subst e; rw [zy7.upd_same] at hx; cases hx; exact h2
 · rw [zy7.upd_ne _ _ e] at hx; exact ext_one h1 x p hx
theorem SrA.box {b : Nat} {o : AO} (h : SrA st0 st S c m qt qc qn p q idx fuel used mx nd i) (hn : st b = none) : SrA (st0.upd b o) (st.upd b o) S c m qt qc qn p q idx fuel used mx nd i := by
 have hne : ∀ (s : zy7) a, a ∈ srO S c m qt qc qn → (s.upd b o) a = s a := fun s a ha => zy7.upd_ne _ _ (by rintro rfl; exact h.held a ha hn)
 refine ⟨by rw [hne _ S (mem_srO.2 (.inl rfl))]; exact h.cell, h.sto.keepS (hne _ c (mem_srO.2 (.inr (.inl rfl)))) (hne _ m (mem_srO.2 (.inr (.inr (.inl rfl))))) (fun b hb => hne _ b (mem_srO.2 (.inr (.inr (.inr (.inl hb)))))),
  h.acC.keep fun b hb => hne _ b (mem_srO.2 (.inr (.inr (.inr (.inr (.inl hb)))))), h.acN.keep fun b hb => hne _ b (mem_srO.2 (.inr (.inr (.inr (.inr (.inr hb)))))), h.ndl, h.ndw, h.dis, fun a ha => by rw [hne _ a ha]; exact h.new a ha, fun a o' ha => ?_⟩
 by_cases e : a = b
 · subst e
   rw [zy7.upd_same] at ha ⊢
   exact ha
 · rw [zy7.upd_ne _ _ e] at ha ⊢
   exact h.keep a o' ha
theorem SrA.unbox {b : Nat} {o : AO} (h : SrA (st0.upd b o) st S c m qt qc qn p q idx fuel used mx nd i) (hn : st0 b = none) : SrA st0 st S c m qt qc qn p q idx fuel used mx nd i := by
 refine ⟨h.cell, h.sto, h.acC, h.acN, h.ndl, h.ndw, h.dis, fun a ha => ?_, fun a o' ha => ?_⟩
 · have := h.new a ha
   by_cases e : a = b
   · subst e; exact hn
   · rwa [zy7.upd_ne _ _ e] at this
 · have e : a ≠ b := by rintro rfl; rw [hn] at ha; cases ha
   exact h.keep a o' (by rw [zy7.upd_ne _ _ e]; exact ha)
end
def StepI (st0 st' : zy7) (S c m : Nat) (p : List Cl) (q : List Tm) (idx : Bool) (fuel used : Int) (r : AV) : IO' → Prop
 | .go i' => r = .int .i64 (-1) ∧ ∃ qt qc qn mx nd, SrA st0 st' S c m qt qc qn p q idx fuel used mx nd i'
 | .fail i' => BackR st0 st' S c m p q idx fuel used r (iBack p i'.chs.length i')
 | .stop e => r = .int .i64 e ∧ ∃ qt qc qn mx nd i', SrA st0 st' S c m qt qc qn p q idx fuel used mx nd i'
def CndOk (p : List Cl) (idx : Bool) (cnd : Tm → List Nat → List Nat) : Prop :=
 (idx = false → cnd = fun _ l => l)
theorem isCut_T (yn : Int) (ys : ByteArray) (yts : List Tm) (st : zy7) : zq7 prog 72 [(Tm.mk 3 yn ys yts).av] st (fun r st' => r = .bool (cutT (.mk 3 yn ys yts)) ∧ st' = st) := by
 have h := c_isCut 3 yn ys yts st
 have e : (decide ((3 : Int) = 3) && decide ((yts.length : Int) = 0) && decide (ys = ⟨#[33]⟩)) = cutT (.mk 3 yn ys yts) := by
  rw [Bool.eq_iff_iff]
  simp [cutT, Tm.k, Tm.s, Tm.ts, and_comm]
  exact fun _ => ⟨fun h => decide_eq_true h, fun h => of_decide_eq_true h⟩
 rw [e] at h
 exact h
theorem isBuilt_T (yn : Int) (ys : ByteArray) (yts : List Tm) (st : zy7) : zq7 prog 70 [(Tm.mk 3 yn ys yts).av] st (fun r st' => r = .bool (isBuiltin ys (yts.length : Int)) ∧ st' = st) := by
 have h := c_isBuilt 3 yn ys yts st
 rw [show (decide ((3 : Int) = 3) && isBuiltin ys (yts.length : Int)) = isBuiltin ys (yts.length : Int) from rfl] at h
 exact h
abbrev tf_T5_101 := zi tI_3 (zi zI_3 (zi underlying3 (zi tI_4 (zi zI_4 (zi underlying4 (zi tI_28 (zi zI_28 (zi eI_28 (zi eB_28 (zi eZ_28 (zi underlying28 (zi tI_56 (zi zI_56 (zi fI_56_0 (zi fI_56_1 (zi fI_56_2 (zi fI_56_3 (zi bI_56 (zi tI_66 (zi zI_66 (zi eI_66 (zi eB_66 (zi eZ_66 (zi underlying66 (zi tI_107 (zi zI_107 (zi tI_123 (zi zI_123 (zi tI_125 (zi zI_125 (zi tI_126 (zi zI_126 (zi eI_126 (zi eB_126 (zi eZ_126 (zi underlying126 (zi tI_127 (zi zI_127 (zi eI_127 (zi eB_127 (zi eZ_127 (zi underlying127 (zi tI_129 (zi zI_129 (zi fI_129_0 (zi fI_129_1 (zi fI_129_2 (zi fI_129_3 (zi fI_129_4 (zi fI_129_5 (zi fI_129_6 (zi fI_129_7 (zi fI_129_8 (zi fI_129_9 (zi fI_129_10 (zi fI_129_11 (zi bI_129 (zi tI_146 (zi zI_146 (zi fI_146_0 (zi fI_146_1 (zi fI_146_2 (zi fI_146_3 (zi bI_146 (zi tI_150 (zi zI_150 (zi fI_150_0 (zi fI_150_1 (zi fI_150_2 (zi bI_150 (zi tI_153 (zi zI_153 (zi fI_153_0 (zi fI_153_1 bI_153))))))))))))))))))))))))))))))))))))))))))))))))))))))))))))))))))))))))))
set_option maxHeartbeats 2000000 in
theorem c_step {p : List Cl} (hp : ∀ c ∈ p, ClX c ∧ c.2.length ≤ 6) (hpl : p.length ≤ 20) {cnd : Tm → List Nat → List Nat} (hc : ∀ (ρ : Int → Int) (t : Tm) (l : List Nat), cnd (ren ρ t) l = cnd t l) (hd : ∀ t l, (∀ i ∈ cnd t l, i ∈ l) ∧ (cnd t l).length ≤ l.length) {idx : Bool} (hcnd : CndOk p idx cnd) (hidx : idx = false)
 {B M k : Nat} (hB : B + 26 ≤ 524288) (hM : M + 520 ≤ 16777216) (hk : k + 1 ≤ 524288) {st0 st : zy7} {S c m : Nat} {qt qc qn : AV} {q : List Tm} {fuel used : Int} {mx : Int} {nd : List AV} {s : RS} {i : IS} {g : IG} {rest : List IG}
 (h : SrA st0 st S c m qt qc qn p q idx fuel used mx nd i) (hR : RI p B M k s i) (hg : i.goals = g :: rest) (hu0 : 0 ≤ used) (hu : used ≤ 1000000) :
 zq7 prog 101 [.ptr S 0] st (fun r st' => if used = fuel then r = .int .i64 2 ∧ SrA st0 st' S c m qt qc qn p q idx fuel used mx nd i else StepI st0 st' S c m p q idx fuel (used + 1) r (iStep p cnd i g rest)) := by
 have hp1 := fun c h => (hp c h).1
 obtain ⟨hgd, ho, hcl, _⟩ := hR.r.facts
 obtain ⟨hgo, hg3, _⟩ := hR.r.goal hg
 have hct := hR.cut hg
 have hst := hR.step hp hpl hc hd hB hg
 have hchl := hR.chl
 have hnn := hR.n
 have hX := hR.x
 obtain ⟨rk, D, G⟩ := hgd.rs
 have hfo := fit_ok hgd ho hgo
 have hyk : (g.t.mapv (rs i.σ)).k = 3 := by rw [Tm.mapv_k _ (by omega)]; exact hg3
 have hres := c_resolve G (ho.imp fun t ht => ht.1.2.1) (ho.imp fun t ht => ht.1.small) c m qt g.t hgo.1.2.1 hgo.1.small
 generalize hT : iStep p cnd i g rest = T at *
 unfold iStep at hT
 obtain ⟨⟨gk, gn, gs', gts⟩, cut, up⟩ := g
 simp only at hgo hg3 hct hfo hyk hres hT
 generalize (Tm.mk gk gn gs' gts).mapv (rs i.σ) = y at *
 obtain ⟨yk, yn, ys, yts⟩ := y
 obtain rfl : yk = 3 := hyk
 simp only [Tm.s, Tm.ts] at hT
 have hcell := h.cell
 rw [hg, glAv_cons] at hcell
 simp only [srC] at hcell
 obtain ⟨t1, t2, t3, t4, t5⟩ := h.sto.shape
 obtain ⟨n1, n2, n3, n4, n5⟩ := h.acC.shape
 obtain ⟨m1, m2, m3, m4, m5⟩ := h.acN.shape
 obtain ⟨l1, l2, l3, l4, l5, l6⟩ := glAv_facts rest
 refine zq7.dropS ?_
 refine wF [1000000] 1 func101 ntmps101 rfl rfl ?_
 intro _
 simp -implicitDefEqProofs only [zy4, List.length_map, hcell, t1, t2, t4, t5, n1, n2, n4, n5, m1, m2, m4, m5, l1, l2, l4, l5, zy7.upd_same, evF, ↓evZ, implies_true, seval, tf_T5_101]
 refine wX [(0, 1), (1, 1), (2, 1), (3, 1), (4, 1), (5, 1), (6, 1), (7, 1), (8, 1)] [0, 1, 2, 3, 4, 5, 6, 7, 8] _ mixed rfl (ext_one hcell) ?_
 simp -implicitDefEqProofs only [zy4, List.length_map, hcell, t1, t2, t4, t5, n1, n2, n4, n5, m1, m2, m4, m5, l1, l2, l4, l5, zy7.upd_same, one_same, evF, ↓evZ, implies_true, seval, tf_T5_101]
 refine zq4 (fun h1 => ?_) (fun h1 => ?_)
 · have h1' : used = fuel := by simpa using h1
   simp -implicitDefEqProofs only [zy4, List.length_map, hcell, t1, t2, t4, t5, n1, n2, n4, n5, m1, m2, m4, m5, l1, l2, l4, l5, zy7.upd_same, one_same, evF, ↓evZ, implies_true, seval, tf_T5_101]
   exact ⟨st, Drops.refl _, by rw [if_pos h1']; exact h⟩
 have h1' : used ≠ fuel := by simpa using h1
 have hw := wrap64 (n := used + 1) (by omega) (by omega)
 simp -implicitDefEqProofs only [zy4, List.length_map, hcell, hw, t1, t2, t4, t5, n1, n2, n4, n5, m1, m2, m4, m5, l1, l2, l4, l5, zy7.upd_same, one_same, evF, ↓evZ, implies_true, seval, tf_T5_101]
 have h2 := h.put (gl := i.goals) (F := i.fresh) (fuel' := fuel) (used' := used + 1) (mx' := mx) rfl
 rw [hg, glAv_cons] at h2
 simp only [srC] at h2
 generalize zy7.upd st S _ = V at h2 ⊢
 have hcellV := h2.cell
 rw [glAv_cons] at hcellV
 simp only [srC] at hcellV
 have hSV := h2.sto
 have hr := fun (s2 : zy7) (hs2 : ExtS V s2) => hres s2 ⟨hs2 _ _ hSV.sub.cells, hs2 _ _ hSV.sub.map⟩
 unfold optR at hr
 by_cases hf : fitT (.mk 3 yn ys yts) = true
 case neg =>
  rw [if_neg (by unfold fitT at hf; simpa using hf)] at hr
  rw [if_pos (by simpa using hf)] at hT
  subst hT
  simp only [Tm.av_mk, Tm.zero, List.map_nil] at hr
  refine wX [(0, 1), (1, 1), (2, 1), (3, 1), (4, 1), (5, 1), (6, 1), (7, 1), (8, 1), (9, 1), (10, 1), (11, 1), (12, 0), (13, 0), (14, 1)] [0, 1, 2, 3, 4, 5, 6, 7, 8, 9, 10, 11, 14] V mixed rfl (ExtS.refl V) ?_
  simp -implicitDefEqProofs only [zy4, List.length_map, hcellV, t1, t2, t4, t5, n1, n2, n4, n5, m1, m2, m4, m5, l1, l2, l4, l5, zy7.upd_same, one_same, evF, ↓evZ, implies_true, seval, tf_T5_101]
  refine callFX_mk hr ?_
  simp -implicitDefEqProofs only [zy4, List.length_map, hcellV, t1, t2, t4, t5, n1, n2, n4, n5, m1, m2, m4, m5, l1, l2, l4, l5, zy7.upd_same, one_same, evF, ↓evZ, implies_true, seval, tf_T5_101]
  exact fun b hb => ⟨ext_upd hb, ext_upd hb, V, (Drops.refl _).upd hb, by rw [if_neg h1']; exact ⟨rfl, _, _, _, _, _, _, h2⟩⟩
 rw [if_pos (by unfold fitT at hf; simpa using hf)] at hr
 rw [if_neg (by rw [hf]; simp)] at hT
 have hyo := hfo hf
 simp only [Tm.av_mk] at hr
 have hunN : prog.underlying 127 = some (.slice 150) := by kernel_rfl
 refine wX [(0, 1), (1, 1), (2, 1), (3, 1), (4, 1), (5, 1), (6, 1), (7, 1), (8, 1), (9, 1), (10, 1), (11, 1), (12, 0), (13, 0), (14, 1)] [0, 1, 2, 3, 4, 5, 6, 7, 8, 9, 10, 11, 14] V mixed rfl (ExtS.refl V) ?_
 simp -implicitDefEqProofs only [zy4, List.length_map, hcellV, t1, t2, t4, t5, n1, n2, n4, n5, m1, m2, m4, m5, l1, l2, l4, l5, zy7.upd_same, one_same, evF, ↓evZ, implies_true, seval, tf_T5_101]
 refine callFX_mk hr ?_
 simp -implicitDefEqProofs only [zy4, List.length_map, hcellV, t1, t2, t4, t5, n1, n2, n4, n5, m1, m2, m4, m5, l1, l2, l4, l5, zy7.upd_same, one_same, evF, ↓evZ, implies_true, seval, tf_T5_101]
 intro b4 h4
 refine ⟨ext_upd h4, ext_upd h4, ?_⟩
 have h40 := h2.fresh0 h4
 have hSb4 : S ≠ b4 := by rintro rfl; rw [hcellV] at h4; cases h4
 have h3 := h2.box (o := .cells [AV.int IntKind.i64 3, AV.int IntKind.i64 yn, AV.str ys, AV.slice (List.map Tm.av yts)]) h4
 have hb40 : (st0.upd b4 (.cells [AV.int IntKind.i64 3, AV.int IntKind.i64 yn, AV.str ys, AV.slice (List.map Tm.av yts)])) b4 = some (.cells [AV.int IntKind.i64 3, AV.int IntKind.i64 yn, AV.str ys, AV.slice (List.map Tm.av yts)]) := zy7.upd_same _ _ _
 have hun := fun {st' qt qc qn q idx fuel used mx nd i} => SrA.unbox (st0 := st0) (st := st') (S := S) (c := c) (m := m) (qt := qt) (qc := qc) (qn := qn) (p := p) (q := q) (idx := idx) (fuel := fuel) (used := used) (mx := mx) (nd := nd) (i := i) (b := b4) (o := .cells [AV.int IntKind.i64 3, AV.int IntKind.i64 yn, AV.str ys, AV.slice (List.map Tm.av yts)]) (hn := h40)
 generalize V.upd b4 (.cells [AV.int IntKind.i64 3, AV.int IntKind.i64 yn, AV.str ys, AV.slice (List.map Tm.av yts)]) = W at h3 ⊢
 generalize st0.upd b4 (.cells [AV.int IntKind.i64 3, AV.int IntKind.i64 yn, AV.str ys, AV.slice (List.map Tm.av yts)]) = W0 at h3 hb40 hun
 clear hcellV hSV hr h2
 have hcellW := h3.cell
 rw [glAv_cons] at hcellW
 simp only [srC] at hcellW
 have hbW := h3.keep b4 _ hb40
 have hlN := h3.acN.len hunN
 rw [h3.ndl] at hlN
 simp only at hlN
 simp -implicitDefEqProofs only [zy4, List.length_map, hcellW, hbW, hlN, t1, t2, t4, t5, n1, n2, n4, n5, m1, m2, m4, m5, l1, l2, l4, l5, zy7.upd_same, one_same, evF, ↓evZ, implies_true, seval, tf_T5_101]
 obtain ⟨s0, z1, z2, z3⟩ := two_ext hSb4 _ _
 refine wX [(0, 1), (1, 1), (2, 1), (3, 1), (4, 1), (5, 1), (6, 1), (7, 1), (8, 1), (9, 1), (10, 1), (11, 1), (12, 0), (13, 1), (14, 1), (15, 2)] [0, 1, 2, 3, 4, 5, 6, 7, 8, 9, 10, 11, 13, 14] s0 mixed rfl (z3 _ hcellW hbW) ?_
 simp -implicitDefEqProofs only [zy4, List.length_map, z1, z2, hcellW, hbW, hlN, t1, t2, t4, t5, n1, n2, n4, n5, m1, m2, m4, m5, l1, l2, l4, l5, zy7.upd_same, one_same, evF, ↓evZ, implies_true, seval, tf_T5_101]
 refine AccW.append eI_127 eB_127 eZ_127 rfl (by decide) h3.acN rfl rfl (by rw [h3.ndl]; simp only; omega) (fun qn5 s5 hacc hf hn => ?_)
 have hbo : b4 ∉ srO S c m qt qc qn := fun hm => by have := h3.new b4 hm; rw [hb40] at this; cases this
 have hold : ∀ y o, W y = some o → y ∉ ownB qn → s5 y = some o := fun y o hy hq => by
  rw [hf y hq fun hq' => by
   rcases hn y hq' with h' | h'
   · exact hq h'
   · rw [hy] at h'; cases h']
  exact hy
 have hcell5 := hold S _ hcellW h3.parts.2.2.2.2.2.1
 have hb5 := hold b4 _ hbW fun hm => hbo (mem_srO.2 (.inr (.inr (.inr (.inr (.inr hm))))))
 obtain ⟨m1, m2, m3, m4, m5⟩ := hacc.shape
 simp -implicitDefEqProofs only [zy4, List.length_map, z1, z2, hcell5, hb5, t1, t2, t4, t5, n1, n2, n4, n5, m1, m2, m4, m5, l1, l2, l4, l5, zy7.upd_same, one_same, evF, ↓evZ, implies_true, seval, tf_T5_101]
 refine ⟨z3 _ hcell5 hb5, ?_⟩
 have h5 := h3.pushN (n' := i.nn + 1) hacc (by rw [List.length_append, h3.ndl]; rfl) (fun e he => by
  rcases List.mem_append.1 he with he | he
  · exact h3.ndw e he
  · simp only [List.mem_cons, List.not_mem_nil, or_false] at he; subst he; rfl) hf hn rfl
 rw [glAv_cons] at h5
 simp only [srC] at h5
 generalize zy7.upd s5 S _ = W5 at h5 ⊢
 clear hcell5 hb5 hold hf hn hcellW hbW
 have hcell6 := h5.cell
 rw [glAv_cons] at hcell6
 simp only [srC] at hcell6
 have hb6 := h5.keep b4 _ hb40
 have hcutE := isCut_T yn ys yts
 have hbltE := isBuilt_T yn ys yts
 simp only [Tm.av_mk] at hcutE hbltE
 simp -implicitDefEqProofs only [zy4, List.length_map, hcell6, hb6, t1, t2, t4, t5, n1, n2, n4, n5, m1, m2, m4, m5, l1, l2, l4, l5, zy7.upd_same, one_same, evF, ↓evZ, implies_true, seval, tf_T5_101]
 refine (hcutE _).to ?_
 simp -implicitDefEqProofs only [zy4, List.length_map, hcell6, hb6, t1, t2, t4, t5, n1, n2, n4, n5, m1, m2, m4, m5, l1, l2, l4, l5, zy7.upd_same, one_same, evF, ↓evZ, implies_true, seval, tf_T5_101]
 refine zq4 (fun hcu => ?_) (fun hcu => ?_)
 · simp only [hcu, if_true] at hT
   subst hT
   simp -implicitDefEqProofs only [zy4, List.length_map, hcell6, hb6, t1, t2, t4, t5, n1, n2, n4, n5, m1, m2, m4, m5, l1, l2, l4, l5, zy7.upd_same, one_same, evF, ↓evZ, implies_true, seval, tf_T5_101]
   have hsl := fun (φ : AF) (dd : Nat) (h : φ dd = .int .i64 (cut : Int)) => slice_accW eI_126 h5.acC h (by rw [List.length_map]; exact hct)
   have hQ := (h5.acC.take (k := cut) (by rw [List.length_map]; exact hct) (ic_widths _)).shape
   obtain ⟨c1, c2, c3, c4, c5⟩ := hQ
   obtain ⟨s1, y1, y2, y3⟩ := two_ext hSb4 _ _
   refine wX [(0, 1), (1, 1), (2, 1), (3, 1), (4, 1), (5, 1), (6, 1), (7, 1), (8, 1), (9, 1), (10, 1), (11, 1), (12, 2)] [0, 1, 2, 3, 4, 5, 6, 7, 8, 9, 10, 11] s1 mixed rfl (y3 _ hcell6 hb6) ?_
   simp -implicitDefEqProofs only [zy4, List.length_map, y1, y2, hcell6, hb6, hsl, c1, c2, c4, c5, t1, t2, t4, t5, n1, n2, n4, n5, m1, m2, m4, m5, l1, l2, l4, l5, zy7.upd_same, one_same, evF, ↓evZ, implies_true, seval, tf_T5_101]
   refine ⟨_, Drops.refl _, ?_⟩
   rw [if_neg h1']
   have h6 := h5.cutC (k := cut) (gl := rest) hct rfl
   exact ⟨rfl, _, _, _, _, _, hun h6⟩
 simp only [hcu, Bool.false_eq_true, if_false] at hT
 simp -implicitDefEqProofs only [zy4, List.length_map, hcell6, hb6, t1, t2, t4, t5, n1, n2, n4, n5, m1, m2, m4, m5, l1, l2, l4, l5, zy7.upd_same, one_same, evF, ↓evZ, implies_true, seval, tf_T5_101]
 refine (hbltE _).to ?_
 simp -implicitDefEqProofs only [zy4, List.length_map, hcell6, hb6, t1, t2, t4, t5, n1, n2, n4, n5, m1, m2, m4, m5, l1, l2, l4, l5, zy7.upd_same, one_same, evF, ↓evZ, implies_true, seval, tf_T5_101]
 refine zq4 (fun hbl => ?_) (fun hbl => ?_)
 · simp only [hbl, if_true] at hT
   have hks : ∀ x ∈ yts, OkX i.fresh x := okX_kids _ (.mk 3 yn ys yts) (show (3 : Int) ≠ 1 by decide) hyo
   have hcall := c_callG hgd ho yn ys yts hbl hks c m qt i.tr W5 h5.sto (by have := hX.trl; have := hX.phi; omega)
   simp only [Tm.av_mk] at hcall
   replace hT : (if (solveG i.σ ys yts).1 = 0 then IO'.go { goals := rest, σ := (solveG i.σ ys yts).2.1, tr := i.tr ++ (solveG i.σ ys yts).2.2, chs := i.chs, fresh := i.fresh, nn := i.nn + 1 } else if (solveG i.σ ys yts).1 = 1 then IO'.fail { goals := i.goals, σ := (solveG i.σ ys yts).2.1, tr := i.tr ++ (solveG i.σ ys yts).2.2, chs := i.chs, fresh := i.fresh, nn := i.nn + 1 } else IO'.stop (endC (solveG i.σ ys yts).1)) = T := hT
   generalize hsol : solveG i.σ ys yts = Z at hcall hT
   obtain ⟨code, σ', add⟩ := Z
   simp only at hT
   obtain ⟨s1, y1, y2, y3⟩ := two_ext hSb4 _ _
   refine wX [(0, 1), (1, 1), (2, 1), (3, 1), (4, 1), (5, 0), (6, 1)] [0, 1, 2, 3, 4, 6] s1 mixed rfl (y3 _ hcell6 hb6) ?_
   simp -implicitDefEqProofs only [zy4, List.length_map, y1, y2, hcell6, hb6, t1, t2, t4, t5, n1, n2, n4, n5, m1, m2, m4, m5, l1, l2, l4, l5, zy7.upd_same, one_same, evF, ↓evZ, implies_true, seval, tf_T5_101]
   refine hcall.mono ?_
   rintro _ s6 ⟨rfl, hP⟩
   obtain ⟨qt6, h6⟩ := h5.post hP
   have hcell7 := h6.cell
   rw [glAv_cons] at hcell7
   simp only [srC] at hcell7
   have hb7 := h6.keep b4 _ hb40
   obtain ⟨t1, t2, t3, t4, t5⟩ := h6.sto.shape
   simp -implicitDefEqProofs only [zy4, List.length_map, hcell7, hb7, t1, t2, t4, t5, n1, n2, n4, n5, m1, m2, m4, m5, l1, l2, l4, l5, zy7.upd_same, one_same, evF, ↓evZ, implies_true, seval, tf_T5_101]
   refine ⟨y3 _ hcell7 hb7, ?_⟩
   refine zq4 (fun hc0 => ?_) (fun hc0 => ?_)
   · have hc0' : code = 0 := by simpa using hc0
     rw [if_pos hc0'] at hT
     subst hT
     simp -implicitDefEqProofs only [zy4, List.length_map, hcell7, hb7, t1, t2, t4, t5, n1, n2, n4, n5, m1, m2, m4, m5, l1, l2, l4, l5, zy7.upd_same, one_same, evF, ↓evZ, implies_true, seval, tf_T5_101]
     refine ⟨_, Drops.refl _, ?_⟩
     rw [if_neg h1']
     exact ⟨rfl, _, _, _, _, _, hun (h6.put (gl := rest) (F := i.fresh) (fuel' := fuel) (used' := used + 1) (mx' := mx) rfl)⟩
   have hc0' : code ≠ 0 := by simpa using hc0
   rw [if_neg hc0'] at hT
   simp -implicitDefEqProofs only [zy4, List.length_map, hcell7, hb7, t1, t2, t4, t5, n1, n2, n4, n5, m1, m2, m4, m5, l1, l2, l4, l5, zy7.upd_same, one_same, evF, ↓evZ, implies_true, seval, tf_T5_101]
   refine zq4 (fun hc1 => ?_) (fun hc1 => ?_)
   · have hc1' : code = 1 := by simpa using hc1
     rw [if_pos hc1'] at hT
     subst hT
     simp only at hst
     rw [← hg] at h6
     have hbk := c_back hp (M := M + 520) (by omega) _ _ _ _ _ _ ({ goals := i.goals, σ := σ', tr := i.tr ++ add, chs := i.chs, fresh := i.fresh, nn := i.nn + 1 } : IS) s.chs (T := iBack p (({ goals := i.goals, σ := σ', tr := i.tr ++ add, chs := i.chs, fresh := i.fresh, nn := i.nn + 1 } : IS)).chs.length ({ goals := i.goals, σ := σ', tr := i.tr ++ add, chs := i.chs, fresh := i.fresh, nn := i.nn + 1 } : IS)) ⟨h6, hst.1, hst.2.1, rfl, ⟨by rw [hst.1.len]; have := hR.a.a.chl; omega, Nat.le_trans hst.2.2.1 (by omega)⟩⟩
     simp -implicitDefEqProofs only [zy4, List.length_map, hcell7, hb7, t1, t2, t4, t5, n1, n2, n4, n5, m1, m2, m4, m5, l1, l2, l4, l5, zy7.upd_same, one_same, evF, ↓evZ, implies_true, seval, tf_T5_101]
     refine hbk.mono ?_
     rintro r s7 hr
     simp -implicitDefEqProofs only [zy4, List.length_map, hcell7, hb7, t1, t2, t4, t5, n1, n2, n4, n5, m1, m2, m4, m5, l1, l2, l4, l5, zy7.upd_same, one_same, evF, ↓evZ, implies_true, seval, tf_T5_101]
     refine ⟨s7, Drops.refl _, ?_⟩
     rw [if_neg h1']
     simp only [StepI]
     cases hB2 : iBack p (({ goals := i.goals, σ := σ', tr := i.tr ++ add, chs := i.chs, fresh := i.fresh, nn := i.nn + 1 } : IS)).chs.length ({ goals := i.goals, σ := σ', tr := i.tr ++ add, chs := i.chs, fresh := i.fresh, nn := i.nn + 1 } : IS) with
     | none =>
      rw [hB2] at hr
      obtain ⟨e1, qt7, qc7, qn7, mx7, nd7, i7, h7⟩ := hr
      exact ⟨e1, _, _, _, _, _, _, hun h7⟩
     | some i7 =>
      rw [hB2] at hr
      obtain ⟨e1, qt7, qc7, qn7, mx7, nd7, h7⟩ := hr
      exact ⟨e1, _, _, _, _, _, hun h7⟩
   have hc1' : code ≠ 1 := by simpa using hc1
   rw [if_neg hc1'] at hT
   subst hT
   simp -implicitDefEqProofs only [zy4, List.length_map, hcell7, hb7, t1, t2, t4, t5, n1, n2, n4, n5, m1, m2, m4, m5, l1, l2, l4, l5, zy7.upd_same, one_same, evF, ↓evZ, implies_true, seval, tf_T5_101]
   refine (c_endOf code _).to ?_
   simp -implicitDefEqProofs only [zy4, List.length_map, hcell7, hb7, t1, t2, t4, t5, n1, n2, n4, n5, m1, m2, m4, m5, l1, l2, l4, l5, zy7.upd_same, one_same, evF, ↓evZ, implies_true, seval, tf_T5_101]
   refine ⟨_, Drops.refl _, ?_⟩
   rw [if_neg h1']
   exact ⟨rfl, _, _, _, _, _, _, hun h6⟩
 simp only [hbl, Bool.false_eq_true, if_false] at hT
 have hpr := c_pred 3 yn ys yts
 have hcf := c_clausesFor p (.mk 3 yn ys yts) (by omega)
 simp only [Tm.av_mk, Tm.s, Tm.ts] at hpr hcf
 obtain ⟨s1, y1, y2, y3⟩ := two_ext hSb4 _ _
 simp -implicitDefEqProofs only [zy4, List.length_map, hcell6, hb6, t1, t2, t4, t5, n1, n2, n4, n5, m1, m2, m4, m5, l1, l2, l4, l5, zy7.upd_same, one_same, evF, ↓evZ, implies_true, seval, tf_T5_101]
 refine wX [(0, 1), (1, 1), (2, 1), (3, 1), (4, 1), (5, 0), (6, 0), (7, 1)] [0, 1, 2, 3, 4, 7] s1 mixed rfl (y3 _ hcell6 hb6) ?_
 simp -implicitDefEqProofs only [zy4, List.length_map, y1, y2, hcell6, hb6, t1, t2, t4, t5, n1, n2, n4, n5, m1, m2, m4, m5, l1, l2, l4, l5, zy7.upd_same, one_same, evF, ↓evZ, implies_true, seval, tf_T5_101]
 refine (hpr _).to ?_
 simp -implicitDefEqProofs only [zy4, List.length_map, y1, y2, hcell6, hb6, t1, t2, t4, t5, n1, n2, n4, n5, m1, m2, m4, m5, l1, l2, l4, l5, zy7.upd_same, one_same, evF, ↓evZ, implies_true, seval, tf_T5_101]
 refine ⟨y3 _ hcell6 hb6, ?_⟩
 refine (hcf _).to ?_
 simp -implicitDefEqProofs only [zy4, List.length_map, y1, y2, hcell6, hb6, t1, t2, t4, t5, n1, n2, n4, n5, m1, m2, m4, m5, l1, l2, l4, l5, zy7.upd_same, one_same, evF, ↓evZ, implies_true, seval, tf_T5_101]
 refine ⟨y3 _ hcell6 hb6, ?_⟩
 refine zq4 (fun hl0 => ?_) (fun hl0 => ?_)
 · have hl0' : forL p (.mk 3 yn ys yts) = [] := by simpa using hl0
   rw [if_pos hl0'] at hT
   subst hT
   simp -implicitDefEqProofs only [zy4, List.length_map, y1, y2, hcell6, hb6, t1, t2, t4, t5, n1, n2, n4, n5, m1, m2, m4, m5, l1, l2, l4, l5, zy7.upd_same, one_same, evF, ↓evZ, implies_true, seval, tf_T5_101]
   refine ⟨_, Drops.refl _, ?_⟩
   rw [if_neg h1']
   exact ⟨rfl, _, _, _, _, _, _, hun h5⟩
 have hl0' : forL p (.mk 3 yn ys yts) ≠ [] := by simpa using hl0
 rw [if_neg hl0'] at hT
 subst hidx
 obtain rfl := hcnd rfl
 have hfl := forL_len p (.mk 3 yn ys yts)
 have h5' := h5
 rw [← hg] at h5'
 have htry := c_try hp (M := M + 520) (by omega) h5' (.mk 3 yn ys yts) i.nn rest (forL p (.mk 3 yn ys yts)) hgd ho hyo (forL_lt _ _) (by omega) (by simp only; omega) (hX.up (Nat.le_add_right M 520)).node (by have := hX.phi; simp only; omega) (by simp only; omega) (by simp only; omega)
 simp only [Tm.av_mk] at htry
 simp -implicitDefEqProofs only [zy4, List.length_map, y1, y2, hcell6, hb6, t1, t2, t4, t5, n1, n2, n4, n5, m1, m2, m4, m5, l1, l2, l4, l5, zy7.upd_same, one_same, evF, ↓evZ, implies_true, seval, tf_T5_101]
 refine wX [(0, 1), (1, 1), (2, 1), (3, 1), (4, 1), (5, 1), (6, 1), (7, 1), (8, 2)] [0, 1, 2, 3, 4, 5, 6, 7] s1 mixed rfl (y3 _ hcell6 hb6) ?_
 simp -implicitDefEqProofs only [zy4, List.length_map, y1, y2, hcell6, hb6, t1, t2, t4, t5, n1, n2, n4, n5, m1, m2, m4, m5, l1, l2, l4, l5, zy7.upd_same, one_same, evF, ↓evZ, implies_true, seval, tf_T5_101]
 refine htry.mono ?_
 rintro _ s6 ⟨rfl, qt6, qc6, mx6, nd6, h6⟩
 simp -implicitDefEqProofs only [zy4, List.length_map, y1, y2, hcell6, hb6, t1, t2, t4, t5, n1, n2, n4, n5, m1, m2, m4, m5, l1, l2, l4, l5, zy7.upd_same, one_same, evF, ↓evZ, implies_true, seval, tf_T5_101]
 refine zq4 (fun ht0 => ?_) (fun ht0 => ?_)
 · simp only [ht0, if_true] at hT
   subst hT
   simp -implicitDefEqProofs only [zy4, List.length_map, y1, y2, hcell6, hb6, t1, t2, t4, t5, n1, n2, n4, n5, m1, m2, m4, m5, l1, l2, l4, l5, zy7.upd_same, one_same, evF, ↓evZ, implies_true, seval, tf_T5_101]
   refine ⟨_, Drops.refl _, ?_⟩
   rw [if_neg h1']
   exact ⟨rfl, _, _, _, _, _, hun h6⟩
 simp only [ht0, Bool.false_eq_true, if_false] at hT
 subst hT
 simp only at hst
 have hbk := c_back hp (M := M + 520) (by omega) _ _ _ _ _ _ (iTry p (.mk 3 yn ys yts) i.nn rest (forL p (.mk 3 yn ys yts)) { i with nn := i.nn + 1 }).2 s.chs (T := iBack p ((iTry p (.mk 3 yn ys yts) i.nn rest (forL p (.mk 3 yn ys yts)) { i with nn := i.nn + 1 }).2).chs.length (iTry p (.mk 3 yn ys yts) i.nn rest (forL p (.mk 3 yn ys yts)) { i with nn := i.nn + 1 }).2) ⟨h6, hst.1, hst.2.1, rfl, ⟨by rw [hst.1.len]; have := hR.a.a.chl; omega, Nat.le_trans hst.2.2.1 (by omega)⟩⟩
 simp -implicitDefEqProofs only [zy4, List.length_map, y1, y2, hcell6, hb6, t1, t2, t4, t5, n1, n2, n4, n5, m1, m2, m4, m5, l1, l2, l4, l5, zy7.upd_same, one_same, evF, ↓evZ, implies_true, seval, tf_T5_101]
 refine hbk.mono ?_
 rintro r s7 hr
 simp -implicitDefEqProofs only [zy4, List.length_map, y1, y2, hcell6, hb6, t1, t2, t4, t5, n1, n2, n4, n5, m1, m2, m4, m5, l1, l2, l4, l5, zy7.upd_same, one_same, evF, ↓evZ, implies_true, seval, tf_T5_101]
 refine ⟨s7, Drops.refl _, ?_⟩
 rw [if_neg h1']
 simp only [StepI]
 cases hB2 : iBack p ((iTry p (.mk 3 yn ys yts) i.nn rest (forL p (.mk 3 yn ys yts)) { i with nn := i.nn + 1 }).2).chs.length (iTry p (.mk 3 yn ys yts) i.nn rest (forL p (.mk 3 yn ys yts)) { i with nn := i.nn + 1 }).2 with
 | none =>
  rw [hB2] at hr
  obtain ⟨e1, qt7, qc7, qn7, mx7, nd7, i7, h7⟩ := hr
  exact ⟨e1, _, _, _, _, _, _, hun h7⟩
 | some i7 =>
  rw [hB2] at hr
  obtain ⟨e1, qt7, qc7, qn7, mx7, nd7, h7⟩ := hr
  exact ⟨e1, _, _, _, _, _, hun h7⟩


abbrev tf_L3_145 := zi tI_3 (zi zI_3 (zi underlying3 (zi tI_56 (zi zI_56 (zi fI_56_0 (zi fI_56_1 (zi fI_56_2 (zi fI_56_3 (zi bI_56 (zi tI_66 (zi zI_66 (zi eI_66 (zi eB_66 (zi eZ_66 underlying66))))))))))))))
theorem c_renumbered_1 (vars : List Int) (n : Int) (st : zy7) : zq7 prog 145 [.int .i64 n, .pptr (.slice (vars.map iv))] st (fun r st' => r = (vr (idxI n vars 0)).av ∧ st' = st) := by
 refine zq7.done ?_
 refine wF [1000000] 2 func145 ntmps145 rfl rfl ?_
 intro _
 simp -implicitDefEqProofs only [zy4, Tm.av_agg, Tm.av_width, Tm.av_store, Tm.av_junk, Tm.av_cells, Nat.le_refl, take_all (Tm.av_cells _), agg_cells (Tm.av_agg _), evF, ↓evZ, implies_true, seval, tf_L3_145]
 intro b hb
 refine (c_IndexInt vars n _).to ?_
 simp -implicitDefEqProofs only [zy4, Tm.av_agg, Tm.av_width, Tm.av_store, Tm.av_junk, Tm.av_cells, Nat.le_refl, take_all (Tm.av_cells _), agg_cells (Tm.av_agg _), evF, ↓evZ, implies_true, seval, tf_L3_145]
 refine (c_variable _ _).to ?_
 simp -implicitDefEqProofs only [zy4, Tm.av_agg, Tm.av_width, Tm.av_store, Tm.av_junk, Tm.av_cells, Nat.le_refl, take_all (Tm.av_cells _), agg_cells (Tm.av_agg _), evF, ↓evZ, implies_true, seval, tf_L3_145]
 exact ⟨Tm.soft _, (Drops.refl _).upd hb⟩
abbrev tf_L3_121 := zi tI_3 (zi zI_3 (zi underlying3 (zi tI_29 (zi zI_29 (zi eI_29 (zi eB_29 (zi eZ_29 (zi underlying29 (zi tI_56 (zi zI_56 (zi fI_56_0 (zi fI_56_1 (zi fI_56_2 (zi fI_56_3 (zi bI_56 (zi tI_66 (zi zI_66 (zi eI_66 (zi eB_66 (zi eZ_66 (zi underlying66 (zi tI_145 (zi zI_145 (zi fI_145_0 (zi fI_145_1 (zi fI_145_2 (zi fI_145_3 bI_145)))))))))))))))))))))))))))
theorem c_renumbered (l : List Tm) (hln : l.length ≤ 1048576) (hsz : sumL Tm.nodes l ≤ 1099511627776) (hsm : ∀ t ∈ l, t.small = true) (st : zy7) : zq7 prog 121 [.slice (l.map Tm.av)] st (fun r st' => r = .slice ((renumL l).map Tm.av) ∧ st' = st) := by
 refine zq7.done ?_
 refine wF [1000000] 1 func121 ntmps121 rfl rfl ?_
 simp only [fitsL, AV.fits, and_true, List.length_map]
 intro ⟨hl, _⟩
 simp -implicitDefEqProofs only [List.length_map, evF, ↓evZ, implies_true, seval, tf_L3_121]
 refine (c_varsOf l _ hsz).to ?_
 simp -implicitDefEqProofs only [List.length_map, evF, ↓evZ, implies_true, seval, tf_L3_121]
 generalize hv : tmsVars l [] = vars
 have hR : renumL l = l.map fun t => t.mapv fun v => vr (idxI v vars 0) := by rw [← hv]; rfl
 rw [hR]
 refine zq6 (σ := Unit) [1000000] [2, 3, 9, 10] (l) 4 4 (fun i _ => (((l).take i).map (fun t => t.mapv fun v => vr (idxI v vars 0))).map Tm.av) (fun _ _ => True) (fun i _ => [(11, .int .i64 i)]) (fun _ _ => st) (fun i _ _ e he => by simp only [List.mem_map] at he; obtain ⟨t, _, rfl⟩ := he; exact ⟨Tm.av_junk t, Tm.av_width t⟩) (by decide +kernel) ⟨(), 0, trivial, fun h => absurd rfl h, zx7.mk (by simp -implicitDefEqProofs only [accV_nil, accS_nil, List.take_zero, List.map_nil, List.length_map, List.length_map, evF, ↓evZ, implies_true, seval, tf_L3_121])⟩ (fun i x s b hx hlt hlt' hdr hinv hb => ?_) (fun s b hge hinv => ?_)
 case refine_1 =>
  have hw := wrap64 (n := (i : Int) + 1) (by omega) (by omega)
  have hlen' : ((((l).take i).map (fun t => t.mapv fun v => vr (idxI v vars 0))).map Tm.av).length = i := by simp only [List.length_map, List.length_take]; omega
  have htk : ((((l).take i).map (fun t => t.mapv fun v => vr (idxI v vars 0))).map Tm.av) ++ [Tm.av ((fun t => t.mapv fun v => vr (idxI v vars 0)) x)] = (((l).take (i + 1)).map (fun t => t.mapv fun v => vr (idxI v vars 0))).map Tm.av := by rw [List.take_add_one, hx]; simp
  have hat := ev_at (av := Tm.av) eI_29 hx (Tm.av_width x)
  simp -implicitDefEqProofs only [hlt', List.length_map, hat, evF, ↓evZ, implies_true, seval, tf_L3_121]
  refine (c_mapVars (fun v => vr (idxI v vars 0)) _ [.pptr (.slice (vars.map iv))] rfl x _ (hsm x (List.mem_of_getElem? hx)) (fun n _ s => c_renumbered_1 vars n s)).to ?_
  simp -implicitDefEqProofs only [List.length_map, hat, evF, ↓evZ, implies_true, seval, tf_L3_121]
  refine acc_append eI_29 eB_29 eZ_29 rfl rfl (by intro e he; simp only [List.mem_cons, List.not_mem_nil, or_false] at he; subst he; exact ⟨Tm.av_width _, Tm.av_store _⟩) (by intro e he; simp only [List.mem_map] at he; obtain ⟨t, _, rfl⟩ := he; exact Tm.av_width t) hb (by simp only [hlen', List.length_cons, List.length_nil]; omega) (by simp only [hlen', List.length_cons, List.length_nil]; omega) (fun b' hb' => ?_)
  rw [htk] at hb' ⊢
  simp -implicitDefEqProofs only [List.length_map, hat, evF, ↓evZ, implies_true, seval, tf_L3_121]
  exact ⟨(), b', hb', zx7.mk (by simp -implicitDefEqProofs only [hw, List.length_map, hat, evF, ↓evZ, implies_true, seval, tf_L3_121])⟩
 simp -implicitDefEqProofs only [hge, fin_agg, fin_tup, fin_int, fin_bool, fin_str, fin_slice, fin_fslice, fin_pptr, fin_ptr, fin_func, fin_map, fin_undef, fin_accV, tm_fin, List.take_length, List.length_map, evF, ↓evZ, implies_true, seval, tf_L3_121]
 exact ⟨rfl, Drops.refl _⟩
def valR : Option (List Tm) → AV
 | none => .tup [.slice [], .bool false]
 | some l => .tup [.slice (l.map Tm.av), .bool true]
theorem okX_sum : ∀ {l : List Tm}, (∀ t ∈ l, t.nodes ≤ 120) → sumL Tm.nodes l ≤ 120 * l.length
 | [], _ => by simp [sumL]
 | t :: l, h => by
  have h1 := h t (by simp)
  have h2 := okX_sum (l := l) fun x hx => h x (by simp [hx])
  simp only [sumL, List.length_cons]; omega
abbrev tf_T6_102 := zi tI_3 (zi zI_3 (zi underlying3 (zi tI_4 (zi zI_4 (zi underlying4 (zi tI_29 (zi zI_29 (zi eI_29 (zi eB_29 (zi eZ_29 (zi underlying29 (zi tI_56 (zi zI_56 (zi fI_56_0 (zi fI_56_1 (zi fI_56_2 (zi fI_56_3 (zi bI_56 (zi tI_66 (zi zI_66 (zi eI_66 (zi eB_66 (zi eZ_66 (zi underlying66 (zi tI_123 zI_123)))))))))))))))))))))))))
theorem c_values {N : Nat} {σ : Sub} (hg : IsGood σ) (ho : AllS (OkX N) σ) (vars : List Int) (hv : ∀ v ∈ vars, 0 ≤ v ∧ v < (N : Int)) (hl : vars.length ≤ 1000) (c m : Nat) (q : AV) (st : zy7) (hS : SubAt st c m q σ) :
 zq7 prog 102 [.ptr c 0, .slice (vars.map iv)] st (fun r st' => r = valR (ansR σ vars) ∧ st' = st) := by
 obtain ⟨rk, B, G⟩ := hg.rs
 have hres := fun (t : Tm) (ht : OkX N t) st hS => c_resolve G (ho.imp fun t ht => ht.1.2.1) (ho.imp fun t ht => ht.1.small) c m q t ht.1.2.1 ht.1.small st hS
 refine zq7.done ?_
 refine wF [1000000] 2 func102 ntmps102 rfl rfl ?_
 intro _
 simp -implicitDefEqProofs only [List.length_map, evF, ↓evZ, implies_true, seval, tf_T6_102]
 refine zq6 (σ := Unit) [1000000] [0, 11, 12] vars 4 6 (fun i _ => ((vars.take i).map (rs σ)).map Tm.av) (fun i _ => ((vars.take i).map (rs σ)).all fitT = true) (fun i _ => [(4, .fslice []), (5, .bool false), (13, .int .i64 i)]) (fun _ _ => st) (fun i _ _ e he => by simp only [List.mem_map] at he; obtain ⟨t, _, rfl⟩ := he; exact ⟨Tm.av_junk _, Tm.av_width _⟩) (by decide +kernel) ⟨(), 0, rfl, fun h => absurd rfl h, zx7.mk (by simp -implicitDefEqProofs only [accV_nil, accS_nil, List.take_zero, List.map_nil, List.length_map, evF, ↓evZ, implies_true, seval, tf_T6_102])⟩ (fun i x s b hx hlt hlt' hdr hinv hb => ?_) (fun s b hge hinv => ?_)
 · have hw := wrap64 (n := (i : Int) + 1) (by omega) (by omega)
   have hxm := List.mem_of_getElem? hx
   obtain ⟨hx0, hx1⟩ := hv x hxm
   have hvr : OkX N (vr x) := ⟨okV_vr hx0 hx1, by rw [vr, Tm.nodes_mk]; simp [sumL]⟩
   have hat : aIndexAddr prog 66 (.slice (vars.map iv)) (.int .i64 (i : Int)) = some (.pptr (.int .i64 x)) := ev_at (av := iv) eI_66 hx rfl
   have hlen' : (((vars.take i).map (rs σ)).map Tm.av).length = i := by simp only [List.length_map, List.length_take]; omega
   have hall : ((vars.take (i + 1)).map (rs σ)).all fitT = fitT (rs σ x) := by
    rw [List.take_add_one, hx]
    simp only [Option.toList_some, List.map_append, List.map_cons, List.map_nil, List.all_append, hinv, List.all_cons, List.all_nil, Bool.and_true, Bool.true_and]
   have hr := hres (vr x) hvr _ (hS.acc hb)
   rw [mapv_vr] at hr
   unfold optR at hr
   simp -implicitDefEqProofs only [hlt', zy4, List.length_map, hat, Tm.av_agg, Tm.av_width, Tm.av_store, Tm.av_junk, Tm.av_cells, Nat.le_refl, take_all (Tm.av_cells _), agg_cells (Tm.av_agg _), hw, evF, ↓evZ, implies_true, seval, tf_T6_102]
   refine (c_variable x _).to ?_
   simp -implicitDefEqProofs only [zy4, List.length_map, hat, Tm.av_agg, Tm.av_width, Tm.av_store, Tm.av_junk, Tm.av_cells, Nat.le_refl, take_all (Tm.av_cells _), agg_cells (Tm.av_agg _), hw, evF, ↓evZ, implies_true, seval, tf_T6_102]
   by_cases hf : fitT (rs σ x) = true
   · rw [if_pos (by unfold fitT at hf; simpa using hf)] at hr
     refine hr.to ?_
     simp -implicitDefEqProofs only [zy4, List.length_map, hat, Tm.av_agg, Tm.av_width, Tm.av_store, Tm.av_junk, Tm.av_cells, Nat.le_refl, take_all (Tm.av_cells _), agg_cells (Tm.av_agg _), hw, evF, ↓evZ, implies_true, seval, tf_T6_102]
     refine acc_append eI_29 eB_29 eZ_29 rfl rfl (by intro e he; simp only [List.mem_cons, List.not_mem_nil, or_false] at he; subst he; exact ⟨Tm.av_width _, Tm.av_store _⟩) (tm_widths _) hb (by simp only [hlen', List.length_cons, List.length_nil]; omega) (by simp only [hlen', List.length_cons, List.length_nil]; omega) (fun b' hb' => ?_)
     rw [show (((vars.take i).map (rs σ)).map Tm.av) ++ [(rs σ x).av] = ((vars.take (i + 1)).map (rs σ)).map Tm.av by rw [List.take_add_one, hx]; simp] at hb' ⊢
     simp -implicitDefEqProofs only [zy4, List.length_map, hat, Tm.av_agg, Tm.av_width, Tm.av_store, Tm.av_junk, Tm.av_cells, Nat.le_refl, take_all (Tm.av_cells _), agg_cells (Tm.av_agg _), hw, evF, ↓evZ, implies_true, seval, tf_T6_102]
     exact ⟨(), b', by rw [hall]; exact hf, hb', zx7.mk (by simp -implicitDefEqProofs only [hw, zy4, List.length_map, hat, Tm.av_agg, Tm.av_width, Tm.av_store, Tm.av_junk, Tm.av_cells, Nat.le_refl, take_all (Tm.av_cells _), agg_cells (Tm.av_agg _), hw, evF, ↓evZ, implies_true, seval, tf_T6_102])⟩
   · rw [if_neg (by unfold fitT at hf; simpa using hf)] at hr
     refine hr.to ?_
     simp -implicitDefEqProofs only [zy4, List.length_map, hat, Tm.av_agg, Tm.av_width, Tm.av_store, Tm.av_junk, Tm.av_cells, Nat.le_refl, take_all (Tm.av_cells _), agg_cells (Tm.av_agg _), hw, evF, ↓evZ, implies_true, seval, tf_T6_102]
     have hans : ansR σ vars = none := by
      unfold ansR
      rw [if_neg]
      rintro ⟨h1, _⟩
      exact hf (List.all_eq_true.1 h1 _ (List.mem_map.2 ⟨x, hxm, rfl⟩))
     rw [hans]
     exact ⟨rfl, Drops.accS (Drops.refl _) hb⟩
 · rw [List.take_length] at hinv
   have hok : ∀ t ∈ vars.map (rs σ), OkX N t := fun t ht => by
    obtain ⟨v, hvm, rfl⟩ := List.mem_map.1 ht
    have hf := List.all_eq_true.1 hinv _ ht
    unfold fitT at hf
    simp only [Bool.and_eq_true, decide_eq_true_eq] at hf
    exact ⟨G.okV ho.okV v (hv v hvm).1 (hv v hvm).2, hf.2⟩
   have hsz : sumL Tm.nodes (vars.map (rs σ)) ≤ 1099511627776 := by
    have := okX_sum (l := vars.map (rs σ)) fun t ht => (hok t ht).2
    rw [List.length_map] at this
    omega
   simp -implicitDefEqProofs only [hge, fin_agg, fin_tup, fin_int, fin_bool, fin_str, fin_slice, fin_fslice, fin_pptr, fin_ptr, fin_func, fin_map, fin_undef, fin_accV, tm_fin, List.take_length, List.length_map, evF, ↓evZ, implies_true, seval, tf_T6_102]
   refine (c_varsOf (vars.map (rs σ)) _ hsz).to ?_
   simp -implicitDefEqProofs only [List.length_map, List.length_map, evF, ↓evZ, implies_true, seval, tf_T6_102]
   refine zq4 (fun h => ?_) (fun h => ?_)
   · simp -implicitDefEqProofs only [List.length_map, evF, ↓evZ, implies_true, seval, tf_T6_102]
     have h' : ¬ (tmsVars (vars.map (rs σ)) []).length ≤ 26 := by simp at h; omega
     unfold ansR
     rw [if_neg (fun hh => h' hh.2)]
     exact ⟨rfl, Drops.refl _⟩
   · simp -implicitDefEqProofs only [List.length_map, evF, ↓evZ, implies_true, seval, tf_T6_102]
     have h' : (tmsVars (vars.map (rs σ)) []).length ≤ 26 := by simp at h; omega
     refine (c_renumbered (vars.map (rs σ)) (by rw [List.length_map]; omega) hsz (fun t ht => (hok t ht).1.small) _).to ?_
     simp -implicitDefEqProofs only [List.length_map, evF, ↓evZ, implies_true, seval, tf_T6_102]
     unfold ansR
     rw [if_pos ⟨hinv, h'⟩]
     exact ⟨rfl, Drops.refl _⟩
abbrev tf_T6_74 := zi tI_3 (zi zI_3 (zi underlying3 (zi tI_4 (zi zI_4 (zi underlying4 (zi tI_28 (zi zI_28 (zi eI_28 (zi eB_28 (zi eZ_28 (zi underlying28 (zi tI_29 (zi zI_29 (zi eI_29 (zi eB_29 (zi eZ_29 (zi underlying29 (zi tI_107 (zi zI_107 (zi tI_125 (zi zI_125 (zi tI_129 (zi zI_129 (zi fI_129_0 (zi fI_129_1 (zi fI_129_2 (zi fI_129_3 (zi fI_129_4 (zi fI_129_5 (zi fI_129_6 (zi fI_129_7 (zi fI_129_8 (zi fI_129_9 (zi fI_129_10 (zi fI_129_11 bI_129)))))))))))))))))))))))))))))))))))
theorem c_newSearch (p : List Cl) (q : List Tm) (fuel : Int) (idx : Bool) (hq : q.length ≤ 1048576) (st : zy7) :
 zq7 prog 74 [.slice (p.map clAv), .slice (q.map Tm.av), .int .i64 fuel, .bool idx] st (fun r st' => ∃ S c m, r = .ptr S 0 ∧ SrA st st' S c m (.fslice []) (.fslice []) (.fslice []) p q idx fuel 0 0 [] (iStart q)) := by
 have hput := fun st => c_put q 0 (-1) [] hq st
 simp only [List.append_nil] at hput
 rw [glAv] at hput
 refine wF [1000000, 16] 4 func74 ntmps74 rfl rfl ?_
 intro _
 simp -implicitDefEqProofs only [zy4, List.length_map, evF, ↓evZ, implies_true, seval, tf_T6_74]
 refine (c_newStore st).mono ?_
 rintro _ s1 ⟨c, m, rfl, hS, hQ, hc, hm⟩
 simp -implicitDefEqProofs only [zy4, List.length_map, evF, ↓evZ, implies_true, seval, tf_T6_74]
 intro S hS0
 have hSc : S ≠ c := by rintro rfl; rw [hS.sub.cells] at hS0; cases hS0
 have hSm : S ≠ m := by rintro rfl; rw [hS.sub.map] at hS0; cases hS0
 refine (hput _).to ?_
 obtain ⟨l1, l2, l3, l4, l5, l6⟩ := glAv_facts (q.map (fun t => (⟨t, 0, -1⟩ : IG)))
 simp -implicitDefEqProofs only [zy4, List.length_map, zy7.upd_same, l1, l2, l3, l4, l5, evF, ↓evZ, implies_true, seval, tf_T6_74]
 refine ⟨S, c, m, rfl, ?_⟩
 have hcm : c ≠ m := by rintro rfl; have := hS.sub.cells; rw [hS.sub.map] at this; cases this
 have hS0' : st S = none := by
  cases hh : st S with
  | none => rfl
  | some o => have := hQ.frame S o hh hSc hSm (by simp [tbk]); rw [hS0] at this; cases this
 refine ⟨zy7.upd_same _ _ _, hS.upd hSc hSm (by simp [tbk]), .inl ⟨rfl, rfl⟩, .inl ⟨rfl, rfl⟩, rfl, by simp, ?_, ?_, ?_⟩
 · simp [srO, tbk, ownB, hSc, hSm, hcm]
 · intro b hb
   rcases mem_srO.1 hb with rfl | rfl | rfl | hb | hb | hb
   · exact hS0'
   · exact hc
   · exact hm
   · simp [tbk] at hb
   · simp [ownB] at hb
   · simp [ownB] at hb
 · intro b o hb
   have e1 : b ≠ S := by rintro rfl; rw [hS0'] at hb; cases hb
   rw [zy7.upd_ne _ _ e1]
   exact hQ.frame b o hb (by rintro rfl; rw [hc] at hb; cases hb) (by rintro rfl; rw [hm] at hb; cases hb) (by simp [tbk])
abbrev tf_T6_73 := zi tI_3 (zi zI_3 (zi underlying3 (zi tI_4 (zi zI_4 (zi underlying4 (zi tI_28 (zi zI_28 (zi eI_28 (zi eB_28 (zi eZ_28 (zi underlying28 (zi tI_29 (zi zI_29 (zi eI_29 (zi eB_29 (zi eZ_29 underlying29))))))))))))))))
theorem c_canSolve (p : List Cl) (q : List Tm) (most fuel : Int) (st : zy7) :
 zq7 prog 73 [.slice (p.map clAv), .slice (q.map Tm.av), .int .i64 most, .int .i64 fuel] st (fun r st' => r = .bool (progOk p && (queryOk q && (decide (0 ≤ most) && (decide (most ≤ 20) && (decide (0 ≤ fuel) && decide (fuel ≤ 300)))))) ∧ st' = st) := by
 have h1 := fun st => c_impl_ProgramValid p st
 have h2 := fun st => c_impl_QueryValid q st
 have h3 := fun n lo hi st => c_within n lo hi st
 refine wF [] 4 func73 ntmps73 rfl rfl ?_
 intro _
 simp -implicitDefEqProofs only [List.length_map, evF, ↓evZ, implies_true, seval, tf_T6_73]
 refine (h1 _).to ?_
 simp -implicitDefEqProofs only [List.length_map, evF, ↓evZ, implies_true, seval, tf_T6_73]
 refine zx4 (fun h => ?_) (fun h => ?_)
 · simp -implicitDefEqProofs only [h, evF, ↓evZ, implies_true, seval, tf_T6_73]
   refine (h2 _).to ?_
   simp -implicitDefEqProofs only [h, evF, ↓evZ, implies_true, seval, tf_T6_73]
   refine zx4 (fun h5 => ?_) (fun h5 => ?_)
   · simp -implicitDefEqProofs only [h5, evF, ↓evZ, implies_true, seval, tf_T6_73]
     refine (h3 _ _ _ _).to ?_
     simp -implicitDefEqProofs only [h5, evF, ↓evZ, implies_true, seval, tf_T6_73]
     refine zx4 (fun h6 => ?_) (fun h6 => ?_)
     · simp -implicitDefEqProofs only [h6, evF, ↓evZ, implies_true, seval, tf_T6_73]
       refine (h3 _ _ _ _).to ?_
       simp -implicitDefEqProofs only [h6, evF, ↓evZ, implies_true, seval, tf_T6_73]
       rw [← Bool.and_assoc (decide (0 ≤ most)), h6, Bool.true_and]
     · simp -implicitDefEqProofs only [h6, evF, ↓evZ, implies_true, seval, tf_T6_73]
       rw [← Bool.and_assoc (decide (0 ≤ most)), h6]
       rfl
   · simp -implicitDefEqProofs only [h5, evF, ↓evZ, implies_true, seval, tf_T6_73]
     rw [Bool.false_and]
 · simp -implicitDefEqProofs only [h, evF, ↓evZ, implies_true, seval, tf_T6_73]
   rw [Bool.false_and]
theorem c_solve_1 (st : zy7) : zq7 prog 76 [] st (fun r st' => r = .tup [] ∧ st' = st) := by
 refine wF [1000000] 0 func76 ntmps76 rfl rfl ?_
 intro _
 simp -implicitDefEqProofs only [evF, ↓evZ, implies_true, seval, ]
structure RunX where
 st : zy7
 qt : AV
 qc : AV
 qn : AV
 mx : Int
 nd : List AV
 s : RS
 i : IS
 out : List (List Tm)
 b : Nat
 u : Nat
 B : Nat
 M : Nat
 e : Int
structure RunG (st0 : zy7) (S c m : Nat) (p : List Cl) (q : List Tm) (idx : Bool) (cnd : Tm → List Nat → List Nat) (vars : List Int) (most fuel : Nat) (T : List (List Tm) × Int) (x : RunX) : Prop where
 a : SrA st0 x.st S c m x.qt x.qc x.qn p q idx fuel x.u x.mx x.nd x.i
 r : RI p x.B x.M x.u x.s x.i
 t : T = (x.out ++ (iRun p cnd vars (most - x.out.length) (fuel - x.u) x.i).1, (iRun p cnd vars (most - x.out.length) (fuel - x.u) x.i).2)
 u : x.u ≤ fuel
 B : x.B ≤ 26 + 26 * x.u
 M : x.M ≤ 26 + 520 * x.u
structure RunV (st0 : zy7) (S c m : Nat) (p : List Cl) (q : List Tm) (idx : Bool) (cnd : Tm → List Nat → List Nat) (vars : List Int) (most fuel : Nat) (T : List (List Tm) × Int) (x : RunX) : Prop where
 d : Drops x.st st0
 b : x.out.map ansAv ≠ [] → x.st x.b = none
 l : x.out.length ≤ most
 g : x.e = -1 → RunG st0 S c m p q idx cnd vars most fuel T x
 f : x.e ≠ -1 → T = (x.out, x.e)
abbrev tf_T7_75 := zi tI_3 (zi zI_3 (zi underlying3 (zi tI_4 (zi zI_4 (zi underlying4 (zi tI_29 (zi zI_29 (zi eI_29 (zi eB_29 (zi eZ_29 (zi underlying29 (zi tI_39 (zi zI_39 (zi eI_39 (zi eB_39 (zi eZ_39 (zi underlying39 (zi tI_66 (zi zI_66 (zi eI_66 (zi eB_66 (zi eZ_66 (zi underlying66 (zi tI_74 (zi zI_74 (zi fI_74_0 (zi bI_74 (zi tI_107 (zi zI_107 (zi tI_123 (zi zI_123 (zi tI_125 (zi zI_125 (zi tI_129 (zi zI_129 (zi fI_129_0 (zi fI_129_1 (zi fI_129_2 (zi fI_129_3 (zi fI_129_4 (zi fI_129_5 (zi fI_129_6 (zi fI_129_7 (zi fI_129_8 (zi fI_129_9 (zi fI_129_10 (zi fI_129_11 bI_129)))))))))))))))))))))))))))))))))))))))))))))))
set_option maxHeartbeats 2000000 in
theorem c_run {p : List Cl} (hp : ∀ c ∈ p, ClX c ∧ c.2.length ≤ 6) (hpl : p.length ≤ 20) {cnd : Tm → List Nat → List Nat} (hc : ∀ (ρ : Int → Int) (t : Tm) (l : List Nat), cnd (ren ρ t) l = cnd t l) (hd : ∀ t l, (∀ i ∈ cnd t l, i ∈ l) ∧ (cnd t l).length ≤ l.length) {idx : Bool} (hcnd : CndOk p idx cnd) (hidx : idx = false)
 {q : List Tm} (hq : ∀ t ∈ q, OkX 26 t ∧ t.k = 3) (h6 : q.length ≤ 6) {most fuel : Nat} (hm : most ≤ 20) (hf : fuel ≤ 300) {st0 st : zy7} {S c m : Nat} (h : SrA st0 st S c m (.fslice []) (.fslice []) (.fslice []) p q idx fuel 0 0 [] (iStart q)) :
 zq7 prog 75 [.ptr S 0, .int .i64 (most : Int), .func 76 []] st (fun r st' => ∃ b s, r = .tup [accV 1 b ((iRun p cnd (tmsVars q []) most fuel (iStart q)).1.map ansAv), .int .i64 (iRun p cnd (tmsVars q []) most fuel (iStart q)).2] ∧ st' = accS s b ((iRun p cnd (tmsVars q []) most fuel (iStart q)).1.map ansAv) ∧ ((iRun p cnd (tmsVars q []) most fuel (iStart q)).1.map ansAv ≠ [] → s b = none) ∧ Drops s st0) := by
 have hnd : sumL Tm.nodes q ≤ 1099511627776 := by
  have := nodes_120 q fun t ht => (hq t ht).1.2
  omega
 have hva := fun st => c_varsOf q st hnd
 have hv : ∀ v ∈ tmsVars q [], 0 ≤ v ∧ v < 26 := fun v hv => by
  rcases (tmsVars_mem q [] fun t ht => (hq t ht).1.1.2.1).1 hv with h | ⟨t, ht, h⟩
  · cases h
  · exact (hq t ht).1.1.2.2 v h
 have hvl : (tmsVars q []).length ≤ 1000 := by
  have h1 := tmsVars_len q []
  have h2 := nodes_120 q fun t ht => (hq t ht).1.2
  simp only [List.length_nil] at h1
  omega
 have hstart := RI.start (p := p) hq h6
 generalize hT : iRun p cnd (tmsVars q []) most fuel (iStart q) = T
 generalize tmsVars q [] = vars at *
 have hI0 : RunV st0 S c m p q idx cnd vars most fuel T ⟨st, .fslice [], .fslice [], .fslice [], 0, [], rStart q, iStart q, [], 0, 0, 26, 26, -1⟩ :=
  ⟨h.drops, by simp, Nat.zero_le _, fun _ => ⟨h, hstart, by rw [← hT]; rfl, Nat.zero_le _, Nat.le_refl _, Nat.le_refl _⟩, fun h => absurd rfl h⟩
 have hcell0 := h.cell
 simp only [srC] at hcell0
 obtain ⟨l1, l2, l3, l4, l5, l6⟩ := glAv_facts (iStart q).goals
 refine wF [1000000] 3 func75 ntmps75 rfl rfl ?_
 intro _
 simp -implicitDefEqProofs only [zy4, List.length_map, hcell0, l1, l2, l3, l4, l5, evF, ↓evZ, implies_true, seval, tf_T7_75]
 refine (hva _).to ?_
 simp -implicitDefEqProofs only [zy4, List.length_map, hcell0, l1, l2, l3, l4, l5, evF, ↓evZ, implies_true, seval, tf_T7_75]
 clear hcell0 l1 l2 l3 l4 l5 l6
 have hne : ∀ l : List IG, aBinT prog .neq 125 (glAv l) .nilptr = some (.bool (!l.isEmpty)) := fun l => by
  have h : prog.underlying 125 = some (.pointer 146) := by kernel_rfl
  cases l with
  | nil => rw [glAv]; simp only [aBinT, h]; rfl
  | cons g l => obtain ⟨⟨k, n, s, ts⟩, cut, up⟩ := g; rw [glAv_cons]; simp only [aBinT, h]; rfl
 refine zw5 (σ := RunX) [1000000] [0, 1, 2, 8] (fun x => RunV st0 S c m p q idx cnd vars most fuel T x)
  (fun x => [(6, .fslice []), (7, .int .i64 0), (9, accV 1 x.b (x.out.map ansAv)), (10, .int .i64 x.e)])
  (fun x => accS x.st x.b (x.out.map ansAv))
  (fun x => (most - x.out.length) + (fuel - x.u) + (if x.e = -1 then 1 else 0)) (by decide +kernel) ⟨_, hI0, zx7.mk (by simp -implicitDefEqProofs only [accV_nil, accS_nil, List.map_nil, zy4, List.length_map, accV_junk, accV_store, accV_agg, accV_cells, evF, ↓evZ, implies_true, seval, tf_T7_75])⟩ ?_
 clear hI0 h hT hstart
 rintro ⟨st, qt, qc, qn, mx, nd, s, i, out, b, u, B, M, e⟩ ⟨hdr, hb, hlen, hgo, hfin⟩
 simp only at hdr hb hlen hgo hfin
 simp only
 simp -implicitDefEqProofs only [zy4, List.length_map, accV_junk, accV_store, accV_agg, accV_cells, evF, ↓evZ, implies_true, seval, tf_T7_75]
 refine zq4 (fun h => ?_) (fun h => ?_)
 case refine_2 =>
  have h' : e ≠ -1 := by simpa using h
  have hTe := hfin h'
  subst hTe
  simp -implicitDefEqProofs only [zy4, List.length_map, accV_junk, accV_store, accV_agg, accV_cells, evF, ↓evZ, implies_true, seval, tf_T7_75]
  exact ⟨b, st, rfl, rfl, hb, hdr⟩
 obtain rfl : e = -1 := by simpa using h
 obtain ⟨ha, hR, ht, hu, hBB, hMM⟩ := hgo rfl
 simp only at ha hR ht hu hBB hMM
 have hb0 : out.map ansAv ≠ [] → st0 b = none := fun h => (hdr b).1 (hb h)
 have hA := ha.acc hb
 have hlo : (out.map ansAv).length = out.length := List.length_map _
 have hun : prog.underlying 39 = some (.slice 74) := by kernel_rfl
 have hlenA := accV_len (w := 1) (b := b) (l := out.map ansAv) hun
 rw [hlo] at hlenA
 have hwid : ∀ l : List (List Tm), ∀ e ∈ l.map ansAv, e.width = 1 := fun l e he => by simp only [List.mem_map] at he; obtain ⟨t, _, rfl⟩ := he; rfl
 have hcell := hA.cell
 simp only [srC] at hcell
 obtain ⟨l1, l2, l3, l4, l5, l6⟩ := glAv_facts i.goals
 have hneg := hne i.goals
 simp -implicitDefEqProofs only [zy4, List.length_map, hcell, l1, l2, l3, l4, l5, hlenA, hneg, accV_junk, accV_store, accV_agg, accV_cells, evF, ↓evZ, implies_true, seval, tf_T7_75]
 refine (c_solve_1 _).to ?_
 simp -implicitDefEqProofs only [zy4, List.length_map, hcell, l1, l2, l3, l4, l5, hlenA, hneg, accV_junk, accV_store, accV_agg, accV_cells, evF, ↓evZ, implies_true, seval, tf_T7_75]
 cases hg : i.goals with
 | cons g rest =>
  rw [hg] at hneg
  simp only [List.isEmpty_cons, Bool.not_false] at hneg
  refine zq4 (fun h2 => ?_) (fun h2 => absurd h2 (by first | rw [hg]; simp | simp))
  simp -implicitDefEqProofs only [zy4, List.length_map, hcell, hg, l1, l2, l3, l4, l5, hlenA, hneg, accV_junk, accV_store, accV_agg, accV_cells, evF, ↓evZ, implies_true, seval, tf_T7_75]
  rw [iRun_cons hg] at ht
  have hstep := c_step hp hpl hc hd hcnd hidx (B := B) (M := M) (k := u) (by omega) (by omega) (by omega) hA hR hg (by omega) (by omega)
  have hRs := hR.step hp hpl hc hd (by omega) hg
  have hse := iStep_stop (p := p) (cnd := cnd) (i := i) (g := g) (rest := rest)
  refine hstep.mono ?_
  clear hstep
  rintro r s2 hr
  split at hr
  · rename_i hfu
    obtain ⟨rfl, hA2⟩ := hr
    obtain ⟨s3, rfl, hb3, hA3⟩ := hA2.unacc hb0
    rw [if_pos (by omega)] at ht
    simp -implicitDefEqProofs only [zy4, List.length_map, hcell, hg, l1, l2, l3, l4, l5, hlenA, hneg, accV_junk, accV_store, accV_agg, accV_cells, evF, ↓evZ, implies_true, seval, tf_T7_75]
    exact ⟨⟨s3, qt, qc, qn, mx, nd, s, i, out, b, u, B, M, 2⟩, by simp, ⟨hA3.drops, hb3, hlen, fun h => absurd h (by simp), fun _ => by rw [ht]; simp⟩, zx7.mk (by simp -implicitDefEqProofs only [zy4, List.length_map, hcell, hg, l1, l2, l3, l4, l5, hlenA, hneg, accV_junk, accV_store, accV_agg, accV_cells, evF, ↓evZ, implies_true, seval, tf_T7_75])⟩
  · rename_i hfu
    have hfu' : u < fuel := by omega
    rw [if_neg (by omega)] at ht
    cases hS : iStep p cnd i g rest with
    | stop e =>
     rw [hS] at hr ht hse
     simp only [StopE] at hse
     simp only at ht
     obtain ⟨rfl, qt2, qc2, qn2, mx2, nd2, i2, hA2⟩ := hr
     obtain ⟨s3, rfl, hb3, hA3⟩ := hA2.unacc hb0
     simp -implicitDefEqProofs only [zy4, List.length_map, hcell, hg, l1, l2, l3, l4, l5, hlenA, hneg, accV_junk, accV_store, accV_agg, accV_cells, evF, ↓evZ, implies_true, seval, tf_T7_75]
     exact ⟨⟨s3, qt, qc, qn, mx, nd, s, i, out, b, u, B, M, e⟩, by simp [hse], ⟨hA3.drops, hb3, hlen, fun h => absurd h hse, fun _ => by rw [ht]; simp⟩, zx7.mk (by simp -implicitDefEqProofs only [zy4, List.length_map, hcell, hg, l1, l2, l3, l4, l5, hlenA, hneg, accV_junk, accV_store, accV_agg, accV_cells, evF, ↓evZ, implies_true, seval, tf_T7_75])⟩
    | go i' =>
     rw [hS] at hr ht hRs
     simp only at ht hRs
     obtain ⟨s', hR'⟩ := hRs
     obtain ⟨rfl, qt2, qc2, qn2, mx2, nd2, hA2⟩ := hr
     obtain ⟨s3, rfl, hb3, hA3⟩ := hA2.unacc hb0
     simp -implicitDefEqProofs only [zy4, List.length_map, hcell, hg, l1, l2, l3, l4, l5, hlenA, hneg, accV_junk, accV_store, accV_agg, accV_cells, evF, ↓evZ, implies_true, seval, tf_T7_75]
     exact ⟨⟨s3, qt2, qc2, qn2, mx2, nd2, s', i', out, b, u + 1, B + 26, M + 520, -1⟩, by simp; omega, ⟨hA3.drops, hb3, hlen, fun _ => ⟨hA3, hR', by rw [ht, Nat.sub_sub], by simp only; omega, by simp only; omega, by simp only; omega⟩, fun h => absurd rfl h⟩, zx7.mk (by simp -implicitDefEqProofs only [zy4, List.length_map, hcell, hg, l1, l2, l3, l4, l5, hlenA, hneg, accV_junk, accV_store, accV_agg, accV_cells, evF, ↓evZ, implies_true, seval, tf_T7_75])⟩
    | fail i' =>
     rw [hS] at hr ht hRs
     simp only [StepI] at ht hRs hr
     obtain ⟨_, _, _, hRb⟩ := hRs
     cases hbk : iBack p i'.chs.length i' with
     | none =>
      rw [hbk] at hr ht
      simp only at ht
      obtain ⟨rfl, qt2, qc2, qn2, mx2, nd2, i2, hA2⟩ := hr
      obtain ⟨s3, rfl, hb3, hA3⟩ := hA2.unacc hb0
      simp -implicitDefEqProofs only [zy4, List.length_map, hcell, hg, l1, l2, l3, l4, l5, hlenA, hneg, accV_junk, accV_store, accV_agg, accV_cells, evF, ↓evZ, implies_true, seval, tf_T7_75]
      exact ⟨⟨s3, qt, qc, qn, mx, nd, s, i, out, b, u, B, M, 0⟩, by simp, ⟨hA3.drops, hb3, hlen, fun h => absurd h (by simp), fun _ => by rw [ht]; simp⟩, zx7.mk (by simp -implicitDefEqProofs only [zy4, List.length_map, hcell, hg, l1, l2, l3, l4, l5, hlenA, hneg, accV_junk, accV_store, accV_agg, accV_cells, evF, ↓evZ, implies_true, seval, tf_T7_75])⟩
     | some i2 =>
      rw [hbk] at hr ht
      simp only at ht
      obtain ⟨s', hR'⟩ := hRb i2 hbk
      obtain ⟨rfl, qt2, qc2, qn2, mx2, nd2, hA2⟩ := hr
      obtain ⟨s3, rfl, hb3, hA3⟩ := hA2.unacc hb0
      simp -implicitDefEqProofs only [zy4, List.length_map, hcell, hg, l1, l2, l3, l4, l5, hlenA, hneg, accV_junk, accV_store, accV_agg, accV_cells, evF, ↓evZ, implies_true, seval, tf_T7_75]
      exact ⟨⟨s3, qt2, qc2, qn2, mx2, nd2, s', i2, out, b, u + 1, B + 26, M + 520, -1⟩, by simp; omega, ⟨hA3.drops, hb3, hlen, fun _ => ⟨hA3, hR', by rw [ht, Nat.sub_sub], by simp only; omega, by simp only; omega, by simp only; omega⟩, fun h => absurd rfl h⟩, zx7.mk (by simp -implicitDefEqProofs only [zy4, List.length_map, hcell, hg, l1, l2, l3, l4, l5, hlenA, hneg, accV_junk, accV_store, accV_agg, accV_cells, evF, ↓evZ, implies_true, seval, tf_T7_75])⟩
 | nil =>
  rw [hg] at hneg
  simp only [List.isEmpty_nil, Bool.not_true] at hneg
  refine zq4 (fun h2 => absurd h2 (by first | rw [hg]; simp | simp)) (fun h2 => ?_)
  simp -implicitDefEqProofs only [zy4, List.length_map, hcell, hg, l1, l2, l3, l4, l5, hlenA, hneg, accV_junk, accV_store, accV_agg, accV_cells, evF, ↓evZ, implies_true, seval, tf_T7_75]
  rw [iRun_nil hg] at ht
  refine zq4 (fun h2 => ?_) (fun h2 => ?_)
  · have h' : out.length = most := by simp at h2; omega
    rw [if_pos (by omega)] at ht
    simp -implicitDefEqProofs only [zy4, List.length_map, hcell, hg, l1, l2, l3, l4, l5, hlenA, hneg, accV_junk, accV_store, accV_agg, accV_cells, evF, ↓evZ, implies_true, seval, tf_T7_75]
    have hTe : T = (out, 1) := by rw [ht]; simp
    subst hTe
    exact ⟨b, st, rfl, rfl, hb, hdr⟩
  have h' : out.length < most := by simp at h2; omega
  rw [if_neg (by omega)] at ht
  simp -implicitDefEqProofs only [zy4, List.length_map, hcell, hg, l1, l2, l3, l4, l5, hlenA, hneg, accV_junk, accV_store, accV_agg, accV_cells, evF, ↓evZ, implies_true, seval, tf_T7_75]
  obtain ⟨hgd, ho, _, _⟩ := hR.r.facts
  have hfr : 26 ≤ i.fresh := by
   obtain ⟨ρ, S', _⟩ := hR.r
   have h1 := S'.rng 25 (by omega) (by have := S'.h26; omega)
   rw [S'.idn 25 (by omega) (by omega)] at h1
   omega
  refine (c_values (N := i.fresh) hgd ho vars (fun v h => ⟨(hv v h).1, by have := (hv v h).2; omega⟩) hvl c m qt _ hA.sto.sub).to ?_
  cases hans : ansR i.σ vars with
  | none =>
   rw [hans] at ht
   simp only [valR]
   simp only at ht
   simp -implicitDefEqProofs only [zy4, List.length_map, hcell, hg, l1, l2, l3, l4, l5, hlenA, hneg, accV_junk, accV_store, accV_agg, accV_cells, evF, ↓evZ, implies_true, seval, tf_T7_75]
   have hTe : T = (out, 3) := by rw [ht]; simp
   subst hTe
   exact ⟨b, st, rfl, rfl, hb, hdr⟩
  | some a =>
   rw [hans] at ht
   simp only [valR]
   simp only at ht
   simp -implicitDefEqProofs only [zy4, List.length_map, hcell, hg, l1, l2, l3, l4, l5, hlenA, hneg, accV_junk, accV_store, accV_agg, accV_cells, evF, ↓evZ, implies_true, seval, tf_T7_75]
   refine acc_append (P := prog) (b := b) (l := out.map ansAv) (xs := [ansAv a]) eI_39 eB_39 eZ_39 rfl rfl (by intro e he; simp only [List.mem_cons, List.not_mem_nil, or_false] at he; subst he; exact ⟨rfl, rfl⟩) (hwid out) hb (by simp only [List.length_cons, List.length_nil, hlo]; omega) (by simp only [List.length_cons, List.length_nil, hlo]; omega) (fun b' hb' => ?_)
   rw [show (out.map ansAv) ++ [ansAv a] = (out ++ [a]).map ansAv by simp] at hb' ⊢
   have hA' := ha.acc hb'
   have hb0' : (out ++ [a]).map ansAv ≠ [] → st0 b' = none := fun h => (hdr b').1 (hb' h)
   have hcell' := hA'.cell
   simp only [srC] at hcell'
   simp -implicitDefEqProofs only [zy4, List.length_map, hcell', hg, l1, l2, l3, l4, l5, hlenA, hneg, accV_junk, accV_store, accV_agg, accV_cells, evF, ↓evZ, implies_true, seval, tf_T7_75]
   have hbk := c_back hp (M := M) (by omega) _ qt qc qn mx nd i s.chs (st0 := accS st0 b' ((out ++ [a]).map ansAv)) (S := S) (c := c) (m := m) (q := q) (idx := idx) (fuel := fuel) (used := u) (T := iBack p i.chs.length i) ⟨hA', hR.cr, hR.x, rfl, by have := hR.chl; have := hR.n; constructor <;> omega⟩
   refine hbk.mono ?_
   rintro r s2 hr
   have hln : (out ++ [a]).length = out.length + 1 := by simp
   cases hbk : iBack p i.chs.length i with
   | none =>
    rw [hbk] at hr ht
    simp only at ht
    obtain ⟨rfl, qt2, qc2, qn2, mx2, nd2, i2, hA2⟩ := hr
    obtain ⟨s3, rfl, hb3, hA3⟩ := hA2.unacc hb0'
    simp -implicitDefEqProofs only [zy4, List.length_map, hcell', hg, l1, l2, l3, l4, l5, hlenA, hneg, accV_junk, accV_store, accV_agg, accV_cells, evF, ↓evZ, implies_true, seval, tf_T7_75]
    exact ⟨⟨s3, qt, qc, qn, mx, nd, s, i, out ++ [a], b', u, B, M, 0⟩, by simp only [hln]; simp; omega, ⟨hA3.drops, hb3, by simp only [hln]; omega, fun h => absurd h (by simp), fun _ => by rw [ht]⟩, zx7.mk (by simp -implicitDefEqProofs only [zy4, List.length_map, hcell', hg, l1, l2, l3, l4, l5, hlenA, hneg, accV_junk, accV_store, accV_agg, accV_cells, evF, ↓evZ, implies_true, seval, tf_T7_75])⟩
   | some i2 =>
    rw [hbk] at hr ht
    simp only at ht
    obtain ⟨s', hR'⟩ := hR.back hp (by omega) hbk
    obtain ⟨rfl, qt2, qc2, qn2, mx2, nd2, hA2⟩ := hr
    obtain ⟨s3, rfl, hb3, hA3⟩ := hA2.unacc hb0'
    simp -implicitDefEqProofs only [zy4, List.length_map, hcell', hg, l1, l2, l3, l4, l5, hlenA, hneg, accV_junk, accV_store, accV_agg, accV_cells, evF, ↓evZ, implies_true, seval, tf_T7_75]
    exact ⟨⟨s3, qt2, qc2, qn2, mx2, nd2, s', i2, out ++ [a], b', u, B, M, -1⟩, by simp [hln]; omega, ⟨hA3.drops, hb3, by simp only [hln]; omega, fun _ => ⟨hA3, hR', by rw [ht]; simp only [hln, List.append_assoc, List.cons_append, List.nil_append, Nat.sub_sub], hu, hBB, hMM⟩, fun h => absurd rfl h⟩, zx7.mk (by simp -implicitDefEqProofs only [zy4, List.length_map, hcell', hg, l1, l2, l3, l4, l5, hlenA, hneg, accV_junk, accV_store, accV_agg, accV_cells, evF, ↓evZ, implies_true, seval, tf_T7_75])⟩
theorem slice_hiL {φ : AF} {t : TypeId} {ag : Bool} {w d k : Nat} {es : List AV} (hI : eI prog t = some (ag, w)) (h : φ d = .int .i64 (k : Int)) (hk : k ≤ es.length) : aSlice prog φ t (.slice es) none (some (.tmp d)) none = some (.slice (es.take k)) := by
 have he : φ.eval (.tmp d) = .int .i64 (k : Int) := h
 unfold aSlice
 rw [if_neg (by simp [isF0])]
 simp only [aSlice0, hI]
 rw [if_neg (by simp)]
 simp only [aBound, he]
 rw [if_pos (by omega)]
 simp
def SlA (a : AV) : Prop := (∃ l, a = .slice l) ∨ a = .fslice []
theorem SlA.facts {a : AV} (h : SlA a) : a.isAgg = false ∧ a.width = 1 ∧ a.isJunk = false ∧ a.cells = [a] ∧ a.storable = true ∧ ∃ l, a.soft = .slice l := by
 rcases h with ⟨l, rfl⟩ | rfl
 · exact ⟨rfl, rfl, rfl, rfl, rfl, l, rfl⟩
 · exact ⟨rfl, rfl, rfl, rfl, rfl, [], rfl⟩
abbrev tf_R6_43 := zi tI_3 (zi zI_3 (zi underlying3 (zi tI_4 (zi zI_4 (zi underlying4 (zi tI_28 (zi zI_28 (zi eI_28 (zi eB_28 (zi eZ_28 (zi underlying28 (zi tI_69 (zi zI_69 (zi eI_69 (zi eB_69 (zi eZ_69 (zi underlying69 (zi tI_71 (zi zI_71 (zi fI_71_0 (zi fI_71_1 (zi fI_71_2 (zi bI_71 (zi tI_102 (zi zI_102 (zi fI_102_0 (zi fI_102_1 (zi fI_102_2 (zi fI_102_3 bI_102)))))))))))))))))))))))))))))
theorem c_l6Back {p : List Cl} (hp : ∀ c ∈ p, ClX c ∧ c.2.length ≤ 6) {B : Nat} (hB : B ≤ 524288) (gs0 : List RG) (σ0 : List AV) (chs : List RC) (hl : chs.length ≤ B) (hc : ∀ c ∈ chs, RcOk p c ∧ c.N + 26 ≤ B ∧ c.rest.length + 26 ≤ B ∧ 0 < c.N) (st : zy7) :
 zq7 prog 43 [.slice (p.map clAv), .agg [.slice (gs0.map rgAv), .slice σ0, .slice (chs.map rcAv)]] st (fun r st' => st' = st ∧ match rBack p chs.length chs with
  | some s => r = .tup [rsAv s, .bool true]
  | none => ∃ l1 l2 l3, r = .tup [.agg [.slice l1, .slice l2, .slice l3], .bool false]) := by
 refine zq7.dropS (zq7.soft ?_)
 refine wF [1000000, 3] 2 func43 ntmps43 rfl rfl ?_
 intro _
 simp -implicitDefEqProofs only [zy4, List.length_map, evF, ↓evZ, implies_true, seval, tf_R6_43]
 intro b3 h3 b4 h4
 have hne : b4 ≠ b3 := by rintro rfl; rw [zy7.upd_same] at h4; cases h4
 have hst4 : st b4 = none := by rw [zy7.upd_ne _ _ hne] at h4; exact h4
 rw [zy7.upd_comm _ _ _ (Ne.symm hne)]
 generalize hW : st.upd b4 (.cells [.fslice [], .fslice [], .fslice []]) = W
 have hW4 : W b4 = some (.cells [.fslice [], .fslice [], .fslice []]) := by rw [← hW]; exact zy7.upd_same _ _ _
 have hW3 : W b3 = none := by rw [← hW, zy7.upd_ne _ _ (Ne.symm hne)]; exact h3
 have hDW : ∀ o o', Drops ((W.upd b3 o).upd b4 o') st := fun o o' q => by
  by_cases q4 : q = b4
  · subst q4; rw [zy7.upd_same, hst4]; simp
  rw [zy7.upd_ne _ _ q4]
  by_cases q3 : q = b3
  · subst q3; rw [zy7.upd_same, h3]; simp
  rw [zy7.upd_ne _ _ q3, ← hW, zy7.upd_ne _ _ q4]
  simp
 have hne' : b3 ≠ b4 := Ne.symm hne
 refine zw5 (σ := List RC × AV × AV) [1000000, 3] [0, 3, 4] (fun s => s.1.length ≤ B ∧ (∀ c ∈ s.1, RcOk p c ∧ c.N + 26 ≤ B ∧ c.rest.length + 26 ≤ B ∧ 0 < c.N) ∧ SlA s.2.1 ∧ SlA s.2.2 ∧ rBack p s.1.length s.1 = rBack p chs.length chs) (fun s => [(5, .bool false)]) (fun s => W.upd b3 (.cells [s.2.1, s.2.2, .slice (s.1.map rcAv)])) (fun s => s.1.length) (by decide +kernel) ⟨(chs, .slice (gs0.map rgAv), .slice σ0), ⟨hl, hc, .inl ⟨_, rfl⟩, .inl ⟨_, rfl⟩, rfl⟩, zx7.mk (by simp -implicitDefEqProofs only [zy4, List.length_map, evF, ↓evZ, implies_true, seval, tf_R6_43])⟩ ?_
 rintro ⟨l, a, b⟩ ⟨hl1, hlc, ha, hb, hinv⟩
 simp only at hl1 hlc ha hb hinv
 obtain ⟨a1, a2, a3, a4, a5, la, a6⟩ := ha.facts
 obtain ⟨b1, b2, b3', b4', b5, lb, b6⟩ := hb.facts
 simp only
 rw [rBack_eq] at hinv
 by_cases hnil : l = []
 · subst hnil
   simp only [List.getLast?_nil] at hinv
   simp -implicitDefEqProofs only [zy4, hne, hne', List.length_map, zy7.upd_same, hW4, a1, a2, a4, a5, b1, b2, b4', b5, evE, ↓evZ2, ↓evZ3, ↓Int.cast_ofNat_Int, implies_true, zy2, aFn, List.contains, List.elem, zq3, zy1, zq2, sub, zx3, zw2, zw3, zy3, gd, zq1, zw0, zq0, zx0, zx2, zx1, zy0, zw1, List.range', ↓reduceIte, reduceCtorEq, Nat.reduceEqDiff, Nat.reduceAdd, Nat.reduceLeDiff, Nat.reduceMul, Nat.reduceLT, Nat.reduceBEq, Int.reduceEq, tf_R6_43]
   refine zq4 (fun h => absurd h (by decide)) (fun h => ?_)
   simp -implicitDefEqProofs only [zy4, hne, hne', List.length_map, zy7.upd_same, hW4, a1, a2, a4, a5, b1, b2, b4', b5, evF, ↓evZ, implies_true, seval, tf_R6_43]
   rw [← hinv]
   exact ⟨st, hDW _ _, rfl, la, lb, [], by simp only [soft_agg, soft_tup, soft_int, soft_bool, soft_str, soft_slice, soft_fslice, soft_ptr, soft_pptr, soft_map, soft_mslice, Tm.soft, List.map_cons, List.map_nil, a6, b6]⟩
 obtain ⟨c, hlast⟩ : ∃ c, l.getLast? = some c := by
  cases h : l.getLast? with
  | none => exact absurd (List.getLast?_eq_none_iff.1 h) hnil
  | some c => exact ⟨c, rfl⟩
 have hlp := List.length_pos_iff.2 hnil
 have hcm := List.mem_of_getLast? hlast
 obtain ⟨hcok, hcN, hcr, hc0⟩ := hlc c hcm
 rw [hlast] at hinv
 simp only at hinv
 have hat := ev_at (av := rcAv) (P := prog) (l := l) (i := l.length - 1) (x := c) eI_69 (by rw [← List.getLast?_eq_getElem?]; exact hlast) (rcAv_width c)
 rw [show (((l.length - 1 : Nat) : Int)) = (l.length : Int) - 1 by omega] at hat
 have hw := wrap64 (n := (l.length : Int) - 1) (by omega) (by omega)
 have hdl : l.dropLast = l.take (l.length - 1) := List.dropLast_eq_take
 have hdll : l.dropLast.length + 1 = l.length := by simp; omega
 have hct := c_l6Try p hp [] [] l.dropLast c hcok hc0 (by omega) (by omega)
 have hcs := fun (φ : AF) (d : Nat) (h : φ d = .int .i64 ((l.length : Int) - 1)) => slice_hiL (es := l.map rcAv) (k := l.length - 1) eI_69 (h.trans (by congr 1; omega)) (by simp)
 rw [← List.map_take, ← hdl] at hcs
 generalize hx : rTry p l.dropLast c.goal c.rest c.σ c.N c.left = x at hinv hct
 obtain ⟨⟨ck, cn, cs', cts⟩, crest, cleft, cσ, cN⟩ := c
 rw [rcAv_mk] at hct hat
 simp only [List.map_nil] at hct
 simp -implicitDefEqProofs only [zy4, hne, hne', List.length_map, zy7.upd_same, hW4, a1, a2, a4, a5, b1, b2, b4', b5, hw, hat, hcs, evF, ↓evZ, implies_true, seval, tf_R6_43]
 refine zq4 (fun h => ?_) (fun h => absurd hlp (by simpa using h))
 simp -implicitDefEqProofs only [zy4, hne, hne', List.length_map, zy7.upd_same, hW4, a1, a2, a4, a5, b1, b2, b4', b5, hw, hat, hcs, evF, ↓evZ, implies_true, seval, tf_R6_43]
 cases x with
 | none =>
  have hct2 : ∀ st, zq7 prog 66 [.slice (p.map clAv), .agg [.fslice [], .fslice [], .slice (l.dropLast.map rcAv)], .agg [.int .i64 ck, .int .i64 cn, .str cs', .slice (cts.map Tm.av), .slice (crest.map rgAv), .slice (cleft.map nv), .slice (arrN cN cσ)]] st (fun r st' => r = .tup [.agg [.slice [], .slice [], .slice (l.dropLast.map rcAv)], .bool false] ∧ st' = st) := fun st =>
   zq7.softArgs ((hct st).mono fun _ _ h => ⟨h.2, h.1⟩)
  simp only at hinv
  refine wP [(0, 1), (1, 1), (3, 1), (2, 2), (4, 1), (5, 1), (6, 2), (7, 1), (8, 1), (9, 1), (10, 1), (11, 0), (12, 0), (13, 1)] [0, 1, 3, 2, 4, 5, 6, 7, 8, 9, 10, 13] mixed ?_
  simp -implicitDefEqProofs only [zy4, hne, hne', List.length_map, zy7.upd_same, hW4, a1, a2, a4, a5, b1, b2, b4', b5, hw, hat, hcs, evF, ↓evZ, implies_true, seval, tf_R6_43]
  refine callF_mk hct2 ?_
  simp -implicitDefEqProofs only [zy4, hne, hne', List.length_map, zy7.upd_same, hW4, a1, a2, a4, a5, b1, b2, b4', b5, hw, hat, hcs, evF, ↓evZ, implies_true, seval, tf_R6_43]
  intro b8 h8
  have h83 : b8 ≠ b3 := by rintro rfl; rw [zy7.upd_same] at h8; cases h8
  rw [zy7.upd_ne _ _ h83] at h8
  have h84 : b8 ≠ b4 := by rintro rfl; rw [hW4] at h8; cases h8
  have hs8 : st b8 = none := by rw [← hW, zy7.upd_ne _ _ h84] at h8; exact h8
  have h38 := Ne.symm h83
  have h48 := Ne.symm h84
  simp -implicitDefEqProofs only [zy4, hne, hne', h83, h84, h38, h48, List.length_map, zy7.upd_same, hW4, a1, a2, a4, a5, b1, b2, b4', b5, hw, hat, hcs, evF, ↓evZ, implies_true, seval, tf_R6_43]
  refine ⟨(l.dropLast, .fslice [], .fslice []), by simp only; omega, ⟨by simp only; omega, fun c h => hlc c (List.dropLast_subset _ h), .inr rfl, .inr rfl, hinv⟩, zx7.drop (fun q => ?_) (by simp -implicitDefEqProofs only [zy4, hne, hne', h83, h84, h38, h48, List.length_map, zy7.upd_same, hW4, a1, a2, a4, a5, b1, b2, b4', b5, hw, hat, hcs, evF, ↓evZ, implies_true, seval, tf_R6_43])⟩
  by_cases q3 : q = b3
  · subst q3; rw [zy7.upd_same, zy7.upd_same]; simp
  rw [zy7.upd_ne _ _ q3, zy7.upd_ne _ _ q3]
  by_cases q8 : q = b8
  · subst q8; rw [zy7.upd_same, h8]; simp
  rw [zy7.upd_ne _ _ q8, zy7.upd_ne _ _ q3]
  simp
 | some s =>
  have hct2 : ∀ st, zq7 prog 66 [.slice (p.map clAv), .agg [.fslice [], .fslice [], .slice (l.dropLast.map rcAv)], .agg [.int .i64 ck, .int .i64 cn, .str cs', .slice (cts.map Tm.av), .slice (crest.map rgAv), .slice (cleft.map nv), .slice (arrN cN cσ)]] st (fun r st' => r = .tup [rsAv s, .bool true] ∧ st' = st) := fun st =>
   zq7.softArgs ((hct st).mono fun _ _ h => ⟨h.2, h.1⟩)
  simp only at hinv
  simp only [rsAv] at hct2
  refine wP [(0, 1), (1, 1), (3, 1), (2, 2), (4, 1), (5, 1), (6, 2), (7, 1), (8, 1), (9, 1), (10, 1), (11, 0), (12, 0), (13, 1)] [0, 1, 3, 2, 4, 5, 6, 7, 8, 9, 10, 13] mixed ?_
  simp -implicitDefEqProofs only [zy4, hne, hne', List.length_map, zy7.upd_same, hW4, a1, a2, a4, a5, b1, b2, b4', b5, hw, hat, hcs, evF, ↓evZ, implies_true, seval, tf_R6_43]
  refine callF_mk hct2 ?_
  simp -implicitDefEqProofs only [zy4, hne, hne', List.length_map, zy7.upd_same, hW4, a1, a2, a4, a5, b1, b2, b4', b5, hw, hat, hcs, evF, ↓evZ, implies_true, seval, tf_R6_43]
  intro b8 h8
  have h83 : b8 ≠ b3 := by rintro rfl; rw [zy7.upd_same] at h8; cases h8
  rw [zy7.upd_ne _ _ h83] at h8
  have h84 : b8 ≠ b4 := by rintro rfl; rw [hW4] at h8; cases h8
  have hs8 : st b8 = none := by rw [← hW, zy7.upd_ne _ _ h84] at h8; exact h8
  have h38 := Ne.symm h83
  have h48 := Ne.symm h84
  simp -implicitDefEqProofs only [zy4, hne, hne', h83, h84, h38, h48, List.length_map, zy7.upd_same, hW4, a1, a2, a4, a5, b1, b2, b4', b5, hw, hat, hcs, evF, ↓evZ, implies_true, seval, tf_R6_43]
  refine ⟨st, ?_, rfl, ?_⟩
  · have d1 : Drops W st := by rw [← hW]; exact (Drops.refl _).upd hst4
    exact ((d1.upd h3).upd hs8).upd hst4
  · rw [← hinv]
    simp only [soft_agg, soft_tup, soft_int, soft_bool, soft_str, soft_slice, soft_fslice, soft_ptr, soft_pptr, soft_map, soft_mslice, Tm.soft, List.map_cons, List.map_nil]
    rfl
theorem slice_lo1 {φ : AF} {t : TypeId} {ag : Bool} {w : Nat} {y : Operand} {e : AV} {es : List AV} (hI : eI prog t = some (ag, w)) (h : φ.eval y = .int .i64 1) (hw : ∀ x ∈ es, x.width = w) : aSlice prog φ t (.slice (e :: es)) (some y) none none = some (.slice es) := by
 have hwo : widthOk (e :: es) 1 w = true := by
  unfold widthOk
  rw [List.getElem?_cons_succ]
  split
  · rename_i x hx
    simp [hw x (List.mem_of_getElem? hx)]
  · rfl
 unfold aSlice
 rw [if_neg (by simp [isF0])]
 simp only [aSlice0, hI]
 rw [if_neg (by simp)]
 simp only [aBound, h]
 rw [if_pos (by constructor <;> simp <;> omega)]
 simp [hwo]
abbrev tf_R7_64 := zi tI_3 (zi zI_3 underlying3)
theorem c_l6End (c : Int) (st : zy7) : zq7 prog 64 [.int .i64 c] st (fun r st' => r = .int .i64 (endC c) ∧ st' = st) := by
 refine zq7.done ?_
 refine wF [1000000] 1 func64 ntmps64 rfl rfl ?_
 intro _
 simp -implicitDefEqProofs only [evF, ↓evZ, implies_true, seval, tf_R7_64]
 unfold endC
 refine zq4 (fun h => ?_) (fun h => ?_)
 · simp -implicitDefEqProofs only [evF, ↓evZ, implies_true, seval, tf_R7_64]
   have h' : c = 2 := by simpa using h
   exact ⟨by rw [if_pos h']; rfl, Drops.refl _⟩
 rw [if_neg (show ¬ c = 2 by simpa using h)]
 simp -implicitDefEqProofs only [evF, ↓evZ, implies_true, seval, tf_R7_64]
 refine zq4 (fun h => ?_) (fun h => ?_)
 · simp -implicitDefEqProofs only [evF, ↓evZ, implies_true, seval, tf_R7_64]
   have h' : c = 3 := by simpa using h
   exact ⟨by rw [if_pos h']; rfl, Drops.refl _⟩
 rw [if_neg (show ¬ c = 3 by simpa using h)]
 simp -implicitDefEqProofs only [evF, ↓evZ, implies_true, seval, tf_R7_64]
 refine zq4 (fun h => ?_) (fun h => ?_)
 · simp -implicitDefEqProofs only [evF, ↓evZ, implies_true, seval, tf_R7_64]
   have h' : c = 4 := by simpa using h
   exact ⟨by rw [if_pos h']; rfl, Drops.refl _⟩
 rw [if_neg (show ¬ c = 4 by simpa using h)]
 simp -implicitDefEqProofs only [evF, ↓evZ, implies_true, seval, tf_R7_64]
 exact ⟨rfl, Drops.refl _⟩
def StepR (x : RO) (r : AV) : Prop := match x with
 | .go s => r = .tup [rsAv s, .int .i64 (-1)]
 | .fail => ∃ l1 l2 l3, r = .tup [.agg [.slice l1, .slice l2, .slice l3], .int .i64 (-2)]
 | .stop e => 0 ≤ e ∧ ∃ l1 l2 l3, r = .tup [.agg [.slice l1, .slice l2, .slice l3], .int .i64 e]
abbrev tf_R7_42 := zi tI_2 (zi zI_2 (zi underlying2 (zi tI_3 (zi zI_3 (zi underlying3 (zi tI_4 (zi zI_4 (zi underlying4 (zi tI_9 (zi zI_9 (zi underlying9 (zi tI_28 (zi zI_28 (zi eI_28 (zi eB_28 (zi eZ_28 (zi underlying28 (zi tI_29 (zi zI_29 (zi eI_29 (zi eB_29 (zi eZ_29 (zi underlying29 (zi tI_56 (zi zI_56 (zi fI_56_0 (zi fI_56_1 (zi fI_56_2 (zi fI_56_3 (zi bI_56 (zi tI_66 (zi zI_66 (zi eI_66 (zi eB_66 (zi eZ_66 (zi underlying66 (zi tI_68 (zi zI_68 (zi eI_68 (zi eB_68 (zi eZ_68 (zi underlying68 (zi tI_69 (zi zI_69 (zi eI_69 (zi eB_69 (zi eZ_69 (zi underlying69 (zi tI_71 (zi zI_71 (zi fI_71_0 (zi fI_71_1 (zi fI_71_2 (zi bI_71 (zi tI_96 (zi zI_96 (zi fI_96_0 (zi fI_96_1 (zi bI_96 (zi tI_102 (zi zI_102 (zi fI_102_0 (zi fI_102_1 (zi fI_102_2 (zi fI_102_3 bI_102)))))))))))))))))))))))))))))))))))))))))))))))))))))))))))))))))
theorem c_l6Step {p : List Cl} (hp : ∀ c ∈ p, ClX c ∧ c.2.length ≤ 6) (hpl : p.length ≤ 1048576) {B : Nat} (hB : B + 26 ≤ 524288) (goals : List RG) (σ : Sub) (N : Nat) (chs : List RC) (g : RG) (rest : List RG) (hgs : goals = g :: rest) (h : RsOk p B ⟨goals, σ, N, chs⟩) (hK : RsK ⟨goals, σ, N, chs⟩) (st : zy7) :
 zq7 prog 42 [.slice (p.map clAv), .agg [.slice (goals.map rgAv), .slice (arrN N σ), .slice (chs.map rcAv)]] st (fun r st' => st' = st ∧ StepR (rStep p (fun _ l => l) ⟨goals, σ, N, chs⟩ g rest) r) := by
 subst hgs
 obtain ⟨hg, ho, hd, hgo, h0, hN, hgl, hcl, hch⟩ := h
 simp only at hg ho hd hgo h0 hN hgl hcl hch
 obtain ⟨hgx, hg3⟩ := hgo g (by simp)
 have hrest : ∀ x ∈ rest, OkX N x.t ∧ x.t.k = 3 := fun x hx => hgo x (by simp [hx])
 have hkp := hK.goals.2 g (by simp)
 simp only at hkp
 have hsm := c_l6Small hg ho g.t hgx
 have hyk : (g.t.mapv (rs σ)).k = 3 := by rw [Tm.mapv_k _ (by omega)]; exact hg3
 have hfo := fit_ok hg ho hgx
 generalize hR : rStep p (fun _ l => l) ⟨g :: rest, σ, N, chs⟩ g rest = R
 unfold rStep at hR
 dsimp only at hR
 obtain ⟨⟨gk, gn, gs', gts⟩, keep⟩ := g
 simp only at hgx hg3 hkp hsm hyk hfo
 dsimp only at hR
 generalize (Tm.mk gk gn gs' gts).mapv (rs σ) = y at *
 obtain ⟨yk, yn, ys, yts⟩ := y
 obtain rfl : yk = 3 := hyk
 have hat : aIndexAddr prog 68 (.slice ((⟨.mk gk gn gs' gts, keep⟩ :: rest).map rgAv)) (.int .i64 0) = some (.pptr (rgAv ⟨.mk gk gn gs' gts, keep⟩)) := ev_at (av := rgAv) (l := ⟨.mk gk gn gs' gts, keep⟩ :: rest) (i := 0) eI_68 rfl (rgAv_width _)
 have hs1 := fun (φ : AF) (y : Operand) (h : φ.eval y = .int .i64 1) => slice_lo1 (e := rgAv ⟨.mk gk gn gs' gts, keep⟩) (es := rest.map rgAv) eI_68 h (by intro e he; simp only [List.mem_map] at he; obtain ⟨t, _, rfl⟩ := he; exact rgAv_width t)
 rw [List.map_cons, rgAv_mk] at hat
 rw [rgAv_mk] at hs1
 rw [List.map_cons, rgAv_mk]
 simp only [Tm.av_mk] at hsm
 refine zq7.fin (zq7.dropS ?_)
 refine wF [1000000] 2 func42 ntmps42 rfl rfl ?_
 intro _
 simp -implicitDefEqProofs only [zy4, List.length_map, List.length_cons, hat, hs1, evF, ↓evZ, implies_true, seval, tf_R7_42]
 intro b4 h4
 refine (hsm _).mono ?_
 rintro _ _ ⟨rfl, x, rfl, hx⟩
 generalize hfit : fitT (.mk 3 yn ys yts) = fit at *
 have fin0 : ∀ (o : AO) (r : AV) (x : RO), StepR x (r.fin 0 []) → ∃ s2, Drops (st.upd b4 o) s2 ∧ ∃ b l s0, s2 = accS s0 b l ∧ (l ≠ [] → s0 b = none) ∧ (∀ e ∈ l, e.isJunk = false) ∧ Even l ∧ s0 = st ∧ StepR x (r.fin b l) := fun o r x hr =>
  ⟨st, (Drops.refl _).upd h4, 0, [], st, rfl, by simp, by simp, ⟨0, by simp⟩, rfl, hr⟩
 simp -implicitDefEqProofs only [zy4, List.length_map, List.length_cons, hat, hs1, Tm.av_agg, Tm.av_width, Tm.av_store, Tm.av_junk, Tm.av_cells, take_all (Tm.av_cells x), agg_cells (Tm.av_agg x), Nat.le_refl, evF, ↓evZ, implies_true, seval, tf_R7_42]
 refine zq4 (fun h => ?_) (fun h => ?_)
 · have h' : fit = false := by simpa using h
   subst h'
   rw [if_pos rfl] at hR
   subst hR
   simp -implicitDefEqProofs only [zy4, List.length_map, List.length_cons, hat, hs1, Tm.av_agg, Tm.av_width, Tm.av_store, Tm.av_junk, Tm.av_cells, take_all (Tm.av_cells x), agg_cells (Tm.av_agg x), Nat.le_refl, evF, ↓evZ, implies_true, seval, tf_R7_42]
   exact fin0 _ _ _ ⟨by decide, _, _, _, by simp only [fin_agg, fin_tup, fin_int, fin_bool, fin_str, fin_slice, fin_fslice, fin_pptr, fin_ptr, fin_func, fin_map, fin_undef, fin_accV, tm_fin, List.map_cons, List.map_nil]; rfl⟩
 obtain rfl : fit = true := by simpa using h
 obtain rfl := hx rfl
 simp only [Tm.av_mk]
 have hyo := hfo rfl
 rw [if_neg (by simp)] at hR
 have hcut : ∀ st, zq7 prog 56 [.agg [.int .i64 3, .int .i64 yn, .str ys, .slice (yts.map Tm.av)]] st (fun r st' => r = .bool (cutT (.mk 3 yn ys yts)) ∧ st' = st) := fun st => by
  have := c_l4Cut 3 yn ys yts st
  rw [Tm.av_mk] at this
  exact this
 have hbi := fun st => c_spec_IsBuiltin ys (yts.length : Int) st
 have hfor := fun st => c_l4For p (.mk 3 yn ys yts) hpl st
 have hsolve := fun hb => cN_l5Solve2 (N := N) h0 (by omega) hg ho yn ys yts hb (okX_kids N (.mk 3 yn ys yts) (by show (3 : Int) ≠ 1; decide) hyo)
 have htr := c_l6Try p hp
 simp only [Tm.av_mk] at hfor hsolve
 replace hR : (if cutT (.mk 3 yn ys yts) = true then RO.go ⟨rest, σ, N, chs.take keep⟩ else if isBuiltin ys (yts.length : Int) = true then (if (solveG σ ys yts).1 = 0 then RO.go ⟨rest, (solveG σ ys yts).2.1, N, chs⟩ else if (solveG σ ys yts).1 = 1 then RO.fail else RO.stop (endC (solveG σ ys yts).1)) else if forL p (.mk 3 yn ys yts) = [] then RO.stop 8 else match rTry p chs (.mk 3 yn ys yts) rest σ N (forL p (.mk 3 yn ys yts)) with | some s' => RO.go s' | none => RO.fail) = R := hR
 generalize hcu : cutT (.mk 3 yn ys yts) = cu at *
 have hs2 := fun (φ : AF) (d : Nat) (h : φ d = .int .i64 (keep : Int)) => slice_hiL (es := chs.map rcAv) (k := keep) eI_69 h (by simpa using hkp)
 rw [← List.map_take] at hs2
 refine (hcut _).to ?_
 simp -implicitDefEqProofs only [zy4, List.length_map, List.length_cons, hat, hs1, hs2, Nat.le_refl, evF, ↓evZ, implies_true, seval, tf_R7_42]
 refine zq4 (fun h => ?_) (fun h => ?_)
 · rw [if_pos h] at hR
   subst h hR
   simp -implicitDefEqProofs only [zy4, List.length_map, List.length_cons, hat, hs1, hs2, Nat.le_refl, evF, ↓evZ, implies_true, seval, tf_R7_42]
   refine wP [(0, 1), (1, 1), (3, 1), (5, 1), (2, 2), (4, 2), (6, 2), (7, 1), (8, 1), (9, 0), (10, 1)] [0, 1, 3, 5, 2, 4, 6, 7, 8, 10] mixed ?_
   simp -implicitDefEqProofs only [zy4, List.length_map, List.length_cons, hat, hs1, hs2, Nat.le_refl, evF, ↓evZ, implies_true, seval, tf_R7_42]
   exact fin0 _ _ _ (by simp only [fin_agg, fin_tup, fin_int, fin_bool, fin_str, fin_slice, fin_fslice, fin_pptr, fin_ptr, fin_func, fin_map, fin_undef, fin_accV, tm_fin, List.map_cons, List.map_nil]; rfl)
 rw [if_neg (by rw [h]; simp)] at hR
 subst h
 simp -implicitDefEqProofs only [zy4, List.length_map, List.length_cons, hat, hs1, hs2, Nat.le_refl, evF, ↓evZ, implies_true, seval, tf_R7_42]
 refine (hbi _).to ?_
 simp -implicitDefEqProofs only [zy4, List.length_map, List.length_cons, hat, hs1, hs2, Nat.le_refl, evF, ↓evZ, implies_true, seval, tf_R7_42]
 refine zq4 (fun h => ?_) (fun h => ?_)
 · have hsol := hsolve h
   rw [if_pos h] at hR
   simp -implicitDefEqProofs only [zy4, List.length_map, List.length_cons, hat, hs1, hs2, Nat.le_refl, evF, ↓evZ, implies_true, seval, tf_R7_42]
   refine app_arrN h0 (by omega) σ fun b hb hA0 => ?_
   have hst := Drops.upd (Drops.refl st) (o := .cells [.fslice [], .fslice [], .fslice []]) h4
   generalize hW : st.upd b4 (.cells [.fslice [], .fslice [], .fslice []]) = W at *
   have hW4 : W b4 = some (.cells [.fslice [], .fslice [], .fslice []]) := by rw [← hW]; exact zy7.upd_same _ _ _
   have hT : Drops (W.upd b (.cells ((arrN N σ).flatMap AV.cells))) W := (Drops.refl _).upd hb
   generalize W.upd b (.cells ((arrN N σ).flatMap AV.cells)) = T at *
   have hb4 : b ≠ b4 := by rintro rfl; rw [hW4] at hb; cases hb
   simp -implicitDefEqProofs only [zy4, List.length_map, List.length_cons, hat, hs1, hs2, Nat.le_refl, evF, ↓evZ, implies_true, seval, tf_R7_42]
   refine (hsol b _ hA0).mono ?_
   rintro _ s2 ⟨rfl, hA, hk2⟩
   have hcode := solveG_code σ ys yts
   generalize solveG σ ys yts = S at *
   obtain ⟨c, σ', tr⟩ := S
   simp only at hA hcode ⊢
   dsimp only at hR
   have hDs : Drops s2 W := by
    intro q
    have key : ∀ o, W q = some o → s2 q = some o := fun o h => hk2 q o ((hT q).2 o h) (by rintro rfl; rw [hb] at h; cases h)
    refine ⟨fun h => ?_, key⟩
    cases hq : W q with
    | none => rfl
    | some o => rw [key o hq] at h; cases h
   have hs24 := (hDs b4).2 _ hW4
   have hstb : st b = none := by rw [← hW, zy7.upd_ne _ _ hb4] at hb; exact hb
   have fin2 : ∀ (o : AO) (r : AV) (x : RO), StepR x (r.fin 0 []) → ∃ s3, Drops (s2.upd b4 o) s3 ∧ ∃ b l s0, s3 = accS s0 b l ∧ (l ≠ [] → s0 b = none) ∧ (∀ e ∈ l, e.isJunk = false) ∧ Even l ∧ s0 = st ∧ StepR x (r.fin b l) := fun o r x hr =>
    ⟨st, (hDs.trans hst).upd h4, 0, [], st, rfl, by simp, by simp, ⟨0, by simp⟩, rfl, hr⟩
   simp -implicitDefEqProofs only [zy4, List.length_map, List.length_cons, hat, hs1, hs2, Nat.le_refl, hs24, evF, ↓evZ, implies_true, seval, tf_R7_42]
   refine zq4 (fun h => ?_) (fun h => ?_)
   · have hc0 : c = 0 := by simpa using h
     subst hc0
     rw [if_pos rfl] at hR
     subst hR
     simp -implicitDefEqProofs only [zy4, List.length_map, List.length_cons, hat, hs1, hs2, Nat.le_refl, hs24, evF, ↓evZ, implies_true, seval, tf_R7_42]
     have harr : arrN N σ' ≠ [] := by intro e; have := arrN_len N σ'; rw [e] at this; simp at this; omega
     refine ⟨st.upd b (.cells ((arrN N σ').flatMap AV.cells)), fun q => ?_, b, arrN N σ', st, by rw [accS_cons harr], fun _ => hstb, arrN_junk _ _, ⟨4, arrN_widths _ _⟩, rfl, ?_⟩
     · by_cases q4 : q = b4
       · subst q4; rw [zy7.upd_same, zy7.upd_ne _ _ (Ne.symm hb4), h4]; simp
       rw [zy7.upd_ne _ _ q4]
       by_cases qb : q = b
       · subst qb; rw [zy7.upd_same, show s2 q = _ from hA]; simp
       rw [zy7.upd_ne _ _ qb]
       exact (hDs.trans hst) q
     · simp only [fin_agg, fin_tup, fin_int, fin_bool, fin_str, fin_slice, fin_fslice, fin_pptr, fin_ptr, fin_func, fin_map, fin_undef, fin_accV, tm_fin, List.map_cons, List.map_nil, fin_arrN h0]
       rfl
   have hc0 : c ≠ 0 := by simpa using h
   rw [if_neg hc0] at hR
   simp -implicitDefEqProofs only [zy4, List.length_map, List.length_cons, hat, hs1, hs2, Nat.le_refl, hs24, evF, ↓evZ, implies_true, seval, tf_R7_42]
   refine zq4 (fun h => ?_) (fun h => ?_)
   · have hc1 : c = 1 := by simpa using h
     subst hc1
     rw [if_pos rfl] at hR
     subst hR
     simp -implicitDefEqProofs only [zy4, List.length_map, List.length_cons, hat, hs1, hs2, Nat.le_refl, hs24, evF, ↓evZ, implies_true, seval, tf_R7_42]
     exact fin2 _ _ _ ⟨_, _, _, by simp only [fin_agg, fin_tup, fin_int, fin_bool, fin_str, fin_slice, fin_fslice, fin_pptr, fin_ptr, fin_func, fin_map, fin_undef, fin_accV, tm_fin, List.map_cons, List.map_nil]; rfl⟩
   have hc1 : c ≠ 1 := by simpa using h
   rw [if_neg hc1] at hR
   subst hR
   have hend : 0 ≤ endC c := by unfold endC; split; omega; split; omega; split; omega; omega
   simp -implicitDefEqProofs only [zy4, List.length_map, List.length_cons, hat, hs1, hs2, Nat.le_refl, hs24, evF, ↓evZ, implies_true, seval, tf_R7_42]
   refine wP [(1, 1), (0, 2), (2, 2), (3, 0), (4, 1)] [1, 0, 2, 4] mixed ?_
   simp -implicitDefEqProofs only [zy4, List.length_map, List.length_cons, hat, hs1, hs2, Nat.le_refl, hs24, evF, ↓evZ, implies_true, seval, tf_R7_42]
   refine zw4 (c_l6End c _) ?_
   simp -implicitDefEqProofs only [zy4, List.length_map, List.length_cons, hat, hs1, hs2, Nat.le_refl, hs24, evF, ↓evZ, implies_true, seval, tf_R7_42]
   exact fin2 _ _ _ ⟨hend, _, _, _, by simp only [fin_agg, fin_tup, fin_int, fin_bool, fin_str, fin_slice, fin_fslice, fin_pptr, fin_ptr, fin_func, fin_map, fin_undef, fin_accV, tm_fin, List.map_cons, List.map_nil]; rfl⟩
 rw [if_neg (by rw [h]; simp)] at hR
 simp -implicitDefEqProofs only [zy4, List.length_map, List.length_cons, hat, hs1, hs2, Nat.le_refl, evF, ↓evZ, implies_true, seval, tf_R7_42]
 refine (hfor _).to ?_
 have hcx : RcOk p ⟨.mk 3 yn ys yts, rest, forL p (.mk 3 yn ys yts), σ, N⟩ := ⟨hg, ho, hd, hyo, hrest, fun i hi => by
  unfold forL at hi
  exact List.mem_range.1 (List.mem_filter.1 hi).1, by simp only; simp only [List.length_cons] at hgl; omega, by
  have := forT_len p (.mk 3 yn ys yts) p.length
  rw [← forL_eq] at this
  simp only; omega⟩
 have htr2 := fun st => htr (⟨.mk gk gn gs' gts, keep⟩ :: rest) (arrN N σ) chs _ hcx h0 (by simp only; omega) (by omega) st
 rw [List.map_cons, rgAv_mk, rcAv_mk] at htr2
 simp only at htr2
 generalize forL p (.mk 3 yn ys yts) = left at *
 simp -implicitDefEqProofs only [zy4, List.length_map, List.length_cons, hat, hs1, hs2, Nat.le_refl, evF, ↓evZ, implies_true, seval, tf_R7_42]
 refine zq4 (fun h => ?_) (fun h => ?_)
 · have h' : left = [] := by
    have : (left.length : Int) = 0 := by simpa using h
    exact List.eq_nil_of_length_eq_zero (by omega)
   rw [if_pos h'] at hR
   subst hR
   simp -implicitDefEqProofs only [zy4, List.length_map, List.length_cons, hat, hs1, hs2, Nat.le_refl, evF, ↓evZ, implies_true, seval, tf_R7_42]
   exact fin0 _ _ _ ⟨by decide, _, _, _, by simp only [fin_agg, fin_tup, fin_int, fin_bool, fin_str, fin_slice, fin_fslice, fin_pptr, fin_ptr, fin_func, fin_map, fin_undef, fin_accV, tm_fin, List.map_cons, List.map_nil]; rfl⟩
 have h' : left ≠ [] := by
  rintro rfl
  simp at h
 rw [if_neg h'] at hR
 generalize rTry p chs (.mk 3 yn ys yts) rest σ N left = x at *
 simp -implicitDefEqProofs only [zy4, List.length_map, List.length_cons, hat, hs1, hs2, Nat.le_refl, evF, ↓evZ, implies_true, seval, tf_R7_42]
 cases x with
 | none =>
  simp only at hR htr2
  subst hR
  refine (htr2 _).mono ?_
  rintro _ _ ⟨rfl, rfl⟩
  simp -implicitDefEqProofs only [zy4, List.length_map, List.length_cons, hat, hs1, hs2, Nat.le_refl, evF, ↓evZ, implies_true, seval, tf_R7_42]
  exact fin0 _ _ _ ⟨_, _, _, by simp only [fin_agg, fin_tup, fin_int, fin_bool, fin_str, fin_slice, fin_fslice, fin_pptr, fin_ptr, fin_func, fin_map, fin_undef, fin_accV, tm_fin, List.map_cons, List.map_nil]; rfl⟩
 | some s =>
  simp only [rsAv] at hR htr2
  subst hR
  refine (htr2 _).mono ?_
  rintro _ _ ⟨rfl, rfl⟩
  simp -implicitDefEqProofs only [zy4, List.length_map, List.length_cons, hat, hs1, hs2, Nat.le_refl, evF, ↓evZ, implies_true, seval, tf_R7_42]
  exact fin0 _ _ _ (by simp only [fin_agg, fin_tup, fin_int, fin_bool, fin_str, fin_slice, fin_fslice, fin_pptr, fin_ptr, fin_func, fin_map, fin_undef, fin_accV, tm_fin, List.map_cons, List.map_nil]; rfl)
end Go.AW
