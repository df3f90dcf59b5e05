import Derived.Test.YtpficjlageaebaaGreatDoorSfam
import Derived.Test.YtpficjlageaebaaGreatDoorSfal
import Derived.Test.YtpficjlageaebaaGreatDoorSfaf
import Derived.Test.YtpficjlageaebaaGreatDoorSfai
import Derived.Test.YtpficjlageaebaaGreatDoorSfak
set_option linter.unusedSimpArgs false
set_option linter.unusedVariables false
set_option maxRecDepth 100000
namespace Go.AW
open Go.Proofs.Tryz
theorem LJ {p : List Cl} (hp : ∀ c ∈ p, gJ c ∧ c.2.length ≤ 6) {B : Nat} (hB : B ≤ 524288) {cs : List RC} {goal : Tm} {rest : List RG} {σ : Sub} {N : Nat} (hg : cL σ) (ho : cP (bD N) σ) (hd : ∀ n, ¬(0 ≤ n ∧ n < (N : Int)) → σ n = none)
 (hgo : bD N goal) (hr : ∀ g ∈ rest, bD N g.t ∧ g.t.k = 3) (h0 : 0 < N) (hN : N + 26 ≤ B) (hrl : rest.length + 26 ≤ B) (hcl : cs.length + 1 ≤ B) (hcs : ∀ c ∈ cs, wJ p c ∧ c.N + 26 ≤ B ∧ c.rest.length + 26 ≤ B ∧ 0 < c.N) :
 ∀ (left : List Nat), (∀ i ∈ left, i < p.length) → left.length ≤ 1048576 → ∀ s, iF p cs goal rest σ N left = some s → pK p B s
 | [], _, _, s, h => by simp [iF] at h
 | i :: l, hle, hll, s, h => by
  have hil := hle i (by simp)
  obtain ⟨x, hx⟩ : ∃ x, p[i]? = some x := ⟨_, fH hil⟩
  obtain ⟨hX, h6⟩ := hp x (cW hx)
  have hl' : ∀ j ∈ l, j < p.length := fun j hj => hle j (by simp [hj])
  rw [iF.eq_def] at h
  simp only [hx] at h
  split at h
  case isFalse => exact LJ hp hB hg ho hd hgo hr h0 hN hrl hcl hcs l hl' (by simp at hll; omega) s h
  cases h
  have hfr := hX.fr.1
  have hsh := hX.dC N
  obtain ⟨r, σ', tr, U⟩ := rD (N := N + nK x) hg (ho.upN (by omega)) (hgo.mono (by omega)) (hsh x.1 (by simp))
  rw [U.eq]
  have S := U.uI
  refine ⟨S.gK, S.ok, fun n hn => ?_, ?_, by simp only; omega, by simp only; omega, ?_, ?_, ?_⟩
  · simp only at hn ⊢
    rw [S.a8 n (fun h => hn (S.fO n h))]
    exact hd n (fun h => hn (by omega))
  · intro g hg'
    simp only [fS, cU] at hg'
    rcases hg' with ⟨t, ht, rfl⟩ | hg'
    · exact ⟨hsh t (List.mem_cons_of_mem _ ht), by rw [TD]; exact (hX.body t ht).2⟩
    · exact ⟨(hr g hg').1.mono (by simp only; omega), (hr g hg').2⟩
  · simp only [dQ, aF]; omega
  · simp only
    split
    · omega
    · simp only [dQ, aS, a7]; omega
  · simp only
    split
    · exact hcs
    · intro c hc
      rcases fS.1 hc with hc | hc
      · exact hcs c hc
      · simp only [cY, dP, d4] at hc
        subst hc
        exact ⟨⟨hg, ho, hd, hgo, hr, hl', by simp only; omega, by simp only; simp at hll; omega⟩, hN, hrl, h0⟩
theorem aZK (p : List Cl) (chs : List RC) : f0 p chs.length chs = match chs.getLast? with
 | none => none
 | some c => match iF p chs.dropLast c.goal c.rest c.σ c.N c.left with
  | some s => some s
  | none => f0 p chs.dropLast.length chs.dropLast := by
 cases chs with
 | nil => rfl
 | cons c l =>
  rw [aS, f0]
  have : (c :: l).dropLast.length = l.length := by simp
  rw [this]
  try rfl
theorem aKI {p : List Cl} (hp : ∀ c ∈ p, gJ c ∧ c.2.length ≤ 6) {B : Nat} (hB : B ≤ 524288) : ∀ (n : Nat) (chs : List RC), chs.length ≤ B → (∀ c ∈ chs, wJ p c ∧ c.N + 26 ≤ B ∧ c.rest.length + 26 ≤ B ∧ 0 < c.N) → ∀ s, f0 p n chs = some s → pK p B s
 | 0, _, _, _, s, h => by simp [f0] at h
 | n + 1, chs, hl, hc, s, h => by
  rw [f0] at h
  split at h
  · cases h
  · rename_i c tD
    have hm := RK tD
    have hne : chs ≠ [] := by rintro rfl; simp at hm
    have hdl : chs.dropLast.length + 1 = chs.length := by
     have := List.length_pos_iff.2 hne
     simp; omega
    have hcd : ∀ c ∈ chs.dropLast, wJ p c ∧ c.N + 26 ≤ B ∧ c.rest.length + 26 ≤ B ∧ 0 < c.N := fun c h => hc c (RL _ h)
    obtain ⟨k, h1, h2, h3⟩ := hc c hm
    split at h
    · rename_i s' hs
      cases h
      exact LJ hp hB k.gK k.ok k.uG k.goal k.rest h3 h1 h2 (by omega) hcd c.left k.left k.aS2 s hs
    · exact aKI hp hB n _ (by omega) hcd s h
theorem pK.up {p : List Cl} {B C : Nat} {s : RS} (h : pK p B s) (hC : B ≤ C) : pK p C s :=
 ⟨h.gK, h.ok, h.uG, h.goals, h.pos, by have := h.hN; omega, by have := h.gl; omega, by have := h.pG; omega, fun c hc => by
  obtain ⟨h1, h2, h3, h4⟩ := h.chs c hc
  exact ⟨h1, by omega, by omega, h4⟩⟩
theorem pK.back {p : List Cl} (hp : ∀ c ∈ p, gJ c ∧ c.2.length ≤ 6) {B : Nat} (hB : B ≤ 524288) {s s' : RS} (h : pK p B s) (e : f0 p s.chs.length s.chs = some s') : pK p B s' :=
 aKI hp hB _ _ h.pG h.chs s' e
theorem G8 {N : Nat} {σ : Sub} (hg : cL σ) (ho : cP (bD N) σ) {t : Tm} (ht : bD N t) (hf : eH (t.aJ (rs σ)) = true) : bD N (t.aJ (rs σ)) := by
 obtain ⟨rk, B, G⟩ := hg.rs
 unfold eH at hf
 simp only [cM, bJ] at hf
 exact ⟨ht.1.aJ fun v hv => G.k8 ho.k8 v (ht.1.2.2 v hv).1 (ht.1.2.2 v hv).2, hf.2⟩
theorem pK.step {p : List Cl} (hp : ∀ c ∈ p, gJ c ∧ c.2.length ≤ 6) (hpl : p.length ≤ 1048576) {B : Nat} (hB : B + 26 ≤ 524288) {cnd : Tm → List Nat → List Nat} (hc : ∀ t l, (∀ i ∈ cnd t l, i ∈ l) ∧ (cnd t l).length ≤ l.length) {s s' : RS} {g : RG} {rest : List RG} (hgs : s.goals = g :: rest) (h : pK p B s)
 (e : iY p cnd s g rest = .go s') : pK p (B + 26) s' := by
 have hgm : g ∈ s.goals := by rw [hgs]; simp
 have hrm : ∀ x ∈ rest, x ∈ s.goals := fun x hx => by rw [hgs]; simp [hx]
 have hgl := h.gl
 rw [hgs, aS] at hgl
 have hU := h.up (C := B + 26) (by omega)
 unfold iY at e
 split at e
 · cases e
 rename_i fY
 have PS : eH (g.t.aJ (rs s.σ)) = true := by simpa using fY
 have hok := G8 h.gK h.ok (h.goals g hgm).1 PS
 generalize g.t.aJ (rs s.σ) = t at *
 split at e
 · cases e
   exact ⟨hU.gK, hU.ok, hU.uG, fun x hx => hU.goals x (hrm x hx), hU.pos, hU.hN, by simp only; omega, by simp only [d7]; have := hU.pG; omega, fun c hc => hU.chs c (lY hc)⟩
 split at e
 · split at e
   · cases e
     have S := J7 h.gK h.ok t.s t.ts fun x hx => by
      obtain ⟨k, n, s', ts⟩ := t
      by_cases hk : k = 1
      · obtain ⟨_, _, _, h2⟩ := (show cE s.N (.mk 1 n s' ts) from hk ▸ hok.1).var
        simp only [Tm.ts] at hx
        rw [h2] at hx; cases hx
      · exact qL _ (.mk k n s' ts) hk hok x hx
     exact ⟨S.gK, S.ok, fun n hn => by simp only at hn ⊢; rw [S.a8 n (fun h => hn (S.fO n h))]; exact hU.uG n hn, fun x hx => hU.goals x (hrm x hx), hU.pos, hU.hN, by simp only; omega, hU.pG, hU.chs⟩
   · split at e <;> cases e
 split at e
 · cases e
 split at e
 case h_2 => cases e
 rename_i s2 hs
 cases e
 obtain ⟨c1, c2⟩ := hc t (fE p t)
 have hfl : (fE p t).length ≤ p.length := by rw [K2]; exact IU p t p.length
 refine LJ hp (by omega) h.gK h.ok h.uG hok (fun x hx => h.goals x (hrm x hx)) h.pos (by have := h.hN; omega) (by omega) (by have := h.pG; omega) hU.chs _ (fun i hi => ?_) (by omega) s' hs
 have := c1 i hi
 unfold fE at this
 have := (List.mem_filter.1 this).1
 exact xR.1 this
def m8 (n : Nat) (l : List RG) : Prop := l.Pairwise (fun a b => b.a8 ≤ a.a8) ∧ ∀ g ∈ l, g.a8 ≤ n
theorem m8.up {n m : Nat} {l : List RG} (h : m8 n l) (hm : n ≤ m) : m8 m l := ⟨h.1, fun g hg => nF (h.2 g hg) hm⟩
theorem m8.tail {n : Nat} {g : RG} {l : List RG} (h : m8 n (g :: l)) : m8 n l ∧ m8 g.a8 l := by
 obtain ⟨h1, h2⟩ := h
 rw [List.pairwise_cons] at h1
 exact ⟨⟨h1.2, fun x hx => h2 x (by simp [hx])⟩, h1.2, h1.1⟩
theorem m8.body {n : Nat} {l : List RG} (h : m8 n l) (f : Tm → Tm) (bd : List Tm) : m8 n (bd.map (fun t => (⟨f t, n⟩ : RG)) ++ l) := by
 refine ⟨List.pairwise_append.2 ⟨?_, h.1, fun a ha b hb => ?_⟩, fun g hg => ?_⟩
 · rw [List.pairwise_map]
   exact List.pairwise_of_forall fun _ _ => c7 _
 · obtain ⟨t, _, rfl⟩ := cU.1 ha
   exact h.2 b hb
 · rcases fS.1 hg with hg | hg
   · obtain ⟨t, _, rfl⟩ := cU.1 hg
     exact c7 _
   · exact h.2 g hg
structure y9 (s : RS) : Prop where
 goals : m8 s.chs.length s.goals
 chs : ∀ i c, s.chs[i]? = some c → m8 i c.rest
theorem L8 {p : List Cl} {cs : List RC} {goal : Tm} {rest : List RG} {σ : Sub} {N : Nat} (hr : m8 cs.length rest) (hc : ∀ i c, cs[i]? = some c → m8 i c.rest) :
 ∀ (left : List Nat) s, iF p cs goal rest σ N left = some s → y9 s
 | [], s, h => by simp [iF] at h
 | i :: l, s, h => by
  rw [iF.eq_def] at h
  simp only at h
  split at h
  · cases h
  rename_i x hx
  split at h
  case isFalse => exact L8 hr hc l s h
  cases h
  have hb := hr.body (dC N) x.2
  refine ⟨?_, ?_⟩
  · simp only
    split
    · exact hb
    · exact hb.up (by simp)
  · simp only
    intro j c hj
    split at hj
    · exact hc j c hj
    · rw [List.getElem?_append] at hj
      split at hj
      · exact hc j c hj
      · rename_i hlt
        have hj0 : j - cs.length = 0 := by
         have := (gS.1 hj).1
         simp at this; omega
        rw [hj0] at hj
        simp only [RD, Option.some.injEq] at hj
        subst hj
        exact hr.up (by omega)
theorem aBP {p : List Cl} : ∀ (n : Nat) (chs : List RC), (∀ i c, chs[i]? = some c → m8 i c.rest) → ∀ s, f0 p n chs = some s → y9 s
 | 0, _, _, s, h => by simp [f0] at h
 | n + 1, chs, hc, s, h => by
  rw [f0] at h
  split at h
  · cases h
  · rename_i c tD
    have hd : ∀ i c, chs.dropLast[i]? = some c → m8 i c.rest := fun i c hi => hc i c (by
     rw [List.dropLast_eq_take, List.getElem?_take] at hi
     split at hi
     · exact hi
     · cases hi)
    rw [aMA] at tD
    have hk := hc _ _ tD
    split at h
    · rename_i s' hs
      cases h
      exact L8 (by rw [List.length_dropLast]; exact hk) hd _ s hs
    · exact aBP n _ hd s h
theorem y9.step {p : List Cl} {cnd : Tm → List Nat → List Nat} {s s' : RS} {g : RG} {rest : List RG} (hgs : s.goals = g :: rest) (h : y9 s) (e : iY p cnd s g rest = .go s') : y9 s' := by
 have hg := h.goals
 rw [hgs] at hg
 obtain ⟨h1, h2⟩ := hg.tail
 have h3 := hg.2 g (by simp)
 unfold iY at e
 split at e
 · cases e
 split at e
 · cases e
   refine ⟨?_, fun i c hi => ?_⟩
   · simp only [d7]
     exact h2.up (by omega)
   · simp only [List.getElem?_take] at hi
     split at hi
     · exact h.chs i c hi
     · cases hi
 split at e
 · split at e
   · cases e
     exact ⟨h1, h.chs⟩
   · split at e <;> cases e
 split at e
 · cases e
 split at e
 case h_2 => cases e
 rename_i s2 hs
 cases e
 exact L8 h1 h.chs _ s' hs
def BW (s : RS) : Prop := 26 ≤ s.N ∧ ∀ c ∈ s.chs, 26 ≤ c.N
theorem NU {p : List Cl} {cs : List RC} {goal : Tm} {rest : List RG} {σ : Sub} {N : Nat} (hN : 26 ≤ N) (hc : ∀ c ∈ cs, 26 ≤ c.N) :
 ∀ (left : List Nat) s, iF p cs goal rest σ N left = some s → BW s
 | [], s, h => by simp [iF] at h
 | i :: l, s, h => by
  rw [iF.eq_def] at h
  simp only at h
  split at h
  · cases h
  rename_i x hx
  split at h
  case isFalse => exact NU hN hc l s h
  cases h
  refine ⟨by simp only; omega, ?_⟩
  simp only
  split
  · exact hc
  · intro c h
    rcases fS.1 h with h | h
    · exact hc c h
    · simp only [cY, dP, d4] at h
      subst h; exact hN
theorem XT {p : List Cl} : ∀ (n : Nat) (chs : List RC), (∀ c ∈ chs, 26 ≤ c.N) → ∀ s, f0 p n chs = some s → BW s
 | 0, _, _, s, h => by simp [f0] at h
 | n + 1, chs, hc, s, h => by
  rw [f0] at h
  split at h
  · cases h
  · rename_i c tD
    have hd : ∀ c ∈ chs.dropLast, 26 ≤ c.N := fun c h => hc c (RL _ h)
    split at h
    · rename_i s' hs
      cases h
      exact NU (hc c (RK tD)) hd _ s hs
    · exact XT n _ hd s h
theorem BW.step {p : List Cl} {cnd : Tm → List Nat → List Nat} {s s' : RS} {g : RG} {rest : List RG} (h : BW s) (e : iY p cnd s g rest = .go s') : BW s' := by
 unfold iY at e
 split at e
 · cases e
 split at e
 · cases e
   exact ⟨h.1, fun c hc => h.2 c (lY hc)⟩
 split at e
 · split at e
   · cases e
     exact h
   · split at e <;> cases e
 split at e
 · cases e
 split at e
 case h_2 => cases e
 rename_i s2 hs
 cases e
 exact NU h.1 h.2 _ s' hs
structure lX (p : List Cl) (B : Nat) (s : RS) : Prop where
 a : pK p B s
 k : y9 s
 l : BW s
theorem lX.step {p : List Cl} (hp : ∀ c ∈ p, gJ c ∧ c.2.length ≤ 6) (hpl : p.length ≤ 1048576) {B : Nat} (hB : B + 26 ≤ 524288) {cnd : Tm → List Nat → List Nat} (hc : ∀ t l, (∀ i ∈ cnd t l, i ∈ l) ∧ (cnd t l).length ≤ l.length) {s s' : RS} {g : RG} {rest : List RG} (hgs : s.goals = g :: rest) (h : lX p B s)
 (e : iY p cnd s g rest = .go s') : lX p (B + 26) s' := ⟨h.a.step hp hpl hB hc hgs e, h.k.step hgs e, h.l.step e⟩
theorem lX.back {p : List Cl} (hp : ∀ c ∈ p, gJ c ∧ c.2.length ≤ 6) {B : Nat} (hB : B ≤ 524288) {s s' : RS} (h : lX p B s) (e : f0 p s.chs.length s.chs = some s') : lX p B s' :=
 ⟨h.a.back hp hB e, aBP _ _ h.k.chs s' e, XT _ _ h.l.2 s' e⟩
theorem lX.up {p : List Cl} {B C : Nat} {s : RS} (h : lX p B s) (hC : B ≤ C) : lX p C s := ⟨h.a.up hC, h.k, h.l⟩
theorem lX.start {p : List Cl} {q : List Tm} (hq : ∀ t ∈ q, bD 26 t ∧ t.k = 3) (h6 : q.length ≤ 6) : lX p 26 (lT q) := by
 refine ⟨⟨cL.none, fun n u h => (by cases h), fun n _ => rfl, ?_, (by show 0 < 26; omega), c7 _, ?_, jE _, fun c hc => (by cases hc)⟩, ⟨⟨?_, ?_⟩, fun i c hi => (by cases hi)⟩, ⟨c7 _, fun c hc => (by cases hc)⟩⟩
 · intro g hg
   simp only [lT, cU] at hg
   obtain ⟨t, ht, rfl⟩ := hg
   exact hq t ht
 · simp only [lT, aF]; omega
 · simp only [lT, List.pairwise_map]
   exact List.pairwise_of_forall fun _ _ => c7 _
 · intro g hg
   simp only [lT, cU] at hg
   obtain ⟨t, ht, rfl⟩ := hg
   exact jE _
theorem aCC {φ : AF} {t : TypeId} {ag : Bool} {w d k : Nat} {es : List AV} (hI : eI prog t = some (ag, w)) (h : φ d = .int .i64 (k : Int)) (hk : k ≤ es.length) : iG prog φ t (.slice es) none (some (.tmp d)) none = some (.slice (es.take k)) := by
 have he : φ.eval (.tmp d) = .int .i64 (k : Int) := h
 unfold iG
 rw [aE (by simp [rP])]
 simp only [pM, hI]
 rw [aE (by simp)]
 simp only [dY, he]
 rw [aG (by omega)]
 simp
def G5 (a : AV) : Prop := (∃ l, a = .slice l) ∨ a = .fslice []
theorem G5.facts {a : AV} (h : G5 a) : a.isAgg = false ∧ a.width = 1 ∧ a.cB = false ∧ a.cells = [a] ∧ a.storable = true ∧ ∃ l, a.soft = .slice l := by
 rcases h with ⟨l, rfl⟩ | rfl
 · exact ⟨rfl, rfl, rfl, rfl, rfl, l, rfl⟩
 · exact ⟨rfl, rfl, rfl, rfl, rfl, [], rfl⟩
abbrev sX := zi tI_3 (zi zI_3 (zi aX (zi tI_4 (zi zI_4 (zi cD (zi tI_29 (zi zI_29 (zi gT (zi j0 (zi jZ (zi kM (zi tI_101 (zi zI_101 (zi rG (zi v9 (zi xJ (zi CI (zi tI_103 (zi zI_103 (zi FV (zi FD (zi DX (zi F1 (zi tI_146 (zi zI_146 (zi OS (zi PZ (zi OQ (zi Q5 OR)))))))))))))))))))))))))))))
theorem VH {p : List Cl} (hp : ∀ c ∈ p, gJ c ∧ c.2.length ≤ 6) {B : Nat} (hB : B ≤ 524288) (gs0 : List RG) (σ0 : List AV) (chs : List RC) (hl : chs.length ≤ B) (hc : ∀ c ∈ chs, wJ p c ∧ c.N + 26 ≤ B ∧ c.rest.length + 26 ≤ B ∧ 0 < c.N) (st : aB) :
 aD prog 73 [.slice (p.map bY), .agg [.slice (gs0.map eF), .slice σ0, .slice (chs.map fD)]] st (fun r st' => st' = st ∧ match f0 p chs.length chs with
  | some s => r = .tup [r0 s, .bool true]
  | none => ∃ l1 l2 l3, r = .tup [.agg [.slice l1, .slice l2, .slice l3], .bool false]) := by
 refine aD.lH (aD.soft ?_)
 refine wF [1000000, 3] 2 func73 ntmps73 rfl rfl ?_
 intro _
 simp -implicitDefEqProofs only [aA, seval, sX]
 intro b3 h3 b4 h4
 have hne : b4 ≠ b3 := by rintro rfl; rw [aB.aP] at h4; cases h4
 have MX : st b4 = none := by rw [aB.aM _ _ hne] at h4; exact h4
 rw [aB.nX _ _ _ (dB hne)]
 generalize hW : st.aC b4 (.cells [.fslice [], .fslice [], .fslice []]) = W
 have hW4 : W b4 = some (.cells [.fslice [], .fslice [], .fslice []]) := by rw [← hW]; exact aB.aP _ _ _
 have hW3 : W b3 = none := by rw [← hW, aB.aM _ _ (dB hne)]; exact h3
 have hDW : ∀ o o', aL ((W.aC b3 o).aC b4 o') st := fun o o' q => by
  by_cases q4 : q = b4
  · subst q4; rw [aB.aP, MX]; simp
  rw [aB.aM _ _ q4]
  by_cases q3 : q = b3
  · subst q3; rw [aB.aP, h3]; simp
  rw [aB.aM _ _ q3, ← hW, aB.aM _ _ q4]
  simp
 have a1X : b3 ≠ b4 := dB hne
 refine gZ (σ := List RC × AV × AV) [1000000, 3] [0, 3, 4] (fun s => s.1.length ≤ B ∧ (∀ c ∈ s.1, wJ p c ∧ c.N + 26 ≤ B ∧ c.rest.length + 26 ≤ B ∧ 0 < c.N) ∧ G5 s.2.1 ∧ G5 s.2.2 ∧ f0 p s.1.length s.1 = f0 p chs.length chs) (fun s => [(5, .bool false)]) (fun s => W.aC b3 (.cells [s.2.1, s.2.2, .slice (s.1.map fD)])) (fun s => s.1.length) (by decide +kernel) ⟨(chs, .slice (gs0.map eF), .slice σ0), ⟨hl, hc, .inl ⟨_, rfl⟩, .inl ⟨_, rfl⟩, rfl⟩, aO.mk (by simp -implicitDefEqProofs only [aA, seval])⟩ ?_
 rintro ⟨l, a, b⟩ ⟨hl1, hlc, ha, hb, hinv⟩
 simp only at hl1 hlc ha hb hinv
 obtain ⟨a1, a2, a3, a4, a5, la, a6⟩ := ha.facts
 obtain ⟨b1, b2, b3', b4', b5, lb, b6⟩ := hb.facts
 simp only
 rw [aZK] at hinv
 by_cases yO : l = []
 · subst yO
   simp only [List.getLast?_nil] at hinv
   simp -implicitDefEqProofs only [aB.aP, vA, List.contains, List.elem, qS, g7, sub, ↓reduceIte, reduceCtorEq, Nat.reduceEqDiff, sX]
   refine aQ (fun h => absurd h (by decide)) (fun h => ?_)
   simp -implicitDefEqProofs only [aK, hne, aB.aP, hW4, a5, b5, aA, seval, sX]
   rw [← hinv]
   exact ⟨st, hDW _ _, rfl, la, lb, [], by simp only [kA, kF, rO, p9, bA, aW, a6, b6]⟩
 obtain ⟨c, tD⟩ : ∃ c, l.getLast? = some c := by
  cases h : l.getLast? with
  | none => exact absurd (List.getLast?_eq_none_iff.1 h) yO
  | some c => exact ⟨c, rfl⟩
 have hlp := List.length_pos_iff.2 yO
 have hcm := RK tD
 obtain ⟨aZ8, hcN, hcr, hc0⟩ := hlc c hcm
 rw [tD] at hinv
 simp only at hinv
 have hat := bL (av := fD) (P := prog) (l := l) (i := l.length - 1) (x := c) rG (by rw [← aMA]; exact tD) (JC c)
 rw [show (((l.length - 1 : Nat) : Int)) = (l.length : Int) - 1 by omega] at hat
 have hw := bK (n := (l.length : Int) - 1)
 have hdl : l.dropLast = l.take (l.length - 1) := List.dropLast_eq_take
 have a06 : l.dropLast.length + 1 = l.length := by simp; omega
 have hct := XV p hp [] [] l.dropLast c aZ8 hc0 (by omega) (by omega)
 have hcs := fun (φ : AF) (d : Nat) (h : φ d = .int .i64 ((l.length : Int) - 1)) => aCC (es := l.map fD) (k := l.length - 1) rG (h.trans (by congr 1; omega)) (by simp)
 rw [← List.map_take, ← hdl] at hcs
 generalize hx : iF p l.dropLast c.goal c.rest c.σ c.N c.left = x at hinv hct
 obtain ⟨⟨ck, cn, cs', cts⟩, aDS, VI, cσ, cN⟩ := c
 rw [QS] at hct hat
 simp only [aW] at hct
 simp -implicitDefEqProofs only [aF, aB.aP, aA, seval, sX]
 refine aQ (fun h => ?_) (fun h => absurd hlp (by simpa using h))
 simp -implicitDefEqProofs only [aF, aB.aP, hw, hat, aA, ↓aU, seval, sX]
 cases x with
 | none =>
  have J0 : ∀ st, aD prog 110 [.slice (p.map bY), .agg [.fslice [], .fslice [], .slice (l.dropLast.map fD)], .agg [.int .i64 ck, .int .i64 cn, .str cs', .slice (cts.map Tm.av), .slice (aDS.map eF), .slice (VI.map nv), .slice (cQ cN cσ)]] st (fun r st' => r = .tup [.agg [.slice [], .slice [], .slice (l.dropLast.map fD)], .bool false] ∧ st' = st) := fun st =>
   aD.n7 ((hct st).mono fun _ _ h => ⟨h.2, h.1⟩)
  simp only at hinv
  refine wP [(0, 1), (1, 1), (3, 1), (2, 2), (4, 1), (5, 1), (6, 2), (7, 1), (8, 1), (9, 1), (10, 1), (11, 0), (12, 0), (13, 1)] [0, 1, 3, 2, 4, 5, 6, 7, 8, 9, 10, 13] mixed ?_
  simp -implicitDefEqProofs only [aB.aP, hcs, aA, seval, sX]
  refine MN J0 ?_
  simp -implicitDefEqProofs only [aK, aB.aP, aA, seval, sX]
  intro b8 h8
  have h83 : b8 ≠ b3 := by rintro rfl; rw [aB.aP] at h8; cases h8
  rw [aB.aM _ _ h83] at h8
  have h84 : b8 ≠ b4 := by rintro rfl; rw [hW4] at h8; cases h8
  have hs8 : st b8 = none := by rw [← hW, aB.aM _ _ h84] at h8; exact h8
  have h38 := dB h83
  have h48 := dB h84
  simp -implicitDefEqProofs only [aK, h38, aB.aP, hcs, aA, seval, sX]
  refine ⟨(l.dropLast, .fslice [], .fslice []), by simp only; omega, ⟨by simp only; omega, fun c h => hlc c (RL _ h), .inr rfl, .inr rfl, hinv⟩, aO.drop (fun q => ?_) (by simp -implicitDefEqProofs only [aA, seval])⟩
  by_cases q3 : q = b3
  · subst q3; rw [aB.aP, aB.aP]; simp
  rw [aB.aM _ _ q3, aB.aM _ _ q3]
  by_cases q8 : q = b8
  · subst q8; rw [aB.aP, h8]; simp
  rw [aB.aM _ _ q8, aB.aM _ _ q3]
  simp
 | some s =>
  have J0 : ∀ st, aD prog 110 [.slice (p.map bY), .agg [.fslice [], .fslice [], .slice (l.dropLast.map fD)], .agg [.int .i64 ck, .int .i64 cn, .str cs', .slice (cts.map Tm.av), .slice (aDS.map eF), .slice (VI.map nv), .slice (cQ cN cσ)]] st (fun r st' => r = .tup [r0 s, .bool true] ∧ st' = st) := fun st =>
   aD.n7 ((hct st).mono fun _ _ h => ⟨h.2, h.1⟩)
  simp only at hinv
  simp only [r0] at J0
  refine wP [(0, 1), (1, 1), (3, 1), (2, 2), (4, 1), (5, 1), (6, 2), (7, 1), (8, 1), (9, 1), (10, 1), (11, 0), (12, 0), (13, 1)] [0, 1, 3, 2, 4, 5, 6, 7, 8, 9, 10, 13] mixed ?_
  simp -implicitDefEqProofs only [aB.aP, hcs, aA, seval, sX]
  refine MN J0 ?_
  simp -implicitDefEqProofs only [aK, aB.aP, aA, seval, sX]
  intro b8 h8
  have h83 : b8 ≠ b3 := by rintro rfl; rw [aB.aP] at h8; cases h8
  rw [aB.aM _ _ h83] at h8
  have h84 : b8 ≠ b4 := by rintro rfl; rw [hW4] at h8; cases h8
  have hs8 : st b8 = none := by rw [← hW, aB.aM _ _ h84] at h8; exact h8
  have h38 := dB h83
  have h48 := dB h84
  simp -implicitDefEqProofs only [hne, h48, hW4, aA, seval]
  refine ⟨st, ?_, rfl, ?_⟩
  · have d1 : aL W st := by rw [← hW]; exact (aL.refl _).aC MX
    exact ((d1.aC h3).aC hs8).aC MX
  · rw [← hinv]
    simp only [kA, kF, rO, p9, bA, aW]
    rfl
theorem aQW {φ : AF} {t : TypeId} {ag : Bool} {w : Nat} {y : Operand} {e : AV} {es : List AV} (hI : eI prog t = some (ag, w)) (h : φ.eval y = .int .i64 1) (hw : ∀ x ∈ es, x.width = w) : iG prog φ t (.slice (e :: es)) (some y) none none = some (.slice es) := by
 have hwo : zA (e :: es) 1 w = true := by
  unfold zA
  rw [RE]
  split
  · rename_i x hx
    simp [hw x (cW hx)]
  · rfl
 unfold iG
 rw [aE (by simp [rP])]
 simp only [pM, hI]
 rw [aE (by simp)]
 simp only [dY, h]
 rw [aG (by constructor <;> simp <;> omega)]
 simp [hwo]
abbrev a1Q := zi tI_3 (zi zI_3 aX)
theorem aZN (c : Int) (st : aB) : aD prog 133 [.int .i64 c] st (fun r st' => r = .int .i64 (pW c) ∧ st' = st) := by
 refine aD.done ?_
 refine wF [1000000] 1 func133 ntmps133 rfl rfl ?_
 intro _
 simp -implicitDefEqProofs only [aA, seval]
 unfold pW
 refine aQ (fun h => ?_) (fun h => ?_)
 · simp -implicitDefEqProofs only [aA, seval]
   have h' : c = 2 := by simpa using h
   exact ⟨by rw [aG h']; try rfl, aL.refl _⟩
 rw [aE (show ¬ c = 2 by simpa using h)]
 simp -implicitDefEqProofs only [aA, seval]
 refine aQ (fun h => ?_) (fun h => ?_)
 · simp -implicitDefEqProofs only [aA, seval]
   have h' : c = 3 := by simpa using h
   exact ⟨by rw [aG h']; try rfl, aL.refl _⟩
 rw [aE (show ¬ c = 3 by simpa using h)]
 simp -implicitDefEqProofs only [aA, seval]
 refine aQ (fun h => ?_) (fun h => ?_)
 · simp -implicitDefEqProofs only [aA, seval]
   have h' : c = 4 := by simpa using h
   exact ⟨by rw [aG h']; try rfl, aL.refl _⟩
 rw [aE (show ¬ c = 4 by simpa using h)]
 simp -implicitDefEqProofs only [aA, seval]
 exact ⟨rfl, aL.refl _⟩
def v3 (x : RO) (r : AV) : Prop := match x with
 | .go s => r = .tup [r0 s, .int .i64 (-1)]
 | .fail => ∃ l1 l2 l3, r = .tup [.agg [.slice l1, .slice l2, .slice l3], .int .i64 (-2)]
 | .stop e => 0 ≤ e ∧ ∃ l1 l2 l3, r = .tup [.agg [.slice l1, .slice l2, .slice l3], .int .i64 e]
abbrev l8 := zi tI_2 (zi zI_2 (zi IK (zi tI_3 (zi zI_3 (zi aX (zi tI_4 (zi zI_4 (zi cD (zi tI_9 (zi zI_9 (zi cH (zi tI_29 (zi zI_29 (zi gT (zi j0 (zi jZ (zi kM (zi tI_31 (zi zI_31 (zi aN (zi bE (zi bF (zi b9 (zi tI_51 (zi zI_51 (zi dW (zi fW (zi fU (zi gA (zi tI_63 (zi zI_63 (zi bP (zi bQ (zi bT (zi bS (zi bR (zi tI_100 (zi zI_100 (zi uN (zi y8 (zi yH (zi ES (zi tI_101 (zi zI_101 (zi rG (zi v9 (zi xJ (zi CI (zi tI_103 (zi zI_103 (zi FV (zi FD (zi DX (zi F1 (zi tI_146 (zi zI_146 (zi OS (zi PZ (zi OQ (zi Q5 (zi OR (zi tI_167 (zi zI_167 (zi aC5 (zi aLB XM)))))))))))))))))))))))))))))))))))))))))))))))))))))))))))))))))
theorem aME {p : List Cl} (hp : ∀ c ∈ p, gJ c ∧ c.2.length ≤ 6) (hpl : p.length ≤ 1048576) {B : Nat} (hB : B + 26 ≤ 524288) (goals : List RG) (σ : Sub) (N : Nat) (chs : List RC) (g : RG) (rest : List RG) (hgs : goals = g :: rest) (h : pK p B ⟨goals, σ, N, chs⟩) (hK : y9 ⟨goals, σ, N, chs⟩) (st : aB) :
 aD prog 97 [.slice (p.map bY), .agg [.slice (goals.map eF), .slice (cQ N σ), .slice (chs.map fD)]] st (fun r st' => st' = st ∧ v3 (iY p (fun _ l => l) ⟨goals, σ, N, chs⟩ g rest) r) := by
 subst hgs
 obtain ⟨hg, ho, hd, hgo, h0, hN, hgl, hcl, hch⟩ := h
 simp only at hg ho hd hgo h0 hN hgl hcl hch
 obtain ⟨hgx, hg3⟩ := hgo g (by simp)
 have A0 : ∀ x ∈ rest, bD N x.t ∧ x.t.k = 3 := fun x hx => hgo x (by simp [hx])
 have hkp := hK.goals.2 g (by simp)
 simp only at hkp
 have hsm := W3 hg ho g.t hgx
 have hyk : (g.t.aJ (rs σ)).k = 3 := by rw [Tm.qJ _ (by omega)]; exact hg3
 have hfo := G8 hg ho hgx
 generalize hR : iY p (fun _ l => l) ⟨g :: rest, σ, N, chs⟩ g rest = R
 unfold iY at hR
 dsimp only at hR
 obtain ⟨⟨gk, gn, gs', gts⟩, a8⟩ := g
 simp only at hgx hg3 hkp hsm hyk hfo
 dsimp only at hR
 generalize (Tm.mk gk gn gs' gts).aJ (rs σ) = y at *
 obtain ⟨yk, yn, ys, yts⟩ := y
 obtain rfl : yk = 3 := hyk
 have hat : dJ prog 100 (.slice ((⟨.mk gk gn gs' gts, a8⟩ :: rest).map eF)) (.int .i64 0) = some (.pptr (eF ⟨.mk gk gn gs' gts, a8⟩)) := bL (av := eF) (l := ⟨.mk gk gn gs' gts, a8⟩ :: rest) (i := 0) uN rfl (AT _)
 have hs1 := fun (φ : AF) (y : Operand) (h : φ.eval y = .int .i64 1) => aQW (e := eF ⟨.mk gk gn gs' gts, a8⟩) (es := rest.map eF) uN h (by intro e he; simp only [cU] at he; obtain ⟨t, _, rfl⟩ := he; exact AT t)
 rw [bA, E2] at hat
 rw [E2] at hs1
 rw [bA, E2]
 simp only [aV] at hsm
 refine aD.fin (aD.lH ?_)
 refine wF [1000000] 2 func97 ntmps97 rfl rfl ?_
 intro _
 simp -implicitDefEqProofs only [aS, hat, hs1, aA, ↓aU, seval, l8]
 intro b4 h4
 refine (hsm _).mono ?_
 rintro _ _ ⟨rfl, x, rfl, hx⟩
 generalize fY : eH (.mk 3 yn ys yts) = fit at *
 have u9 : ∀ (o : AO) (r : AV) (x : RO), v3 x (r.fin 0 []) → ∃ s2, aL (st.aC b4 o) s2 ∧ ∃ b l s0, s2 = aZ s0 b l ∧ (l ≠ [] → s0 b = none) ∧ (∀ e ∈ l, e.cB = false) ∧ gX l ∧ s0 = st ∧ v3 x (r.fin b l) := fun o r x hr =>
  ⟨st, (aL.refl _).aC h4, 0, [], st, rfl, by simp, by simp, ⟨0, by simp⟩, rfl, hr⟩
 simp -implicitDefEqProofs only [aS, aH, bZ, cG, aA, ↓aU, seval, l8]
 refine aQ (fun h => ?_) (fun h => ?_)
 · have h' : fit = false := by simpa using h
   subst h'
   rw [aG rfl] at hR
   subst hR
   simp -implicitDefEqProofs only [aK, aS, aA, seval, l8]
   exact u9 _ _ _ ⟨by decide, _, _, _, by simp only [fM, jL, eC, iK, bA, aW]; rfl⟩
 obtain rfl : fit = true := by simpa using h
 obtain rfl := hx rfl
 simp only [aV]
 have hyo := hfo rfl
 rw [aE (by simp)] at hR
 have tB : ∀ st, aD prog 130 [.agg [.int .i64 3, .int .i64 yn, .str ys, .slice (yts.map Tm.av)]] st (fun r st' => r = .bool (oA (.mk 3 yn ys yts)) ∧ st' = st) := fun st => by
  have := ZU 3 yn ys yts st
  rw [aV] at this
  exact this
 have hbi := fun st => PQ ys (yts.length : Int) st
 have RT := fun st => aM6 p (.mk 3 yn ys yts) hpl st
 have aAN := fun hb => aVK (N := N) h0 (by omega) hg ho yn ys yts hb (qL N (.mk 3 yn ys yts) (by show (3 : Int) ≠ 1; decide) hyo)
 have htr := XV p hp
 simp only [aV] at RT aAN
 replace hR : (if oA (.mk 3 yn ys yts) = true then RO.go ⟨rest, σ, N, chs.take a8⟩ else if isBuiltin ys (yts.length : Int) = true then (if (c8 σ ys yts).1 = 0 then RO.go ⟨rest, (c8 σ ys yts).2.1, N, chs⟩ else if (c8 σ ys yts).1 = 1 then RO.fail else RO.stop (pW (c8 σ ys yts).1)) else if fE p (.mk 3 yn ys yts) = [] then RO.stop 8 else match iF p chs (.mk 3 yn ys yts) rest σ N (fE p (.mk 3 yn ys yts)) with | some s' => RO.go s' | none => RO.fail) = R := hR
 generalize hcu : oA (.mk 3 yn ys yts) = cu at *
 have hs2 := fun (φ : AF) (d : Nat) (h : φ d = .int .i64 (a8 : Int)) => aCC (es := chs.map fD) (k := a8) rG h (by simpa using hkp)
 rw [← List.map_take] at hs2
 refine (tB _).to ?_
 simp -implicitDefEqProofs only [aA, seval]
 refine aQ (fun h => ?_) (fun h => ?_)
 · rw [aG h] at hR
   subst h hR
   simp -implicitDefEqProofs only [aA, seval]
   refine wP [(0, 1), (1, 1), (3, 1), (5, 1), (2, 2), (4, 2), (6, 2), (7, 1), (8, 1), (9, 0), (10, 1)] [0, 1, 3, 5, 2, 4, 6, 7, 8, 10] mixed ?_
   simp -implicitDefEqProofs only [aK, aS, hs2, aA, seval, l8]
   exact u9 _ _ _ (by simp only [fM, jL, eC, iK, bA, aW]; rfl)
 rw [aE (by rw [h]; simp)] at hR
 subst h
 simp -implicitDefEqProofs only [aF, aA, seval, l8]
 refine (hbi _).to ?_
 simp -implicitDefEqProofs only [aA, seval]
 refine aQ (fun h => ?_) (fun h => ?_)
 · have AQ := aAN h
   rw [aG h] at hR
   simp -implicitDefEqProofs only [aA, seval, l8]
   refine NY h0 (by omega) σ fun b hb hA0 => ?_
   have hst := aL.aC (aL.refl st) (o := .cells [.fslice [], .fslice [], .fslice []]) h4
   generalize hW : st.aC b4 (.cells [.fslice [], .fslice [], .fslice []]) = W at *
   have hW4 : W b4 = some (.cells [.fslice [], .fslice [], .fslice []]) := by rw [← hW]; exact aB.aP _ _ _
   have hT : aL (W.aC b (.cells ((cQ N σ).flatMap AV.cells))) W := (aL.refl _).aC hb
   generalize W.aC b (.cells ((cQ N σ).flatMap AV.cells)) = T at *
   have hb4 : b ≠ b4 := by rintro rfl; rw [hW4] at hb; cases hb
   simp -implicitDefEqProofs only [aS, aA, seval, l8]
   refine (AQ b _ hA0).mono ?_
   rintro _ s2 ⟨rfl, hA, hk2⟩
   have aWM := aND σ ys yts
   generalize c8 σ ys yts = S at *
   obtain ⟨c, σ', tr⟩ := S
   simp only at hA aWM ⊢
   dsimp only at hR
   have hDs : aL s2 W := by
    intro q
    have key : ∀ o, W q = some o → s2 q = some o := fun o h => hk2 q o ((hT q).2 o h) (by rintro rfl; rw [hb] at h; cases h)
    refine ⟨fun h => ?_, key⟩
    cases hq : W q with
    | none => rfl
    | some o => rw [key o hq] at h; cases h
   have N2 := (hDs b4).2 _ hW4
   have aU4 : st b = none := by rw [← hW, aB.aM _ _ hb4] at hb; exact hb
   have aJ7 : ∀ (o : AO) (r : AV) (x : RO), v3 x (r.fin 0 []) → ∃ s3, aL (s2.aC b4 o) s3 ∧ ∃ b l s0, s3 = aZ s0 b l ∧ (l ≠ [] → s0 b = none) ∧ (∀ e ∈ l, e.cB = false) ∧ gX l ∧ s0 = st ∧ v3 x (r.fin b l) := fun o r x hr =>
    ⟨st, (hDs.trans hst).aC h4, 0, [], st, rfl, by simp, by simp, ⟨0, by simp⟩, rfl, hr⟩
   simp -implicitDefEqProofs only [aA, seval]
   refine aQ (fun h => ?_) (fun h => ?_)
   · have hc0 : c = 0 := by simpa using h
     subst hc0
     rw [aG rfl] at hR
     subst hR
     simp -implicitDefEqProofs only [aK, aS, N2, aA, seval, l8]
     have nR : cQ N σ' ≠ [] := by intro e; have := sT N σ'; rw [e] at this; simp at this; omega
     refine ⟨st.aC b (.cells ((cQ N σ').flatMap AV.cells)), fun q => ?_, b, cQ N σ', st, by rw [jF nR], fun _ => aU4, GO _ _, ⟨4, AZ _ _⟩, rfl, ?_⟩
     · by_cases q4 : q = b4
       · subst q4; rw [aB.aP, aB.aM _ _ (dB hb4), h4]; simp
       rw [aB.aM _ _ q4]
       by_cases qb : q = b
       · subst qb; rw [aB.aP, show s2 q = _ from hA]; simp
       rw [aB.aM _ _ qb]
       exact (hDs.trans hst) q
     · simp only [fM, jL, eC, iK, bA, aW, JY h0]
       rfl
   have hc0 : c ≠ 0 := by simpa using h
   rw [aE hc0] at hR
   simp -implicitDefEqProofs only [aA, seval]
   refine aQ (fun h => ?_) (fun h => ?_)
   · have hc1 : c = 1 := by simpa using h
     subst hc1
     rw [aG rfl] at hR
     subst hR
     simp -implicitDefEqProofs only [aK, aS, N2, aA, seval, l8]
     exact aJ7 _ _ _ ⟨_, _, _, by simp only [fM, jL, eC, iK, bA, aW]; rfl⟩
   have hc1 : c ≠ 1 := by simpa using h
   rw [aE hc1] at hR
   subst hR
   have jV : 0 ≤ pW c := by unfold pW; split; omega; split; omega; split; omega; omega
   simp -implicitDefEqProofs only [aA, seval]
   refine wP [(1, 1), (0, 2), (2, 2), (3, 0), (4, 1)] [1, 0, 2, 4] mixed ?_
   simp -implicitDefEqProofs only [aS, aA, seval, l8]
   refine jC (aZN c _) ?_
   simp -implicitDefEqProofs only [aK, aS, N2, aA, seval, l8]
   exact aJ7 _ _ _ ⟨jV, _, _, _, by simp only [fM, jL, eC, iK, bA, aW]; rfl⟩
 rw [aE (by rw [h]; simp)] at hR
 simp -implicitDefEqProofs only [aS, aA, seval, l8]
 refine (RT _).to ?_
 have hcx : wJ p ⟨.mk 3 yn ys yts, rest, fE p (.mk 3 yn ys yts), σ, N⟩ := ⟨hg, ho, hd, hyo, A0, fun i hi => by
  unfold fE at hi
  exact xR.1 (List.mem_filter.1 hi).1, by simp only; simp only [aS] at hgl; omega, by
  have := IU p (.mk 3 yn ys yts) p.length
  rw [← K2] at this
  simp only; omega⟩
 have BU := fun st => htr (⟨.mk gk gn gs' gts, a8⟩ :: rest) (cQ N σ) chs _ hcx h0 (by simp only; omega) (by omega) st
 rw [bA, E2, QS] at BU
 simp only at BU
 generalize fE p (.mk 3 yn ys yts) = left at *
 simp -implicitDefEqProofs only [aF, aA, seval, l8]
 refine aQ (fun h => ?_) (fun h => ?_)
 · have h' : left = [] := by
    have : (left.length : Int) = 0 := by simpa using h
    exact sM (by omega)
   rw [aG h'] at hR
   subst hR
   simp -implicitDefEqProofs only [aK, aS, aA, seval, l8]
   exact u9 _ _ _ ⟨by decide, _, _, _, by simp only [fM, jL, eC, iK, bA, aW]; rfl⟩
 have h' : left ≠ [] := by
  rintro rfl
  simp at h
 rw [aE h'] at hR
 generalize iF p chs (.mk 3 yn ys yts) rest σ N left = x at *
 simp -implicitDefEqProofs only [aS, aA, seval, l8]
 cases x with
 | none =>
  simp only at hR BU
  subst hR
  refine (BU _).mono ?_
  rintro _ _ ⟨rfl, rfl⟩
  simp -implicitDefEqProofs only [aK, aS, aA, ↓aU, seval, l8]
  exact u9 _ _ _ ⟨_, _, _, by simp only [fM, jL, eC, iK, bA, aW]; rfl⟩
 | some s =>
  simp only [r0] at hR BU
  subst hR
  refine (BU _).mono ?_
  rintro _ _ ⟨rfl, rfl⟩
  simp -implicitDefEqProofs only [aK, aS, aA, ↓aU, seval, l8]
  exact u9 _ _ _ (by simp only [fM, jL, eC, iK, bA, aW]; rfl)
theorem aQH {N : Int} {t : Tm} (h : cE N t) : dC 0 t = t := by
 have h1 : dC 0 t = t.aJ vr := by
  unfold dC bV
  congr 1
  funext v
  congr 1
  simp
 rw [h1, L0 t h.2.1]
theorem aA1 (N : Nat) : cQ N Sub.none = List.replicate N zt := by
 apply K4
 intro i
 by_cases h : i < N
 · rw [yP N _ h, List.getElem?_replicate, aG h]; try rfl
 · rw [xU (by rw [sT]; omega), xU (by simp; omega)]
abbrev OA := zi tI_3 (zi zI_3 (zi aX (zi tI_31 (zi zI_31 (zi aN (zi bE (zi bF (zi b9 (zi tI_100 (zi zI_100 (zi uN (zi y8 (zi yH (zi ES (zi tI_103 (zi zI_103 (zi FV (zi FD (zi DX F1)))))))))))))))))))
theorem aYX (q : List Tm) (hq : ∀ t ∈ q, bD 26 t) (h6 : q.length ≤ 6) (st : aB) : aD prog 70 [.slice (q.map Tm.av)] st (fun r st' => r = r0 (lT q) ∧ st' = st) := by
 have hgo : ∀ st, aD prog 104 [.slice (q.map Tm.av), .int .i64 0, .int .i64 0, .fslice []] st (fun r st' => r = .slice ((lT q).goals.map eF) ∧ st' = st) := fun st =>
  aD.n7 ((aL5 q 0 0 [] hq h6 (by omega) (by simp) st).mono fun _ _ h => ⟨by
   rw [h.1]
   unfold lT
   rw [iC]
   congr 2
   exact q7 fun t ht => by rw [aQH (hq t ht).1], h.2⟩)
 refine aD.pO (aD.fin (aD.lH ?_))
 refine wF [1000000, 3] 1 func70 ntmps70 rfl rfl ?_
 intro _
 simp -implicitDefEqProofs only [aA, seval, OA]
 intro b2 h2
 simp -implicitDefEqProofs only [wQ, aK, vA, ↓J4, ↓K5, List.contains, List.elem, vR, oL, o7, ↓reduceIte, reduceCtorEq, Nat.reduceEqDiff, Nat.reduceAdd, Nat.reduceLT, Nat.reduceBEq, OA]
 refine ⟨by omega, by omega, by omega, fun bb hbb => ?_⟩
 rw [show Int.toNat 26 = 26 from rfl, aBM _ (by simp)]
 have hb2 : bb ≠ b2 := by rintro rfl; rw [aB.aP] at hbb; cases hbb
 have IR : (List.replicate 26 [AV.int .i64 0, .int .i64 0, .str ⟨#[]⟩, .fslice []]).flatten = (cQ 26 Sub.none).flatMap AV.cells := by
  rw [aA1]; try rfl
 rw [IR]
 have h22 : (st.aC b2 (AO.cells [AV.fslice [], AV.fslice [], AV.fslice []])) b2 = some (AO.cells [AV.fslice [], AV.fslice [], AV.fslice []]) := aB.aP _ _ _
 have hD2 : aL (st.aC b2 (AO.cells [AV.fslice [], AV.fslice [], AV.fslice []])) st := (aL.refl _).aC h2
 intro b3 h3
 have h3b : b3 ≠ bb := by rintro rfl; rw [aB.aP] at h3; cases h3
 rw [aB.aM _ _ h3b] at h3
 have h32 : b3 ≠ b2 := by rintro rfl; rw [aB.aP] at h3; cases h3
 have hs3 : st b3 = none := by rw [aB.aM _ _ h32] at h3; exact h3
 have hsb : st bb = none := by rw [aB.aM _ _ hb2] at hbb; exact hbb
 refine (hgo _).to ?_
 have e1 := dB h3b
 have e2 := dB h32
 have e3 := dB hb2
 simp -implicitDefEqProofs only [aK, e2, e3, aB.aP, aA, seval, OA]
 have nR : cQ 26 Sub.none ≠ [] := by rw [aA1]; simp
 refine ⟨st.aC bb (.cells ((cQ 26 Sub.none).flatMap AV.cells)), fun q' => ?_, bb, cQ 26 Sub.none, st, by rw [jF nR], fun _ => hsb, GO _ _, ⟨4, AZ _ _⟩, ?_, aL.refl _⟩
 · by_cases q2 : q' = b2
   · subst q2; rw [aB.aP, aB.aM _ _ e3, h2]; simp
   rw [aB.aM _ _ q2]
   by_cases q3 : q' = b3
   · subst q3; rw [aB.aP, aB.aM _ _ h3b, hs3]; simp
   simp only [aB.aM _ _ q3]
   by_cases qb : q' = bb
   · subst qb; rw [aB.aP, aB.aP]; simp
   rw [aB.aM _ _ qb, aB.aM _ _ qb, aB.aM _ _ q2]
   simp
 · simp only [fM, iK, oC, bA, aW, JY (show 0 < 26 by omega)]
   rfl
theorem Q3 {S : aB} {b c : Nat} {l : List AV} {o : AO} (h : l ≠ [] → b ≠ c) : (aZ S b l).aC c o = aZ (S.aC c o) b l := by
 cases l with
 | nil => rfl
 | cons x l => rw [jF (by simp), jF (by simp), aB.nX _ _ _ (h (by simp))]
theorem EG {p : List Cl} {cnd : Tm → List Nat → List Nat} {vars : List Int} {most fuel : Nat} {s : RS} (hg : s.goals = []) : j3 p cnd vars most fuel s = if most = 0 then ([], 1) else match jI s.σ vars with
 | none => ([], 3)
 | some a => match f0 p s.chs.length s.chs with
  | none => ([a], 0)
  | some s' => (a :: (j3 p cnd vars (most - 1) fuel s').1, (j3 p cnd vars (most - 1) fuel s').2) := by
 rw [j3.eq_def, hg]
 simp only
 split <;> rfl
theorem zT {p : List Cl} {cnd : Tm → List Nat → List Nat} {vars : List Int} {most fuel : Nat} {s : RS} {g : RG} {rest : List RG} (hg : s.goals = g :: rest) : j3 p cnd vars most fuel s = if fuel = 0 then ([], 2) else match iY p cnd s g rest with
 | .stop e => ([], e)
 | .go s' => j3 p cnd vars most (fuel - 1) s'
 | .fail => match f0 p s.chs.length s.chs with
  | none => ([], 0)
  | some s' => j3 p cnd vars most (fuel - 1) s' := by
 rw [j3.eq_def, hg]
 simp only
 split <;> rfl
structure aGI (p : List Cl) (vars : List Int) (most fuel : Nat) (T : List (List Tm) × Int) (s : RS) (out : List (List Tm)) (f B : Nat) : Prop where
 tot : T = (out ++ (j3 p (fun _ l => l) vars (most - out.length) f s).1, (j3 p (fun _ l => l) vars (most - out.length) f s).2)
 len : out.length ≤ most
 ok : lX p B s
 bd : B + 26 * f ≤ 8000
abbrev lF := zi tI_2 (zi zI_2 (zi IK (zi tI_3 (zi zI_3 (zi aX (zi tI_4 (zi zI_4 (zi cD (zi tI_26 (zi zI_26 (zi o0 (zi rQ (zi r7 (zi uF (zi tI_29 (zi zI_29 (zi gT (zi j0 (zi jZ (zi kM (zi tI_31 (zi zI_31 (zi aN (zi bE (zi bF (zi b9 (zi tI_51 (zi zI_51 (zi dW (zi fW (zi fU (zi gA (zi tI_82 (zi zI_82 (zi AI (zi BZ (zi tI_100 (zi zI_100 (zi uN (zi y8 (zi yH (zi ES (zi tI_103 (zi zI_103 (zi FV (zi FD (zi DX F1)))))))))))))))))))))))))))))))))))))))))))))))
theorem aQ3 {p : List Cl} (hp : ∀ c ∈ p, gJ c ∧ c.2.length ≤ 6) (hpl : p.length ≤ 20) {q : List Tm} (hq : ∀ t ∈ q, bD 26 t ∧ t.k = 3) (h6 : q.length ≤ 6) {most fuel : Nat} (hm : most ≤ 20) (hf : fuel ≤ 300) (st : aB) :
 aD prog 65 [.slice (p.map bY), .slice (q.map Tm.av), .int .i64 (most : Int), .int .i64 (fuel : Int)] st (fun r st' => r = .tup [.slice ((tJ p (fun _ l => l) q most fuel).1.map c9), .int .i64 (tJ p (fun _ l => l) q most fuel).2] ∧ st' = st) := by
 have hnd : bG Tm.nodes q ≤ 1099511627776 := by
  have := A8 q fun t ht => (hq t ht).1.2
  omega
 have hva := fun st => aEM q st (fun t ht => Tm.sS t (hq t ht).1.1.2.1) hnd
 have EH := fun st => aYX q (fun t ht => (hq t ht).1) h6 st
 have hv : ∀ v ∈ b7 q [], 0 ≤ v ∧ v < 26 := fun v hv => by
  rcases (wE q [] fun t ht => (hq t ht).1.1.2.1).1 hv with h | ⟨t, ht, h⟩
  · cases h
  · exact (hq t ht).1.1.2.2 v h
 have hvl : (b7 q []).length ≤ 1000 := by
  have h1 := xK q []
  have h2 := A8 q fun t ht => (hq t ht).1.2
  simp only [a7] at h1
  omega
 have I0 := lX.start (p := p) hq h6
 generalize hT : tJ p (fun _ l => l) q most fuel = T
 unfold tJ at hT
 generalize b7 q [] = vars at *
 have hI0 : aGI p vars most fuel T (lT q) [] fuel 26 := ⟨by rw [← hT]; try rfl, jE _, I0, by omega⟩
 generalize lT q = s0 at *
 simp only [r0] at EH
 refine aD.pO (aD.fin (aD.lH ?_))
 refine wF [1000000, 12] 4 func65 ntmps65 rfl rfl ?_
 intro _
 simp -implicitDefEqProofs only [aA, seval, lF]
 refine (hva _).to ?_
 simp -implicitDefEqProofs only [aA, seval]
 refine (EH _).to ?_
 simp -implicitDefEqProofs only [aK, aA, ↓aU, seval, lF]
 intro b12 h12
 refine gZ (σ := RS × List (List Tm) × Nat × Nat × Nat) [1000000, 12] [0, 2, 11, 12] (fun x => aGI p vars most fuel T x.1 x.2.1 x.2.2.1 x.2.2.2.1 ∧ (x.2.1.map c9 ≠ [] → (st.aC b12 (.cells [.slice (x.1.goals.map eF), .slice (cQ x.1.N x.1.σ), .slice (x.1.chs.map fD)])) x.2.2.2.2 = none))
  (fun x => [(3, .int .i64 (x.2.2.1 : Int)), (8, .fslice []), (9, .int .i64 0), (10, a9 1 x.2.2.2.2 (x.2.1.map c9))])
  (fun x => aZ (st.aC b12 (.cells [.slice (x.1.goals.map eF), .slice (cQ x.1.N x.1.σ), .slice (x.1.chs.map fD)])) x.2.2.2.2 (x.2.1.map c9))
  (fun x => (most - x.2.1.length) + x.2.2.1) (by decide +kernel) ⟨(s0, [], fuel, 26, 0), ⟨hI0, by simp⟩, aO.mk (by simp -implicitDefEqProofs only [jG, aW, aA, seval])⟩ ?_
 rintro ⟨s, out, f, B, b⟩ ⟨⟨tot, hlen, hok, hbd⟩, hb⟩
 simp only at tot hlen hok hbd hb
 simp only
 have hbc : out.map c9 ≠ [] → b ≠ b12 := fun h => by rintro rfl; have := hb h; rw [aB.aP] at this; cases this
 have pL := BX hb (aB.aP st b12 (.cells [.slice (s.goals.map eF), .slice (cQ s.N s.σ), .slice (s.chs.map fD)]))
 have hlo : (out.map c9).length = out.length := aF _
 have aPY : ∀ l : List (List Tm), ∀ e ∈ l.map c9, e.cB = false := fun l e he => by simp only [cU] at he; obtain ⟨t, _, rfl⟩ := he; rfl
 have JR : ∀ l : List (List Tm), ∀ e ∈ l.map c9, e.width = 1 := fun l e he => by simp only [cU] at he; obtain ⟨t, _, rfl⟩ := he; rfl
 have fin : ∀ (S : aB) (b : Nat) (l : List (List Tm)) (e : Int), (l.map c9 ≠ [] → S b = none) → aL S st → T = (l, e) → ∃ s2, aL (aZ S b (l.map c9)) s2 ∧ ∃ b' l' s0, s2 = aZ s0 b' l' ∧ (l' ≠ [] → s0 b' = none) ∧ (∀ e ∈ l', e.cB = false) ∧ gX l' ∧ (AV.tup [a9 1 b (l.map c9), .int .i64 e]).fin b' l' = .tup [.slice (T.1.map c9), .int .i64 T.2] ∧ aL s0 st := fun S b l e h1 h2 h3 =>
  ⟨_, aL.refl _, b, l.map c9, S, rfl, h1, aPY l, ⟨1, JR l⟩, by subst h3; simp only [jL, eC, lI, bA, aW], h2⟩
 have hSD : ∀ o, aL (st.aC b12 o) st := fun o => (aL.refl _).aC h12
 generalize hX : (AO.cells [.slice (s.goals.map eF), .slice (cQ s.N s.σ), .slice (s.chs.map fD)]) = X at pL hb
 have pL := pL.trans (n6 some hX.symm)
 have hun : prog.underlying 26 = some (.slice 82) := by kernel_rfl
 have tA := sW (w := 1) (b := b) (l := out.map c9) hun
 rw [hlo] at tA
 cases hgs : s.goals with
 | nil =>
  rw [hgs] at hX pL
  simp only [aW] at hX pL
  rw [EG hgs] at tot
  simp -implicitDefEqProofs only [a7, tA, pL, aA, seval, lF]
  refine aQ (fun h => ?_) (fun h => ?_)
  · have h' : out.length = most := by simp at h; omega
    rw [aG (by omega)] at tot
    simp -implicitDefEqProofs only [mZ, aA, seval]
    exact fin _ b out 1 hb (hSD _) (by rw [tot, iC])
  have h' : out.length < most := by simp at h; omega
  rw [aE (by omega)] at tot
  simp -implicitDefEqProofs only [pL, aA, seval, lF]
  refine (aQG (N := s.N) hok.a.gK hok.a.ok vars (fun v h => ⟨(hv v h).1, by have := (hv v h).2; have := hok.l.1; omega⟩) hvl _).mono ?_
  rintro _ _ ⟨rfl, a, rfl, ha⟩
  cases pN : jI s.σ vars with
  | none =>
   rw [pN] at tot
   simp only [Option.isSome_none, c9]
   simp -implicitDefEqProofs only [a7, aS, mZ, aA, ↓aU, seval, lF]
   exact fin _ b out 3 hb (hSD _) (by rw [tot, iC])
  | some x =>
   obtain rfl := ha x pN
   rw [pN] at tot
   simp only [Option.isSome_some, c9] at tot ⊢
   simp -implicitDefEqProofs only [a7, aS, aA, ↓aU, seval, lF]
   refine eO (P := prog) (b := b) (l := out.map c9) (xs := [c9 a]) o0 rQ r7 rfl rfl (fB rfl rfl) (JR out) hb (by simp only [aS, a7, hlo]; omega) (by simp only [aS, a7, hlo]; omega) (fun b' hb' => ?_)
   rw [show (out.map c9) ++ [c9 a] = (out ++ [a]).map c9 by simp] at hb' ⊢
   have aBU := (BX hb' (aB.aP st b12 X)).trans (n6 some hX.symm)
   simp -implicitDefEqProofs only [a7, aS, aBU, aA, seval, lF]
   have KH : (f : Int) = (f : Int) := rfl
   refine (VH hp (B := B) (by omega) [] (cQ s.N s.σ) s.chs hok.a.pG hok.a.chs _).mono ?_
   rintro r _ ⟨rfl, hr⟩
   cases hbk : f0 p s.chs.length s.chs with
   | none =>
    rw [hbk] at hr tot
    simp only at hr tot
    obtain ⟨l1, l2, l3, rfl⟩ := hr
    simp -implicitDefEqProofs only [a7, aS, mZ, aA, ↓aU, seval, lF]
    exact fin _ b' (out ++ [a]) 0 hb' (hSD _) (by rw [tot]; try rw [iC])
   | some s' =>
    rw [hbk] at hr tot
    simp only [r0] at hr tot
    subst hr
    simp -implicitDefEqProofs only [aK, a7, aS, aBU, aA, ↓aU, seval, lF]
    rw [Q3 (fun h => by rintro rfl; have := hb' h; rw [aB.aP] at this; cases this), dE]
    have hne : (out ++ [a]).map c9 ≠ [] → b' ≠ b12 := fun h => by rintro rfl; have := hb' h; rw [aB.aP] at this; cases this
    refine ⟨(s', out ++ [a], f, B, b'), by simp only [dQ, aS, a7]; omega, ⟨⟨by rw [tot]; try simp only [nZ, fF, eR, dQ, aS, a7, Nat.sub_sub]; try rfl, by simp only [dQ, aS, a7]; omega, hok.back hp (by omega) hbk, by simp only; omega⟩, fun h => by rw [aB.aM _ _ (hne h)]; have := hb' h; rwa [aB.aM _ _ (hne h)] at this⟩, aO.mk (by simp -implicitDefEqProofs only [aA, seval])⟩
 | cons g rest =>
  rw [hgs] at hX pL
  rw [zT hgs] at tot
  simp -implicitDefEqProofs only [aF, aS, pL, aA, seval, lF]
  refine aQ (fun h => absurd h (by simp; omega)) (fun h => ?_)
  simp -implicitDefEqProofs only [aA, seval]
  refine aQ (fun h => ?_) (fun h => ?_)
  · have h' : f = 0 := by simp at h; omega
    rw [aG h'] at tot
    simp -implicitDefEqProofs only [mZ, aA, seval]
    exact fin _ b out 2 hb (hSD _) (by rw [tot, iC])
  have h' : f ≠ 0 := by simp at h; omega
  rw [aE h'] at tot
  have hw := bK (n := (f : Int) - 1)
  simp -implicitDefEqProofs only [hw, a7, aS, pL, aA, seval, lF]
  have hst := aME hp (by omega) (B := B) (by omega) s.goals s.σ s.N s.chs g rest hgs hok.a hok.k
  rw [hgs, bA] at hst
  refine (hst _).mono ?_
  rintro r _ ⟨rfl, hr⟩
  have hse : (⟨g :: rest, s.σ, s.N, s.chs⟩ : RS) = s := by rw [← hgs]
  rw [hse] at hr
  cases iJ : iY p (fun _ l => l) s g rest with
  | go s' =>
   rw [iJ] at hr tot
   simp only [v3, r0] at hr tot
   subst hr
   simp -implicitDefEqProofs only [a7, aS, vA, ↓J4, List.contains, List.elem, yI, ↓reduceIte, Nat.reduceEqDiff, Nat.reduceAdd, Nat.reduceBEq, lF]
   refine aQ (fun h => absurd h (by decide)) (fun h => ?_)
   simp -implicitDefEqProofs only [aK, a7, aS, pL, aA, seval, lF]
   rw [Q3 hbc, dE]
   have KH : ((f - 1 : Nat) : Int) = (f : Int) - 1 := by omega
   refine ⟨(s', out, f - 1, B + 26, b), by simp only; omega, ⟨⟨tot, hlen, hok.step hp (by omega) (by omega) (cnd := fun _ l => l) (fun _ _ => ⟨fun _ h => h, c7 _⟩) hgs iJ, by simp only; omega⟩, fun h => by rw [aB.aM _ _ (hbc h)]; have := hb h; rwa [aB.aM _ _ (hbc h)] at this⟩, aO.mk (by simp -implicitDefEqProofs only [KH, aA, seval])⟩
  | fail =>
   rw [iJ] at hr tot
   simp only [v3] at hr tot
   obtain ⟨l1, l2, l3, rfl⟩ := hr
   simp -implicitDefEqProofs only [a7, aS, vA, ↓J4, List.contains, List.elem, yI, ↓reduceIte, Nat.reduceEqDiff, Nat.reduceAdd, Nat.reduceBEq, lF]
   refine aQ (fun h => absurd h (by decide)) (fun h => ?_)
   simp -implicitDefEqProofs only [a7, aS, pL, aA, seval, lF]
   have KH : ((f - 1 : Nat) : Int) = (f : Int) - 1 := by omega
   refine (VH hp (B := B) (by omega) (g :: rest) (cQ s.N s.σ) s.chs hok.a.pG hok.a.chs _).mono ?_
   rintro r _ ⟨rfl, hr⟩
   cases hbk : f0 p s.chs.length s.chs with
   | none =>
    rw [hbk] at hr tot
    simp only at hr tot
    obtain ⟨l1, l2, l3, rfl⟩ := hr
    simp -implicitDefEqProofs only [a7, aS, mZ, aA, ↓aU, seval, lF]
    exact fin _ b (out) 0 hb (hSD _) (by rw [tot]; try rw [iC])
   | some s' =>
    rw [hbk] at hr tot
    simp only [r0] at hr tot
    subst hr
    simp -implicitDefEqProofs only [aK, a7, aS, pL, aA, ↓aU, seval, lF]
    rw [Q3 (fun h => by rintro rfl; have := hb h; rw [aB.aP] at this; cases this), dE]
    have hne : (out).map c9 ≠ [] → b ≠ b12 := fun h => by rintro rfl; have := hb h; rw [aB.aP] at this; cases this
    refine ⟨(s', out, f - 1, B, b), by simp only []; omega, ⟨⟨by rw [tot]; try simp only [nZ, fF, eR, dQ, aS, a7, Nat.sub_sub]; try rfl, by simp only []; omega, hok.back hp (by omega) hbk, by simp only; omega⟩, fun h => by rw [aB.aM _ _ (hne h)]; have := hb h; rwa [aB.aM _ _ (hne h)] at this⟩, aO.mk (by simp -implicitDefEqProofs only [KH, aA, seval])⟩
  | stop e =>
   rw [iJ] at hr tot
   simp only [v3] at hr tot
   obtain ⟨he0, l1, l2, l3, rfl⟩ := hr
   simp -implicitDefEqProofs only [a7, aS, aA, ↓aU, seval, lF]
   refine aQ (fun h => ?_) (fun h => absurd he0 (by simpa using h))
   simp -implicitDefEqProofs only [mZ, aA, seval]
   exact fin _ b out e hb (hSD _) (by rw [tot, iC])
end Go.AW
namespace Go.AW
def zQ (st : aB) (xs : List AV) (r : AV) (st' : aB) : Prop := ∃ (os : List AV) (bs : List Nat), r = .tup os ∧ bs.Nodup ∧ (∀ b ∈ bs, st b = none) ∧ cF st' xs os bs ∧ ∀ b, b ∉ bs → st' b = st b
theorem cF.aKW {h : bH} {st s0 : aB} (S : cS h st) (D : aL st s0) : ∀ (xs os : List AV) (bs : List Nat) (vs : List Value), cF st xs os bs → (∀ b ∈ bs, s0 b = none) → dO h st os vs → dO h s0 xs vs
 | [], os, bs, vs, x, _, y => by simp only [cF] at x; rw [x.1] at y; exact y
 | a :: xs, os, bs, vs, x, hb, y => by
  simp only [cF] at x
  obtain ⟨o, os', b1, b2, rfl, rfl, x1, x2⟩ := x
  simp only [dO] at y ⊢
  obtain ⟨v, r, e, ⟨y0, y1⟩, y2⟩ := y
  exact ⟨v, r, e, ⟨x1.shape.1.symm.trans y0, cK.view S D a o b1 _ x1 (fun q hq => hb q (by simp [hq])) y1⟩, cF.aKW S D xs os' b2 r x2 (fun q hq => hb q (by simp [hq])) y2⟩
theorem aD.aOZ {P : Program} {g : FuncId} {args : List AV} {st : aB} {xs : List AV} (x : aD P g args st (zQ st xs)) : aD P g args st (fun r st' => r = .tup xs ∧ st' = st) :=
 x.m7 fun r st' ⟨os, bs, hr, _, h2, h3, h4⟩ => by
  have D : aL st' st := fun b => ⟨fun e => by
   by_cases hb : b ∈ bs
   · exact h2 b hb
   · rw [← h4 b hb]; exact e, fun o e => by
   by_cases hb : b ∈ bs
   · rw [h2 b hb] at e; cases e
   · rw [h4 b hb]; exact e⟩
  refine ⟨.tup xs, st, D.sR, fun h v S y => ?_, rfl, rfl⟩
  subst hr
  obtain ⟨y0, y1⟩ := y
  refine ⟨y0, ?_⟩
  unfold VC at y1 ⊢
  obtain ⟨vs, e, y2⟩ := y1
  exact ⟨vs, e, cF.aKW S D xs os bs vs h3 h2 y2⟩
theorem cK.RY {st : aB} {es : List AV} {q : AV} {bs : List Nat} (h : cK st (.slice es) q bs) : q.cells = [q] ∧ q.storable = true ∧ q.isAgg = false ∧ q.width = 1 ∧ q.cB = false := by
 simp only [cK] at h
 rcases h with ⟨_, rfl, _⟩ | ⟨_, _, _, _, rfl, _⟩ <;> exact ⟨rfl, rfl, rfl, rfl, rfl⟩
theorem aTA {s : aB} {x o : AV} {bs : List Nat} : cK s (.agg [x]) o bs ↔ ∃ q, o = .agg [q] ∧ cK s x q bs := by
 simp only [cK, cF]
 constructor
 · rintro ⟨os, rfl, o1, os1, b1, b2, rfl, rfl, h, rfl, rfl⟩
   exact ⟨o1, rfl, by simpa using h⟩
 · rintro ⟨q, rfl, h⟩
   exact ⟨_, rfl, q, [], bs, [], rfl, by simp, h, rfl, rfl⟩
theorem aPH {s : aB} {x y : AV} {os : List AV} {bs : List Nat} : cF s [x, y] os bs ↔ ∃ o1 o2 b1 b2, os = [o1, o2] ∧ bs = b1 ++ b2 ∧ cK s x o1 b1 ∧ cK s y o2 b2 := by
 simp only [cF]
 constructor
 · rintro ⟨o1, os1, b1, b1', rfl, rfl, h1, o2, os2, b2, b2', rfl, rfl, h2, rfl, rfl⟩
   exact ⟨o1, o2, b1, b2, rfl, by simp, h1, h2⟩
 · rintro ⟨o1, o2, b1, b2, rfl, rfl, h1, h2⟩
   exact ⟨o1, [o2], b1, b2, rfl, rfl, h1, o2, [], b2, [], rfl, by simp, h2, rfl, rfl⟩
end Go.AW
namespace Go.AW
open Go.Proofs.Tryz

section
variable {S : aB} {c b w : Nat} {hd tl l : List AV}
theorem aDF {h : bH} {st : aB} {a a' : AV} (hv : ∀ v, VC h st a [v] → VC h st a' [v]) : ∀ (hd : List AV) {tl : List AV} {vs : List Value}, aY h st (hd ++ a :: tl) vs → aY h st (hd ++ a' :: tl) vs
 | [], tl, vs, x => by
  simp only [eR, aY] at x ⊢
  obtain ⟨c, r, e, x1, x2⟩ := x
  exact ⟨c, r, e, hv c x1, x2⟩
 | y :: hd, tl, vs, x => by
  simp only [fF, aY] at x ⊢
  obtain ⟨c, r, e, x1, x2⟩ := x
  exact ⟨c, r, e, x1, aDF hv hd x2⟩
theorem fL.aW5 {φ : AF} {st : aB} {c : Nat} {hd tl : List AV} {a : AV} (hc : st c = some (.cells (hd ++ a :: tl))) : fL φ st φ (st.aC c (.cells (hd ++ a.soft :: tl))) := fun h tmps S F => by
 have T : cC h st h (st.aC c (.cells (hd ++ a.soft :: tl))) := cC.of fun x hx => by
  have : x ≠ c := by rintro rfl; rw [hc] at hx; cases hx
  rw [aB.aM _ _ this]; exact hx
 refine ⟨fun x o hx => ?_, T, fun d => (F d).mono T⟩
 by_cases e : x = c
 · subst e
   rw [aB.aP] at hx
   cases hx
   obtain ⟨hl, c0, t, e1, e2, vs, e3, e4⟩ := S x _ hc
   refine ⟨hl, c0, t, e1, ?_, vs, e3, aY.mono T _ _ (aDF (fun v hv => VC.soft a [v] hv) hd e4)⟩
   simpa using e2
 · rw [aB.aM _ _ e] at hx
   obtain ⟨hl, y⟩ := S x o hx
   exact ⟨hl, k0.mono T rfl y⟩
end
abbrev wZ := zi tI_3 (zi zI_3 (zi aX (zi tI_31 (zi zI_31 (zi aN (zi bE (zi bF (zi b9 (zi tI_63 (zi zI_63 (zi bP (zi bQ (zi bT (zi bS (zi bR (zi tI_76 (zi zI_76 (zi lO (zi lU lM)))))))))))))))))))
theorem QW (cl : Cl) (h1 : cl.1.small = true) (h2 : cl.2.length ≤ 1048576) (h3 : ∀ x ∈ cl.2, x.small = true) (st : aB) : aD prog 80 [bY cl] st (fun r st' => r = bY cl ∧ st' = st) := by
 obtain ⟨⟨k, n, s, ks⟩, ts⟩ := cl
 have hhd := fun st => yR (.mk k n s ks) st h1
 simp only [aV] at hhd
 have IH := fun (x : Tm) (hx : x ∈ ts) st => yR x st (h3 x hx)
 have hlen : ts.length ≤ 1048576 := h2
 refine aD.pO (aD.fin ?_)
 simp only [gG]
 refine wF [] 1 func80 ntmps80 rfl rfl ?_
 simp only [eG, AV.fits, eM, aF]
 intro ⟨_, _, _, _, hl, _⟩
 simp -implicitDefEqProofs only [aA, seval, wZ]
 intro b2 hb2
 refine (hhd _).to ?_
 simp -implicitDefEqProofs only [aK, aA, seval, wZ]
 intro c hc
 have hne : c ≠ b2 := by rintro rfl; rw [aB.aP] at hc; cases hc
 have hn2 : st c = none := by rw [aB.aM st _ hne] at hc; exact hc
 have nA : b2 ≠ c := dB hne
 refine eL (σ := Nat) [] [1, 2, 3] ts (fun i b => (((ts.take i).map (fun y => y)).map Tm.av ≠ [] → (aB.aC (st.aC b2 (.cells [AV.int .i64 0, AV.int .i64 0, AV.str ⟨#[]⟩, AV.fslice [], AV.fslice []])) c (.cells ([AV.int .i64 k, AV.int .i64 n, AV.str s, AV.slice (ks.map Tm.av)] ++ [a9 4 b (((ts.take i).map (fun y => y)).map Tm.av)]))) b = none)) (fun i b => [(4, .int .i64 i)]) (fun i b => eU (st.aC b2 (.cells [AV.int .i64 0, AV.int .i64 0, AV.str ⟨#[]⟩, AV.fslice [], AV.fslice []])) c b [AV.int .i64 k, AV.int .i64 n, AV.str s, AV.slice (ks.map Tm.av)] (((ts.take i).map (fun y => y)).map Tm.av)) (by decide +kernel)
  ⟨0, fun h => absurd rfl h, aO.mk (by simp -implicitDefEqProofs only [aA, ↓aU, seval])⟩ (fun i x b hx hlt bU hdr hinv => ?_) (fun b hge hinv => ?_)
 case refine_1 =>
  have hw := bK (n := (i : Int) + 1)
  have cV : (((ts.take i).map (fun y => y)).map Tm.av).length = i := by simp only [aF, d7]; omega
  have htk : (ts.take (i + 1)).map (fun y => y) = (ts.take i).map (fun y => y) ++ [(fun y => y) x] := by rw [fN, hx]; simp
  have hbo := eD hinv
  simp -implicitDefEqProofs only [aF, bU, aA, seval, wZ]
  refine wP [(0, 1), (2, 1), (4, 1), (1, 2), (3, 2), (5, 1), (6, 2), (7, 2), (8, 1), (9, 0), (10, 1), (11, 0)] [0, 2, 4, 1, 3, 5, 6, 7, 8, 10] mixed ?_
  simp -implicitDefEqProofs only [bL (av := Tm.av) aN hx (aH x), aT, aH, hbo, mK, gY, aA, seval, wZ]
  refine jC (IH x (cW hx) _) ?_
  simp -implicitDefEqProofs only [aT, aH, cG, gY, aA, seval, wZ]
  refine eO aN bE bF rfl rfl (fB (aH _) (bZ _)) (dR _) hinv (by simp only [cV, aS, a7]; omega) (by simp only [cV, aS, a7]; omega) (fun b' hb' => ?_)
  rw [show (((ts.take i).map (fun y => y)).map Tm.av) ++ [((fun y => y) x).av] = ((ts.take (i + 1)).map (fun y => y)).map Tm.av by rw [htk]; simp] at hb' ⊢
  obtain ⟨g1, g2, g3⟩ := nO hb'
  simp only [fF, eR] at g1 g3
  simp -implicitDefEqProofs only [g3, mB, eV, aK, g1, hw, aK, aA, seval, wZ]
  exact ⟨b', g2, aO.mk (by simp -implicitDefEqProofs only [aA, seval])⟩
 have hbo := eD hinv
 rw [eS] at hinv hbo ⊢
 simp -implicitDefEqProofs only [aF, hge, aA, seval, wZ]
 simp -implicitDefEqProofs only [hbo, aK, aA, seval, wZ]
 have hS : (st.aC b2 (.cells [AV.int .i64 0, AV.int .i64 0, AV.str ⟨#[]⟩, AV.fslice [], AV.fslice []])) b2 ≠ none := by rw [aB.aP]; simp
 have h1 := gF hinv hS nA
 rw [aB.aP] at h1
 simp -implicitDefEqProofs only [h1, eV, aA, seval]
 obtain ⟨h2, h3⟩ := j8 (o := .cells [AV.int .i64 k, AV.int .i64 n, AV.str s, AV.slice (ks.map Tm.av), a9 4 b ((ts.map fun y => y).map Tm.av)]) hinv hS nA
 refine ⟨b, _, _, h2, h3, iB _, ⟨4, dR _⟩, ?_, ?_⟩
 · simp only [fM, bA, aW, eC, iP, iK, iD, List.map_id']
 · exact (((aL.refl _).aC hb2).aC hn2).aC hb2
structure Ss where
 p : List Cl
 q : List Tm
 a2R : Int
 used : Int
 a2J : Int
 fin : Int
theorem xW (l : List Cl) : ∀ e ∈ l.map bY, e.width = 5 := by intro e h; simp only [cU] at h; obtain ⟨t, _, rfl⟩ := h; exact n9 t
theorem HW (l : List Cl) : ∀ e ∈ l.map bY, e.cB = false := by intro e h; simp only [cU] at h; obtain ⟨t, _, rfl⟩ := h; exact H9 t

def jM (p : List Cl) (q : List Tm) (most fuel : Int) : Bool := qE p && (lW q && (decide (0 ≤ most) && (decide (most ≤ 20) && (decide (0 ≤ fuel) && decide (fuel ≤ 300)))))
noncomputable def i9 (p : List Cl) (cnd : Tm → List Nat → List Nat) (q : List Tm) (most fuel : Int) : List (List Tm) × Int := if jM p q most fuel = true then tJ p cnd q most.toNat fuel.toNat else ([], 9)
theorem Q7 {p : List Cl} (h : qE p = true) : p.length ≤ 20 ∧ ∀ c ∈ p, gJ c ∧ c.2.length ≤ 6 := by
 simp only [qE, cM, bJ, eW] at h
 refine ⟨h.1, fun c hc => ⟨aOR (h.2 c hc), ?_⟩⟩
 have := h.2 c hc
 simp only [kV, cM, bJ, eW] at this
 exact this.2.1
theorem JU {q : List Tm} (h : lW q = true) : q.length ≤ 6 ∧ ∀ t ∈ q, bD 26 t ∧ t.k = 3 := by
 simp only [lW, cM, bJ, eW] at h
 refine ⟨h.1, fun t ht => ?_⟩
 have hg := h.2 t ht
 have hk : t.valid = true ∧ t.k = 3 := by
  obtain ⟨k, n, s, ts⟩ := t
  simp only [Tm.goal, cM] at hg
  refine ⟨hg.1, ?_⟩
  have := hg.2
  simp only [wR, pS, q9, cM, bJ] at this
  simp only [Tm.k]
  rcases this with (h | h) | h <;> first | exact h.1 | exact h.1.1 | exact h.1.1.1
 exact ⟨⟨Tm.EJ hk.1, Tm.G9 hk.1⟩, hk.2⟩
abbrev CX := zi tI_3 (zi zI_3 (zi aX (zi tI_4 (zi zI_4 (zi cD (zi tI_26 (zi zI_26 (zi o0 (zi rQ (zi r7 (zi uF (zi tI_29 (zi zI_29 (zi gT (zi j0 (zi jZ (zi kM (zi tI_31 (zi zI_31 (zi aN (zi bE (zi bF b9))))))))))))))))))))))
theorem aV4 (p : List Cl) (q : List Tm) (most fuel : Int) (st : aB) :
 aD prog 37 [.slice (p.map bY), .slice (q.map Tm.av), .int .i64 most, .int .i64 fuel] st (fun r st' => r = .tup [.slice ((i9 p (fun _ l => l) q most fuel).1.map c9), .int .i64 (i9 p (fun _ l => l) q most fuel).2] ∧ st' = st) := by
 refine aD.done ?_
 have oM : jM p q most fuel = false → ∀ {st'}, st' = st → (AV.tup [AV.fslice [], .int .i64 9]).soft = .tup [.slice ((i9 p (fun _ l => l) q most fuel).1.map c9), .int .i64 (i9 p (fun _ l => l) q most fuel).2] ∧ aL st' st := fun h _ e => by
  subst e
  unfold i9
  rw [aE (by rw [h]; simp)]
  exact ⟨by simp only [kF, jP, mG, bA, aW], aL.refl _⟩
 refine wF [1000000] 4 func37 ntmps37 rfl rfl ?_
 intro _
 simp -implicitDefEqProofs only [aA, seval]
 refine (aS7 p _).to ?_
 simp -implicitDefEqProofs only [aA, seval]
 refine cT (fun h => ?_) (fun h => ?_)
 case refine_2 =>
  simp -implicitDefEqProofs only [h, aA, seval, CX]
  exact oM (by simp at h; simp [jM, h]) rfl
 have hp : qE p = true := by simpa using h
 simp -implicitDefEqProofs only [h, aA, seval]
 refine (WO q _).to ?_
 simp -implicitDefEqProofs only [aA, seval]
 refine cT (fun h2 => ?_) (fun h2 => ?_)
 case refine_2 =>
  simp -implicitDefEqProofs only [h2, aA, seval, CX]
  exact oM (by simp at h2; simp [jM, h2]) rfl
 have hq : lW q = true := by simpa using h2
 simp -implicitDefEqProofs only [h2, aA, seval]
 refine cT (fun h3 => ?_) (fun h3 => ?_)
 case refine_2 =>
  simp -implicitDefEqProofs only [h3, aA, seval, CX]
  exact oM (by simp at h3; simp only [jM]; rw [show decide (0 ≤ most) = false from fJ (by omega)]; simp) rfl
 have h3' : 0 ≤ most := by simpa using h3
 simp -implicitDefEqProofs only [h3, aA, seval]
 refine cT (fun h4 => ?_) (fun h4 => ?_)
 case refine_2 =>
  simp -implicitDefEqProofs only [h4, aA, seval, CX]
  exact oM (by simp at h4; simp only [jM]; rw [show decide (most ≤ 20) = false from fJ (by omega)]; simp) rfl
 have h4' : most ≤ 20 := by simpa using h4
 simp -implicitDefEqProofs only [h4, aA, seval]
 refine cT (fun h5 => ?_) (fun h5 => ?_)
 case refine_2 =>
  simp -implicitDefEqProofs only [h5, aA, seval, CX]
  exact oM (by simp at h5; simp only [jM]; rw [show decide (0 ≤ fuel) = false from fJ (by omega)]; simp) rfl
 have h5' : 0 ≤ fuel := by simpa using h5
 simp -implicitDefEqProofs only [h5, aA, seval]
 refine aQ (fun h6 => ?_) (fun h6 => ?_)
 · simp -implicitDefEqProofs only [aA, seval, CX]
   exact oM (by simp at h6; simp only [jM]; rw [show decide (fuel ≤ 300) = false from fJ (by omega)]; simp) rfl
 have h6' : fuel ≤ 300 := by simpa using h6
 obtain ⟨p1, p2⟩ := Q7 hp
 obtain ⟨q1, q2⟩ := JU hq
 obtain ⟨m, rfl⟩ := tU h3'
 obtain ⟨f, rfl⟩ := tU h5'
 simp -implicitDefEqProofs only [aA, seval]
 refine (aQ3 p2 p1 q2 q1 (by omega) (by omega) _).to ?_
 simp -implicitDefEqProofs only [aA, seval]
 refine ⟨?_, aL.refl _⟩
 have hok : jM p q m f = true := by simp [jM, hp, hq, h4', h6']
 unfold i9
 rw [aG hok]
 simp only [kF, jP, p9, bA, aW, l7]
end Go.AW
namespace Go.AW

def fG : Tm := .mk 3 0 ⟨#[102, 97, 105, 108]⟩ []
theorem aZF (f : Int → Tm) (b : ByteArray) : (Tm.mk 3 0 b []).aJ f = Tm.mk 3 0 b [] := by
 unfold Tm.aJ
 rw [aE (by decide)]
 try rfl
theorem aOU {p : List Cl} {cnd : Tm → List Nat → List Nat} {s : RS} {g : RG} {rest : List RG} {b : ByteArray} (hb : b = ⟨#[116, 114, 117, 101]⟩ ∨ b = ⟨#[102, 97, 105, 108]⟩) (hg : g.t = .mk 3 0 b []) :
 iY p cnd s g rest = if b = ⟨#[116, 114, 117, 101]⟩ then .go ⟨rest, s.σ, s.N, s.chs⟩ else .fail := by
 have hm : (Tm.mk 3 0 b []).aJ (rs s.σ) = Tm.mk 3 0 b [] := aZF (rs s.σ) b
 have fY : eH (.mk 3 0 b []) = true := rfl
 have tB : oA (.mk 3 0 b []) = false := by
  have h : ¬ (Tm.mk 3 0 b []).s = ⟨#[33]⟩ := by
   show ¬ b = _
   rcases hb with rfl | rfl <;> decide
  unfold oA
  simp [h]
 have hbi : isBuiltin (Tm.mk 3 0 b []).s ((Tm.mk 3 0 b []).ts.length : Int) = true := by
  show isBuiltin b 0 = true
  rcases hb with rfl | rfl <;> decide
 unfold iY
 rw [hg, hm]
 simp only [fY, tB, hbi, Bool.true_eq_false, jD, dZ, fZ]
 simp only [Tm.s, Tm.ts, c8, g9]
 have hne : ¬ ((⟨#[102, 97, 105, 108]⟩ : ByteArray) = ⟨#[116, 114, 117, 101]⟩) := by decide
 rcases hb with rfl | rfl
 · simp
 · simp [hne]
theorem aZT (p : List Cl) (cnd : Tm → List Nat → List Nat) (q : List Tm) (most fuel : Nat) : tJ p cnd (fG :: q) most fuel = if fuel = 0 then ([], 2) else ([], 0) := by
 unfold tJ
 rw [zT (s := lT (fG :: q)) (g := ⟨fG, 0⟩) (rest := q.map fun t => ⟨t, 0⟩) rfl]
 by_cases hf : fuel = 0
 · rw [aG hf, aG hf]
 rw [aE hf, aE hf, aOU (.inr rfl) rfl, aE (show ¬ ((⟨#[102, 97, 105, 108]⟩ : ByteArray) = ⟨#[116, 114, 117, 101]⟩) by decide)]
 try rfl
theorem aUS {p : List Cl} {cnd : Tm → List Nat → List Nat} {q : List Tm} {most fuel : Int} (h : jM p q most fuel = false) : i9 p cnd q most fuel = ([], 9) := by
 unfold i9
 rw [h]; try rfl
theorem aDQ {p : List Cl} {cnd : Tm → List Nat → List Nat} {q : List Tm} {most fuel : Int} (h : jM p q most fuel = true) : i9 p cnd q most fuel = tJ p cnd q most.toNat fuel.toNat := by
 unfold i9
 rw [aG h]
theorem aVM {p : List Cl} {q : List Tm} {most fuel : Int} : jM p q most fuel = true ↔ (qE p = true ∧ lW q = true ∧ 0 ≤ most ∧ most ≤ 20 ∧ 0 ≤ fuel ∧ fuel ≤ 300) := by
 simp only [jM, cM, bJ]
theorem aNI {p : List Cl} {cnd : Tm → List Nat → List Nat} {s : RS} {g : RG} {rest : List RG} {e : Int} (h : iY p cnd s g rest = .stop e) : e ≠ 9 := by
 unfold iY at h
 intro he
 subst he
 repeat' split at h
 all_goals first | (cases h; done) | (injection h with h; unfold pW at h; repeat' split at h; all_goals omega) | (injection h with h; omega)
theorem aM3 (p : List Cl) (cnd : Tm → List Nat → List Nat) (vars : List Int) : ∀ (n most f : Nat) (s : RS), most + f ≤ n → (j3 p cnd vars most f s).2 ≠ 9 ∧ (j3 p cnd vars most f s).1.length ≤ most := by
 intro n
 induction n with
 | zero =>
  intro most f s hn
  obtain rfl : most = 0 := by omega
  obtain rfl : f = 0 := by omega
  cases hg : s.goals with
  | nil => rw [EG hg]; simp
  | cons g rest => rw [zT (fuel := 0) hg]; simp
 | succ n ih =>
  intro most f s hn
  cases hg : s.goals with
  | nil =>
   rw [EG hg]
   by_cases hm : most = 0
   · rw [aG hm]; simp
   rw [aE hm]
   cases ha : jI s.σ vars with
   | none => simp
   | some a =>
    simp only
    cases hb : f0 p s.chs.length s.chs with
    | none => simp; omega
    | some s' =>
     obtain ⟨h1, h2⟩ := ih (most - 1) f s' (by omega)
     simp only [aS]
     exact ⟨h1, by omega⟩
  | cons g rest =>
   by_cases hf : f = 0
   · subst hf
     rw [zT (fuel := 0) hg]; simp
   rw [zT hg, aE hf]
   cases hst : iY p cnd s g rest with
   | stop e => exact ⟨aNI hst, jE _⟩
   | go s' => exact ih most (f - 1) s' (by omega)
   | fail =>
    simp only
    cases hb : f0 p s.chs.length s.chs with
    | none => simp
    | some s' => exact ih most (f - 1) s' (by omega)
theorem aZ6 {p : List Cl} {cnd : Tm → List Nat → List Nat} {q : List Tm} {most fuel : Int} : (i9 p cnd q most fuel).2 = 9 ↔ jM p q most fuel = false := by
 constructor
 · intro h
   cases hk : jM p q most fuel with
   | false => rfl
   | true => rw [aDQ hk] at h; exact absurd h (aM3 p cnd _ _ _ _ _ (c7 _)).1
 · intro h
   rw [aUS h]
theorem aUN {p : List Cl} {cnd : Tm → List Nat → List Nat} {q : List Tm} {most fuel : Int} (h : jM p (fG :: q) most fuel = true) : (i9 p cnd (fG :: q) most fuel) = if fuel = 0 then ([], 2) else ([], 0) := by
 obtain ⟨h1, h2, h3, h4, h5, h6⟩ := aVM.1 h
 rw [aDQ h, aZT]
 by_cases hf : fuel = 0
 · subst hf; rfl
 · rw [aE hf, aE (by omega)]
def oQ (l : List IC) : Nat := (l.map fun c => c.list.length).sum
theorem MC (l m : List IC) : oQ (l ++ m) = oQ l + oQ m := by simp [oQ]
theorem aKZ (c : IC) : oQ [c] = c.list.length := by simp [oQ]
theorem aE1 (l : List IC) (k : Nat) : oQ (l.take k) ≤ oQ l := by
 have := MC (l.take k) (l.drop k)
 rw [sO] at this
 omega
structure IX (p : List Cl) (M : Nat) (i : IS) : Prop where
 tnd : i.tr.Nodup
 tin : ∀ n ∈ i.tr, (0 ≤ n ∧ n < (i.fresh : Int)) ∧ i.σ n ≠ none
 phi : i.fresh + 26 * oQ i.chs ≤ M
 ch : ∀ c ∈ i.chs, c.node < c.taken ∧ c.taken ≤ i.nn ∧ c.eP ≤ i.tr.length ∧ ∀ x ∈ c.list, x < p.length
 mono : i.chs.Pairwise (fun c d => c.taken ≤ d.taken ∧ c.eP ≤ d.eP)
theorem IX.up {p : List Cl} {M M' : Nat} {i : IS} (h : IX p M i) (hM : M ≤ M') : IX p M' i := ⟨h.tnd, h.tin, nF h.phi hM, h.ch, h.mono⟩
theorem IX.NX {p : List Cl} {M : Nat} {i : IS} (h : IX p M i) : i.tr.length ≤ i.fresh := AK h.tnd fun n hn => (h.tin n hn).1
theorem KF {p : List Cl} (hp : ∀ c ∈ p, gJ c) {M : Nat} {goal : Tm} {at' : Nat} {rest : List IG} : ∀ (l : List Nat) (s : IS), (∀ x ∈ l, x < p.length) → at' < s.nn → s.fresh + 26 * oQ s.chs + 26 * l.length ≤ M → IX p M s → cL s.σ → cP (bD s.fresh) s.σ → bD s.fresh goal →
 IX p M (gI p goal at' rest l s).2
 | [], s, _, _, _, h, _, _, _ => by unfold gI; exact h
 | j :: l, s, hl, ha, hM, h, hg, ho, hgo => by
  obtain ⟨x, hx⟩ : ∃ x, p[j]? = some x := ⟨_, fH (hl j (by simp))⟩
  have hX := hp x (cW hx)
  have hl' : ∀ x ∈ l, x < p.length := fun x h => hl x (by simp [h])
  simp only [aS] at hM
  unfold gI
  simp only [hx]
  split
  · have hhd : bD ((s.fresh + 26 : Nat) : Int) (dC s.fresh x.1) := (hX.dC s.fresh x.1 (by simp)).mono (by have := hX.fr.1; omega)
    obtain ⟨r, σ', add, U⟩ := rD (N := s.fresh + 26) hg (fun n u e => (ho n u e).mono (by omega)) (hgo.mono (by omega)) hhd
    rw [U.eq]
    have S := U.uI
    refine ⟨?_, ?_, ?_, ?_, ?_⟩
    · simp only
      refine tV.2 ⟨h.tnd, S.nodup, fun a ha b hb e => ?_⟩
      subst e
      exact (h.tin a ha).2 (S.new a hb).1
    · intro n hn
      simp only [fS] at hn ⊢
      rcases hn with hn | hn
      · have h1 := h.tin n hn
        have hna : n ∉ add := fun ha => h1.2 (S.new n ha).1
        exact ⟨⟨h1.1.1, by have := h1.1.2; omega⟩, by rw [S.a8 n hna]; exact h1.2⟩
      · have := S.fO n hn
        exact ⟨⟨this.1, by omega⟩, (S.new n hn).2⟩
    · simp only
      split
      · omega
      · rw [MC, aKZ]; simp only; omega
    · intro c hc
      have key : ∀ c ∈ s.chs, c.node < c.taken ∧ c.taken ≤ s.nn ∧ c.eP ≤ (s.tr ++ add).length ∧ ∀ x ∈ c.list, x < p.length := fun c hc => by
       obtain ⟨h1, h2, h3, h4⟩ := h.ch c hc
       exact ⟨h1, h2, by rw [dQ]; omega, h4⟩
      simp only at hc ⊢
      split at hc
      · exact key c hc
      · rcases fS.1 hc with hc | hc
        · exact key c hc
        · simp only [cY, dP, d4] at hc
          subst hc
          exact ⟨ha, c7 _, by rw [dQ]; simp only; omega, hl'⟩
    · simp only
      split
      · exact h.mono
      · refine List.pairwise_append.2 ⟨h.mono, List.pairwise_singleton _ _, fun a ha b hb => ?_⟩
        simp only [cY, dP, d4] at hb
        subst hb
        obtain ⟨h1, h2, h3, h4⟩ := h.ch a ha
        exact ⟨h2, h3⟩
  · refine KF hp l { s with fresh := s.fresh + 26 } hl' ha (by simp only; omega) ⟨h.tnd, fun n hn => ?_, by simp only; omega, h.ch, h.mono⟩ hg (fun n u e => (ho n u e).mono (by simp only; omega)) (hgo.mono (by simp only; omega))
    have := h.tin n hn
    exact ⟨⟨this.1.1, by simp only; omega⟩, this.2⟩
theorem IX.pop {p : List Cl} {M : Nat} {gl : List IG} {τ : Sub} {tr : List Int} {ds : List IC} {d : IC} {F nn : Nat} (h : IX p M ⟨gl, τ, tr, ds ++ [d], F, nn⟩) :
 IX p M ⟨gl, τ.out (tr.drop d.eP), tr.take d.eP, ds, F, d.taken⟩ ∧ F + 26 * oQ ds + 26 * d.list.length ≤ M ∧ d.node < d.taken ∧ d.taken ≤ nn ∧ d.eP ≤ tr.length ∧ ∀ x ∈ d.list, x < p.length := by
 obtain ⟨h1, h2, h3, h4⟩ := h.ch d (by simp)
 have aNV := h.phi
 simp only [MC, aKZ] at aNV
 have hm := List.pairwise_append.1 h.mono
 have hnd := h.tnd
 simp only at hnd h2 h3
 have hsp : tr.take d.eP ++ tr.drop d.eP = tr := sO _ _
 rw [← hsp, tV] at hnd
 refine ⟨⟨hnd.1, fun n hn => ?_, by simp only; omega, fun c hc => ?_, hm.1⟩, by omega, h1, h2, h3, h4⟩
 · have := h.tin n (lY hn)
   refine ⟨this.1, ?_⟩
   simp only
   unfold Sub.out
   rw [aE (fun hd => hnd.2.2 n hn n hd rfl)]
   exact this.2
 · obtain ⟨g1, g2, g3, g4⟩ := h.ch c (by simp [hc])
   have := hm.2.2 c hc d (by simp)
   exact ⟨g1, this.1, by simp only [d7]; simp only at g3; omega, g4⟩
theorem VK {p : List Cl} (hp : ∀ c ∈ p, gJ c) {M : Nat} : ∀ (n : Nat) (cs : List RC) (i : IS), iE i.fresh cs i.chs i.σ i.tr → IX p M i → ∀ i', gQ p n i = some i' → IX p M i'
 | 0, _, _, _, _, i', h => by simp [gQ] at h
 | n + 1, cs, i, C, h, i', e => by
  obtain ⟨gl, τ, tr, ds, F, nn⟩ := i
  simp only at C
  cases C with
  | nil => simp only [gQ, List.getLast?_nil] at e; cases e
  | @snoc cs ds c d _ _ C h1 h2 =>
   obtain ⟨hP, hM, hnt, htn, htr, hli⟩ := h.pop
   have e3 : (IS.pop ⟨gl, τ, tr, ds ++ [d], F, nn⟩ d) = ⟨gl, τ.out (tr.drop d.eP), tr.take d.eP, ds, F, d.taken⟩ := by simp only [IS.pop, RH]
   simp only [gQ, List.getLast?_append, List.getLast?_singleton, Option.some_or, e3] at e
   obtain ⟨ρ, S, e1, hok, hG, e2⟩ := h1
   have hX := KF hp (rest := d.rest) d.list _ hli (at' := d.node) (by simp only; exact hnt) (by simp only; exact hM) hP S.g2 S.o2 (e1 ▸ S.yQ hok)
   split at e
   · cases e
     exact hX
   · rename_i hf
     have key := JM hp (cs := cs) (nn := d.taken) (at' := d.node) (tr := tr.take d.eP) hok hG c.left F gl S C
     rw [← e1, ← e2] at key
     cases ht : iF p cs c.goal c.rest c.σ c.N c.left with
     | some s =>
      rw [e2, ht] at key
      obtain ⟨i2, k1, _⟩ := key
      rw [← e2] at k1
      rw [k1] at hf
      simp at hf
     | none =>
      rw [e2, ht] at key
      obtain ⟨F', hF, k1⟩ := key
      rw [← e2] at k1
      rw [k1] at e hX
      exact VK hp n cs _ (C.mono hF) hX i' e
end Go.AW
namespace Go.AW
open Go.Proofs.Tryz
def eA : List IG → AV
 | [] => .nilptr
 | ⟨.mk k n s ts, cut, up⟩ :: l => .pptr (.agg [.int .i64 k, .int .i64 n, .str s, .slice (ts.map Tm.av), .int .i64 (cut : Int), .int .i64 up, eA l])
theorem r9 (k n : Int) (s : ByteArray) (ts : List Tm) (cut : Nat) (up : Int) (l : List IG) : eA (⟨.mk k n s ts, cut, up⟩ :: l) = .pptr (.agg [.int .i64 k, .int .i64 n, .str s, .slice (ts.map Tm.av), .int .i64 (cut : Int), .int .i64 up, eA l]) := by rw [eA]
theorem oU (l : List IG) : (eA l).isAgg = false ∧ (eA l).width = 1 ∧ (eA l).cB = false ∧ (eA l).cells = [eA l] ∧ (eA l).storable = true ∧ (eA l).soft = eA l := by
 cases l with
 | nil => rw [eA]; exact ⟨rfl, rfl, rfl, rfl, rfl, rfl⟩
 | cons g l => obtain ⟨⟨k, n, s, ts⟩, cut, up⟩ := g; rw [r9]; exact ⟨rfl, rfl, rfl, rfl, rfl, rfl⟩
abbrev aCA := zi tI_3 (zi zI_3 (zi aX (zi tI_31 (zi zI_31 (zi aN (zi bE (zi bF (zi b9 (zi tI_63 (zi zI_63 (zi bP (zi bQ (zi bT (zi bS (zi bR (zi tI_150 (zi zI_150 (zi tI_185 (zi zI_185 (zi aL1 (zi aDU (zi ZI (zi aL3 aGS)))))))))))))))))))))))
theorem LV (bd : List Tm) (cut : Nat) (up : Int) (rest : List IG) (hl : bd.length ≤ 1048576) (st : aB) :
 aD prog 112 [.slice (bd.map Tm.av), .int .i64 (cut : Int), .int .i64 up, eA rest] st (fun r st' => r = eA (bd.map (fun t => (⟨t, cut, up⟩ : IG)) ++ rest) ∧ st' = st) := by
 obtain ⟨r1, r2, r3, r4, r5, r6⟩ := oU rest
 refine aD.done ?_
 refine wF [1000000] 4 func112 ntmps112 rfl rfl ?_
 intro _
 have hw0 := bK (n := (bd.length : Int) - 1)
 simp -implicitDefEqProofs only [aF, hw0, aA, seval, aCA]
 refine gZ (σ := Nat) [1000000] [0, 1, 2, 8] (fun j => j ≤ bd.length) (fun j => [(3, eA ((bd.drop j).map (fun t => (⟨t, cut, up⟩ : IG)) ++ rest)), (9, .int .i64 ((j : Int) - 1))]) (fun _ => st) (fun j => j) (by decide +kernel) ⟨bd.length, c7 _, aO.mk (by simp -implicitDefEqProofs only [kH, aW, eR, aA, seval])⟩ ?_
 intro j hj
 cases j with
 | zero =>
  rw [tT]
  obtain ⟨s1, s2, s3, s4, s5, s6⟩ := oU (bd.map (fun t => (⟨t, cut, up⟩ : IG)) ++ rest)
  simp -implicitDefEqProofs only [vA, ↓K5, List.contains, List.elem, ↓reduceIte, reduceCtorEq, Nat.reduceEqDiff]
  refine aQ (fun h => absurd h (by simp)) (fun h => ?_)
  simp -implicitDefEqProofs only [aA, seval]
  exact ⟨s6, aL.refl _⟩
 | succ j =>
 obtain ⟨s1, s2, s3, s4, s5, s6⟩ := oU ((bd.drop (j + 1)).map (fun t => (⟨t, cut, up⟩ : IG)) ++ rest)
 obtain ⟨x, hx⟩ : ∃ x, bd[j]? = some x := ⟨_, fH (by omega)⟩
 have hat := bL (av := Tm.av) (P := prog) aN hx (aH x)
 have hdr : bd.drop j = x :: bd.drop (j + 1) := by
  obtain ⟨h1, h2⟩ := gS.1 hx
  rw [qY h1, h2]
 have hc : ((j + 1 : Nat) : Int) - 1 = (j : Int) := by omega
 have hw := bK (n := (j : Int) - 1)
 have hnx : eA ((bd.drop j).map (fun t => (⟨t, cut, up⟩ : IG)) ++ rest) = .pptr (.agg (x.av.cells ++ [.int .i64 (cut : Int), .int .i64 up, eA ((bd.drop (j + 1)).map (fun t => (⟨t, cut, up⟩ : IG)) ++ rest)])) := by
  rw [hdr]
  obtain ⟨k, n, s, ts⟩ := x
  rw [bA, fF, r9, aV]
  try rfl
 generalize eA ((bd.drop (j + 1)).map (fun t => (⟨t, cut, up⟩ : IG)) ++ rest) = A at *
 obtain ⟨k, n, s, ts⟩ := x
 simp only [aV] at hat hnx
 rw [hc]
 simp -implicitDefEqProofs only [aA, seval]
 refine aQ (fun h => ?_) (fun h => absurd h (by simp))
 simp -implicitDefEqProofs only [s3, s4, hat, hw, aA, seval, aCA]
 trace_state
 refine ⟨j, by omega, by omega, aO.mk (by rw [hnx]; simp -implicitDefEqProofs only [aA, seval])⟩
theorem aOM (c : Int) (st : aB) : aD prog 151 [.int .i64 c] st (fun r st' => r = .int .i64 (pW c) ∧ st' = st) := by
 refine aD.done ?_
 refine wF [1000000] 1 func151 ntmps151 rfl rfl ?_
 intro _
 simp -implicitDefEqProofs only [aA, seval]
 unfold pW
 refine aQ (fun h => ?_) (fun h => ?_)
 · simp -implicitDefEqProofs only [aA, seval]
   have h' : c = 2 := by simpa using h
   exact ⟨by rw [aG h']; try rfl, aL.refl _⟩
 rw [aE (show ¬ c = 2 by simpa using h)]
 simp -implicitDefEqProofs only [aA, seval]
 refine aQ (fun h => ?_) (fun h => ?_)
 · simp -implicitDefEqProofs only [aA, seval]
   have h' : c = 3 := by simpa using h
   exact ⟨by rw [aG h']; try rfl, aL.refl _⟩
 rw [aE (show ¬ c = 3 by simpa using h)]
 simp -implicitDefEqProofs only [aA, seval]
 refine aQ (fun h => ?_) (fun h => ?_)
 · simp -implicitDefEqProofs only [aA, seval]
   have h' : c = 4 := by simpa using h
   exact ⟨by rw [aG h']; try rfl, aL.refl _⟩
 rw [aE (show ¬ c = 4 by simpa using h)]
 simp -implicitDefEqProofs only [aA, seval]
 exact ⟨rfl, aL.refl _⟩
abbrev aNB := zi tI_9 (zi zI_9 (zi cH (zi tI_31 (zi zI_31 (zi aN (zi bE (zi bF (zi b9 (zi tI_63 (zi zI_63 (zi bP (zi bQ (zi bT (zi bS (zi bR (zi tI_193 (zi zI_193 (zi MB (zi OH PX)))))))))))))))))))
theorem aF1 (k n : Int) (s : ByteArray) (ts : List Tm) (st : aB) : aD prog 153 [(Tm.mk k n s ts).av] st (fun r st' => r = .agg [.str s, .int .i64 (ts.length : Int)] ∧ st' = st) := by
 refine aD.done ?_
 simp only [aV]
 refine wF [1000000] 1 func153 ntmps153 rfl rfl ?_
 intro _
 simp -implicitDefEqProofs only [aK, aF, aA, seval, aNB]
 intro b2 h2
 exact ⟨by simp only [kA, jP, kW, bA, aW], (aL.refl _).aC h2⟩
abbrev FB := zi tI_3 (zi zI_3 (zi aX (zi tI_29 (zi zI_29 (zi gT (zi j0 (zi jZ (zi kM (zi tI_51 (zi zI_51 (zi dW (zi fW (zi fU (zi gA (zi tI_63 (zi zI_63 (zi bP (zi bQ (zi bT (zi bS (zi bR (zi tI_76 (zi zI_76 (zi lO (zi lU (zi lM (zi tI_193 (zi zI_193 (zi MB (zi OH PX))))))))))))))))))))))))))))))
theorem aXF (p : List Cl) (t : Tm) (hp : p.length ≤ 1048576) (st : aB) : aD prog 152 [.slice (p.map bY), .agg [.str t.s, .int .i64 (t.ts.length : Int)]] st (fun r st' => r = .slice ((fE p t).map nv) ∧ st' = st) := by
 rw [K2]
 refine aD.done ?_
 obtain ⟨tk, tn, ts', tts⟩ := t
 simp only [Tm.s, Tm.ts]
 refine wF [1000000] 2 func152 ntmps152 rfl rfl ?_
 intro _
 simp -implicitDefEqProofs only [aF, aA, seval, FB]
 refine rC (σ := Unit) [1000000] [3, 4, 8, 9] p 1 5 (fun i _ => ((List.range i).filter (pY p (.mk tk tn ts' tts))).map nv) (fun _ _ => True) (fun i _ => [(10, .int .i64 i)]) (fun _ _ => st) (fun i _ _ e he => by simp only [cU] at he; obtain ⟨t, _, rfl⟩ := he; exact ⟨rfl, rfl⟩) (by decide +kernel) ⟨(), 0, trivial, fun h => absurd rfl h, aO.mk (by simp -implicitDefEqProofs only [jG, List.range_zero, List.filter_nil, aW, aA, ↓aU, seval])⟩ (fun i x _ b hx hlt bU hdr hinv hb => ?_) (fun _ b hge hinv => ?_)
 case refine_2 =>
  simp -implicitDefEqProofs only [hge, eC, iK, oC, AS, lI, aA, seval]
  exact ⟨rfl, aL.refl _⟩
 have hw := bK (n := (i : Int) + 1)
 have hst := SR p (.mk tk tn ts' tts) i
 have hln := IU p (.mk tk tn ts' tts) i
 have hat := bL (av := bY) (P := prog) gT hx (n9 x)
 obtain ⟨⟨k, n, s', ts⟩, bd⟩ := x
 rw [gG] at hat
 have hP : pY p (.mk tk tn ts' tts) i = (decide (s' = ts') && decide ((ts.length : Int) = (tts.length : Int))) := by unfold pY; rw [hx]; try rfl
 rw [hP] at hst
 have hpr := fun st => aF1 k n s' ts st
 have aSC : d6 prog .eql 193 (.agg [.str s', .int .i64 (ts.length : Int)]) (.agg [.str ts', .int .i64 (tts.length : Int)]) = some (.bool (decide (s' = ts') && decide ((ts.length : Int) = (tts.length : Int)))) := by
  have h : H5 prog 193 = true := by kernel_rfl
  simp only [d6, h, and_self, fZ]
 simp only [aV] at hpr
 simp -implicitDefEqProofs only [bU, hat, aA, ↓aU, seval, FB]
 refine wP [(0, 1), (1, 2), (2, 2), (3, 2), (4, 1)] [0, 1, 2, 3, 4] mixed ?_
 simp -implicitDefEqProofs only [aA, seval, FB]
 refine jC (hpr _) ?_
 simp -implicitDefEqProofs only [aSC, aA, seval, FB]
 refine aQ (fun h2 => ?_) (fun h2 => ?_)
 · rw [aG h2] at hst
   simp -implicitDefEqProofs only [aA, seval, FB]
   refine eO dW fW fU rfl rfl (fB rfl rfl) (aGW _) hb (by simp only [aF, aS, a7]; omega) (by simp only [aF, aS, a7]; omega) (fun b' hb' => ?_)
   rw [show ∀ l : List Nat, l.map nv ++ [AV.int .i64 (i : Int)] = (l ++ [i]).map nv from fun l => by simp [nv], ← hst] at hb' ⊢
   simp -implicitDefEqProofs only [hw, aA, seval]
   exact ⟨(), b', hb', aO.mk (by simp -implicitDefEqProofs only [aA, seval])⟩
 · rw [aE (by rw [h2]; simp), iC] at hst
   rw [← hst] at hb ⊢
   simp -implicitDefEqProofs only [hw, aA, seval]
   exact ⟨(), b, hb, aO.mk (by simp -implicitDefEqProofs only [aA, seval])⟩
def qD : IC → AV
 | ⟨.mk k n s ts, node, rest, list, eP, taken⟩ => .agg [.int .i64 k, .int .i64 n, .str s, .slice (ts.map Tm.av), .int .i64 (node : Int), eA rest, .slice (list.map nv), .int .i64 (eP : Int), .int .i64 (taken : Int)]
theorem aHV (k n : Int) (s : ByteArray) (ts : List Tm) (node : Nat) (rest : List IG) (list : List Nat) (eP taken : Nat) : qD ⟨.mk k n s ts, node, rest, list, eP, taken⟩ = .agg [.int .i64 k, .int .i64 n, .str s, .slice (ts.map Tm.av), .int .i64 (node : Int), eA rest, .slice (list.map nv), .int .i64 (eP : Int), .int .i64 (taken : Int)] := rfl
theorem aR6 (c : IC) : (qD c).width = 9 := by obtain ⟨⟨k, n, s, ts⟩, _, _, _, _, _⟩ := c; rfl
theorem LR (l : List IC) : ∀ e ∈ l.map qD, e.width = 9 := by intro e he; simp only [cU] at he; obtain ⟨t, _, rfl⟩ := he; exact aR6 t
theorem aOB (c : IC) : (qD c).cells.all AV.storable = true := by
 obtain ⟨⟨k, n, s, ts⟩, _, rest, _, _, _⟩ := c
 rw [aHV]
 have := (oU rest).2.2.2.2.1
 rw [eW]
 intro e he
 simp only [AV.cells, cY, dP, d4] at he
 rcases he with rfl | rfl | rfl | rfl | rfl | rfl | rfl | rfl | rfl <;> first | rfl | exact this
def gV (c : Nat) (p : List Cl) (q : List Tm) (idx : Bool) (fuel used fresh : Int) (gl qc qn : AV) (mx : Int) : List AV :=
 [.ptr c 0, .slice (p.map bY), .slice (q.map Tm.av), .bool idx, .bool false, .int .i64 fuel, .int .i64 used, .int .i64 fresh, gl, qc, qn, .int .i64 mx]
def iO (S c m : Nat) (qt qc qn : AV) : List Nat := [S, c, m] ++ dI qt ++ dM qc ++ dM qn
theorem aY6 (q : AV) : dI q = dM q := by cases q <;> rfl
theorem MV (q : AV) : (dM q).Nodup := by cases q <;> simp [dM]
structure dG (st0 st : aB) (S c m : Nat) (qt qc qn : AV) (p : List Cl) (q : List Tm) (idx : Bool) (fuel used mx : Int) (nd : List AV) (i : IS) : Prop where
 cell : st S = some (.cells (gV c p q idx fuel used i.fresh (eA i.goals) qc qn mx))
 sto : fT st c m qt i.σ i.tr
 acC : i8 st 9 qc (i.chs.map qD)
 acN : i8 st 6 qn nd
 ndl : nd.length = i.nn
 ndw : ∀ e ∈ nd, e.width = 6
 dis : (iO S c m qt qc qn).Nodup
 new : ∀ b ∈ iO S c m qt qc qn, st0 b = none
 a8 : ∀ b o, st0 b = some o → st b = some o
theorem d5 {b S c m : Nat} {qt qc qn : AV} : b ∈ iO S c m qt qc qn ↔ b = S ∨ b = c ∨ b = m ∨ b ∈ dI qt ∨ b ∈ dM qc ∨ b ∈ dM qn := by
 simp only [iO, fS, cY, dP, d4, or_assoc]
section
variable {st0 st : aB} {S c m : Nat} {qt qc qn : AV} {p : List Cl} {q : List Tm} {idx : Bool} {fuel used mx : Int} {nd : List AV} {i : IS}
theorem dG.held (h : dG st0 st S c m qt qc qn p q idx fuel used mx nd i) : ∀ b ∈ iO S c m qt qc qn, st b ≠ none := fun b hb => by
 rcases d5.1 hb with rfl | rfl | rfl | hb | hb | hb
 · rw [h.cell]; simp
 · rw [h.sto.sub.cells]; simp
 · rw [h.sto.sub.map]; simp
 · obtain ⟨cs, e⟩ := h.sto.GB b hb; rw [e]; simp
 · obtain ⟨cs, e⟩ := h.acC.some b hb; rw [e]; simp
 · obtain ⟨cs, e⟩ := h.acN.some b hb; rw [e]; simp
theorem dG.uW (h : dG st0 st S c m qt qc qn p q idx fuel used mx nd i) : aL st st0 := fun b => by
 refine ⟨fun e => ?_, h.a8 b⟩
 cases hb : st0 b with
 | none => rfl
 | some o => rw [h.a8 b o hb] at e; cases e
theorem dG.aJC (h : dG st0 st S c m qt qc qn p q idx fuel used mx nd i) {b : Nat} (hb : st b = none) : st0 b = none := (h.uW b).1 hb
theorem dG.parts (h : dG st0 st S c m qt qc qn p q idx fuel used mx nd i) : S ≠ c ∧ S ≠ m ∧ c ≠ m ∧ S ∉ dI qt ∧ S ∉ dM qc ∧ S ∉ dM qn ∧ c ∉ dI qt ∧ c ∉ dM qc ∧ c ∉ dM qn ∧ m ∉ dI qt ∧ m ∉ dM qc ∧ m ∉ dM qn ∧ (∀ b ∈ dI qt, b ∉ dM qc ∧ b ∉ dM qn) ∧ ∀ b ∈ dM qc, b ∉ dM qn := by
 have hd := h.dis
 simp only [iO, tV, List.nodup_cons, cY, dP, d4, not_or, fS] at hd
 obtain ⟨⟨⟨⟨⟨h1, h2⟩, h3, _⟩, h4, h5⟩, h6, h7⟩, h8, h9⟩ := hd
 refine ⟨h1, h2, h3, fun hb => h5 _ (.inl rfl) _ hb rfl, fun hb => h7 _ (.inl (.inl rfl)) _ hb rfl, fun hb => h9 _ (.inl (.inl (.inl rfl))) _ hb rfl,
  fun hb => h5 _ (.inr (.inl rfl)) _ hb rfl, fun hb => h7 _ (.inl (.inr (.inl rfl))) _ hb rfl, fun hb => h9 _ (.inl (.inl (.inr (.inl rfl)))) _ hb rfl,
  fun hb => h5 _ (.inr (.inr rfl)) _ hb rfl, fun hb => h7 _ (.inl (.inr (.inr rfl))) _ hb rfl, fun hb => h9 _ (.inl (.inl (.inr (.inr rfl)))) _ hb rfl,
  fun b hb => ⟨fun h' => h7 b (.inr hb) b h' rfl, fun h' => h9 b (.inl (.inr hb)) b h' rfl⟩, fun b hb h' => h9 b (.inr hb) b h' rfl⟩
theorem QY {X A A' Y : List Nat} (h : (X ++ A ++ Y).Nodup) (hA : A'.Nodup) (hn : ∀ b ∈ A', b ∈ A ∨ b ∉ X ++ A ++ Y) : (X ++ A' ++ Y).Nodup := by
 simp only [tV, fS] at h ⊢
 obtain ⟨⟨hX, hA0, hXA⟩, hY, hXY⟩ := h
 refine ⟨⟨hX, hA, fun a ha b hb e => ?_⟩, hY, fun a ha b hb e => ?_⟩
 · subst e
   rcases hn a hb with h | h
   · exact hXA a ha a h rfl
   · simp only [fS, not_or] at h; exact h.1.1 ha
 · subst e
   rcases ha with ha | ha
   · exact hXY a (.inl ha) a hb rfl
   · rcases hn a ha with h | h
     · exact hXY a (.inr h) a hb rfl
     · simp only [fS, not_or] at h; exact h.2 hb
theorem dG.go {st' : aB} {qt' qc' qn' : AV} {fuel' used' mx' : Int} {nd' : List AV} {i' : IS} (h : dG st0 st S c m qt qc qn p q idx fuel used mx nd i)
 (cell : st' S = some (.cells (gV c p q idx fuel' used' i'.fresh (eA i'.goals) qc' qn' mx'))) (sto : fT st' c m qt' i'.σ i'.tr) (acC : i8 st' 9 qc' (i'.chs.map qD)) (acN : i8 st' 6 qn' nd') (ndl : nd'.length = i'.nn) (ndw : ∀ e ∈ nd', e.width = 6)
 (dis : (iO S c m qt' qc' qn').Nodup) (new : ∀ b ∈ iO S c m qt' qc' qn', b ∈ iO S c m qt qc qn ∨ st b = none) (frame : ∀ b o, st b = some o → b ∉ iO S c m qt qc qn → st' b = some o) :
 dG st0 st' S c m qt' qc' qn' p q idx fuel' used' mx' nd' i' :=
 ⟨cell, sto, acC, acN, ndl, ndw, dis, fun b hb => by
  rcases new b hb with h1 | h1
  · exact h.new b h1
  · exact h.aJC h1, fun b o hb => frame b o (h.a8 b o hb) fun hm => by rw [h.new b hm] at hb; cases hb⟩
theorem dG.put {fuel' used' mx' : Int} {gl : List IG} {F : Nat} {cs : List AV} (h : dG st0 st S c m qt qc qn p q idx fuel used mx nd i) (hcs : cs = gV c p q idx fuel' used' F (eA gl) qc qn mx') :
 dG st0 (st.aC S (.cells cs)) S c m qt qc qn p q idx fuel' used' mx' nd { i with goals := gl, fresh := F } := by
 obtain ⟨h1, h2, h3, h4, h5, h6, _⟩ := h.parts
 subst hcs
 refine h.go (aB.aP _ _ _) (h.sto.aC h1 h2 h4) (h.acC.a8 fun b hb => aB.aM _ _ (by rintro rfl; exact h5 hb)) (h.acN.a8 fun b hb => aB.aM _ _ (by rintro rfl; exact h6 hb)) h.ndl h.ndw h.dis (fun b hb => .inl hb) fun b o hb hn => ?_
 rw [aB.aM _ _ (by rintro rfl; exact hn (d5.2 (.inl rfl)))]
 exact hb
theorem dG.OJ {st' : aB} {qt' : AV} {σ' : Sub} {tr' : List Int} (h : dG st0 st S c m qt qc qn p q idx fuel used mx nd i) (hS : fT st' c m qt' σ' tr') (hf : ∀ b o, st b = some o → b ≠ c → b ≠ m → b ∉ dI qt → st' b = some o) (hn : ∀ b ∈ dI qt', b ∈ dI qt ∨ st b = none) :
 dG st0 st' S c m qt' qc qn p q idx fuel used mx nd { i with σ := σ', tr := tr' } := by
 obtain ⟨h1, h2, h3, h4, h5, h6, h7, h8, h9, h10, h11, h12, h13, h14⟩ := h.parts
 have hC : ∀ b ∈ dM qc, st' b = st b := fun b hb => by
  obtain ⟨cs, e⟩ := h.acC.some b hb
  rw [e, hf b _ e (by rintro rfl; exact h8 hb) (by rintro rfl; exact h11 hb) (fun hb' => (h13 b hb').1 hb)]
 have hN : ∀ b ∈ dM qn, st' b = st b := fun b hb => by
  obtain ⟨cs, e⟩ := h.acN.some b hb
  rw [e, hf b _ e (by rintro rfl; exact h9 hb) (by rintro rfl; exact h12 hb) (fun hb' => (h13 b hb').2 hb)]
 refine h.go (hf S _ h.cell h1 h2 h4) hS (h.acC.a8 hC) (h.acN.a8 hN) h.ndl h.ndw ?_ (fun b hb => ?_) (fun b o hb hn' => ?_)
 · have hd := h.dis
   unfold iO at hd ⊢
   rw [nZ] at hd ⊢
   refine QY hd (by rw [aY6]; exact MV _) fun b hb => ?_
   rcases hn b hb with h' | h'
   · exact .inl h'
   · refine .inr fun hm => h.held b ?_ h'
     unfold iO; rw [nZ]; exact hm
 · rcases d5.1 hb with rfl | rfl | rfl | hb | hb | hb
   · exact .inl (d5.2 (.inl rfl))
   · exact .inl (d5.2 (.inr (.inl rfl)))
   · exact .inl (d5.2 (.inr (.inr (.inl rfl))))
   · rcases hn b hb with h' | h'
     · exact .inl (d5.2 (.inr (.inr (.inr (.inl h')))))
     · exact .inr h'
   · exact .inl (d5.2 (.inr (.inr (.inr (.inr (.inl hb))))))
   · exact .inl (d5.2 (.inr (.inr (.inr (.inr (.inr hb))))))
 · have := fun x => hn' (d5.2 x)
   exact hf b o hb (by rintro rfl; exact this (.inr (.inl rfl))) (by rintro rfl; exact this (.inr (.inr (.inl rfl)))) fun hb' => this (.inr (.inr (.inr (.inl hb'))))
theorem dG.post {st' : aB} {σ' : Sub} {tr' : List Int} (h : dG st0 st S c m qt qc qn p q idx fuel used mx nd i) (hP : vI c m st qt σ' tr' st') : ∃ qt', dG st0 st' S c m qt' qc qn p q idx fuel used mx nd { i with σ := σ', tr := tr' } := by
 obtain ⟨q', hS, hQ⟩ := hP
 exact ⟨q', h.OJ hS (fun b o hb h1 h2 h3 => hQ.frame b o hb h1 h2 h3) hQ.fresh⟩
end
theorem fT.AR {st st' : aB} {c m : Nat} {q : AV} {σ : Sub} {tr : List Int} (h : fT st c m q σ tr) (hc : st' c = st c) (hm : st' m = st m) (ht : ∀ b ∈ dI q, st' b = st b) : fT st' c m q σ tr := by
 refine ⟨⟨by rw [hc]; exact h.sub.cells, by rw [hm]; exact h.sub.map⟩, ?_, h.apart⟩
 rcases h.eP with h1 | ⟨b, cs, h1, h2, h3⟩
 · exact .inl h1
 · exact .inr ⟨b, cs, h1, by rw [ht b (by rw [h1]; simp [dI])]; exact h2, h3⟩
section
variable {st0 st : aB} {S c m : Nat} {qt qc qn : AV} {p : List Cl} {q : List Tm} {idx : Bool} {fuel used mx : Int} {nd : List AV} {i : IS}
theorem dG.aZW {st' : aB} {qc' : AV} {aHJ : List IC} {cs : List AV} (h : dG st0 st S c m qt qc qn p q idx fuel used mx nd i) (nM : i8 st' 9 qc' (aHJ.map qD)) (hf : ∀ y, y ∉ dM qc → y ∉ dM qc' → st' y = st y) (hn : ∀ y ∈ dM qc', y ∈ dM qc ∨ st y = none)
 (hcs : cs = gV c p q idx fuel used i.fresh (eA i.goals) qc' qn mx) : dG st0 (st'.aC S (.cells cs)) S c m qt qc' qn p q idx fuel used mx nd { i with chs := aHJ } := by
 obtain ⟨h1, h2, h3, h4, h5, h6, h7, h8, h9, h10, h11, h12, h13, h14⟩ := h.parts
 have same : ∀ b, st b ≠ none → b ∉ dM qc → st' b = st b := fun b hb hq => hf b hq fun hq' => by
  rcases hn b hq' with h' | h'
  · exact hq h'
  · exact hb h'
 have hS : S ∉ dM qc' := fun hb => by
  rcases hn S hb with h' | h'
  · exact h5 h'
  · rw [h.cell] at h'; cases h'
 subst hcs
 have held := fun b x => h.held b (d5.2 x)
 refine h.go (aB.aP _ _ _) (h.sto.AR ?_ ?_ fun b hb => ?_) (nM.a8 fun b hb => aB.aM _ _ (by rintro rfl; exact hS hb)) (h.acN.a8 fun b hb => ?_) h.ndl h.ndw ?_ (fun b hb => ?_) fun b o hb hn' => ?_
 · rw [aB.aM _ _ (dB h1)]; exact same c (held c (.inr (.inl rfl))) h8
 · rw [aB.aM _ _ (dB h2)]; exact same m (held m (.inr (.inr (.inl rfl)))) h11
 · rw [aB.aM _ _ (by rintro rfl; exact h4 hb)]; exact same b (held b (.inr (.inr (.inr (.inl hb))))) (h13 b hb).1
 · rw [aB.aM _ _ (by rintro rfl; exact h6 hb)]; exact same b (held b (.inr (.inr (.inr (.inr (.inr hb)))))) fun h' => h14 b h' hb
 · have hd := h.dis
   unfold iO at hd ⊢
   refine QY hd (MV _) fun b hb => ?_
   rcases hn b hb with h' | h'
   · exact .inl h'
   · refine .inr fun hm => h.held b ?_ h'
     unfold iO; exact hm
 · rcases d5.1 hb with rfl | rfl | rfl | hb | hb | hb
   · exact .inl (d5.2 (.inl rfl))
   · exact .inl (d5.2 (.inr (.inl rfl)))
   · exact .inl (d5.2 (.inr (.inr (.inl rfl))))
   · exact .inl (d5.2 (.inr (.inr (.inr (.inl hb)))))
   · rcases hn b hb with h' | h'
     · exact .inl (d5.2 (.inr (.inr (.inr (.inr (.inl h'))))))
     · exact .inr h'
   · exact .inl (d5.2 (.inr (.inr (.inr (.inr (.inr hb))))))
 · have hno := fun x => hn' (d5.2 x)
   rw [aB.aM _ _ (by rintro rfl; exact hno (.inl rfl)), same b (by rw [hb]; simp) fun h' => hno (.inr (.inr (.inr (.inr (.inl h')))))]
   exact hb
theorem dG.aVJ {st' : aB} {qn' : AV} {nd' : List AV} {n' : Nat} {cs : List AV} (h : dG st0 st S c m qt qc qn p q idx fuel used mx nd i) (nM : i8 st' 6 qn' nd') (hl : nd'.length = n') (hw : ∀ e ∈ nd', e.width = 6) (hf : ∀ y, y ∉ dM qn → y ∉ dM qn' → st' y = st y) (hn : ∀ y ∈ dM qn', y ∈ dM qn ∨ st y = none)
 (hcs : cs = gV c p q idx fuel used i.fresh (eA i.goals) qc qn' mx) : dG st0 (st'.aC S (.cells cs)) S c m qt qc qn' p q idx fuel used mx nd' { i with nn := n' } := by
 obtain ⟨h1, h2, h3, h4, h5, h6, h7, h8, h9, h10, h11, h12, h13, h14⟩ := h.parts
 have same : ∀ b, st b ≠ none → b ∉ dM qn → st' b = st b := fun b hb hq => hf b hq fun hq' => by
  rcases hn b hq' with h' | h'
  · exact hq h'
  · exact hb h'
 have hS : S ∉ dM qn' := fun hb => by
  rcases hn S hb with h' | h'
  · exact h6 h'
  · rw [h.cell] at h'; cases h'
 subst hcs
 have held := fun b x => h.held b (d5.2 x)
 refine h.go (aB.aP _ _ _) (h.sto.AR ?_ ?_ fun b hb => ?_) (h.acC.a8 fun b hb => ?_) (nM.a8 fun b hb => aB.aM _ _ (by rintro rfl; exact hS hb)) hl hw ?_ (fun b hb => ?_) fun b o hb hn' => ?_
 · rw [aB.aM _ _ (dB h1)]; exact same c (held c (.inr (.inl rfl))) h9
 · rw [aB.aM _ _ (dB h2)]; exact same m (held m (.inr (.inr (.inl rfl)))) h12
 · rw [aB.aM _ _ (by rintro rfl; exact h4 hb)]; exact same b (held b (.inr (.inr (.inr (.inl hb))))) (h13 b hb).2
 · rw [aB.aM _ _ (by rintro rfl; exact h5 hb)]; exact same b (held b (.inr (.inr (.inr (.inr (.inl hb)))))) (h14 b hb)
 · have hd := h.dis
   unfold iO at hd ⊢
   have := QY (X := [S, c, m] ++ dI qt ++ dM qc) (A := dM qn) (A' := dM qn') (Y := []) (by rw [iC]; exact hd) (MV _) fun b hb => by
    rcases hn b hb with h' | h'
    · exact .inl h'
    · refine .inr fun hm => h.held b ?_ h'
      rw [iC] at hm
      unfold iO; exact hm
   rwa [iC] at this
 · rcases d5.1 hb with rfl | rfl | rfl | hb | hb | hb
   · exact .inl (d5.2 (.inl rfl))
   · exact .inl (d5.2 (.inr (.inl rfl)))
   · exact .inl (d5.2 (.inr (.inr (.inl rfl))))
   · exact .inl (d5.2 (.inr (.inr (.inr (.inl hb)))))
   · exact .inl (d5.2 (.inr (.inr (.inr (.inr (.inl hb))))))
   · rcases hn b hb with h' | h'
     · exact .inl (d5.2 (.inr (.inr (.inr (.inr (.inr h'))))))
     · exact .inr h'
 · have hno := fun x => hn' (d5.2 x)
   rw [aB.aM _ _ (by rintro rfl; exact hno (.inl rfl)), same b (by rw [hb]; simp) fun h' => hno (.inr (.inr (.inr (.inr (.inr h')))))]
   exact hb
theorem dG.nodes {k : Nat} (h : dG st0 st S c m qt qc qn p q idx fuel used mx nd i) (hk : k < i.nn) : ∃ b, qn = .mslice b 0 nd.length 6 := by
 have hl := h.ndl
 rcases h.acN with ⟨_, e⟩ | ⟨b, cs, e, _⟩
 · subst e; simp at hl; omega
 · exact ⟨b, e⟩
theorem dG.nodeAt {b n : Nat} (h : dG st0 st S c m qt qc (.mslice b 0 n 6) p q idx fuel used mx nd i) : ∃ cs, st b = some (.cells cs) ∧ nd.length * 6 ≤ cs.length := by
 rcases h.acN with ⟨e, _⟩ | ⟨b', cs, e, h2, _, h4⟩
 · cases e
 · cases e; exact ⟨cs, h2, h4⟩
theorem ZK : ∀ (n : Nat) (cs : List AV), cs.length = n * 6 → ∃ nd : List AV, nd.length = n ∧ (∀ e ∈ nd, e.width = 6) ∧ nd.flatMap AV.cells = cs
 | 0, cs, h => ⟨[], rfl, by simp, by have : cs = [] := sM (by simpa using h); subst this; rfl⟩
 | n + 1, cs, h => by
  obtain ⟨nd, h1, h2, h3⟩ := ZK n (cs.drop 6) (by rw [nH, h]; omega)
  refine ⟨.agg (cs.take 6) :: nd, by simp [h1], fun e he => ?_, ?_⟩
  · rcases cY.1 he with rfl | he
    · show (cs.take 6).length = 6
      rw [d7, h]; omega
    · exact h2 e he
  · rw [tS, h3]
    exact sO 6 cs
theorem dG.aJW {b k : Nat} {cs : List AV} {x : AV} (h : dG st0 st S c m qt qc qn p q idx fuel used mx nd i) (hq : qn = .mslice b 0 nd.length 6) (hb : st b = some (.cells cs)) (hk : k < nd.length * 6) :
 ∃ nd', dG st0 (st.aC b (.cells (aK cs k [x]))) S c m qt qc qn p q idx fuel used mx nd' i := by
 obtain ⟨h1, h2, h3, h4, h5, h6, h7, h8, h9, h10, h11, h12, h13, h14⟩ := h.parts
 have hbq : b ∈ dM qn := by rw [hq]; simp [dM]
 have hne : ∀ a, a ∉ dM qn → st.aC b (.cells (aK cs k [x])) a = st a := fun a ha => aB.aM _ _ (by rintro rfl; exact ha hbq)
 have hcl : nd.length * 6 ≤ cs.length := by
  rcases h.acN with ⟨e, _⟩ | ⟨b', cs', e1, e2, e3, e4⟩
  · rw [hq] at e; cases e
  · rw [hq] at e1
    cases e1
    rw [hb] at e2; cases e2
    exact e4
 have hlen : (aK cs k [x]).length = cs.length := by
  simp only [aK, dQ, d7, nH, aS, a7]
  omega
 obtain ⟨nd', n1, n2, n3⟩ := ZK nd.length ((aK cs k [x]).take (nd.length * 6)) (by rw [d7, hlen]; omega)
 refine ⟨nd', h.go (by rw [hne S h6]; exact h.cell) (h.sto.AR (hne c h9) (hne m h12) fun b hb => hne b (h13 b hb).2) (h.acC.a8 fun b hb => hne b (h14 b hb)) (.inr ⟨b, _, by rw [hq, n1], aB.aP _ _ _, by rw [n1, n3], by rw [n1, hlen]; exact hcl⟩) (by rw [n1]; exact h.ndl) n2 h.dis (fun b hb => .inl hb) fun a o ha hn => ?_⟩
 rw [hne a fun h' => hn (d5.2 (.inr (.inr (.inr (.inr (.inr h'))))))]
 exact ha
end
theorem XB {φ : AF} {t : TypeId} {ag : Bool} {w d k : Nat} {st : aB} {qc : AV} {l : List AV} (hI : eI prog t = some (ag, w)) (hA : i8 st w qc l) (h : φ d = .int .i64 (k : Int)) (hk : k ≤ l.length) : iG prog φ t qc none (some (.tmp d)) none = some (wS k qc) := by
 rcases hA with ⟨rfl, rfl⟩ | ⟨b, cs, rfl, _⟩
 · have h0 : k = 0 := by simpa using hk
   subst h0
   exact aEA hI h
 · exact ML hI h hk
section
variable {st0 st : aB} {S c m : Nat} {qt qc qn : AV} {p : List Cl} {q : List Tm} {idx : Bool} {fuel used mx : Int} {nd : List AV} {i : IS}
theorem dG.aBT {k : Nat} {cs : List AV} {gl : List IG} (h : dG st0 st S c m qt qc qn p q idx fuel used mx nd i) (hk : k ≤ i.chs.length) (hcs : cs = gV c p q idx fuel used i.fresh (eA gl) (wS k qc) qn mx) :
 dG st0 (st.aC S (.cells cs)) S c m qt (wS k qc) qn p q idx fuel used mx nd { i with goals := gl, chs := i.chs.take k } := by
 obtain ⟨h1, h2, h3, h4, h5, h6, _⟩ := h.parts
 subst hcs
 have hA := h.acC.take (k := k) (by rw [aF]; exact hk) (LR _)
 rw [← List.map_take] at hA
 refine h.go (aB.aP _ _ _) (h.sto.aC h1 h2 h4) (hA.a8 fun b hb => aB.aM _ _ (by rw [CH] at hb; rintro rfl; exact h5 hb)) (h.acN.a8 fun b hb => aB.aM _ _ (by rintro rfl; exact h6 hb)) h.ndl h.ndw (by unfold iO; rw [CH]; exact h.dis) (fun b hb => .inl (by unfold iO at hb; rw [CH] at hb; exact hb)) fun b o hb hn => ?_
 rw [aB.aM _ _ (by rintro rfl; exact hn (d5.2 (.inl rfl)))]
 exact hb
theorem dG.aP9 {k : Nat} {cs : List AV} (h : dG st0 st S c m qt qc qn p q idx fuel used mx nd i) (hk : k ≤ i.nn) (hcs : cs = gV c p q idx fuel used i.fresh (eA i.goals) qc (wS k qn) mx) :
 dG st0 (st.aC S (.cells cs)) S c m qt qc (wS k qn) p q idx fuel used mx (nd.take k) { i with nn := k } := by
 obtain ⟨h1, h2, h3, h4, h5, h6, _⟩ := h.parts
 subst hcs
 have hnl := h.ndl
 have hA := h.acN.take (k := k) (by rw [hnl]; exact hk) h.ndw
 refine h.go (aB.aP _ _ _) (h.sto.aC h1 h2 h4) (h.acC.a8 fun b hb => aB.aM _ _ (by rintro rfl; exact h5 hb)) (hA.a8 fun b hb => aB.aM _ _ (by rw [CH] at hb; rintro rfl; exact h6 hb)) (by rw [d7, hnl]; simp only; omega) (fun e he => h.ndw e (lY he)) (by unfold iO; rw [CH]; exact h.dis) (fun b hb => .inl (by unfold iO at hb; rw [CH] at hb; exact hb)) fun b o hb hn => ?_
 rw [aB.aM _ _ (by rintro rfl; exact hn (d5.2 (.inl rfl)))]
 exact hb
end
end Go.AW
