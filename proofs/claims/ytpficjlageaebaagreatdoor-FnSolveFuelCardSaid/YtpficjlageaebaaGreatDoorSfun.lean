import Derived.Test.YtpficjlageaebaaGreatDoorSfum
import Derived.Test.YtpficjlageaebaaGreatDoorSful
import Derived.Test.YtpficjlageaebaaGreatDoorSfuf
import Derived.Test.YtpficjlageaebaaGreatDoorSfui
import Derived.Test.YtpficjlageaebaaGreatDoorSfuk
set_option linter.unusedSimpArgs false
set_option linter.unusedVariables false
set_option maxRecDepth 100000
namespace Go.AW
open Go.Proofs.Tryz
theorem LQ {p : List Cl} (hp : ∀ c ∈ p, gB c ∧ c.2.length ≤ 6) {B : Nat} (hB : B ≤ 524288) {cs : List RC} {goal : Tm} {rest : List RG} {σ : Sub} {N : Nat} (hg : cK σ) (ho : cP (bD N) σ) (hd : ∀ n, ¬(0 ≤ n ∧ n < (N : Int)) → σ n = none)
 (hgo : bD N goal) (hr : ∀ g ∈ rest, bD N g.t ∧ g.t.k = 3) (h0 : 0 < N) (hN : N + 26 ≤ B) (hrl : rest.length + 26 ≤ B) (hcl : cs.length + 1 ≤ B) (hcs : ∀ c ∈ cs, vX p c ∧ c.N + 26 ≤ B ∧ c.rest.length + 26 ≤ B ∧ 0 < c.N) :
 ∀ (left : List Nat), (∀ i ∈ left, i < p.length) → left.length ≤ 1048576 → ∀ s, iG p cs goal rest σ N left = some s → oU p B s
 | [], _, _, s, h => by simp [iG] at h
 | i :: l, hle, hll, s, h => by
  have hil := hle i (by simp)
  obtain ⟨x, hx⟩ : ∃ x, p[i]? = some x := ⟨_, fG hil⟩
  obtain ⟨hX, h6⟩ := hp x (cU hx)
  have hl' : ∀ j ∈ l, j < p.length := fun j hj => hle j (by simp [hj])
  rw [iG.eq_def] at h
  simp only [hx] at h
  split at h
  case isFalse => exact LQ hp hB hg ho hd hgo hr h0 hN hrl hcl hcs l hl' (by simp at hll; omega) s h
  cases h
  have hfr := hX.fr.1
  have hsh := hX.dC N
  obtain ⟨r, σ', tr, U⟩ := rU (N := N + nL x) hg (ho.W9 (by omega)) (hgo.mono (by omega)) (hsh x.1 (by simp))
  rw [U.eq]
  have S := U.uX
  refine ⟨S.gI, S.ok, fun n hn => ?_, ?_, by simp only; omega, by simp only; omega, ?_, ?_, ?_⟩
  · simp only at hn ⊢
    rw [S.a8 n (fun h => hn (S.fN n h))]
    exact hd n (fun h => hn (by omega))
  · intro g hg'
    simp only [fS, cV] at hg'
    rcases hg' with ⟨t, ht, rfl⟩ | hg'
    · exact ⟨hsh t (List.mem_cons_of_mem _ ht), by rw [aE1]; exact (hX.body t ht).2⟩
    · exact ⟨(hr g hg').1.mono (by simp only; omega), (hr g hg').2⟩
  · simp only [dP, aF]; omega
  · simp only
    split
    · omega
    · simp only [dP, aS, aZ]; omega
  · simp only
    split
    · exact hcs
    · intro c hc
      rcases fS.1 hc with hc | hc
      · exact hcs c hc
      · simp only [cZ, dQ, dY] at hc
        subst hc
        exact ⟨⟨hg, ho, hd, hgo, hr, hl', by simp only; omega, by simp only; simp at hll; omega⟩, hN, hrl, h0⟩
theorem aSV (p : List Cl) (chs : List RC) : fP p chs.length chs = match chs.getLast? with
 | none => none
 | some c => match iG p chs.dropLast c.goal c.rest c.σ c.N c.left with
  | some s => some s
  | none => fP p chs.dropLast.length chs.dropLast := by
 cases chs with
 | nil => rfl
 | cons c l =>
  rw [aS, fP]
  have : (c :: l).dropLast.length = l.length := by simp
  rw [this]
  try rfl
theorem S7 {p : List Cl} (hp : ∀ c ∈ p, gB c ∧ c.2.length ≤ 6) {B : Nat} (hB : B ≤ 524288) : ∀ (n : Nat) (chs : List RC), chs.length ≤ B → (∀ c ∈ chs, vX p c ∧ c.N + 26 ≤ B ∧ c.rest.length + 26 ≤ B ∧ 0 < c.N) → ∀ s, fP p n chs = some s → oU p B s
 | 0, _, _, _, s, h => by simp [fP] at h
 | n + 1, chs, hl, hc, s, h => by
  rw [fP] at h
  split at h
  · cases h
  · rename_i c tC
    have hm := RD tC
    have hne : chs ≠ [] := by rintro rfl; simp at hm
    have hdl : chs.dropLast.length + 1 = chs.length := by
     have := List.length_pos_iff.2 hne
     simp; omega
    have hcd : ∀ c ∈ chs.dropLast, vX p c ∧ c.N + 26 ≤ B ∧ c.rest.length + 26 ≤ B ∧ 0 < c.N := fun c h => hc c (RE _ h)
    obtain ⟨k, h1, h2, h3⟩ := hc c hm
    split at h
    · rename_i s' hs
      cases h
      exact LQ hp hB k.gI k.ok k.tY k.goal k.rest h3 h1 h2 (by omega) hcd c.left k.left k.aQR s hs
    · exact S7 hp hB n _ (by omega) hcd s h
theorem oU.up {p : List Cl} {B C : Nat} {s : RS} (h : oU p B s) (hC : B ≤ C) : oU p C s :=
 ⟨h.gI, h.ok, h.tY, h.goals, h.pos, by have := h.hN; omega, by have := h.gl; omega, by have := h.pR; omega, fun c hc => by
  obtain ⟨h1, h2, h3, h4⟩ := h.chs c hc
  exact ⟨h1, by omega, by omega, h4⟩⟩
theorem oU.back {p : List Cl} (hp : ∀ c ∈ p, gB c ∧ c.2.length ≤ 6) {B : Nat} (hB : B ≤ 524288) {s s' : RS} (h : oU p B s) (e : fP p s.chs.length s.chs = some s') : oU p B s' :=
 S7 hp hB _ _ h.pR h.chs s' e
theorem KO {N : Nat} {σ : Sub} (hg : cK σ) (ho : cP (bD N) σ) {t : Tm} (ht : bD N t) (hf : eL (t.aJ (rs σ)) = true) : bD N (t.aJ (rs σ)) := by
 obtain ⟨rk, B, G⟩ := hg.rs
 unfold eL at hf
 simp only [cM, bJ] at hf
 exact ⟨ht.1.aJ fun v hv => G.kZ ho.kZ v (ht.1.2.2 v hv).1 (ht.1.2.2 v hv).2, hf.2⟩
theorem oU.step {p : List Cl} (hp : ∀ c ∈ p, gB c ∧ c.2.length ≤ 6) (hpl : p.length ≤ 1048576) {B : Nat} (hB : B + 26 ≤ 524288) {cnd : Tm → List Nat → List Nat} (hc : ∀ t l, (∀ i ∈ cnd t l, i ∈ l) ∧ (cnd t l).length ≤ l.length) {s s' : RS} {g : RG} {rest : List RG} (hgs : s.goals = g :: rest) (h : oU p B s)
 (e : jK p cnd s g rest = .go s') : oU p (B + 26) s' := by
 have hgm : g ∈ s.goals := by rw [hgs]; simp
 have hrm : ∀ x ∈ rest, x ∈ s.goals := fun x hx => by rw [hgs]; simp [hx]
 have hgl := h.gl
 rw [hgs, aS] at hgl
 have hU := h.up (C := B + 26) (by omega)
 unfold jK at e
 split at e
 · cases e
 rename_i gC
 have LY : eL (g.t.aJ (rs s.σ)) = true := by simpa using gC
 have hok := KO h.gI h.ok (h.goals g hgm).1 LY
 generalize g.t.aJ (rs s.σ) = t at *
 split at e
 · cases e
   exact ⟨hU.gI, hU.ok, hU.tY, fun x hx => hU.goals x (hrm x hx), hU.pos, hU.hN, by simp only; omega, by simp only [d5]; have := hU.pR; omega, fun c hc => hU.chs c (lW hc)⟩
 split at e
 · split at e
   · cases e
     have S := I3 h.gI h.ok t.s t.ts fun x hx => by
      obtain ⟨k, n, s', ts⟩ := t
      by_cases hk : k = 1
      · obtain ⟨_, _, _, h2⟩ := (show cD s.N (.mk 1 n s' ts) from hk ▸ hok.1).var
        simp only [Tm.ts] at hx
        rw [h2] at hx; cases hx
      · exact pZ _ (.mk k n s' ts) hk hok x hx
     exact ⟨S.gI, S.ok, fun n hn => by simp only at hn ⊢; rw [S.a8 n (fun h => hn (S.fN n h))]; exact hU.tY n hn, fun x hx => hU.goals x (hrm x hx), hU.pos, hU.hN, by simp only; omega, hU.pR, hU.chs⟩
   · split at e <;> cases e
 split at e
 · cases e
 split at e
 case h_2 => cases e
 rename_i s2 hs
 cases e
 obtain ⟨c1, c2⟩ := hc t (fE p t)
 have hfl : (fE p t).length ≤ p.length := by rw [IW]; exact HK p t p.length
 refine LQ hp (by omega) h.gI h.ok h.tY hok (fun x hx => h.goals x (hrm x hx)) h.pos (by have := h.hN; omega) (by omega) (by have := h.pR; omega) hU.chs _ (fun i hi => ?_) (by omega) s' hs
 have := c1 i hi
 unfold fE at this
 have := (List.mem_filter.1 this).1
 exact xK.1 this
def m6 (n : Nat) (l : List RG) : Prop := l.Pairwise (fun a b => b.a8 ≤ a.a8) ∧ ∀ g ∈ l, g.a8 ≤ n
theorem m6.up {n m : Nat} {l : List RG} (h : m6 n l) (hm : n ≤ m) : m6 m l := ⟨h.1, fun g hg => nB (h.2 g hg) hm⟩
theorem m6.tail {n : Nat} {g : RG} {l : List RG} (h : m6 n (g :: l)) : m6 n l ∧ m6 g.a8 l := by
 obtain ⟨h1, h2⟩ := h
 rw [List.pairwise_cons] at h1
 exact ⟨⟨h1.2, fun x hx => h2 x (by simp [hx])⟩, h1.2, h1.1⟩
theorem m6.body {n : Nat} {l : List RG} (h : m6 n l) (f : Tm → Tm) (bd : List Tm) : m6 n (bd.map (fun t => (⟨f t, n⟩ : RG)) ++ l) := by
 refine ⟨List.pairwise_append.2 ⟨?_, h.1, fun a ha b hb => ?_⟩, fun g hg => ?_⟩
 · rw [List.pairwise_map]
   exact List.pairwise_of_forall fun _ _ => cY _
 · obtain ⟨t, _, rfl⟩ := cV.1 ha
   exact h.2 b hb
 · rcases fS.1 hg with hg | hg
   · obtain ⟨t, _, rfl⟩ := cV.1 hg
     exact cY _
   · exact h.2 g hg
structure x9 (s : RS) : Prop where
 goals : m6 s.chs.length s.goals
 chs : ∀ i c, s.chs[i]? = some c → m6 i c.rest
theorem QQ {p : List Cl} {cs : List RC} {goal : Tm} {rest : List RG} {σ : Sub} {N : Nat} (hr : m6 cs.length rest) (hc : ∀ i c, cs[i]? = some c → m6 i c.rest) :
 ∀ (left : List Nat) s, iG p cs goal rest σ N left = some s → x9 s
 | [], s, h => by simp [iG] at h
 | i :: l, s, h => by
  rw [iG.eq_def] at h
  simp only at h
  split at h
  · cases h
  rename_i x hx
  split at h
  case isFalse => exact QQ hr hc l s h
  cases h
  have hb := hr.body (dC N) x.2
  refine ⟨?_, ?_⟩
  · simp only
    split
    · exact hb
    · exact hb.up (by simp)
  · simp only
    intro j c hj
    split at hj
    · exact hc j c hj
    · rw [List.getElem?_append] at hj
      split at hj
      · exact hc j c hj
      · rename_i hlt
        have hj0 : j - cs.length = 0 := by
         have := (gQ.1 hj).1
         simp at this; omega
        rw [hj0] at hj
        simp only [Q7, Option.some.injEq] at hj
        subst hj
        exact hr.up (by omega)
theorem aGX {p : List Cl} : ∀ (n : Nat) (chs : List RC), (∀ i c, chs[i]? = some c → m6 i c.rest) → ∀ s, fP p n chs = some s → x9 s
 | 0, _, _, s, h => by simp [fP] at h
 | n + 1, chs, hc, s, h => by
  rw [fP] at h
  split at h
  · cases h
  · rename_i c tC
    have hd : ∀ i c, chs.dropLast[i]? = some c → m6 i c.rest := fun i c hi => hc i c (by
     rw [List.dropLast_eq_take, List.getElem?_take] at hi
     split at hi
     · exact hi
     · cases hi)
    rw [aL3] at tC
    have hk := hc _ _ tC
    split at h
    · rename_i s' hs
      cases h
      exact QQ (by rw [List.length_dropLast]; exact hk) hd _ s hs
    · exact aGX n _ hd s h
theorem x9.step {p : List Cl} {cnd : Tm → List Nat → List Nat} {s s' : RS} {g : RG} {rest : List RG} (hgs : s.goals = g :: rest) (h : x9 s) (e : jK p cnd s g rest = .go s') : x9 s' := by
 have hg := h.goals
 rw [hgs] at hg
 obtain ⟨h1, h2⟩ := hg.tail
 have h3 := hg.2 g (by simp)
 unfold jK at e
 split at e
 · cases e
 split at e
 · cases e
   refine ⟨?_, fun i c hi => ?_⟩
   · simp only [d5]
     exact h2.up (by omega)
   · simp only [List.getElem?_take] at hi
     split at hi
     · exact h.chs i c hi
     · cases hi
 split at e
 · split at e
   · cases e
     exact ⟨h1, h.chs⟩
   · split at e <;> cases e
 split at e
 · cases e
 split at e
 case h_2 => cases e
 rename_i s2 hs
 cases e
 exact QQ h1 h.chs _ s' hs
def B9 (s : RS) : Prop := 26 ≤ s.N ∧ ∀ c ∈ s.chs, 26 ≤ c.N
theorem P1 {p : List Cl} {cs : List RC} {goal : Tm} {rest : List RG} {σ : Sub} {N : Nat} (hN : 26 ≤ N) (hc : ∀ c ∈ cs, 26 ≤ c.N) :
 ∀ (left : List Nat) s, iG p cs goal rest σ N left = some s → B9 s
 | [], s, h => by simp [iG] at h
 | i :: l, s, h => by
  rw [iG.eq_def] at h
  simp only at h
  split at h
  · cases h
  rename_i x hx
  split at h
  case isFalse => exact P1 hN hc l s h
  cases h
  refine ⟨by simp only; omega, ?_⟩
  simp only
  split
  · exact hc
  · intro c h
    rcases fS.1 h with h | h
    · exact hc c h
    · simp only [cZ, dQ, dY] at h
      subst h; exact hN
theorem aGM {p : List Cl} : ∀ (n : Nat) (chs : List RC), (∀ c ∈ chs, 26 ≤ c.N) → ∀ s, fP p n chs = some s → B9 s
 | 0, _, _, s, h => by simp [fP] at h
 | n + 1, chs, hc, s, h => by
  rw [fP] at h
  split at h
  · cases h
  · rename_i c tC
    have hd : ∀ c ∈ chs.dropLast, 26 ≤ c.N := fun c h => hc c (RE _ h)
    split at h
    · rename_i s' hs
      cases h
      exact P1 (hc c (RD tC)) hd _ s hs
    · exact aGM n _ hd s h
theorem B9.step {p : List Cl} {cnd : Tm → List Nat → List Nat} {s s' : RS} {g : RG} {rest : List RG} (h : B9 s) (e : jK p cnd s g rest = .go s') : B9 s' := by
 unfold jK at e
 split at e
 · cases e
 split at e
 · cases e
   exact ⟨h.1, fun c hc => h.2 c (lW hc)⟩
 split at e
 · split at e
   · cases e
     exact h
   · split at e <;> cases e
 split at e
 · cases e
 split at e
 case h_2 => cases e
 rename_i s2 hs
 cases e
 exact P1 h.1 h.2 _ s' hs
structure lI (p : List Cl) (B : Nat) (s : RS) : Prop where
 a : oU p B s
 k : x9 s
 l : B9 s
theorem lI.step {p : List Cl} (hp : ∀ c ∈ p, gB c ∧ c.2.length ≤ 6) (hpl : p.length ≤ 1048576) {B : Nat} (hB : B + 26 ≤ 524288) {cnd : Tm → List Nat → List Nat} (hc : ∀ t l, (∀ i ∈ cnd t l, i ∈ l) ∧ (cnd t l).length ≤ l.length) {s s' : RS} {g : RG} {rest : List RG} (hgs : s.goals = g :: rest) (h : lI p B s)
 (e : jK p cnd s g rest = .go s') : lI p (B + 26) s' := ⟨h.a.step hp hpl hB hc hgs e, h.k.step hgs e, h.l.step e⟩
theorem lI.back {p : List Cl} (hp : ∀ c ∈ p, gB c ∧ c.2.length ≤ 6) {B : Nat} (hB : B ≤ 524288) {s s' : RS} (h : lI p B s) (e : fP p s.chs.length s.chs = some s') : lI p B s' :=
 ⟨h.a.back hp hB e, aGX _ _ h.k.chs s' e, aGM _ _ h.l.2 s' e⟩
theorem lI.up {p : List Cl} {B C : Nat} {s : RS} (h : lI p B s) (hC : B ≤ C) : lI p C s := ⟨h.a.up hC, h.k, h.l⟩
theorem lI.start {p : List Cl} {q : List Tm} (hq : ∀ t ∈ q, bD 26 t ∧ t.k = 3) (h6 : q.length ≤ 6) : lI p 26 (lO q) := by
 refine ⟨⟨cK.none, fun n u h => (by cases h), fun n _ => rfl, ?_, (by show 0 < 26; omega), cY _, ?_, jC _, fun c hc => (by cases hc)⟩, ⟨⟨?_, ?_⟩, fun i c hi => (by cases hi)⟩, ⟨cY _, fun c hc => (by cases hc)⟩⟩
 · intro g hg
   simp only [lO, cV] at hg
   obtain ⟨t, ht, rfl⟩ := hg
   exact hq t ht
 · simp only [lO, aF]; omega
 · simp only [lO, List.pairwise_map]
   exact List.pairwise_of_forall fun _ _ => cY _
 · intro g hg
   simp only [lO, cV] at hg
   obtain ⟨t, ht, rfl⟩ := hg
   exact jC _
theorem aA4 {φ : AF} {t : TypeId} {ag : Bool} {w d k : Nat} {es : List AV} (hI : eI prog t = some (ag, w)) (h : φ d = .int .i64 (k : Int)) (hk : k ≤ es.length) : gW prog φ t (.slice es) none (some (.tmp d)) none = some (.slice (es.take k)) := by
 have he : φ.eval (.tmp d) = .int .i64 (k : Int) := h
 unfold gW
 rw [aE (by simp [qK])]
 simp only [oL, hI]
 rw [aE (by simp)]
 simp only [dR, he]
 rw [aG (by omega)]
 simp
def J3 (a : AV) : Prop := (∃ l, a = .slice l) ∨ a = .fslice []
theorem J3.facts {a : AV} (h : J3 a) : a.isAgg = false ∧ a.width = 1 ∧ a.cC = false ∧ a.cells = [a] ∧ a.storable = true ∧ ∃ l, a.soft = .slice l := by
 rcases h with ⟨l, rfl⟩ | rfl
 · exact ⟨rfl, rfl, rfl, rfl, rfl, l, rfl⟩
 · exact ⟨rfl, rfl, rfl, rfl, rfl, [], rfl⟩
abbrev sQ := zi tI_3 (zi zI_3 (zi aX (zi tI_4 (zi zI_4 (zi cE (zi tI_29 (zi zI_29 (zi g8 (zi j8 (zi kA (zi k6 (zi tI_101 (zi zI_101 (zi tB (zi xS (zi zQ (zi DV (zi tI_103 (zi zI_103 (zi GM (zi GF (zi DN (zi GC (zi tI_146 (zi zI_146 (zi NR (zi PG (zi PV (zi M1 P4)))))))))))))))))))))))))))))
theorem aC5 {p : List Cl} (hp : ∀ c ∈ p, gB c ∧ c.2.length ≤ 6) {B : Nat} (hB : B ≤ 524288) (gs0 : List RG) (σ0 : List AV) (chs : List RC) (hl : chs.length ≤ B) (hc : ∀ c ∈ chs, vX p c ∧ c.N + 26 ≤ B ∧ c.rest.length + 26 ≤ B ∧ 0 < c.N) (st : aB) :
 aD prog 73 [.slice (p.map bY), .agg [.slice (gs0.map eF), .slice σ0, .slice (chs.map fD)]] st (fun r st' => st' = st ∧ match fP p chs.length chs with
  | some s => r = .tup [r7 s, .bool true]
  | none => ∃ l1 l2 l3, r = .tup [.agg [.slice l1, .slice l2, .slice l3], .bool false]) := by
 refine aD.lU (aD.soft ?_)
 refine wF [1000000, 3] 2 func73 ntmps73 rfl rfl ?_
 intro _
 simp -implicitDefEqProofs only [aA, seval, sQ]
 intro b3 h3 b4 h4
 have hne : b4 ≠ b3 := by rintro rfl; rw [aB.aQ] at h4; cases h4
 have OM : st b4 = none := by rw [aB.aL _ _ hne] at h4; exact h4
 rw [aB.nJ _ _ _ (dA hne)]
 generalize hW : st.aC b4 (.cells [.fslice [], .fslice [], .fslice []]) = W
 have hW4 : W b4 = some (.cells [.fslice [], .fslice [], .fslice []]) := by rw [← hW]; exact aB.aQ _ _ _
 have hW3 : W b3 = none := by rw [← hW, aB.aL _ _ (dA hne)]; exact h3
 have hDW : ∀ o o', aM ((W.aC b3 o).aC b4 o') st := fun o o' q => by
  by_cases q4 : q = b4
  · subst q4; rw [aB.aQ, OM]; simp
  rw [aB.aL _ _ q4]
  by_cases q3 : q = b3
  · subst q3; rw [aB.aQ, h3]; simp
  rw [aB.aL _ _ q3, ← hW, aB.aL _ _ q4]
  simp
 have a19 : b3 ≠ b4 := dA hne
 refine gX (σ := List RC × AV × AV) [1000000, 3] [0, 3, 4] (fun s => s.1.length ≤ B ∧ (∀ c ∈ s.1, vX p c ∧ c.N + 26 ≤ B ∧ c.rest.length + 26 ≤ B ∧ 0 < c.N) ∧ J3 s.2.1 ∧ J3 s.2.2 ∧ fP p s.1.length s.1 = fP p chs.length chs) (fun s => [(5, .bool false)]) (fun s => W.aC b3 (.cells [s.2.1, s.2.2, .slice (s.1.map fD)])) (fun s => s.1.length) (by decide +kernel) ⟨(chs, .slice (gs0.map eF), .slice σ0), ⟨hl, hc, .inl ⟨_, rfl⟩, .inl ⟨_, rfl⟩, rfl⟩, aO.mk (by simp -implicitDefEqProofs only [aA, seval])⟩ ?_
 rintro ⟨l, a, b⟩ ⟨hl1, hlc, ha, hb, hinv⟩
 simp only at hl1 hlc ha hb hinv
 obtain ⟨a1, a2, a3, a4, a5, la, a6⟩ := ha.facts
 obtain ⟨b1, b2, b3', b4', b5, lb, b6⟩ := hb.facts
 simp only
 rw [aSV] at hinv
 by_cases xP : l = []
 · subst xP
   simp only [List.getLast?_nil] at hinv
   simp -implicitDefEqProofs only [aB.aQ, vG, List.contains, List.elem, qI, g7, sub, ↓reduceIte, reduceCtorEq, Nat.reduceEqDiff, sQ]
   refine aP (fun h => absurd h (by decide)) (fun h => ?_)
   simp -implicitDefEqProofs only [aK, hne, aB.aQ, hW4, a5, b5, aA, seval, sQ]
   rw [← hinv]
   exact ⟨st, hDW _ _, rfl, la, lb, [], by simp only [j9, kC, rY, qA, bA, aW, a6, b6]⟩
 obtain ⟨c, tC⟩ : ∃ c, l.getLast? = some c := by
  cases h : l.getLast? with
  | none => exact absurd (List.getLast?_eq_none_iff.1 h) xP
  | some c => exact ⟨c, rfl⟩
 have hlp := List.length_pos_iff.2 xP
 have hcm := RD tC
 obtain ⟨aYD, hcN, hcr, hc0⟩ := hlc c hcm
 rw [tC] at hinv
 simp only at hinv
 have hat := bL (av := fD) (P := prog) (l := l) (i := l.length - 1) (x := c) tB (by rw [← aL3]; exact tC) (JK c)
 rw [show (((l.length - 1 : Nat) : Int)) = (l.length : Int) - 1 by omega] at hat
 have hw := bK (n := (l.length : Int) - 1)
 have hdl : l.dropLast = l.take (l.length - 1) := List.dropLast_eq_take
 have a0K : l.dropLast.length + 1 = l.length := by simp; omega
 have hct := aLX p hp [] [] l.dropLast c aYD hc0 (by omega) (by omega)
 have hcs := fun (φ : AF) (d : Nat) (h : φ d = .int .i64 ((l.length : Int) - 1)) => aA4 (es := l.map fD) (k := l.length - 1) tB (h.trans (by congr 1; omega)) (by simp)
 rw [← GU, ← hdl] at hcs
 generalize hx : iG p l.dropLast c.goal c.rest c.σ c.N c.left = x at hinv hct
 obtain ⟨⟨ck, cn, cs', cts⟩, TU, aCW, cσ, cN⟩ := c
 rw [P8] at hct hat
 simp only [aW] at hct
 simp -implicitDefEqProofs only [aF, aB.aQ, aA, seval, sQ]
 refine aP (fun h => ?_) (fun h => absurd hlp (by simpa using h))
 simp -implicitDefEqProofs only [aF, aB.aQ, hw, hat, aA, ↓aU, seval, sQ]
 cases x with
 | none =>
  have JF : ∀ st, aD prog 110 [.slice (p.map bY), .agg [.fslice [], .fslice [], .slice (l.dropLast.map fD)], .agg [.int .i64 ck, .int .i64 cn, .str cs', .slice (cts.map Tm.av), .slice (TU.map eF), .slice (aCW.map nv), .slice (cQ cN cσ)]] st (fun r st' => r = .tup [.agg [.slice [], .slice [], .slice (l.dropLast.map fD)], .bool false] ∧ st' = st) := fun st =>
   aD.n8 ((hct st).mono fun _ _ h => ⟨h.2, h.1⟩)
  simp only at hinv
  refine wP [(0, 1), (1, 1), (3, 1), (2, 2), (4, 1), (5, 1), (6, 2), (7, 1), (8, 1), (9, 1), (10, 1), (11, 0), (12, 0), (13, 1)] [0, 1, 3, 2, 4, 5, 6, 7, 8, 9, 10, 13] mixed ?_
  simp -implicitDefEqProofs only [aB.aQ, hcs, aA, seval, sQ]
  refine NO JF ?_
  simp -implicitDefEqProofs only [aK, aB.aQ, aA, seval, sQ]
  intro b8 h8
  have h83 : b8 ≠ b3 := by rintro rfl; rw [aB.aQ] at h8; cases h8
  rw [aB.aL _ _ h83] at h8
  have h84 : b8 ≠ b4 := by rintro rfl; rw [hW4] at h8; cases h8
  have hs8 : st b8 = none := by rw [← hW, aB.aL _ _ h84] at h8; exact h8
  have h38 := dA h83
  have h48 := dA h84
  simp -implicitDefEqProofs only [aK, h38, aB.aQ, hcs, aA, seval, sQ]
  refine ⟨(l.dropLast, .fslice [], .fslice []), by simp only; omega, ⟨by simp only; omega, fun c h => hlc c (RE _ h), .inr rfl, .inr rfl, hinv⟩, aO.drop (fun q => ?_) (by simp -implicitDefEqProofs only [aA, seval])⟩
  by_cases q3 : q = b3
  · subst q3; rw [aB.aQ, aB.aQ]; simp
  rw [aB.aL _ _ q3, aB.aL _ _ q3]
  by_cases q8 : q = b8
  · subst q8; rw [aB.aQ, h8]; simp
  rw [aB.aL _ _ q8, aB.aL _ _ q3]
  simp
 | some s =>
  have JF : ∀ st, aD prog 110 [.slice (p.map bY), .agg [.fslice [], .fslice [], .slice (l.dropLast.map fD)], .agg [.int .i64 ck, .int .i64 cn, .str cs', .slice (cts.map Tm.av), .slice (TU.map eF), .slice (aCW.map nv), .slice (cQ cN cσ)]] st (fun r st' => r = .tup [r7 s, .bool true] ∧ st' = st) := fun st =>
   aD.n8 ((hct st).mono fun _ _ h => ⟨h.2, h.1⟩)
  simp only at hinv
  simp only [r7] at JF
  refine wP [(0, 1), (1, 1), (3, 1), (2, 2), (4, 1), (5, 1), (6, 2), (7, 1), (8, 1), (9, 1), (10, 1), (11, 0), (12, 0), (13, 1)] [0, 1, 3, 2, 4, 5, 6, 7, 8, 9, 10, 13] mixed ?_
  simp -implicitDefEqProofs only [aB.aQ, hcs, aA, seval, sQ]
  refine NO JF ?_
  simp -implicitDefEqProofs only [aK, aB.aQ, aA, seval, sQ]
  intro b8 h8
  have h83 : b8 ≠ b3 := by rintro rfl; rw [aB.aQ] at h8; cases h8
  rw [aB.aL _ _ h83] at h8
  have h84 : b8 ≠ b4 := by rintro rfl; rw [hW4] at h8; cases h8
  have hs8 : st b8 = none := by rw [← hW, aB.aL _ _ h84] at h8; exact h8
  have h38 := dA h83
  have h48 := dA h84
  simp -implicitDefEqProofs only [hne, h48, hW4, aA, seval]
  refine ⟨st, ?_, rfl, ?_⟩
  · have d1 : aM W st := by rw [← hW]; exact (aM.refl _).aC OM
    exact ((d1.aC h3).aC hs8).aC OM
  · rw [← hinv]
    simp only [j9, kC, rY, qA, bA, aW]
    rfl
theorem aQE {φ : AF} {t : TypeId} {ag : Bool} {w : Nat} {y : Operand} {e : AV} {es : List AV} (hI : eI prog t = some (ag, w)) (h : φ.eval y = .int .i64 1) (hw : ∀ x ∈ es, x.width = w) : gW prog φ t (.slice (e :: es)) (some y) none none = some (.slice es) := by
 have hwo : yY (e :: es) 1 w = true := by
  unfold yY
  rw [Q8]
  split
  · rename_i x hx
    simp [hw x (cU hx)]
  · rfl
 unfold gW
 rw [aE (by simp [qK])]
 simp only [oL, hI]
 rw [aE (by simp)]
 simp only [dR, h]
 rw [aG (by constructor <;> simp <;> omega)]
 simp [hwo]
abbrev a2H := zi tI_3 (zi zI_3 aX)
theorem aZW (c : Int) (st : aB) : aD prog 133 [.int .i64 c] st (fun r st' => r = .int .i64 (pT c) ∧ st' = st) := by
 refine aD.done ?_
 refine wF [1000000] 1 func133 ntmps133 rfl rfl ?_
 intro _
 simp -implicitDefEqProofs only [aA, seval]
 unfold pT
 refine aP (fun h => ?_) (fun h => ?_)
 · simp -implicitDefEqProofs only [aA, seval]
   have h' : c = 2 := by simpa using h
   exact ⟨by rw [aG h']; try rfl, aM.refl _⟩
 rw [aE (show ¬ c = 2 by simpa using h)]
 simp -implicitDefEqProofs only [aA, seval]
 refine aP (fun h => ?_) (fun h => ?_)
 · simp -implicitDefEqProofs only [aA, seval]
   have h' : c = 3 := by simpa using h
   exact ⟨by rw [aG h']; try rfl, aM.refl _⟩
 rw [aE (show ¬ c = 3 by simpa using h)]
 simp -implicitDefEqProofs only [aA, seval]
 refine aP (fun h => ?_) (fun h => ?_)
 · simp -implicitDefEqProofs only [aA, seval]
   have h' : c = 4 := by simpa using h
   exact ⟨by rw [aG h']; try rfl, aM.refl _⟩
 rw [aE (show ¬ c = 4 by simpa using h)]
 simp -implicitDefEqProofs only [aA, seval]
 exact ⟨rfl, aM.refl _⟩
def wU (x : RO) (r : AV) : Prop := match x with
 | .go s => r = .tup [r7 s, .int .i64 (-1)]
 | .fail => ∃ l1 l2 l3, r = .tup [.agg [.slice l1, .slice l2, .slice l3], .int .i64 (-2)]
 | .stop e => 0 ≤ e ∧ ∃ l1 l2 l3, r = .tup [.agg [.slice l1, .slice l2, .slice l3], .int .i64 e]
abbrev l9 := zi tI_2 (zi zI_2 (zi KJ (zi tI_3 (zi zI_3 (zi aX (zi tI_4 (zi zI_4 (zi cE (zi tI_9 (zi zI_9 (zi cG (zi tI_29 (zi zI_29 (zi g8 (zi j8 (zi kA (zi k6 (zi tI_31 (zi zI_31 (zi aN (zi bE (zi bF (zi cA (zi tI_51 (zi zI_51 (zi dV (zi fV (zi fW (zi fZ (zi tI_63 (zi zI_63 (zi bR (zi bQ (zi bP (zi bT (zi bU (zi tI_100 (zi zI_100 (zi uV (zi zH (zi yZ (zi F3 (zi tI_101 (zi zI_101 (zi tB (zi xS (zi zQ (zi DV (zi tI_103 (zi zI_103 (zi GM (zi GF (zi DN (zi GC (zi tI_146 (zi zI_146 (zi NR (zi PG (zi PV (zi M1 (zi P4 (zi tI_167 (zi zI_167 (zi W6 (zi UX aIN)))))))))))))))))))))))))))))))))))))))))))))))))))))))))))))))))
theorem aYN {p : List Cl} (hp : ∀ c ∈ p, gB c ∧ c.2.length ≤ 6) (hpl : p.length ≤ 1048576) {B : Nat} (hB : B + 26 ≤ 524288) (goals : List RG) (σ : Sub) (N : Nat) (chs : List RC) (g : RG) (rest : List RG) (hgs : goals = g :: rest) (h : oU p B ⟨goals, σ, N, chs⟩) (hK : x9 ⟨goals, σ, N, chs⟩) (st : aB) :
 aD prog 97 [.slice (p.map bY), .agg [.slice (goals.map eF), .slice (cQ N σ), .slice (chs.map fD)]] st (fun r st' => st' = st ∧ wU (jK p (fun _ l => l) ⟨goals, σ, N, chs⟩ g rest) r) := by
 subst hgs
 obtain ⟨hg, ho, hd, hgo, h0, hN, hgl, hcl, hch⟩ := h
 simp only at hg ho hd hgo h0 hN hgl hcl hch
 obtain ⟨hgx, hg3⟩ := hgo g (by simp)
 have CV : ∀ x ∈ rest, bD N x.t ∧ x.t.k = 3 := fun x hx => hgo x (by simp [hx])
 have hkp := hK.goals.2 g (by simp)
 simp only at hkp
 have hsm := SU hg ho g.t hgx
 have hyk : (g.t.aJ (rs σ)).k = 3 := by rw [Tm.p9 _ (by omega)]; exact hg3
 have hfo := KO hg ho hgx
 generalize hR : jK p (fun _ l => l) ⟨g :: rest, σ, N, chs⟩ g rest = R
 unfold jK at hR
 dsimp only at hR
 obtain ⟨⟨gk, gn, gs', gts⟩, a8⟩ := g
 simp only at hgx hg3 hkp hsm hyk hfo
 dsimp only at hR
 generalize (Tm.mk gk gn gs' gts).aJ (rs σ) = y at *
 obtain ⟨yk, yn, ys, yts⟩ := y
 obtain rfl : yk = 3 := hyk
 have hat : dJ prog 100 (.slice ((⟨.mk gk gn gs' gts, a8⟩ :: rest).map eF)) (.int .i64 0) = some (.pptr (eF ⟨.mk gk gn gs' gts, a8⟩)) := bL (av := eF) (l := ⟨.mk gk gn gs' gts, a8⟩ :: rest) (i := 0) uV rfl (CN _)
 have hs1 := fun (φ : AF) (y : Operand) (h : φ.eval y = .int .i64 1) => aQE (e := eF ⟨.mk gk gn gs' gts, a8⟩) (es := rest.map eF) uV h (by intro e he; simp only [cV] at he; obtain ⟨t, _, rfl⟩ := he; exact CN t)
 rw [bA, ER] at hat
 rw [ER] at hs1
 rw [bA, ER]
 simp only [aV] at hsm
 refine aD.fin (aD.lU ?_)
 refine wF [1000000] 2 func97 ntmps97 rfl rfl ?_
 intro _
 simp -implicitDefEqProofs only [aS, hat, hs1, aA, ↓aU, seval, l9]
 intro b4 h4
 refine (hsm _).mono ?_
 rintro _ _ ⟨rfl, x, rfl, hx⟩
 generalize gC : eL (.mk 3 yn ys yts) = fit at *
 have tS : ∀ (o : AO) (r : AV) (x : RO), wU x (r.fin 0 []) → ∃ s2, aM (st.aC b4 o) s2 ∧ ∃ b l s0, s2 = aY s0 b l ∧ (l ≠ [] → s0 b = none) ∧ (∀ e ∈ l, e.cC = false) ∧ g9 l ∧ s0 = st ∧ wU x (r.fin b l) := fun o r x hr =>
  ⟨st, (aM.refl _).aC h4, 0, [], st, rfl, by simp, by simp, ⟨0, by simp⟩, rfl, hr⟩
 simp -implicitDefEqProofs only [aS, aH, b7, cF, aA, ↓aU, seval, l9]
 refine aP (fun h => ?_) (fun h => ?_)
 · have h' : fit = false := by simpa using h
   subst h'
   rw [aG rfl] at hR
   subst hR
   simp -implicitDefEqProofs only [aK, aS, aA, seval, l9]
   exact tS _ _ _ ⟨by decide, _, _, _, by simp only [fL, jG, eC, iI, bA, aW]; rfl⟩
 obtain rfl : fit = true := by simpa using h
 obtain rfl := hx rfl
 simp only [aV]
 have hyo := hfo rfl
 rw [aE (by simp)] at hR
 have wK : ∀ st, aD prog 130 [.agg [.int .i64 3, .int .i64 yn, .str ys, .slice (yts.map Tm.av)]] st (fun r st' => r = .bool (pV (.mk 3 yn ys yts)) ∧ st' = st) := fun st => by
  have := aF1 3 yn ys yts st
  rw [aV] at this
  exact this
 have hbi := fun st => NC ys (yts.length : Int) st
 have aKV := fun st => aQW p (.mk 3 yn ys yts) hpl st
 have SE := fun hb => aVF (N := N) h0 (by omega) hg ho yn ys yts hb (pZ N (.mk 3 yn ys yts) (by show (3 : Int) ≠ 1; decide) hyo)
 have htr := aLX p hp
 simp only [aV] at aKV SE
 replace hR : (if pV (.mk 3 yn ys yts) = true then RO.go ⟨rest, σ, N, chs.take a8⟩ else if isBuiltin ys (yts.length : Int) = true then (if (c9 σ ys yts).1 = 0 then RO.go ⟨rest, (c9 σ ys yts).2.1, N, chs⟩ else if (c9 σ ys yts).1 = 1 then RO.fail else RO.stop (pT (c9 σ ys yts).1)) else if fE p (.mk 3 yn ys yts) = [] then RO.stop 8 else match iG p chs (.mk 3 yn ys yts) rest σ N (fE p (.mk 3 yn ys yts)) with | some s' => RO.go s' | none => RO.fail) = R := hR
 generalize hcu : pV (.mk 3 yn ys yts) = cu at *
 have hs2 := fun (φ : AF) (d : Nat) (h : φ d = .int .i64 (a8 : Int)) => aA4 (es := chs.map fD) (k := a8) tB h (by simpa using hkp)
 rw [← GU] at hs2
 refine (wK _).to ?_
 simp -implicitDefEqProofs only [aA, seval]
 refine aP (fun h => ?_) (fun h => ?_)
 · rw [aG h] at hR
   subst h hR
   simp -implicitDefEqProofs only [aA, seval]
   refine wP [(0, 1), (1, 1), (3, 1), (5, 1), (2, 2), (4, 2), (6, 2), (7, 1), (8, 1), (9, 0), (10, 1)] [0, 1, 3, 5, 2, 4, 6, 7, 8, 10] mixed ?_
   simp -implicitDefEqProofs only [aK, aS, hs2, aA, seval, l9]
   exact tS _ _ _ (by simp only [fL, jG, eC, iI, bA, aW]; rfl)
 rw [aE (by rw [h]; simp)] at hR
 subst h
 simp -implicitDefEqProofs only [aF, aA, seval, l9]
 refine (hbi _).to ?_
 simp -implicitDefEqProofs only [aA, seval]
 refine aP (fun h => ?_) (fun h => ?_)
 · have CB := SE h
   rw [aG h] at hR
   simp -implicitDefEqProofs only [aA, seval, l9]
   refine Q2 h0 (by omega) σ fun b hb hA0 => ?_
   have hst := aM.aC (aM.refl st) (o := .cells [.fslice [], .fslice [], .fslice []]) h4
   generalize hW : st.aC b4 (.cells [.fslice [], .fslice [], .fslice []]) = W at *
   have hW4 : W b4 = some (.cells [.fslice [], .fslice [], .fslice []]) := by rw [← hW]; exact aB.aQ _ _ _
   have hT : aM (W.aC b (.cells ((cQ N σ).flatMap AV.cells))) W := (aM.refl _).aC hb
   generalize W.aC b (.cells ((cQ N σ).flatMap AV.cells)) = T at *
   have hb4 : b ≠ b4 := by rintro rfl; rw [hW4] at hb; cases hb
   simp -implicitDefEqProofs only [aS, aA, seval, l9]
   refine (CB b _ hA0).mono ?_
   rintro _ s2 ⟨rfl, hA, hk2⟩
   have aMD := aWG σ ys yts
   generalize c9 σ ys yts = S at *
   obtain ⟨c, σ', tr⟩ := S
   simp only at hA aMD ⊢
   dsimp only at hR
   have hDs : aM s2 W := by
    intro q
    have key : ∀ o, W q = some o → s2 q = some o := fun o h => hk2 q o ((hT q).2 o h) (by rintro rfl; rw [hb] at h; cases h)
    refine ⟨fun h => ?_, key⟩
    cases hq : W q with
    | none => rfl
    | some o => rw [key o hq] at h; cases h
   have MF := (hDs b4).2 _ hW4
   have aM7 : st b = none := by rw [← hW, aB.aL _ _ hb4] at hb; exact hb
   have aLA : ∀ (o : AO) (r : AV) (x : RO), wU x (r.fin 0 []) → ∃ s3, aM (s2.aC b4 o) s3 ∧ ∃ b l s0, s3 = aY s0 b l ∧ (l ≠ [] → s0 b = none) ∧ (∀ e ∈ l, e.cC = false) ∧ g9 l ∧ s0 = st ∧ wU x (r.fin b l) := fun o r x hr =>
    ⟨st, (hDs.trans hst).aC h4, 0, [], st, rfl, by simp, by simp, ⟨0, by simp⟩, rfl, hr⟩
   simp -implicitDefEqProofs only [aA, seval]
   refine aP (fun h => ?_) (fun h => ?_)
   · have hc0 : c = 0 := by simpa using h
     subst hc0
     rw [aG rfl] at hR
     subst hR
     simp -implicitDefEqProofs only [aK, aS, MF, aA, seval, l9]
     have nO : cQ N σ' ≠ [] := by intro e; have := sP N σ'; rw [e] at this; simp at this; omega
     refine ⟨st.aC b (.cells ((cQ N σ').flatMap AV.cells)), fun q => ?_, b, cQ N σ', st, by rw [jH nO], fun _ => aM7, EM _ _, ⟨4, BL _ _⟩, rfl, ?_⟩
     · by_cases q4 : q = b4
       · subst q4; rw [aB.aQ, aB.aL _ _ (dA hb4), h4]; simp
       rw [aB.aL _ _ q4]
       by_cases qb : q = b
       · subst qb; rw [aB.aQ, show s2 q = _ from hA]; simp
       rw [aB.aL _ _ qb]
       exact (hDs.trans hst) q
     · simp only [fL, jG, eC, iI, bA, aW, GZ h0]
       rfl
   have hc0 : c ≠ 0 := by simpa using h
   rw [aE hc0] at hR
   simp -implicitDefEqProofs only [aA, seval]
   refine aP (fun h => ?_) (fun h => ?_)
   · have hc1 : c = 1 := by simpa using h
     subst hc1
     rw [aG rfl] at hR
     subst hR
     simp -implicitDefEqProofs only [aK, aS, MF, aA, seval, l9]
     exact aLA _ _ _ ⟨_, _, _, by simp only [fL, jG, eC, iI, bA, aW]; rfl⟩
   have hc1 : c ≠ 1 := by simpa using h
   rw [aE hc1] at hR
   subst hR
   have jQ : 0 ≤ pT c := by unfold pT; split; omega; split; omega; split; omega; omega
   simp -implicitDefEqProofs only [aA, seval]
   refine wP [(1, 1), (0, 2), (2, 2), (3, 0), (4, 1)] [1, 0, 2, 4] mixed ?_
   simp -implicitDefEqProofs only [aS, aA, seval, l9]
   refine i8 (aZW c _) ?_
   simp -implicitDefEqProofs only [aK, aS, MF, aA, seval, l9]
   exact aLA _ _ _ ⟨jQ, _, _, _, by simp only [fL, jG, eC, iI, bA, aW]; rfl⟩
 rw [aE (by rw [h]; simp)] at hR
 simp -implicitDefEqProofs only [aS, aA, seval, l9]
 refine (aKV _).to ?_
 have hcx : vX p ⟨.mk 3 yn ys yts, rest, fE p (.mk 3 yn ys yts), σ, N⟩ := ⟨hg, ho, hd, hyo, CV, fun i hi => by
  unfold fE at hi
  exact xK.1 (List.mem_filter.1 hi).1, by simp only; simp only [aS] at hgl; omega, by
  have := HK p (.mk 3 yn ys yts) p.length
  rw [← IW] at this
  simp only; omega⟩
 have BG := fun st => htr (⟨.mk gk gn gs' gts, a8⟩ :: rest) (cQ N σ) chs _ hcx h0 (by simp only; omega) (by omega) st
 rw [bA, ER, P8] at BG
 simp only at BG
 generalize fE p (.mk 3 yn ys yts) = left at *
 simp -implicitDefEqProofs only [aF, aA, seval, l9]
 refine aP (fun h => ?_) (fun h => ?_)
 · have h' : left = [] := by
    have : (left.length : Int) = 0 := by simpa using h
    exact sE (by omega)
   rw [aG h'] at hR
   subst hR
   simp -implicitDefEqProofs only [aK, aS, aA, seval, l9]
   exact tS _ _ _ ⟨by decide, _, _, _, by simp only [fL, jG, eC, iI, bA, aW]; rfl⟩
 have h' : left ≠ [] := by
  rintro rfl
  simp at h
 rw [aE h'] at hR
 generalize iG p chs (.mk 3 yn ys yts) rest σ N left = x at *
 simp -implicitDefEqProofs only [aS, aA, seval, l9]
 cases x with
 | none =>
  simp only at hR BG
  subst hR
  refine (BG _).mono ?_
  rintro _ _ ⟨rfl, rfl⟩
  simp -implicitDefEqProofs only [aK, aS, aA, ↓aU, seval, l9]
  exact tS _ _ _ ⟨_, _, _, by simp only [fL, jG, eC, iI, bA, aW]; rfl⟩
 | some s =>
  simp only [r7] at hR BG
  subst hR
  refine (BG _).mono ?_
  rintro _ _ ⟨rfl, rfl⟩
  simp -implicitDefEqProofs only [aK, aS, aA, ↓aU, seval, l9]
  exact tS _ _ _ (by simp only [fL, jG, eC, iI, bA, aW]; rfl)
theorem aZD {N : Int} {t : Tm} (h : cD N t) : dC 0 t = t := by
 have h1 : dC 0 t = t.aJ vr := by
  unfold dC bV
  congr 1
  funext v
  congr 1
  simp
 rw [h1, M6 t h.2.1]
theorem aE0 (N : Nat) : cQ N Sub.none = List.replicate N zt := by
 apply KY
 intro i
 by_cases h : i < N
 · rw [yV N _ h, List.getElem?_replicate, aG h]; try rfl
 · rw [xN (by rw [sP]; omega), xN (by simp; omega)]
abbrev OB := zi tI_3 (zi zI_3 (zi aX (zi tI_31 (zi zI_31 (zi aN (zi bE (zi bF (zi cA (zi tI_100 (zi zI_100 (zi uV (zi zH (zi yZ (zi F3 (zi tI_103 (zi zI_103 (zi GM (zi GF (zi DN GC)))))))))))))))))))
theorem aOL (q : List Tm) (hq : ∀ t ∈ q, bD 26 t) (h6 : q.length ≤ 6) (st : aB) : aD prog 70 [.slice (q.map Tm.av)] st (fun r st' => r = r7 (lO q) ∧ st' = st) := by
 have hgo : ∀ st, aD prog 104 [.slice (q.map Tm.av), .int .i64 0, .int .i64 0, .fslice []] st (fun r st' => r = .slice ((lO q).goals.map eF) ∧ st' = st) := fun st =>
  aD.n8 ((aC9 q 0 0 [] hq h6 (by omega) (by simp) st).mono fun _ _ h => ⟨by
   rw [h.1]
   unfold lO
   rw [iA]
   congr 2
   exact qX fun t ht => by rw [aZD (hq t ht).1], h.2⟩)
 refine aD.pC (aD.fin (aD.lU ?_))
 refine wF [1000000, 3] 1 func70 ntmps70 rfl rfl ?_
 intro _
 simp -implicitDefEqProofs only [aA, seval, OB]
 intro b2 h2
 simp -implicitDefEqProofs only [wL, aK, vG, ↓J9, ↓KZ, List.contains, List.elem, w7, n0, pH, ↓reduceIte, reduceCtorEq, Nat.reduceEqDiff, Nat.reduceAdd, Nat.reduceLT, Nat.reduceBEq, OB]
 refine ⟨by omega, by omega, by omega, fun bb hbb => ?_⟩
 rw [show Int.toNat 26 = 26 from rfl, aLF _ (by simp)]
 have hb2 : bb ≠ b2 := by rintro rfl; rw [aB.aQ] at hbb; cases hbb
 have HD : (List.replicate 26 [AV.int .i64 0, .int .i64 0, .str ⟨#[]⟩, .fslice []]).flatten = (cQ 26 Sub.none).flatMap AV.cells := by
  rw [aE0]; try rfl
 rw [HD]
 have h22 : (st.aC b2 (AO.cells [AV.fslice [], AV.fslice [], AV.fslice []])) b2 = some (AO.cells [AV.fslice [], AV.fslice [], AV.fslice []]) := aB.aQ _ _ _
 have hD2 : aM (st.aC b2 (AO.cells [AV.fslice [], AV.fslice [], AV.fslice []])) st := (aM.refl _).aC h2
 intro b3 h3
 have h3b : b3 ≠ bb := by rintro rfl; rw [aB.aQ] at h3; cases h3
 rw [aB.aL _ _ h3b] at h3
 have h32 : b3 ≠ b2 := by rintro rfl; rw [aB.aQ] at h3; cases h3
 have hs3 : st b3 = none := by rw [aB.aL _ _ h32] at h3; exact h3
 have hsb : st bb = none := by rw [aB.aL _ _ hb2] at hbb; exact hbb
 refine (hgo _).to ?_
 have e1 := dA h3b
 have e2 := dA h32
 have e3 := dA hb2
 simp -implicitDefEqProofs only [aK, e2, e3, aB.aQ, aA, seval, OB]
 have nO : cQ 26 Sub.none ≠ [] := by rw [aE0]; simp
 refine ⟨st.aC bb (.cells ((cQ 26 Sub.none).flatMap AV.cells)), fun q' => ?_, bb, cQ 26 Sub.none, st, by rw [jH nO], fun _ => hsb, EM _ _, ⟨4, BL _ _⟩, ?_, aM.refl _⟩
 · by_cases q2 : q' = b2
   · subst q2; rw [aB.aQ, aB.aL _ _ e3, h2]; simp
   rw [aB.aL _ _ q2]
   by_cases q3 : q' = b3
   · subst q3; rw [aB.aQ, aB.aL _ _ h3b, hs3]; simp
   simp only [aB.aL _ _ q3]
   by_cases qb : q' = bb
   · subst qb; rw [aB.aQ, aB.aQ]; simp
   rw [aB.aL _ _ qb, aB.aL _ _ qb, aB.aL _ _ q2]
   simp
 · simp only [fL, iI, oK, bA, aW, GZ (show 0 < 26 by omega)]
   rfl
theorem PZ {S : aB} {b c : Nat} {l : List AV} {o : AO} (h : l ≠ [] → b ≠ c) : (aY S b l).aC c o = aY (S.aC c o) b l := by
 cases l with
 | nil => rfl
 | cons x l => rw [jH (by simp), jH (by simp), aB.nJ _ _ _ (h (by simp))]
theorem uQ {p : List Cl} {cnd : Tm → List Nat → List Nat} {vars : List Int} {most fuel : Nat} {s : RS} (hg : s.goals = []) : iE p cnd vars most fuel s = if most = 0 then ([], 1) else match iY s.σ vars with
 | none => ([], 3)
 | some a => match fP p s.chs.length s.chs with
  | none => ([a], 0)
  | some s' => (a :: (iE p cnd vars (most - 1) fuel s').1, (iE p cnd vars (most - 1) fuel s').2) := by
 rw [iE.eq_def, hg]
 simp only
 split <;> rfl
theorem tD {p : List Cl} {cnd : Tm → List Nat → List Nat} {vars : List Int} {most fuel : Nat} {s : RS} {g : RG} {rest : List RG} (hg : s.goals = g :: rest) : iE p cnd vars most fuel s = if fuel = 0 then ([], 2) else match jK p cnd s g rest with
 | .stop e => ([], e)
 | .go s' => iE p cnd vars most (fuel - 1) s'
 | .fail => match fP p s.chs.length s.chs with
  | none => ([], 0)
  | some s' => iE p cnd vars most (fuel - 1) s' := by
 rw [iE.eq_def, hg]
 simp only
 split <;> rfl
structure aLD (p : List Cl) (vars : List Int) (most fuel : Nat) (T : List (List Tm) × Int) (s : RS) (out : List (List Tm)) (f B : Nat) : Prop where
 tot : T = (out ++ (iE p (fun _ l => l) vars (most - out.length) f s).1, (iE p (fun _ l => l) vars (most - out.length) f s).2)
 len : out.length ≤ most
 ok : lI p B s
 bd : B + 26 * f ≤ 8000
abbrev lD := zi tI_2 (zi zI_2 (zi KJ (zi tI_3 (zi zI_3 (zi aX (zi tI_4 (zi zI_4 (zi cE (zi tI_26 (zi zI_26 (zi o7 (zi s9 (zi sR (zi w8 (zi tI_29 (zi zI_29 (zi g8 (zi j8 (zi kA (zi k6 (zi tI_31 (zi zI_31 (zi aN (zi bE (zi bF (zi cA (zi tI_51 (zi zI_51 (zi dV (zi fV (zi fW (zi fZ (zi tI_82 (zi zI_82 (zi A6 (zi AC (zi tI_100 (zi zI_100 (zi uV (zi zH (zi yZ (zi F3 (zi tI_103 (zi zI_103 (zi GM (zi GF (zi DN GC)))))))))))))))))))))))))))))))))))))))))))))))
theorem aMY {p : List Cl} (hp : ∀ c ∈ p, gB c ∧ c.2.length ≤ 6) (hpl : p.length ≤ 20) {q : List Tm} (hq : ∀ t ∈ q, bD 26 t ∧ t.k = 3) (h6 : q.length ≤ 6) {most fuel : Nat} (hm : most ≤ 20) (hf : fuel ≤ 300) (st : aB) :
 aD prog 65 [.slice (p.map bY), .slice (q.map Tm.av), .int .i64 (most : Int), .int .i64 (fuel : Int)] st (fun r st' => r = .tup [.slice ((wO p (fun _ l => l) q most fuel).1.map cX), .int .i64 (wO p (fun _ l => l) q most fuel).2] ∧ st' = st) := by
 have hnd : bG Tm.nodes q ≤ 1099511627776 := by
  have := B1 q fun t ht => (hq t ht).1.2
  omega
 have hva := fun st => aA7 q st (fun t ht => Tm.sS t (hq t ht).1.1.2.1) hnd
 have EG := fun st => aOL q (fun t ht => (hq t ht).1) h6 st
 have hv : ∀ v ∈ bZ q [], 0 ≤ v ∧ v < 26 := fun v hv => by
  rcases (v5 q [] fun t ht => (hq t ht).1.1.2.1).1 hv with h | ⟨t, ht, h⟩
  · cases h
  · exact (hq t ht).1.1.2.2 v h
 have hvl : (bZ q []).length ≤ 1000 := by
  have h1 := wI q []
  have h2 := B1 q fun t ht => (hq t ht).1.2
  simp only [aZ] at h1
  omega
 have KE := lI.start (p := p) hq h6
 generalize hT : wO p (fun _ l => l) q most fuel = T
 unfold wO at hT
 generalize bZ q [] = vars at *
 have hI0 : aLD p vars most fuel T (lO q) [] fuel 26 := ⟨by rw [← hT]; try rfl, jC _, KE, by omega⟩
 generalize lO q = s0 at *
 simp only [r7] at EG
 refine aD.pC (aD.fin (aD.lU ?_))
 refine wF [1000000, 12] 4 func65 ntmps65 rfl rfl ?_
 intro _
 simp -implicitDefEqProofs only [aA, seval, lD]
 refine (hva _).to ?_
 simp -implicitDefEqProofs only [aA, seval]
 refine (EG _).to ?_
 simp -implicitDefEqProofs only [aK, aA, ↓aU, seval, lD]
 intro b12 h12
 refine gX (σ := RS × List (List Tm) × Nat × Nat × Nat) [1000000, 12] [0, 2, 11, 12] (fun x => aLD p vars most fuel T x.1 x.2.1 x.2.2.1 x.2.2.2.1 ∧ (x.2.1.map cX ≠ [] → (st.aC b12 (.cells [.slice (x.1.goals.map eF), .slice (cQ x.1.N x.1.σ), .slice (x.1.chs.map fD)])) x.2.2.2.2 = none))
  (fun x => [(3, .int .i64 (x.2.2.1 : Int)), (8, .fslice []), (9, .int .i64 0), (10, a9 1 x.2.2.2.2 (x.2.1.map cX))])
  (fun x => aY (st.aC b12 (.cells [.slice (x.1.goals.map eF), .slice (cQ x.1.N x.1.σ), .slice (x.1.chs.map fD)])) x.2.2.2.2 (x.2.1.map cX))
  (fun x => (most - x.2.1.length) + x.2.2.1) (by decide +kernel) ⟨(s0, [], fuel, 26, 0), ⟨hI0, by simp⟩, aO.mk (by simp -implicitDefEqProofs only [jF, aW, aA, seval])⟩ ?_
 rintro ⟨s, out, f, B, b⟩ ⟨⟨tot, hlen, hok, hbd⟩, hb⟩
 simp only at tot hlen hok hbd hb
 simp only
 have hbc : out.map cX ≠ [] → b ≠ b12 := fun h => by rintro rfl; have := hb h; rw [aB.aQ] at this; cases this
 have pG := BQ hb (aB.aQ st b12 (.cells [.slice (s.goals.map eF), .slice (cQ s.N s.σ), .slice (s.chs.map fD)]))
 have hlo : (out.map cX).length = out.length := aF _
 have aSI : ∀ l : List (List Tm), ∀ e ∈ l.map cX, e.cC = false := fun l e he => by simp only [cV] at he; obtain ⟨t, _, rfl⟩ := he; rfl
 have ID : ∀ l : List (List Tm), ∀ e ∈ l.map cX, e.width = 1 := fun l e he => by simp only [cV] at he; obtain ⟨t, _, rfl⟩ := he; rfl
 have fin : ∀ (S : aB) (b : Nat) (l : List (List Tm)) (e : Int), (l.map cX ≠ [] → S b = none) → aM S st → T = (l, e) → ∃ s2, aM (aY S b (l.map cX)) s2 ∧ ∃ b' l' s0, s2 = aY s0 b' l' ∧ (l' ≠ [] → s0 b' = none) ∧ (∀ e ∈ l', e.cC = false) ∧ g9 l' ∧ (AV.tup [a9 1 b (l.map cX), .int .i64 e]).fin b' l' = .tup [.slice (T.1.map cX), .int .i64 T.2] ∧ aM s0 st := fun S b l e h1 h2 h3 =>
  ⟨_, aM.refl _, b, l.map cX, S, rfl, h1, aSI l, ⟨1, ID l⟩, by subst h3; simp only [jG, eC, lT, bA, aW], h2⟩
 have hSD : ∀ o, aM (st.aC b12 o) st := fun o => (aM.refl _).aC h12
 generalize hX : (AO.cells [.slice (s.goals.map eF), .slice (cQ s.N s.σ), .slice (s.chs.map fD)]) = X at pG hb
 have pG := pG.trans (nX some hX.symm)
 have hun : prog.underlying 26 = some (.slice 82) := by kernel_rfl
 have tA := sU (w := 1) (b := b) (l := out.map cX) hun
 rw [hlo] at tA
 cases hgs : s.goals with
 | nil =>
  rw [hgs] at hX pG
  simp only [aW] at hX pG
  rw [uQ hgs] at tot
  simp -implicitDefEqProofs only [aZ, tA, pG, aA, seval, lD]
  refine aP (fun h => ?_) (fun h => ?_)
  · have h' : out.length = most := by simp at h; omega
    rw [aG (by omega)] at tot
    simp -implicitDefEqProofs only [mR, aA, seval]
    exact fin _ b out 1 hb (hSD _) (by rw [tot, iA])
  have h' : out.length < most := by simp at h; omega
  rw [aE (by omega)] at tot
  simp -implicitDefEqProofs only [pG, aA, seval, lD]
  refine (aL8 (N := s.N) hok.a.gI hok.a.ok vars (fun v h => ⟨(hv v h).1, by have := (hv v h).2; have := hok.l.1; omega⟩) hvl _).mono ?_
  rintro _ _ ⟨rfl, a, rfl, ha⟩
  cases pO : iY s.σ vars with
  | none =>
   rw [pO] at tot
   simp only [Option.isSome_none, cX]
   simp -implicitDefEqProofs only [aZ, aS, mR, aA, ↓aU, seval, lD]
   exact fin _ b out 3 hb (hSD _) (by rw [tot, iA])
  | some x =>
   obtain rfl := ha x pO
   rw [pO] at tot
   simp only [Option.isSome_some, cX] at tot ⊢
   simp -implicitDefEqProofs only [aZ, aS, aA, ↓aU, seval, lD]
   refine eN (P := prog) (b := b) (l := out.map cX) (xs := [cX a]) o7 s9 sR rfl rfl (eY rfl rfl) (ID out) hb (by simp only [aS, aZ, hlo]; omega) (by simp only [aS, aZ, hlo]; omega) (fun b' hb' => ?_)
   rw [show (out.map cX) ++ [cX a] = (out ++ [a]).map cX by simp] at hb' ⊢
   have TI := (BQ hb' (aB.aQ st b12 X)).trans (nX some hX.symm)
   simp -implicitDefEqProofs only [aZ, aS, TI, aA, seval, lD]
   have IR : (f : Int) = (f : Int) := rfl
   refine (aC5 hp (B := B) (by omega) [] (cQ s.N s.σ) s.chs hok.a.pR hok.a.chs _).mono ?_
   rintro r _ ⟨rfl, hr⟩
   cases hbk : fP p s.chs.length s.chs with
   | none =>
    rw [hbk] at hr tot
    simp only at hr tot
    obtain ⟨l1, l2, l3, rfl⟩ := hr
    simp -implicitDefEqProofs only [aZ, aS, mR, aA, ↓aU, seval, lD]
    exact fin _ b' (out ++ [a]) 0 hb' (hSD _) (by rw [tot]; try rw [iA])
   | some s' =>
    rw [hbk] at hr tot
    simp only [r7] at hr tot
    subst hr
    simp -implicitDefEqProofs only [aK, aZ, aS, TI, aA, ↓aU, seval, lD]
    rw [PZ (fun h => by rintro rfl; have := hb' h; rw [aB.aQ] at this; cases this), dD]
    have hne : (out ++ [a]).map cX ≠ [] → b' ≠ b12 := fun h => by rintro rfl; have := hb' h; rw [aB.aQ] at this; cases this
    refine ⟨(s', out ++ [a], f, B, b'), by simp only [dP, aS, aZ]; omega, ⟨⟨by rw [tot]; try simp only [nV, fF, eR, dP, aS, aZ, Nat.sub_sub]; try rfl, by simp only [dP, aS, aZ]; omega, hok.back hp (by omega) hbk, by simp only; omega⟩, fun h => by rw [aB.aL _ _ (hne h)]; have := hb' h; rwa [aB.aL _ _ (hne h)] at this⟩, aO.mk (by simp -implicitDefEqProofs only [aA, seval])⟩
 | cons g rest =>
  rw [hgs] at hX pG
  rw [tD hgs] at tot
  simp -implicitDefEqProofs only [aF, aS, pG, aA, seval, lD]
  refine aP (fun h => absurd h (by simp; omega)) (fun h => ?_)
  simp -implicitDefEqProofs only [aA, seval]
  refine aP (fun h => ?_) (fun h => ?_)
  · have h' : f = 0 := by simp at h; omega
    rw [aG h'] at tot
    simp -implicitDefEqProofs only [mR, aA, seval]
    exact fin _ b out 2 hb (hSD _) (by rw [tot, iA])
  have h' : f ≠ 0 := by simp at h; omega
  rw [aE h'] at tot
  have hw := bK (n := (f : Int) - 1)
  simp -implicitDefEqProofs only [hw, aZ, aS, pG, aA, seval, lD]
  have hst := aYN hp (by omega) (B := B) (by omega) s.goals s.σ s.N s.chs g rest hgs hok.a hok.k
  rw [hgs, bA] at hst
  refine (hst _).mono ?_
  rintro r _ ⟨rfl, hr⟩
  have hse : (⟨g :: rest, s.σ, s.N, s.chs⟩ : RS) = s := by rw [← hgs]
  rw [hse] at hr
  cases iK : jK p (fun _ l => l) s g rest with
  | go s' =>
   rw [iK] at hr tot
   simp only [wU, r7] at hr tot
   subst hr
   simp -implicitDefEqProofs only [aZ, aS, vG, ↓J9, List.contains, List.elem, y6, ↓reduceIte, Nat.reduceEqDiff, Nat.reduceAdd, Nat.reduceBEq, lD]
   refine aP (fun h => absurd h (by decide)) (fun h => ?_)
   simp -implicitDefEqProofs only [aK, aZ, aS, pG, aA, seval, lD]
   rw [PZ hbc, dD]
   have IR : ((f - 1 : Nat) : Int) = (f : Int) - 1 := by omega
   refine ⟨(s', out, f - 1, B + 26, b), by simp only; omega, ⟨⟨tot, hlen, hok.step hp (by omega) (by omega) (cnd := fun _ l => l) (fun _ _ => ⟨fun _ h => h, cY _⟩) hgs iK, by simp only; omega⟩, fun h => by rw [aB.aL _ _ (hbc h)]; have := hb h; rwa [aB.aL _ _ (hbc h)] at this⟩, aO.mk (by simp -implicitDefEqProofs only [IR, aA, seval])⟩
  | fail =>
   rw [iK] at hr tot
   simp only [wU] at hr tot
   obtain ⟨l1, l2, l3, rfl⟩ := hr
   simp -implicitDefEqProofs only [aZ, aS, vG, ↓J9, List.contains, List.elem, y6, ↓reduceIte, Nat.reduceEqDiff, Nat.reduceAdd, Nat.reduceBEq, lD]
   refine aP (fun h => absurd h (by decide)) (fun h => ?_)
   simp -implicitDefEqProofs only [aZ, aS, pG, aA, seval, lD]
   have IR : ((f - 1 : Nat) : Int) = (f : Int) - 1 := by omega
   refine (aC5 hp (B := B) (by omega) (g :: rest) (cQ s.N s.σ) s.chs hok.a.pR hok.a.chs _).mono ?_
   rintro r _ ⟨rfl, hr⟩
   cases hbk : fP p s.chs.length s.chs with
   | none =>
    rw [hbk] at hr tot
    simp only at hr tot
    obtain ⟨l1, l2, l3, rfl⟩ := hr
    simp -implicitDefEqProofs only [aZ, aS, mR, aA, ↓aU, seval, lD]
    exact fin _ b (out) 0 hb (hSD _) (by rw [tot]; try rw [iA])
   | some s' =>
    rw [hbk] at hr tot
    simp only [r7] at hr tot
    subst hr
    simp -implicitDefEqProofs only [aK, aZ, aS, pG, aA, ↓aU, seval, lD]
    rw [PZ (fun h => by rintro rfl; have := hb h; rw [aB.aQ] at this; cases this), dD]
    have hne : (out).map cX ≠ [] → b ≠ b12 := fun h => by rintro rfl; have := hb h; rw [aB.aQ] at this; cases this
    refine ⟨(s', out, f - 1, B, b), by simp only []; omega, ⟨⟨by rw [tot]; try simp only [nV, fF, eR, dP, aS, aZ, Nat.sub_sub]; try rfl, by simp only []; omega, hok.back hp (by omega) hbk, by simp only; omega⟩, fun h => by rw [aB.aL _ _ (hne h)]; have := hb h; rwa [aB.aL _ _ (hne h)] at this⟩, aO.mk (by simp -implicitDefEqProofs only [IR, aA, seval])⟩
  | stop e =>
   rw [iK] at hr tot
   simp only [wU] at hr tot
   obtain ⟨he0, l1, l2, l3, rfl⟩ := hr
   simp -implicitDefEqProofs only [aZ, aS, aA, ↓aU, seval, lD]
   refine aP (fun h => ?_) (fun h => absurd he0 (by simpa using h))
   simp -implicitDefEqProofs only [mR, aA, seval]
   exact fin _ b out e hb (hSD _) (by rw [tot, iA])
end Go.AW
namespace Go.AW
def FM (st : aB) (xs : List AV) (r : AV) (st' : aB) : Prop := ∃ (os : List AV) (bs : List Nat), r = .tup os ∧ bs.Nodup ∧ (∀ b ∈ bs, st b = none) ∧ cI st' xs os bs ∧ ∀ b, b ∉ bs → st' b = st b
theorem cI.aEE {h : bH} {st s0 : aB} (S : cW h st) (D : aM st s0) : ∀ (xs os : List AV) (bs : List Nat) (vs : List Value), cI st xs os bs → (∀ b ∈ bs, s0 b = none) → dO h st os vs → dO h s0 xs vs
 | [], os, bs, vs, x, _, y => by simp only [cI] at x; rw [x.1] at y; exact y
 | a :: xs, os, bs, vs, x, hb, y => by
  simp only [cI] at x
  obtain ⟨o, os', b1, b2, rfl, rfl, x1, x2⟩ := x
  simp only [dO] at y ⊢
  obtain ⟨v, r, e, ⟨y0, y1⟩, y2⟩ := y
  exact ⟨v, r, e, ⟨x1.shape.1.symm.trans y0, cL.view S D a o b1 _ x1 (fun q hq => hb q (by simp [hq])) y1⟩, cI.aEE S D xs os' b2 r x2 (fun q hq => hb q (by simp [hq])) y2⟩
theorem aD.aEX {P : Program} {g : FuncId} {args : List AV} {st : aB} {xs : List AV} (x : aD P g args st (FM st xs)) : aD P g args st (fun r st' => r = .tup xs ∧ st' = st) :=
 x.mW fun r st' ⟨os, bs, hr, _, h2, h3, h4⟩ => by
  have D : aM st' st := fun b => ⟨fun e => by
   by_cases hb : b ∈ bs
   · exact h2 b hb
   · rw [← h4 b hb]; exact e, fun o e => by
   by_cases hb : b ∈ bs
   · rw [h2 b hb] at e; cases e
   · rw [h4 b hb]; exact e⟩
  refine ⟨.tup xs, st, D.sO, fun h v S y => ?_, rfl, rfl⟩
  subst hr
  obtain ⟨y0, y1⟩ := y
  refine ⟨y0, ?_⟩
  unfold VC at y1 ⊢
  obtain ⟨vs, e, y2⟩ := y1
  exact ⟨vs, e, cI.aEE S D xs os bs vs h3 h2 y2⟩
theorem cL.SK {st : aB} {es : List AV} {q : AV} {bs : List Nat} (h : cL st (.slice es) q bs) : q.cells = [q] ∧ q.storable = true ∧ q.isAgg = false ∧ q.width = 1 ∧ q.cC = false := by
 simp only [cL] at h
 rcases h with ⟨_, rfl, _⟩ | ⟨_, _, _, _, rfl, _⟩ <;> exact ⟨rfl, rfl, rfl, rfl, rfl⟩
theorem aY8 {s : aB} {x o : AV} {bs : List Nat} : cL s (.agg [x]) o bs ↔ ∃ q, o = .agg [q] ∧ cL s x q bs := by
 simp only [cL, cI]
 constructor
 · rintro ⟨os, rfl, o1, os1, b1, b2, rfl, rfl, h, rfl, rfl⟩
   exact ⟨o1, rfl, by simpa using h⟩
 · rintro ⟨q, rfl, h⟩
   exact ⟨_, rfl, q, [], bs, [], rfl, by simp, h, rfl, rfl⟩
theorem aPR {s : aB} {x y : AV} {os : List AV} {bs : List Nat} : cI s [x, y] os bs ↔ ∃ o1 o2 b1 b2, os = [o1, o2] ∧ bs = b1 ++ b2 ∧ cL s x o1 b1 ∧ cL s y o2 b2 := by
 simp only [cI]
 constructor
 · rintro ⟨o1, os1, b1, b1', rfl, rfl, h1, o2, os2, b2, b2', rfl, rfl, h2, rfl, rfl⟩
   exact ⟨o1, o2, b1, b2, rfl, by simp, h1, h2⟩
 · rintro ⟨o1, o2, b1, b2, rfl, rfl, h1, h2⟩
   exact ⟨o1, [o2], b1, b2, rfl, rfl, h1, o2, [], b2, [], rfl, by simp, h2, rfl, rfl⟩
end Go.AW
namespace Go.AW
open Go.Proofs.Tryz

section
variable {S : aB} {c b w : Nat} {hd tl l : List AV}
theorem SA {h : bH} {st : aB} {a a' : AV} (hv : ∀ v, VC h st a [v] → VC h st a' [v]) : ∀ (hd : List AV) {tl : List AV} {vs : List Value}, a7 h st (hd ++ a :: tl) vs → a7 h st (hd ++ a' :: tl) vs
 | [], tl, vs, x => by
  simp only [eR, a7] at x ⊢
  obtain ⟨c, r, e, x1, x2⟩ := x
  exact ⟨c, r, e, hv c x1, x2⟩
 | y :: hd, tl, vs, x => by
  simp only [fF, a7] at x ⊢
  obtain ⟨c, r, e, x1, x2⟩ := x
  exact ⟨c, r, e, x1, SA hv hd x2⟩
theorem fK.aY0 {φ : AF} {st : aB} {c : Nat} {hd tl : List AV} {a : AV} (hc : st c = some (.cells (hd ++ a :: tl))) : fK φ st φ (st.aC c (.cells (hd ++ a.soft :: tl))) := fun h tmps S F => by
 have T : cB h st h (st.aC c (.cells (hd ++ a.soft :: tl))) := cB.of fun x hx => by
  have : x ≠ c := by rintro rfl; rw [hc] at hx; cases hx
  rw [aB.aL _ _ this]; exact hx
 refine ⟨fun x o hx => ?_, T, fun d => (F d).mono T⟩
 by_cases e : x = c
 · subst e
   rw [aB.aQ] at hx
   cases hx
   obtain ⟨hl, c0, t, e1, e2, vs, e3, e4⟩ := S x _ hc
   refine ⟨hl, c0, t, e1, ?_, vs, e3, a7.mono T _ _ (SA (fun v hv => VC.soft a [v] hv) hd e4)⟩
   simpa using e2
 · rw [aB.aL _ _ e] at hx
   obtain ⟨hl, y⟩ := S x o hx
   exact ⟨hl, k0.mono T rfl y⟩
end
abbrev w5 := zi tI_3 (zi zI_3 (zi aX (zi tI_31 (zi zI_31 (zi aN (zi bE (zi bF (zi cA (zi tI_63 (zi zI_63 (zi bR (zi bQ (zi bP (zi bT (zi bU (zi tI_76 (zi zI_76 (zi lN (zi lR lP)))))))))))))))))))
theorem QY (cl : Cl) (h1 : cl.1.small = true) (h2 : cl.2.length ≤ 1048576) (h3 : ∀ x ∈ cl.2, x.small = true) (st : aB) : aD prog 80 [bY cl] st (fun r st' => r = bY cl ∧ st' = st) := by
 obtain ⟨⟨k, n, s, ks⟩, ts⟩ := cl
 have hhd := fun st => yA (.mk k n s ks) st h1
 simp only [aV] at hhd
 have IH := fun (x : Tm) (hx : x ∈ ts) st => yA x st (h3 x hx)
 have hlen : ts.length ≤ 1048576 := h2
 refine aD.pC (aD.fin ?_)
 simp only [gG]
 refine wF [] 1 func80 ntmps80 rfl rfl ?_
 simp only [eD, AV.fits, eM, aF]
 intro ⟨_, _, _, _, hl, _⟩
 simp -implicitDefEqProofs only [aA, seval, w5]
 intro b2 hb2
 refine (hhd _).to ?_
 simp -implicitDefEqProofs only [aK, aA, seval, w5]
 intro c hc
 have hne : c ≠ b2 := by rintro rfl; rw [aB.aQ] at hc; cases hc
 have hn2 : st c = none := by rw [aB.aL st _ hne] at hc; exact hc
 have mU : b2 ≠ c := dA hne
 refine eH (σ := Nat) [] [1, 2, 3] ts (fun i b => (((ts.take i).map (fun y => y)).map Tm.av ≠ [] → (aB.aC (st.aC b2 (.cells [AV.int .i64 0, AV.int .i64 0, AV.str ⟨#[]⟩, AV.fslice [], AV.fslice []])) c (.cells ([AV.int .i64 k, AV.int .i64 n, AV.str s, AV.slice (ks.map Tm.av)] ++ [a9 4 b (((ts.take i).map (fun y => y)).map Tm.av)]))) b = none)) (fun i b => [(4, .int .i64 i)]) (fun i b => eU (st.aC b2 (.cells [AV.int .i64 0, AV.int .i64 0, AV.str ⟨#[]⟩, AV.fslice [], AV.fslice []])) c b [AV.int .i64 k, AV.int .i64 n, AV.str s, AV.slice (ks.map Tm.av)] (((ts.take i).map (fun y => y)).map Tm.av)) (by decide +kernel)
  ⟨0, fun h => absurd rfl h, aO.mk (by simp -implicitDefEqProofs only [aA, ↓aU, seval])⟩ (fun i x b hx hlt bS hdr hinv => ?_) (fun b hge hinv => ?_)
 case refine_1 =>
  have hw := bK (n := (i : Int) + 1)
  have cT : (((ts.take i).map (fun y => y)).map Tm.av).length = i := by simp only [aF, d5]; omega
  have htk : (ts.take (i + 1)).map (fun y => y) = (ts.take i).map (fun y => y) ++ [(fun y => y) x] := by rw [fM, hx]; simp
  have hbo := d8 hinv
  simp -implicitDefEqProofs only [aF, bS, aA, seval, w5]
  refine wP [(0, 1), (2, 1), (4, 1), (1, 2), (3, 2), (5, 1), (6, 2), (7, 2), (8, 1), (9, 0), (10, 1), (11, 0)] [0, 2, 4, 1, 3, 5, 6, 7, 8, 10] mixed ?_
  simp -implicitDefEqProofs only [bL (av := Tm.av) aN hx (aH x), aT, aH, hbo, mI, gV, aA, seval, w5]
  refine i8 (IH x (cU hx) _) ?_
  simp -implicitDefEqProofs only [aT, aH, cF, gV, aA, seval, w5]
  refine eN aN bE bF rfl rfl (eY (aH _) (b7 _)) (dT _) hinv (by simp only [cT, aS, aZ]; omega) (by simp only [cT, aS, aZ]; omega) (fun b' hb' => ?_)
  rw [show (((ts.take i).map (fun y => y)).map Tm.av) ++ [((fun y => y) x).av] = ((ts.take (i + 1)).map (fun y => y)).map Tm.av by rw [htk]; simp] at hb' ⊢
  obtain ⟨g1, g2, g3⟩ := nM hb'
  simp only [fF, eR] at g1 g3
  simp -implicitDefEqProofs only [g3, mA, eV, aK, g1, hw, aK, aA, seval, w5]
  exact ⟨b', g2, aO.mk (by simp -implicitDefEqProofs only [aA, seval])⟩
 have hbo := d8 hinv
 rw [eS] at hinv hbo ⊢
 simp -implicitDefEqProofs only [aF, hge, aA, seval, w5]
 simp -implicitDefEqProofs only [hbo, aK, aA, seval, w5]
 have hS : (st.aC b2 (.cells [AV.int .i64 0, AV.int .i64 0, AV.str ⟨#[]⟩, AV.fslice [], AV.fslice []])) b2 ≠ none := by rw [aB.aQ]; simp
 have h1 := gD hinv hS mU
 rw [aB.aQ] at h1
 simp -implicitDefEqProofs only [h1, eV, aA, seval]
 obtain ⟨h2, h3⟩ := jX (o := .cells [AV.int .i64 k, AV.int .i64 n, AV.str s, AV.slice (ks.map Tm.av), a9 4 b ((ts.map fun y => y).map Tm.av)]) hinv hS mU
 refine ⟨b, _, _, h2, h3, iF _, ⟨4, dT _⟩, ?_, ?_⟩
 · simp only [fL, bA, aW, eC, iS, iI, iD, List.map_id']
 · exact (((aM.refl _).aC hb2).aC hn2).aC hb2
structure Ss where
 p : List Cl
 q : List Tm
 a18 : Int
 used : Int
 a0I : Int
 fin : Int
theorem yK (l : List Cl) : ∀ e ∈ l.map bY, e.width = 5 := by intro e h; simp only [cV] at h; obtain ⟨t, _, rfl⟩ := h; exact oH t
theorem H1 (l : List Cl) : ∀ e ∈ l.map bY, e.cC = false := by intro e h; simp only [cV] at h; obtain ⟨t, _, rfl⟩ := h; exact IQ t

def iX (p : List Cl) (q : List Tm) (most fuel : Int) : Bool := qR p && (lG q && (decide (0 ≤ most) && (decide (most ≤ 20) && (decide (0 ≤ fuel) && decide (fuel ≤ 300)))))
noncomputable def gT (p : List Cl) (cnd : Tm → List Nat → List Nat) (q : List Tm) (most fuel : Int) : List (List Tm) × Int := if iX p q most fuel = true then wO p cnd q most.toNat fuel.toNat else ([], 9)
theorem MA {p : List Cl} (h : qR p = true) : p.length ≤ 20 ∧ ∀ c ∈ p, gB c ∧ c.2.length ≤ 6 := by
 simp only [qR, cM, bJ, eW] at h
 refine ⟨h.1, fun c hc => ⟨aSF (h.2 c hc), ?_⟩⟩
 have := h.2 c hc
 simp only [k8, cM, bJ, eW] at this
 exact this.2.1
theorem J5 {q : List Tm} (h : lG q = true) : q.length ≤ 6 ∧ ∀ t ∈ q, bD 26 t ∧ t.k = 3 := by
 simp only [lG, cM, bJ, eW] at h
 refine ⟨h.1, fun t ht => ?_⟩
 have hg := h.2 t ht
 have hk : t.valid = true ∧ t.k = 3 := by
  obtain ⟨k, n, s, ts⟩ := t
  simp only [Tm.goal, cM] at hg
  refine ⟨hg.1, ?_⟩
  have := hg.2
  simp only [vN, o9, qY, cM, bJ] at this
  simp only [Tm.k]
  rcases this with (h | h) | h <;> first | exact h.1 | exact h.1.1 | exact h.1.1.1
 exact ⟨⟨Tm.E4 hk.1, Tm.J4 hk.1⟩, hk.2⟩
abbrev CJ := zi tI_3 (zi zI_3 (zi aX (zi tI_4 (zi zI_4 (zi cE (zi tI_26 (zi zI_26 (zi o7 (zi s9 (zi sR (zi w8 (zi tI_29 (zi zI_29 (zi g8 (zi j8 (zi kA (zi k6 (zi tI_31 (zi zI_31 (zi aN (zi bE (zi bF cA))))))))))))))))))))))
theorem aNE (p : List Cl) (q : List Tm) (most fuel : Int) (st : aB) :
 aD prog 37 [.slice (p.map bY), .slice (q.map Tm.av), .int .i64 most, .int .i64 fuel] st (fun r st' => r = .tup [.slice ((gT p (fun _ l => l) q most fuel).1.map cX), .int .i64 (gT p (fun _ l => l) q most fuel).2] ∧ st' = st) := by
 refine aD.done ?_
 have oC : iX p q most fuel = false → ∀ {st'}, st' = st → (AV.tup [AV.fslice [], .int .i64 9]).soft = .tup [.slice ((gT p (fun _ l => l) q most fuel).1.map cX), .int .i64 (gT p (fun _ l => l) q most fuel).2] ∧ aM st' st := fun h _ e => by
  subst e
  unfold gT
  rw [aE (by rw [h]; simp)]
  exact ⟨by simp only [kC, jV, lY, bA, aW], aM.refl _⟩
 refine wF [1000000] 4 func37 ntmps37 rfl rfl ?_
 intro _
 simp -implicitDefEqProofs only [aA, seval]
 refine (aYU p _).to ?_
 simp -implicitDefEqProofs only [aA, seval]
 refine cS (fun h => ?_) (fun h => ?_)
 case refine_2 =>
  simp -implicitDefEqProofs only [h, aA, seval, CJ]
  exact oC (by simp at h; simp [iX, h]) rfl
 have hp : qR p = true := by simpa using h
 simp -implicitDefEqProofs only [h, aA, seval]
 refine (ZX q _).to ?_
 simp -implicitDefEqProofs only [aA, seval]
 refine cS (fun h2 => ?_) (fun h2 => ?_)
 case refine_2 =>
  simp -implicitDefEqProofs only [h2, aA, seval, CJ]
  exact oC (by simp at h2; simp [iX, h2]) rfl
 have hq : lG q = true := by simpa using h2
 simp -implicitDefEqProofs only [h2, aA, seval]
 refine cS (fun h3 => ?_) (fun h3 => ?_)
 case refine_2 =>
  simp -implicitDefEqProofs only [h3, aA, seval, CJ]
  exact oC (by simp at h3; simp only [iX]; rw [show decide (0 ≤ most) = false from fH (by omega)]; simp) rfl
 have h3' : 0 ≤ most := by simpa using h3
 simp -implicitDefEqProofs only [h3, aA, seval]
 refine cS (fun h4 => ?_) (fun h4 => ?_)
 case refine_2 =>
  simp -implicitDefEqProofs only [h4, aA, seval, CJ]
  exact oC (by simp at h4; simp only [iX]; rw [show decide (most ≤ 20) = false from fH (by omega)]; simp) rfl
 have h4' : most ≤ 20 := by simpa using h4
 simp -implicitDefEqProofs only [h4, aA, seval]
 refine cS (fun h5 => ?_) (fun h5 => ?_)
 case refine_2 =>
  simp -implicitDefEqProofs only [h5, aA, seval, CJ]
  exact oC (by simp at h5; simp only [iX]; rw [show decide (0 ≤ fuel) = false from fH (by omega)]; simp) rfl
 have h5' : 0 ≤ fuel := by simpa using h5
 simp -implicitDefEqProofs only [h5, aA, seval]
 refine aP (fun h6 => ?_) (fun h6 => ?_)
 · simp -implicitDefEqProofs only [aA, seval, CJ]
   exact oC (by simp at h6; simp only [iX]; rw [show decide (fuel ≤ 300) = false from fH (by omega)]; simp) rfl
 have h6' : fuel ≤ 300 := by simpa using h6
 obtain ⟨p1, p2⟩ := MA hp
 obtain ⟨q1, q2⟩ := J5 hq
 obtain ⟨m, rfl⟩ := tO h3'
 obtain ⟨f, rfl⟩ := tO h5'
 simp -implicitDefEqProofs only [aA, seval]
 refine (aMY p2 p1 q2 q1 (by omega) (by omega) _).to ?_
 simp -implicitDefEqProofs only [aA, seval]
 refine ⟨?_, aM.refl _⟩
 have hok : iX p q m f = true := by simp [iX, hp, hq, h4', h6']
 unfold gT
 rw [aG hok]
 simp only [kC, jV, qA, bA, aW, lC]
end Go.AW
namespace Go.AW
theorem aMT (p : List Cl) (cnd : Tm → List Nat → List Nat) (vars : List Int) (k : Nat) : ∀ (n most f : Nat) (s : RS), most + f ≤ n →
 ((iE p cnd vars most f s).2 ≠ 2 → iE p cnd vars most (f + k) s = iE p cnd vars most f s) ∧ (iE p cnd vars most f s).1 <+: (iE p cnd vars most (f + k) s).1 := by
 intro n
 induction n with
 | zero =>
  intro most f s hn
  obtain rfl : most = 0 := by omega
  obtain rfl : f = 0 := by omega
  cases hg : s.goals with
  | nil => rw [uQ hg, uQ hg]; simp
  | cons g rest => rw [tD (fuel := 0) hg]; simp
 | succ n ih =>
  intro most f s hn
  cases hg : s.goals with
  | nil =>
   rw [uQ hg, uQ hg]
   by_cases hm : most = 0
   · rw [aG hm, aG hm]; simp
   rw [aE hm, aE hm]
   cases ha : iY s.σ vars with
   | none => simp
   | some a =>
    simp only
    cases hb : fP p s.chs.length s.chs with
    | none => simp
    | some s' =>
     obtain ⟨h1, h2⟩ := ih (most - 1) f s' (by omega)
     simp only
     refine ⟨fun h => by rw [h1 h], ?_⟩
     rw [List.cons_prefix_cons]
     exact ⟨rfl, h2⟩
  | cons g rest =>
   by_cases hf : f = 0
   · subst hf
     rw [tD (fuel := 0) hg]; simp
   rw [tD hg, tD hg, aE hf, aE (by omega)]
   cases hst : jK p cnd s g rest with
   | stop e => simp
   | go s' =>
    have := ih most (f - 1) s' (by omega)
    rw [show f - 1 + k = f + k - 1 by omega] at this
    exact this
   | fail =>
    simp only
    cases hb : fP p s.chs.length s.chs with
    | none => simp
    | some s' =>
     have := ih most (f - 1) s' (by omega)
     rw [show f - 1 + k = f + k - 1 by omega] at this
     exact this
theorem aNT {p : List Cl} {cnd : Tm → List Nat → List Nat} {q : List Tm} {most fuel : Int} (h : iX p q most fuel = false) : gT p cnd q most fuel = ([], 9) := by
 unfold gT
 rw [h]; try rfl
theorem QR {p : List Cl} {cnd : Tm → List Nat → List Nat} {q : List Tm} {most fuel : Int} (h : iX p q most fuel = true) : gT p cnd q most fuel = wO p cnd q most.toNat fuel.toNat := by
 unfold gT
 rw [aG h]
theorem QW {p : List Cl} {q : List Tm} {most fuel : Int} : iX p q most fuel = true ↔ (qR p = true ∧ lG q = true ∧ 0 ≤ most ∧ most ≤ 20 ∧ 0 ≤ fuel ∧ fuel ≤ 300) := by
 simp only [iX, cM, bJ]
theorem aXH {p : List Cl} {cnd : Tm → List Nat → List Nat} {s : RS} {g : RG} {rest : List RG} {e : Int} (h : jK p cnd s g rest = .stop e) : e ≠ 9 := by
 unfold jK at h
 intro he
 subst he
 repeat' split at h
 all_goals first | (cases h; done) | (injection h with h; unfold pT at h; repeat' split at h; all_goals omega) | (injection h with h; omega)
theorem aVZ (p : List Cl) (cnd : Tm → List Nat → List Nat) (vars : List Int) : ∀ (n most f : Nat) (s : RS), most + f ≤ n → (iE p cnd vars most f s).2 ≠ 9 ∧ (iE p cnd vars most f s).1.length ≤ most := by
 intro n
 induction n with
 | zero =>
  intro most f s hn
  obtain rfl : most = 0 := by omega
  obtain rfl : f = 0 := by omega
  cases hg : s.goals with
  | nil => rw [uQ hg]; simp
  | cons g rest => rw [tD (fuel := 0) hg]; simp
 | succ n ih =>
  intro most f s hn
  cases hg : s.goals with
  | nil =>
   rw [uQ hg]
   by_cases hm : most = 0
   · rw [aG hm]; simp
   rw [aE hm]
   cases ha : iY s.σ vars with
   | none => simp
   | some a =>
    simp only
    cases hb : fP p s.chs.length s.chs with
    | none => simp; omega
    | some s' =>
     obtain ⟨h1, h2⟩ := ih (most - 1) f s' (by omega)
     simp only [aS]
     exact ⟨h1, by omega⟩
  | cons g rest =>
   by_cases hf : f = 0
   · subst hf
     rw [tD (fuel := 0) hg]; simp
   rw [tD hg, aE hf]
   cases hst : jK p cnd s g rest with
   | stop e => exact ⟨aXH hst, jC _⟩
   | go s' => exact ih most (f - 1) s' (by omega)
   | fail =>
    simp only
    cases hb : fP p s.chs.length s.chs with
    | none => simp
    | some s' => exact ih most (f - 1) s' (by omega)
theorem aN4 {p : List Cl} {cnd : Tm → List Nat → List Nat} {q : List Tm} {most fuel : Int} : (gT p cnd q most fuel).2 = 9 ↔ iX p q most fuel = false := by
 constructor
 · intro h
   cases hk : iX p q most fuel with
   | false => rfl
   | true => rw [QR hk] at h; exact absurd h (aVZ p cnd _ _ _ _ _ (cY _)).1
 · intro h
   rw [aNT h]
theorem aXJ {p : List Cl} {cnd : Tm → List Nat → List Nat} {q : List Tm} {most fuel fuel' : Int} (h : iX p q most fuel = true) (hf : fuel ≤ fuel') (hf' : fuel' ≤ 300) :
 ((gT p cnd q most fuel).2 ≠ 2 → gT p cnd q most fuel' = gT p cnd q most fuel) ∧ (gT p cnd q most fuel).1 <+: (gT p cnd q most fuel').1 := by
 obtain ⟨h1, h2, h3, h4, h5, h6⟩ := QW.1 h
 have h' : iX p q most fuel' = true := QW.2 ⟨h1, h2, h3, h4, by omega, by omega⟩
 rw [QR h, QR h']
 obtain ⟨k, hk⟩ : ∃ k : Nat, fuel'.toNat = fuel.toNat + k := ⟨fuel'.toNat - fuel.toNat, by omega⟩
 rw [hk]
 exact aMT p cnd (bZ q []) k _ most.toNat fuel.toNat (lO q) (cY _)
def oN (l : List IC) : Nat := (l.map fun c => c.list.length).sum
theorem PL (l m : List IC) : oN (l ++ m) = oN l + oN m := by simp [oN]
theorem aHQ (c : IC) : oN [c] = c.list.length := by simp [oN]
theorem aEF (l : List IC) (k : Nat) : oN (l.take k) ≤ oN l := by
 have := PL (l.take k) (l.drop k)
 rw [sG] at this
 omega
structure IX (p : List Cl) (M : Nat) (i : IS) : Prop where
 tnd : i.tr.Nodup
 tin : ∀ n ∈ i.tr, (0 ≤ n ∧ n < (i.fresh : Int)) ∧ i.σ n ≠ none
 phi : i.fresh + 26 * oN i.chs ≤ M
 ch : ∀ c ∈ i.chs, c.node < c.taken ∧ c.taken ≤ i.nn ∧ c.eP ≤ i.tr.length ∧ ∀ x ∈ c.list, x < p.length
 mono : i.chs.Pairwise (fun c d => c.taken ≤ d.taken ∧ c.eP ≤ d.eP)
theorem IX.up {p : List Cl} {M M' : Nat} {i : IS} (h : IX p M i) (hM : M ≤ M') : IX p M' i := ⟨h.tnd, h.tin, nB h.phi hM, h.ch, h.mono⟩
theorem IX.QX {p : List Cl} {M : Nat} {i : IS} (h : IX p M i) : i.tr.length ≤ i.fresh := CA h.tnd fun n hn => (h.tin n hn).1
theorem GY {p : List Cl} (hp : ∀ c ∈ p, gB c) {M : Nat} {goal : Tm} {at' : Nat} {rest : List IG} : ∀ (l : List Nat) (s : IS), (∀ x ∈ l, x < p.length) → at' < s.nn → s.fresh + 26 * oN s.chs + 26 * l.length ≤ M → IX p M s → cK s.σ → cP (bD s.fresh) s.σ → bD s.fresh goal →
 IX p M (gE p goal at' rest l s).2
 | [], s, _, _, _, h, _, _, _ => by unfold gE; exact h
 | j :: l, s, hl, ha, hM, h, hg, ho, hgo => by
  obtain ⟨x, hx⟩ : ∃ x, p[j]? = some x := ⟨_, fG (hl j (by simp))⟩
  have hX := hp x (cU hx)
  have hl' : ∀ x ∈ l, x < p.length := fun x h => hl x (by simp [h])
  simp only [aS] at hM
  unfold gE
  simp only [hx]
  split
  · have hhd : bD ((s.fresh + 26 : Nat) : Int) (dC s.fresh x.1) := (hX.dC s.fresh x.1 (by simp)).mono (by have := hX.fr.1; omega)
    obtain ⟨r, σ', add, U⟩ := rU (N := s.fresh + 26) hg (fun n u e => (ho n u e).mono (by omega)) (hgo.mono (by omega)) hhd
    rw [U.eq]
    have S := U.uX
    refine ⟨?_, ?_, ?_, ?_, ?_⟩
    · simp only
      refine tP.2 ⟨h.tnd, S.nodup, fun a ha b hb e => ?_⟩
      subst e
      exact (h.tin a ha).2 (S.new a hb).1
    · intro n hn
      simp only [fS] at hn ⊢
      rcases hn with hn | hn
      · have h1 := h.tin n hn
        have hna : n ∉ add := fun ha => h1.2 (S.new n ha).1
        exact ⟨⟨h1.1.1, by have := h1.1.2; omega⟩, by rw [S.a8 n hna]; exact h1.2⟩
      · have := S.fN n hn
        exact ⟨⟨this.1, by omega⟩, (S.new n hn).2⟩
    · simp only
      split
      · omega
      · rw [PL, aHQ]; simp only; omega
    · intro c hc
      have key : ∀ c ∈ s.chs, c.node < c.taken ∧ c.taken ≤ s.nn ∧ c.eP ≤ (s.tr ++ add).length ∧ ∀ x ∈ c.list, x < p.length := fun c hc => by
       obtain ⟨h1, h2, h3, h4⟩ := h.ch c hc
       exact ⟨h1, h2, by rw [dP]; omega, h4⟩
      simp only at hc ⊢
      split at hc
      · exact key c hc
      · rcases fS.1 hc with hc | hc
        · exact key c hc
        · simp only [cZ, dQ, dY] at hc
          subst hc
          exact ⟨ha, cY _, by rw [dP]; simp only; omega, hl'⟩
    · simp only
      split
      · exact h.mono
      · refine List.pairwise_append.2 ⟨h.mono, List.pairwise_singleton _ _, fun a ha b hb => ?_⟩
        simp only [cZ, dQ, dY] at hb
        subst hb
        obtain ⟨h1, h2, h3, h4⟩ := h.ch a ha
        exact ⟨h2, h3⟩
  · refine GY hp l { s with fresh := s.fresh + 26 } hl' ha (by simp only; omega) ⟨h.tnd, fun n hn => ?_, by simp only; omega, h.ch, h.mono⟩ hg (fun n u e => (ho n u e).mono (by simp only; omega)) (hgo.mono (by simp only; omega))
    have := h.tin n hn
    exact ⟨⟨this.1.1, by simp only; omega⟩, this.2⟩
theorem IX.pop {p : List Cl} {M : Nat} {gl : List IG} {τ : Sub} {tr : List Int} {ds : List IC} {d : IC} {F nn : Nat} (h : IX p M ⟨gl, τ, tr, ds ++ [d], F, nn⟩) :
 IX p M ⟨gl, τ.out (tr.drop d.eP), tr.take d.eP, ds, F, d.taken⟩ ∧ F + 26 * oN ds + 26 * d.list.length ≤ M ∧ d.node < d.taken ∧ d.taken ≤ nn ∧ d.eP ≤ tr.length ∧ ∀ x ∈ d.list, x < p.length := by
 obtain ⟨h1, h2, h3, h4⟩ := h.ch d (by simp)
 have aOG := h.phi
 simp only [PL, aHQ] at aOG
 have hm := List.pairwise_append.1 h.mono
 have hnd := h.tnd
 simp only at hnd h2 h3
 have hsp : tr.take d.eP ++ tr.drop d.eP = tr := sG _ _
 rw [← hsp, tP] at hnd
 refine ⟨⟨hnd.1, fun n hn => ?_, by simp only; omega, fun c hc => ?_, hm.1⟩, by omega, h1, h2, h3, h4⟩
 · have := h.tin n (lW hn)
   refine ⟨this.1, ?_⟩
   simp only
   unfold Sub.out
   rw [aE (fun hd => hnd.2.2 n hn n hd rfl)]
   exact this.2
 · obtain ⟨g1, g2, g3, g4⟩ := h.ch c (by simp [hc])
   have := hm.2.2 c hc d (by simp)
   exact ⟨g1, this.1, by simp only [d5]; simp only at g3; omega, g4⟩
theorem WA {p : List Cl} (hp : ∀ c ∈ p, gB c) {M : Nat} : ∀ (n : Nat) (cs : List RC) (i : IS), iJ i.fresh cs i.chs i.σ i.tr → IX p M i → ∀ i', gP p n i = some i' → IX p M i'
 | 0, _, _, _, _, i', h => by simp [gP] at h
 | n + 1, cs, i, C, h, i', e => by
  obtain ⟨gl, τ, tr, ds, F, nn⟩ := i
  simp only at C
  cases C with
  | nil => simp only [gP, List.getLast?_nil] at e; cases e
  | @snoc cs ds c d _ _ C h1 h2 =>
   obtain ⟨hP, hM, hnt, htn, htr, hli⟩ := h.pop
   have e3 : (IS.pop ⟨gl, τ, tr, ds ++ [d], F, nn⟩ d) = ⟨gl, τ.out (tr.drop d.eP), tr.take d.eP, ds, F, d.taken⟩ := by simp only [IS.pop, RA]
   simp only [gP, List.getLast?_append, List.getLast?_singleton, Option.some_or, e3] at e
   obtain ⟨ρ, S, e1, hok, hG, e2⟩ := h1
   have hX := GY hp (rest := d.rest) d.list _ hli (at' := d.node) (by simp only; exact hnt) (by simp only; exact hM) hP S.g2 S.o2 (e1 ▸ S.yC hok)
   split at e
   · cases e
     exact hX
   · rename_i hf
     have key := HP hp (cs := cs) (nn := d.taken) (at' := d.node) (tr := tr.take d.eP) hok hG c.left F gl S C
     rw [← e1, ← e2] at key
     cases ht : iG p cs c.goal c.rest c.σ c.N c.left with
     | some s =>
      rw [e2, ht] at key
      obtain ⟨i2, k1, _⟩ := key
      rw [← e2] at k1
      rw [k1] at hf
      simp at hf
     | none =>
      rw [e2, ht] at key
      obtain ⟨F', hF, k1⟩ := key
      rw [← e2] at k1
      rw [k1] at e hX
      exact WA hp n cs _ (C.mono hF) hX i' e
end Go.AW
namespace Go.AW
open Go.Proofs.Tryz
def eA : List IG → AV
 | [] => .nilptr
 | ⟨.mk k n s ts, cut, up⟩ :: l => .pptr (.agg [.int .i64 k, .int .i64 n, .str s, .slice (ts.map Tm.av), .int .i64 (cut : Int), .int .i64 up, eA l])
theorem sA (k n : Int) (s : ByteArray) (ts : List Tm) (cut : Nat) (up : Int) (l : List IG) : eA (⟨.mk k n s ts, cut, up⟩ :: l) = .pptr (.agg [.int .i64 k, .int .i64 n, .str s, .slice (ts.map Tm.av), .int .i64 (cut : Int), .int .i64 up, eA l]) := by rw [eA]
theorem oF (l : List IG) : (eA l).isAgg = false ∧ (eA l).width = 1 ∧ (eA l).cC = false ∧ (eA l).cells = [eA l] ∧ (eA l).storable = true ∧ (eA l).soft = eA l := by
 cases l with
 | nil => rw [eA]; exact ⟨rfl, rfl, rfl, rfl, rfl, rfl⟩
 | cons g l => obtain ⟨⟨k, n, s, ts⟩, cut, up⟩ := g; rw [sA]; exact ⟨rfl, rfl, rfl, rfl, rfl, rfl⟩
abbrev aI9 := zi tI_3 (zi zI_3 (zi aX (zi tI_31 (zi zI_31 (zi aN (zi bE (zi bF (zi cA (zi tI_63 (zi zI_63 (zi bR (zi bQ (zi bP (zi bT (zi bU (zi tI_150 (zi zI_150 (zi tI_185 (zi zI_185 (zi aFJ (zi aKK (zi aKJ (zi WN aGL)))))))))))))))))))))))
theorem MB (bd : List Tm) (cut : Nat) (up : Int) (rest : List IG) (hl : bd.length ≤ 1048576) (st : aB) :
 aD prog 112 [.slice (bd.map Tm.av), .int .i64 (cut : Int), .int .i64 up, eA rest] st (fun r st' => r = eA (bd.map (fun t => (⟨t, cut, up⟩ : IG)) ++ rest) ∧ st' = st) := by
 obtain ⟨r1, r2, r3, r4, r5, r6⟩ := oF rest
 refine aD.done ?_
 refine wF [1000000] 4 func112 ntmps112 rfl rfl ?_
 intro _
 have hw0 := bK (n := (bd.length : Int) - 1)
 simp -implicitDefEqProofs only [aF, hw0, aA, seval, aI9]
 refine gX (σ := Nat) [1000000] [0, 1, 2, 8] (fun j => j ≤ bd.length) (fun j => [(3, eA ((bd.drop j).map (fun t => (⟨t, cut, up⟩ : IG)) ++ rest)), (9, .int .i64 ((j : Int) - 1))]) (fun _ => st) (fun j => j) (by decide +kernel) ⟨bd.length, cY _, aO.mk (by simp -implicitDefEqProofs only [kE, aW, eR, aA, seval])⟩ ?_
 intro j hj
 cases j with
 | zero =>
  rw [tN]
  obtain ⟨s1, s2, s3, s4, s5, s6⟩ := oF (bd.map (fun t => (⟨t, cut, up⟩ : IG)) ++ rest)
  simp -implicitDefEqProofs only [vG, ↓KZ, List.contains, List.elem, ↓reduceIte, reduceCtorEq, Nat.reduceEqDiff]
  refine aP (fun h => absurd h (by simp)) (fun h => ?_)
  simp -implicitDefEqProofs only [aA, seval]
  exact ⟨s6, aM.refl _⟩
 | succ j =>
 obtain ⟨s1, s2, s3, s4, s5, s6⟩ := oF ((bd.drop (j + 1)).map (fun t => (⟨t, cut, up⟩ : IG)) ++ rest)
 obtain ⟨x, hx⟩ : ∃ x, bd[j]? = some x := ⟨_, fG (by omega)⟩
 have hat := bL (av := Tm.av) (P := prog) aN hx (aH x)
 have hdr : bd.drop j = x :: bd.drop (j + 1) := by
  obtain ⟨h1, h2⟩ := gQ.1 hx
  rw [qV h1, h2]
 have hc : ((j + 1 : Nat) : Int) - 1 = (j : Int) := by omega
 have hw := bK (n := (j : Int) - 1)
 have hnx : eA ((bd.drop j).map (fun t => (⟨t, cut, up⟩ : IG)) ++ rest) = .pptr (.agg (x.av.cells ++ [.int .i64 (cut : Int), .int .i64 up, eA ((bd.drop (j + 1)).map (fun t => (⟨t, cut, up⟩ : IG)) ++ rest)])) := by
  rw [hdr]
  obtain ⟨k, n, s, ts⟩ := x
  rw [bA, fF, sA, aV]
  try rfl
 generalize eA ((bd.drop (j + 1)).map (fun t => (⟨t, cut, up⟩ : IG)) ++ rest) = A at *
 obtain ⟨k, n, s, ts⟩ := x
 simp only [aV] at hat hnx
 rw [hc]
 simp -implicitDefEqProofs only [aA, seval]
 refine aP (fun h => ?_) (fun h => absurd h (by simp))
 simp -implicitDefEqProofs only [s3, s4, hat, hw, aA, seval, aI9]
 trace_state
 refine ⟨j, by omega, by omega, aO.mk (by rw [hnx]; simp -implicitDefEqProofs only [aA, seval])⟩
theorem aQJ (c : Int) (st : aB) : aD prog 151 [.int .i64 c] st (fun r st' => r = .int .i64 (pT c) ∧ st' = st) := by
 refine aD.done ?_
 refine wF [1000000] 1 func151 ntmps151 rfl rfl ?_
 intro _
 simp -implicitDefEqProofs only [aA, seval]
 unfold pT
 refine aP (fun h => ?_) (fun h => ?_)
 · simp -implicitDefEqProofs only [aA, seval]
   have h' : c = 2 := by simpa using h
   exact ⟨by rw [aG h']; try rfl, aM.refl _⟩
 rw [aE (show ¬ c = 2 by simpa using h)]
 simp -implicitDefEqProofs only [aA, seval]
 refine aP (fun h => ?_) (fun h => ?_)
 · simp -implicitDefEqProofs only [aA, seval]
   have h' : c = 3 := by simpa using h
   exact ⟨by rw [aG h']; try rfl, aM.refl _⟩
 rw [aE (show ¬ c = 3 by simpa using h)]
 simp -implicitDefEqProofs only [aA, seval]
 refine aP (fun h => ?_) (fun h => ?_)
 · simp -implicitDefEqProofs only [aA, seval]
   have h' : c = 4 := by simpa using h
   exact ⟨by rw [aG h']; try rfl, aM.refl _⟩
 rw [aE (show ¬ c = 4 by simpa using h)]
 simp -implicitDefEqProofs only [aA, seval]
 exact ⟨rfl, aM.refl _⟩
abbrev aQL := zi tI_9 (zi zI_9 (zi cG (zi tI_31 (zi zI_31 (zi aN (zi bE (zi bF (zi cA (zi tI_63 (zi zI_63 (zi bR (zi bQ (zi bP (zi bT (zi bU (zi tI_193 (zi zI_193 (zi M3 (zi QZ OW)))))))))))))))))))
theorem WY (k n : Int) (s : ByteArray) (ts : List Tm) (st : aB) : aD prog 153 [(Tm.mk k n s ts).av] st (fun r st' => r = .agg [.str s, .int .i64 (ts.length : Int)] ∧ st' = st) := by
 refine aD.done ?_
 simp only [aV]
 refine wF [1000000] 1 func153 ntmps153 rfl rfl ?_
 intro _
 simp -implicitDefEqProofs only [aK, aF, aA, seval, aQL]
 intro b2 h2
 exact ⟨by simp only [j9, jV, kY, bA, aW], (aM.refl _).aC h2⟩
abbrev D3 := zi tI_3 (zi zI_3 (zi aX (zi tI_29 (zi zI_29 (zi g8 (zi j8 (zi kA (zi k6 (zi tI_51 (zi zI_51 (zi dV (zi fV (zi fW (zi fZ (zi tI_63 (zi zI_63 (zi bR (zi bQ (zi bP (zi bT (zi bU (zi tI_76 (zi zI_76 (zi lN (zi lR (zi lP (zi tI_193 (zi zI_193 (zi M3 (zi QZ OW))))))))))))))))))))))))))))))
theorem aUV (p : List Cl) (t : Tm) (hp : p.length ≤ 1048576) (st : aB) : aD prog 152 [.slice (p.map bY), .agg [.str t.s, .int .i64 (t.ts.length : Int)]] st (fun r st' => r = .slice ((fE p t).map nv) ∧ st' = st) := by
 rw [IW]
 refine aD.done ?_
 obtain ⟨tk, tn, ts', tts⟩ := t
 simp only [Tm.s, Tm.ts]
 refine wF [1000000] 2 func152 ntmps152 rfl rfl ?_
 intro _
 simp -implicitDefEqProofs only [aF, aA, seval, D3]
 refine rH (σ := Unit) [1000000] [3, 4, 8, 9] p 1 5 (fun i _ => ((List.range i).filter (pB p (.mk tk tn ts' tts))).map nv) (fun _ _ => True) (fun i _ => [(10, .int .i64 i)]) (fun _ _ => st) (fun i _ _ e he => by simp only [cV] at he; obtain ⟨t, _, rfl⟩ := he; exact ⟨rfl, rfl⟩) (by decide +kernel) ⟨(), 0, trivial, fun h => absurd rfl h, aO.mk (by simp -implicitDefEqProofs only [jF, List.range_zero, List.filter_nil, aW, aA, ↓aU, seval])⟩ (fun i x _ b hx hlt bS hdr hinv hb => ?_) (fun _ b hge hinv => ?_)
 case refine_2 =>
  simp -implicitDefEqProofs only [hge, eC, iI, oK, AE, lT, aA, seval]
  exact ⟨rfl, aM.refl _⟩
 have hw := bK (n := (i : Int) + 1)
 have hst := XD p (.mk tk tn ts' tts) i
 have hln := HK p (.mk tk tn ts' tts) i
 have hat := bL (av := bY) (P := prog) g8 hx (oH x)
 obtain ⟨⟨k, n, s', ts⟩, bd⟩ := x
 rw [gG] at hat
 have hP : pB p (.mk tk tn ts' tts) i = (decide (s' = ts') && decide ((ts.length : Int) = (tts.length : Int))) := by unfold pB; rw [hx]; try rfl
 rw [hP] at hst
 have hpr := fun st => WY k n s' ts st
 have aW1 : d4 prog .eql 193 (.agg [.str s', .int .i64 (ts.length : Int)]) (.agg [.str ts', .int .i64 (tts.length : Int)]) = some (.bool (decide (s' = ts') && decide ((ts.length : Int) = (tts.length : Int)))) := by
  have h : JE prog 193 = true := by kernel_rfl
  simp only [d4, h, and_self, f9]
 simp only [aV] at hpr
 simp -implicitDefEqProofs only [bS, hat, aA, ↓aU, seval, D3]
 refine wP [(0, 1), (1, 2), (2, 2), (3, 2), (4, 1)] [0, 1, 2, 3, 4] mixed ?_
 simp -implicitDefEqProofs only [aA, seval, D3]
 refine i8 (hpr _) ?_
 simp -implicitDefEqProofs only [aW1, aA, seval, D3]
 refine aP (fun h2 => ?_) (fun h2 => ?_)
 · rw [aG h2] at hst
   simp -implicitDefEqProofs only [aA, seval, D3]
   refine eN dV fV fW rfl rfl (eY rfl rfl) (aDP _) hb (by simp only [aF, aS, aZ]; omega) (by simp only [aF, aS, aZ]; omega) (fun b' hb' => ?_)
   rw [show ∀ l : List Nat, l.map nv ++ [AV.int .i64 (i : Int)] = (l ++ [i]).map nv from fun l => by simp [nv], ← hst] at hb' ⊢
   simp -implicitDefEqProofs only [hw, aA, seval]
   exact ⟨(), b', hb', aO.mk (by simp -implicitDefEqProofs only [aA, seval])⟩
 · rw [aE (by rw [h2]; simp), iA] at hst
   rw [← hst] at hb ⊢
   simp -implicitDefEqProofs only [hw, aA, seval]
   exact ⟨(), b, hb, aO.mk (by simp -implicitDefEqProofs only [aA, seval])⟩
def p8 : IC → AV
 | ⟨.mk k n s ts, node, rest, list, eP, taken⟩ => .agg [.int .i64 k, .int .i64 n, .str s, .slice (ts.map Tm.av), .int .i64 (node : Int), eA rest, .slice (list.map nv), .int .i64 (eP : Int), .int .i64 (taken : Int)]
theorem aCR (k n : Int) (s : ByteArray) (ts : List Tm) (node : Nat) (rest : List IG) (list : List Nat) (eP taken : Nat) : p8 ⟨.mk k n s ts, node, rest, list, eP, taken⟩ = .agg [.int .i64 k, .int .i64 n, .str s, .slice (ts.map Tm.av), .int .i64 (node : Int), eA rest, .slice (list.map nv), .int .i64 (eP : Int), .int .i64 (taken : Int)] := rfl
theorem aQ6 (c : IC) : (p8 c).width = 9 := by obtain ⟨⟨k, n, s, ts⟩, _, _, _, _, _⟩ := c; rfl
theorem P5 (l : List IC) : ∀ e ∈ l.map p8, e.width = 9 := by intro e he; simp only [cV] at he; obtain ⟨t, _, rfl⟩ := he; exact aQ6 t
theorem aSO (c : IC) : (p8 c).cells.all AV.storable = true := by
 obtain ⟨⟨k, n, s, ts⟩, _, rest, _, _, _⟩ := c
 rw [aCR]
 have := (oF rest).2.2.2.2.1
 rw [eW]
 intro e he
 simp only [AV.cells, cZ, dQ, dY] at he
 rcases he with rfl | rfl | rfl | rfl | rfl | rfl | rfl | rfl | rfl <;> first | rfl | exact this
def gS (c : Nat) (p : List Cl) (q : List Tm) (idx : Bool) (fuel used fresh : Int) (gl qc qn : AV) (mx : Int) : List AV :=
 [.ptr c 0, .slice (p.map bY), .slice (q.map Tm.av), .bool idx, .bool false, .int .i64 fuel, .int .i64 used, .int .i64 fresh, gl, qc, qn, .int .i64 mx]
def iQ (S c m : Nat) (qt qc qn : AV) : List Nat := [S, c, m] ++ dI qt ++ dM qc ++ dM qn
theorem aYQ (q : AV) : dI q = dM q := by cases q <;> rfl
theorem O2 (q : AV) : (dM q).Nodup := by cases q <;> simp [dM]
structure dE (st0 st : aB) (S c m : Nat) (qt qc qn : AV) (p : List Cl) (q : List Tm) (idx : Bool) (fuel used mx : Int) (nd : List AV) (i : IS) : Prop where
 cell : st S = some (.cells (gS c p q idx fuel used i.fresh (eA i.goals) qc qn mx))
 sto : fU st c m qt i.σ i.tr
 acC : iW st 9 qc (i.chs.map p8)
 acN : iW st 6 qn nd
 ndl : nd.length = i.nn
 ndw : ∀ e ∈ nd, e.width = 6
 dis : (iQ S c m qt qc qn).Nodup
 new : ∀ b ∈ iQ S c m qt qc qn, st0 b = none
 a8 : ∀ b o, st0 b = some o → st b = some o
theorem dZ {b S c m : Nat} {qt qc qn : AV} : b ∈ iQ S c m qt qc qn ↔ b = S ∨ b = c ∨ b = m ∨ b ∈ dI qt ∨ b ∈ dM qc ∨ b ∈ dM qn := by
 simp only [iQ, fS, cZ, dQ, dY, or_assoc]
section
variable {st0 st : aB} {S c m : Nat} {qt qc qn : AV} {p : List Cl} {q : List Tm} {idx : Bool} {fuel used mx : Int} {nd : List AV} {i : IS}
theorem dE.held (h : dE st0 st S c m qt qc qn p q idx fuel used mx nd i) : ∀ b ∈ iQ S c m qt qc qn, st b ≠ none := fun b hb => by
 rcases dZ.1 hb with rfl | rfl | rfl | hb | hb | hb
 · rw [h.cell]; simp
 · rw [h.sto.sub.cells]; simp
 · rw [h.sto.sub.map]; simp
 · obtain ⟨cs, e⟩ := h.sto.DJ b hb; rw [e]; simp
 · obtain ⟨cs, e⟩ := h.acC.some b hb; rw [e]; simp
 · obtain ⟨cs, e⟩ := h.acN.some b hb; rw [e]; simp
theorem dE.uA (h : dE st0 st S c m qt qc qn p q idx fuel used mx nd i) : aM st st0 := fun b => by
 refine ⟨fun e => ?_, h.a8 b⟩
 cases hb : st0 b with
 | none => rfl
 | some o => rw [h.a8 b o hb] at e; cases e
theorem dE.aFL (h : dE st0 st S c m qt qc qn p q idx fuel used mx nd i) {b : Nat} (hb : st b = none) : st0 b = none := (h.uA b).1 hb
theorem dE.parts (h : dE st0 st S c m qt qc qn p q idx fuel used mx nd i) : S ≠ c ∧ S ≠ m ∧ c ≠ m ∧ S ∉ dI qt ∧ S ∉ dM qc ∧ S ∉ dM qn ∧ c ∉ dI qt ∧ c ∉ dM qc ∧ c ∉ dM qn ∧ m ∉ dI qt ∧ m ∉ dM qc ∧ m ∉ dM qn ∧ (∀ b ∈ dI qt, b ∉ dM qc ∧ b ∉ dM qn) ∧ ∀ b ∈ dM qc, b ∉ dM qn := by
 have hd := h.dis
 simp only [iQ, tP, List.nodup_cons, cZ, dQ, dY, not_or, fS] at hd
 obtain ⟨⟨⟨⟨⟨h1, h2⟩, h3, _⟩, h4, h5⟩, h6, h7⟩, h8, h9⟩ := hd
 refine ⟨h1, h2, h3, fun hb => h5 _ (.inl rfl) _ hb rfl, fun hb => h7 _ (.inl (.inl rfl)) _ hb rfl, fun hb => h9 _ (.inl (.inl (.inl rfl))) _ hb rfl,
  fun hb => h5 _ (.inr (.inl rfl)) _ hb rfl, fun hb => h7 _ (.inl (.inr (.inl rfl))) _ hb rfl, fun hb => h9 _ (.inl (.inl (.inr (.inl rfl)))) _ hb rfl,
  fun hb => h5 _ (.inr (.inr rfl)) _ hb rfl, fun hb => h7 _ (.inl (.inr (.inr rfl))) _ hb rfl, fun hb => h9 _ (.inl (.inl (.inr (.inr rfl)))) _ hb rfl,
  fun b hb => ⟨fun h' => h7 b (.inr hb) b h' rfl, fun h' => h9 b (.inl (.inr hb)) b h' rfl⟩, fun b hb h' => h9 b (.inr hb) b h' rfl⟩
theorem LV {X A A' Y : List Nat} (h : (X ++ A ++ Y).Nodup) (hA : A'.Nodup) (hn : ∀ b ∈ A', b ∈ A ∨ b ∉ X ++ A ++ Y) : (X ++ A' ++ Y).Nodup := by
 simp only [tP, fS] at h ⊢
 obtain ⟨⟨hX, hA0, hXA⟩, hY, hXY⟩ := h
 refine ⟨⟨hX, hA, fun a ha b hb e => ?_⟩, hY, fun a ha b hb e => ?_⟩
 · subst e
   rcases hn a hb with h | h
   · exact hXA a ha a h rfl
   · simp only [fS, not_or] at h; exact h.1.1 ha
 · subst e
   rcases ha with ha | ha
   · exact hXY a (.inl ha) a hb rfl
   · rcases hn a ha with h | h
     · exact hXY a (.inr h) a hb rfl
     · simp only [fS, not_or] at h; exact h.2 hb
theorem dE.go {st' : aB} {qt' qc' qn' : AV} {fuel' used' mx' : Int} {nd' : List AV} {i' : IS} (h : dE st0 st S c m qt qc qn p q idx fuel used mx nd i)
 (cell : st' S = some (.cells (gS c p q idx fuel' used' i'.fresh (eA i'.goals) qc' qn' mx'))) (sto : fU st' c m qt' i'.σ i'.tr) (acC : iW st' 9 qc' (i'.chs.map p8)) (acN : iW st' 6 qn' nd') (ndl : nd'.length = i'.nn) (ndw : ∀ e ∈ nd', e.width = 6)
 (dis : (iQ S c m qt' qc' qn').Nodup) (new : ∀ b ∈ iQ S c m qt' qc' qn', b ∈ iQ S c m qt qc qn ∨ st b = none) (frame : ∀ b o, st b = some o → b ∉ iQ S c m qt qc qn → st' b = some o) :
 dE st0 st' S c m qt' qc' qn' p q idx fuel' used' mx' nd' i' :=
 ⟨cell, sto, acC, acN, ndl, ndw, dis, fun b hb => by
  rcases new b hb with h1 | h1
  · exact h.new b h1
  · exact h.aFL h1, fun b o hb => frame b o (h.a8 b o hb) fun hm => by rw [h.new b hm] at hb; cases hb⟩
theorem dE.put {fuel' used' mx' : Int} {gl : List IG} {F : Nat} {cs : List AV} (h : dE st0 st S c m qt qc qn p q idx fuel used mx nd i) (hcs : cs = gS c p q idx fuel' used' F (eA gl) qc qn mx') :
 dE st0 (st.aC S (.cells cs)) S c m qt qc qn p q idx fuel' used' mx' nd { i with goals := gl, fresh := F } := by
 obtain ⟨h1, h2, h3, h4, h5, h6, _⟩ := h.parts
 subst hcs
 refine h.go (aB.aQ _ _ _) (h.sto.aC h1 h2 h4) (h.acC.a8 fun b hb => aB.aL _ _ (by rintro rfl; exact h5 hb)) (h.acN.a8 fun b hb => aB.aL _ _ (by rintro rfl; exact h6 hb)) h.ndl h.ndw h.dis (fun b hb => .inl hb) fun b o hb hn => ?_
 rw [aB.aL _ _ (by rintro rfl; exact hn (dZ.2 (.inl rfl)))]
 exact hb
theorem dE.MH {st' : aB} {qt' : AV} {σ' : Sub} {tr' : List Int} (h : dE st0 st S c m qt qc qn p q idx fuel used mx nd i) (hS : fU st' c m qt' σ' tr') (hf : ∀ b o, st b = some o → b ≠ c → b ≠ m → b ∉ dI qt → st' b = some o) (hn : ∀ b ∈ dI qt', b ∈ dI qt ∨ st b = none) :
 dE st0 st' S c m qt' qc qn p q idx fuel used mx nd { i with σ := σ', tr := tr' } := by
 obtain ⟨h1, h2, h3, h4, h5, h6, h7, h8, h9, h10, h11, h12, h13, h14⟩ := h.parts
 have hC : ∀ b ∈ dM qc, st' b = st b := fun b hb => by
  obtain ⟨cs, e⟩ := h.acC.some b hb
  rw [e, hf b _ e (by rintro rfl; exact h8 hb) (by rintro rfl; exact h11 hb) (fun hb' => (h13 b hb').1 hb)]
 have hN : ∀ b ∈ dM qn, st' b = st b := fun b hb => by
  obtain ⟨cs, e⟩ := h.acN.some b hb
  rw [e, hf b _ e (by rintro rfl; exact h9 hb) (by rintro rfl; exact h12 hb) (fun hb' => (h13 b hb').2 hb)]
 refine h.go (hf S _ h.cell h1 h2 h4) hS (h.acC.a8 hC) (h.acN.a8 hN) h.ndl h.ndw ?_ (fun b hb => ?_) (fun b o hb hn' => ?_)
 · have hd := h.dis
   unfold iQ at hd ⊢
   rw [nV] at hd ⊢
   refine LV hd (by rw [aYQ]; exact O2 _) fun b hb => ?_
   rcases hn b hb with h' | h'
   · exact .inl h'
   · refine .inr fun hm => h.held b ?_ h'
     unfold iQ; rw [nV]; exact hm
 · rcases dZ.1 hb with rfl | rfl | rfl | hb | hb | hb
   · exact .inl (dZ.2 (.inl rfl))
   · exact .inl (dZ.2 (.inr (.inl rfl)))
   · exact .inl (dZ.2 (.inr (.inr (.inl rfl))))
   · rcases hn b hb with h' | h'
     · exact .inl (dZ.2 (.inr (.inr (.inr (.inl h')))))
     · exact .inr h'
   · exact .inl (dZ.2 (.inr (.inr (.inr (.inr (.inl hb))))))
   · exact .inl (dZ.2 (.inr (.inr (.inr (.inr (.inr hb))))))
 · have := fun x => hn' (dZ.2 x)
   exact hf b o hb (by rintro rfl; exact this (.inr (.inl rfl))) (by rintro rfl; exact this (.inr (.inr (.inl rfl)))) fun hb' => this (.inr (.inr (.inr (.inl hb'))))
theorem dE.post {st' : aB} {σ' : Sub} {tr' : List Int} (h : dE st0 st S c m qt qc qn p q idx fuel used mx nd i) (hP : uW c m st qt σ' tr' st') : ∃ qt', dE st0 st' S c m qt' qc qn p q idx fuel used mx nd { i with σ := σ', tr := tr' } := by
 obtain ⟨q', hS, hQ⟩ := hP
 exact ⟨q', h.MH hS (fun b o hb h1 h2 h3 => hQ.frame b o hb h1 h2 h3) hQ.fresh⟩
end
theorem fU.BU {st st' : aB} {c m : Nat} {q : AV} {σ : Sub} {tr : List Int} (h : fU st c m q σ tr) (hc : st' c = st c) (hm : st' m = st m) (ht : ∀ b ∈ dI q, st' b = st b) : fU st' c m q σ tr := by
 refine ⟨⟨by rw [hc]; exact h.sub.cells, by rw [hm]; exact h.sub.map⟩, ?_, h.apart⟩
 rcases h.eP with h1 | ⟨b, cs, h1, h2, h3⟩
 · exact .inl h1
 · exact .inr ⟨b, cs, h1, by rw [ht b (by rw [h1]; simp [dI])]; exact h2, h3⟩
section
variable {st0 st : aB} {S c m : Nat} {qt qc qn : AV} {p : List Cl} {q : List Tm} {idx : Bool} {fuel used mx : Int} {nd : List AV} {i : IS}
theorem dE.aWK {st' : aB} {qc' : AV} {aIZ : List IC} {cs : List AV} (h : dE st0 st S c m qt qc qn p q idx fuel used mx nd i) (nK : iW st' 9 qc' (aIZ.map p8)) (hf : ∀ y, y ∉ dM qc → y ∉ dM qc' → st' y = st y) (hn : ∀ y ∈ dM qc', y ∈ dM qc ∨ st y = none)
 (hcs : cs = gS c p q idx fuel used i.fresh (eA i.goals) qc' qn mx) : dE st0 (st'.aC S (.cells cs)) S c m qt qc' qn p q idx fuel used mx nd { i with chs := aIZ } := by
 obtain ⟨h1, h2, h3, h4, h5, h6, h7, h8, h9, h10, h11, h12, h13, h14⟩ := h.parts
 have same : ∀ b, st b ≠ none → b ∉ dM qc → st' b = st b := fun b hb hq => hf b hq fun hq' => by
  rcases hn b hq' with h' | h'
  · exact hq h'
  · exact hb h'
 have hS : S ∉ dM qc' := fun hb => by
  rcases hn S hb with h' | h'
  · exact h5 h'
  · rw [h.cell] at h'; cases h'
 subst hcs
 have held := fun b x => h.held b (dZ.2 x)
 refine h.go (aB.aQ _ _ _) (h.sto.BU ?_ ?_ fun b hb => ?_) (nK.a8 fun b hb => aB.aL _ _ (by rintro rfl; exact hS hb)) (h.acN.a8 fun b hb => ?_) h.ndl h.ndw ?_ (fun b hb => ?_) fun b o hb hn' => ?_
 · rw [aB.aL _ _ (dA h1)]; exact same c (held c (.inr (.inl rfl))) h8
 · rw [aB.aL _ _ (dA h2)]; exact same m (held m (.inr (.inr (.inl rfl)))) h11
 · rw [aB.aL _ _ (by rintro rfl; exact h4 hb)]; exact same b (held b (.inr (.inr (.inr (.inl hb))))) (h13 b hb).1
 · rw [aB.aL _ _ (by rintro rfl; exact h6 hb)]; exact same b (held b (.inr (.inr (.inr (.inr (.inr hb)))))) fun h' => h14 b h' hb
 · have hd := h.dis
   unfold iQ at hd ⊢
   refine LV hd (O2 _) fun b hb => ?_
   rcases hn b hb with h' | h'
   · exact .inl h'
   · refine .inr fun hm => h.held b ?_ h'
     unfold iQ; exact hm
 · rcases dZ.1 hb with rfl | rfl | rfl | hb | hb | hb
   · exact .inl (dZ.2 (.inl rfl))
   · exact .inl (dZ.2 (.inr (.inl rfl)))
   · exact .inl (dZ.2 (.inr (.inr (.inl rfl))))
   · exact .inl (dZ.2 (.inr (.inr (.inr (.inl hb)))))
   · rcases hn b hb with h' | h'
     · exact .inl (dZ.2 (.inr (.inr (.inr (.inr (.inl h'))))))
     · exact .inr h'
   · exact .inl (dZ.2 (.inr (.inr (.inr (.inr (.inr hb))))))
 · have hno := fun x => hn' (dZ.2 x)
   rw [aB.aL _ _ (by rintro rfl; exact hno (.inl rfl)), same b (by rw [hb]; simp) fun h' => hno (.inr (.inr (.inr (.inr (.inl h')))))]
   exact hb
theorem dE.aVK {st' : aB} {qn' : AV} {nd' : List AV} {n' : Nat} {cs : List AV} (h : dE st0 st S c m qt qc qn p q idx fuel used mx nd i) (nK : iW st' 6 qn' nd') (hl : nd'.length = n') (hw : ∀ e ∈ nd', e.width = 6) (hf : ∀ y, y ∉ dM qn → y ∉ dM qn' → st' y = st y) (hn : ∀ y ∈ dM qn', y ∈ dM qn ∨ st y = none)
 (hcs : cs = gS c p q idx fuel used i.fresh (eA i.goals) qc qn' mx) : dE st0 (st'.aC S (.cells cs)) S c m qt qc qn' p q idx fuel used mx nd' { i with nn := n' } := by
 obtain ⟨h1, h2, h3, h4, h5, h6, h7, h8, h9, h10, h11, h12, h13, h14⟩ := h.parts
 have same : ∀ b, st b ≠ none → b ∉ dM qn → st' b = st b := fun b hb hq => hf b hq fun hq' => by
  rcases hn b hq' with h' | h'
  · exact hq h'
  · exact hb h'
 have hS : S ∉ dM qn' := fun hb => by
  rcases hn S hb with h' | h'
  · exact h6 h'
  · rw [h.cell] at h'; cases h'
 subst hcs
 have held := fun b x => h.held b (dZ.2 x)
 refine h.go (aB.aQ _ _ _) (h.sto.BU ?_ ?_ fun b hb => ?_) (h.acC.a8 fun b hb => ?_) (nK.a8 fun b hb => aB.aL _ _ (by rintro rfl; exact hS hb)) hl hw ?_ (fun b hb => ?_) fun b o hb hn' => ?_
 · rw [aB.aL _ _ (dA h1)]; exact same c (held c (.inr (.inl rfl))) h9
 · rw [aB.aL _ _ (dA h2)]; exact same m (held m (.inr (.inr (.inl rfl)))) h12
 · rw [aB.aL _ _ (by rintro rfl; exact h4 hb)]; exact same b (held b (.inr (.inr (.inr (.inl hb))))) (h13 b hb).2
 · rw [aB.aL _ _ (by rintro rfl; exact h5 hb)]; exact same b (held b (.inr (.inr (.inr (.inr (.inl hb)))))) (h14 b hb)
 · have hd := h.dis
   unfold iQ at hd ⊢
   have := LV (X := [S, c, m] ++ dI qt ++ dM qc) (A := dM qn) (A' := dM qn') (Y := []) (by rw [iA]; exact hd) (O2 _) fun b hb => by
    rcases hn b hb with h' | h'
    · exact .inl h'
    · refine .inr fun hm => h.held b ?_ h'
      rw [iA] at hm
      unfold iQ; exact hm
   rwa [iA] at this
 · rcases dZ.1 hb with rfl | rfl | rfl | hb | hb | hb
   · exact .inl (dZ.2 (.inl rfl))
   · exact .inl (dZ.2 (.inr (.inl rfl)))
   · exact .inl (dZ.2 (.inr (.inr (.inl rfl))))
   · exact .inl (dZ.2 (.inr (.inr (.inr (.inl hb)))))
   · exact .inl (dZ.2 (.inr (.inr (.inr (.inr (.inl hb))))))
   · rcases hn b hb with h' | h'
     · exact .inl (dZ.2 (.inr (.inr (.inr (.inr (.inr h'))))))
     · exact .inr h'
 · have hno := fun x => hn' (dZ.2 x)
   rw [aB.aL _ _ (by rintro rfl; exact hno (.inl rfl)), same b (by rw [hb]; simp) fun h' => hno (.inr (.inr (.inr (.inr (.inr h')))))]
   exact hb
theorem dE.nodes {k : Nat} (h : dE st0 st S c m qt qc qn p q idx fuel used mx nd i) (hk : k < i.nn) : ∃ b, qn = .mslice b 0 nd.length 6 := by
 have hl := h.ndl
 rcases h.acN with ⟨_, e⟩ | ⟨b, cs, e, _⟩
 · subst e; simp at hl; omega
 · exact ⟨b, e⟩
theorem dE.nodeAt {b n : Nat} (h : dE st0 st S c m qt qc (.mslice b 0 n 6) p q idx fuel used mx nd i) : ∃ cs, st b = some (.cells cs) ∧ nd.length * 6 ≤ cs.length := by
 rcases h.acN with ⟨e, _⟩ | ⟨b', cs, e, h2, _, h4⟩
 · cases e
 · cases e; exact ⟨cs, h2, h4⟩
theorem YO : ∀ (n : Nat) (cs : List AV), cs.length = n * 6 → ∃ nd : List AV, nd.length = n ∧ (∀ e ∈ nd, e.width = 6) ∧ nd.flatMap AV.cells = cs
 | 0, cs, h => ⟨[], rfl, by simp, by have : cs = [] := sE (by simpa using h); subst this; rfl⟩
 | n + 1, cs, h => by
  obtain ⟨nd, h1, h2, h3⟩ := YO n (cs.drop 6) (by rw [nD, h]; omega)
  refine ⟨.agg (cs.take 6) :: nd, by simp [h1], fun e he => ?_, ?_⟩
  · rcases cZ.1 he with rfl | he
    · show (cs.take 6).length = 6
      rw [d5, h]; omega
    · exact h2 e he
  · rw [tM, h3]
    exact sG 6 cs
theorem dE.aDA {b k : Nat} {cs : List AV} {x : AV} (h : dE st0 st S c m qt qc qn p q idx fuel used mx nd i) (hq : qn = .mslice b 0 nd.length 6) (hb : st b = some (.cells cs)) (hk : k < nd.length * 6) :
 ∃ nd', dE st0 (st.aC b (.cells (aK cs k [x]))) S c m qt qc qn p q idx fuel used mx nd' i := by
 obtain ⟨h1, h2, h3, h4, h5, h6, h7, h8, h9, h10, h11, h12, h13, h14⟩ := h.parts
 have hbq : b ∈ dM qn := by rw [hq]; simp [dM]
 have hne : ∀ a, a ∉ dM qn → st.aC b (.cells (aK cs k [x])) a = st a := fun a ha => aB.aL _ _ (by rintro rfl; exact ha hbq)
 have hcl : nd.length * 6 ≤ cs.length := by
  rcases h.acN with ⟨e, _⟩ | ⟨b', cs', e1, e2, e3, e4⟩
  · rw [hq] at e; cases e
  · rw [hq] at e1
    cases e1
    rw [hb] at e2; cases e2
    exact e4
 have hlen : (aK cs k [x]).length = cs.length := by
  simp only [aK, dP, d5, nD, aS, aZ]
  omega
 obtain ⟨nd', n1, n2, n3⟩ := YO nd.length ((aK cs k [x]).take (nd.length * 6)) (by rw [d5, hlen]; omega)
 refine ⟨nd', h.go (by rw [hne S h6]; exact h.cell) (h.sto.BU (hne c h9) (hne m h12) fun b hb => hne b (h13 b hb).2) (h.acC.a8 fun b hb => hne b (h14 b hb)) (.inr ⟨b, _, by rw [hq, n1], aB.aQ _ _ _, by rw [n1, n3], by rw [n1, hlen]; exact hcl⟩) (by rw [n1]; exact h.ndl) n2 h.dis (fun b hb => .inl hb) fun a o ha hn => ?_⟩
 rw [hne a fun h' => hn (dZ.2 (.inr (.inr (.inr (.inr (.inr h'))))))]
 exact ha
end
theorem aJ2 {φ : AF} {t : TypeId} {ag : Bool} {w d k : Nat} {st : aB} {qc : AV} {l : List AV} (hI : eI prog t = some (ag, w)) (hA : iW st w qc l) (h : φ d = .int .i64 (k : Int)) (hk : k ≤ l.length) : gW prog φ t qc none (some (.tmp d)) none = some (w9 k qc) := by
 rcases hA with ⟨rfl, rfl⟩ | ⟨b, cs, rfl, _⟩
 · have h0 : k = 0 := by simpa using hk
   subst h0
   exact YA hI h
 · exact NN hI h hk
section
variable {st0 st : aB} {S c m : Nat} {qt qc qn : AV} {p : List Cl} {q : List Tm} {idx : Bool} {fuel used mx : Int} {nd : List AV} {i : IS}
theorem dE.aGZ {k : Nat} {cs : List AV} {gl : List IG} (h : dE st0 st S c m qt qc qn p q idx fuel used mx nd i) (hk : k ≤ i.chs.length) (hcs : cs = gS c p q idx fuel used i.fresh (eA gl) (w9 k qc) qn mx) :
 dE st0 (st.aC S (.cells cs)) S c m qt (w9 k qc) qn p q idx fuel used mx nd { i with goals := gl, chs := i.chs.take k } := by
 obtain ⟨h1, h2, h3, h4, h5, h6, _⟩ := h.parts
 subst hcs
 have hA := h.acC.take (k := k) (by rw [aF]; exact hk) (P5 _)
 rw [← GU] at hA
 refine h.go (aB.aQ _ _ _) (h.sto.aC h1 h2 h4) (hA.a8 fun b hb => aB.aL _ _ (by rw [BY] at hb; rintro rfl; exact h5 hb)) (h.acN.a8 fun b hb => aB.aL _ _ (by rintro rfl; exact h6 hb)) h.ndl h.ndw (by unfold iQ; rw [BY]; exact h.dis) (fun b hb => .inl (by unfold iQ at hb; rw [BY] at hb; exact hb)) fun b o hb hn => ?_
 rw [aB.aL _ _ (by rintro rfl; exact hn (dZ.2 (.inl rfl)))]
 exact hb
theorem dE.aW5 {k : Nat} {cs : List AV} (h : dE st0 st S c m qt qc qn p q idx fuel used mx nd i) (hk : k ≤ i.nn) (hcs : cs = gS c p q idx fuel used i.fresh (eA i.goals) qc (w9 k qn) mx) :
 dE st0 (st.aC S (.cells cs)) S c m qt qc (w9 k qn) p q idx fuel used mx (nd.take k) { i with nn := k } := by
 obtain ⟨h1, h2, h3, h4, h5, h6, _⟩ := h.parts
 subst hcs
 have hnl := h.ndl
 have hA := h.acN.take (k := k) (by rw [hnl]; exact hk) h.ndw
 refine h.go (aB.aQ _ _ _) (h.sto.aC h1 h2 h4) (h.acC.a8 fun b hb => aB.aL _ _ (by rintro rfl; exact h5 hb)) (hA.a8 fun b hb => aB.aL _ _ (by rw [BY] at hb; rintro rfl; exact h6 hb)) (by rw [d5, hnl]; simp only; omega) (fun e he => h.ndw e (lW he)) (by unfold iQ; rw [BY]; exact h.dis) (fun b hb => .inl (by unfold iQ at hb; rw [BY] at hb; exact hb)) fun b o hb hn => ?_
 rw [aB.aL _ _ (by rintro rfl; exact hn (dZ.2 (.inl rfl)))]
 exact hb
end
end Go.AW
