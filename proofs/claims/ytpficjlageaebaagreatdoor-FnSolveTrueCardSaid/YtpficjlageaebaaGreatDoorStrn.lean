import Derived.Test.YtpficjlageaebaaGreatDoorStrm
import Derived.Test.YtpficjlageaebaaGreatDoorStrl
import Derived.Test.YtpficjlageaebaaGreatDoorStrf
import Derived.Test.YtpficjlageaebaaGreatDoorStri
import Derived.Test.YtpficjlageaebaaGreatDoorStrk
set_option linter.unusedSimpArgs false
set_option linter.unusedVariables false
set_option maxRecDepth 100000
namespace Go.AW
open Go.Proofs.Tryz
theorem PR {p : List Cl} (hp : ∀ c ∈ p, gE c ∧ c.2.length ≤ 6) {B : Nat} (hB : B ≤ 524288) {cs : List RC} {goal : Tm} {rest : List RG} {σ : Sub} {N : Nat} (hg : cK σ) (ho : cP (bD N) σ) (hd : ∀ n, ¬(0 ≤ n ∧ n < (N : Int)) → σ n = none)
 (hgo : bD N goal) (hr : ∀ g ∈ rest, bD N g.t ∧ g.t.k = 3) (h0 : 0 < N) (hN : N + 26 ≤ B) (hrl : rest.length + 26 ≤ B) (hcl : cs.length + 1 ≤ B) (hcs : ∀ c ∈ cs, xI p c ∧ c.N + 26 ≤ B ∧ c.rest.length + 26 ≤ B ∧ 0 < c.N) :
 ∀ (left : List Nat), (∀ i ∈ left, i < p.length) → left.length ≤ 1048576 → ∀ s, iB p cs goal rest σ N left = some s → pT p B s
 | [], _, _, s, h => by simp [iB] at h
 | i :: l, hle, hll, s, h => by
  have hil := hle i (by simp)
  obtain ⟨x, hx⟩ : ∃ x, p[i]? = some x := ⟨_, fG hil⟩
  obtain ⟨hX, h6⟩ := hp x (cW hx)
  have hl' : ∀ j ∈ l, j < p.length := fun j hj => hle j (by simp [hj])
  rw [iB.eq_def] at h
  simp only [hx] at h
  split at h
  case isFalse => exact PR hp hB hg ho hd hgo hr h0 hN hrl hcl hcs l hl' (by simp at hll; omega) s h
  cases h
  have hfr := hX.fr.1
  have hsh := hX.dC N
  obtain ⟨r, σ', tr, U⟩ := sF (N := N + nP x) hg (ho.upN (by omega)) (hgo.mono (by omega)) (hsh x.1 (by simp))
  rw [U.eq]
  have S := U.uH
  refine ⟨S.gI, S.ok, fun n hn => ?_, ?_, by simp only; omega, by simp only; omega, ?_, ?_, ?_⟩
  · simp only at hn ⊢
    rw [S.a8 n (fun h => hn (S.fO n h))]
    exact hd n (fun h => hn (by omega))
  · intro g hg'
    simp only [fR, cU] at hg'
    rcases hg' with ⟨t, ht, rfl⟩ | hg'
    · exact ⟨hsh t (List.mem_cons_of_mem _ ht), by rw [aFV]; exact (hX.body t ht).2⟩
    · exact ⟨(hr g hg').1.mono (by simp only; omega), (hr g hg').2⟩
  · simp only [dQ, aF]; omega
  · simp only
    split
    · omega
    · simp only [dQ, aS, a7]; omega
  · simp only
    split
    · exact hcs
    · intro c hc
      rcases fR.1 hc with hc | hc
      · exact hcs c hc
      · simp only [cY, dP, d4] at hc
        subst hc
        exact ⟨⟨hg, ho, hd, hgo, hr, hl', by simp only; omega, by simp only; simp at hll; omega⟩, hN, hrl, h0⟩
theorem aXA (p : List Cl) (chs : List RC) : f9 p chs.length chs = match chs.getLast? with
 | none => none
 | some c => match iB p chs.dropLast c.goal c.rest c.σ c.N c.left with
  | some s => some s
  | none => f9 p chs.dropLast.length chs.dropLast := by
 cases chs with
 | nil => rfl
 | cons c l =>
  rw [aS, f9]
  have : (c :: l).dropLast.length = l.length := by simp
  rw [this]
  try rfl
theorem aCD {p : List Cl} (hp : ∀ c ∈ p, gE c ∧ c.2.length ≤ 6) {B : Nat} (hB : B ≤ 524288) : ∀ (n : Nat) (chs : List RC), chs.length ≤ B → (∀ c ∈ chs, xI p c ∧ c.N + 26 ≤ B ∧ c.rest.length + 26 ≤ B ∧ 0 < c.N) → ∀ s, f9 p n chs = some s → pT p B s
 | 0, _, _, _, s, h => by simp [f9] at h
 | n + 1, chs, hl, hc, s, h => by
  rw [f9] at h
  split at h
  · cases h
  · rename_i c sX
    have hm := RL sX
    have hne : chs ≠ [] := by rintro rfl; simp at hm
    have hdl : chs.dropLast.length + 1 = chs.length := by
     have := List.length_pos_iff.2 hne
     simp; omega
    have hcd : ∀ c ∈ chs.dropLast, xI p c ∧ c.N + 26 ≤ B ∧ c.rest.length + 26 ≤ B ∧ 0 < c.N := fun c h => hc c (RM _ h)
    obtain ⟨k, h1, h2, h3⟩ := hc c hm
    split at h
    · rename_i s' hs
      cases h
      exact PR hp hB k.gI k.ok k.vG k.goal k.rest h3 h1 h2 (by omega) hcd c.left k.left k.aX3 s hs
    · exact aCD hp hB n _ (by omega) hcd s h
theorem pT.up {p : List Cl} {B C : Nat} {s : RS} (h : pT p B s) (hC : B ≤ C) : pT p C s :=
 ⟨h.gI, h.ok, h.vG, h.goals, h.pos, by have := h.hN; omega, by have := h.gl; omega, by have := h.oV; omega, fun c hc => by
  obtain ⟨h1, h2, h3, h4⟩ := h.chs c hc
  exact ⟨h1, by omega, by omega, h4⟩⟩
theorem pT.back {p : List Cl} (hp : ∀ c ∈ p, gE c ∧ c.2.length ≤ 6) {B : Nat} (hB : B ≤ 524288) {s s' : RS} (h : pT p B s) (e : f9 p s.chs.length s.chs = some s') : pT p B s' :=
 aCD hp hB _ _ h.oV h.chs s' e
theorem KY {N : Nat} {σ : Sub} (hg : cK σ) (ho : cP (bD N) σ) {t : Tm} (ht : bD N t) (hf : eH (t.aJ (rs σ)) = true) : bD N (t.aJ (rs σ)) := by
 obtain ⟨rk, B, G⟩ := hg.rs
 unfold eH at hf
 simp only [cM, bJ] at hf
 exact ⟨ht.1.aJ fun v hv => G.kV ho.kV v (ht.1.2.2 v hv).1 (ht.1.2.2 v hv).2, hf.2⟩
theorem pT.step {p : List Cl} (hp : ∀ c ∈ p, gE c ∧ c.2.length ≤ 6) (hpl : p.length ≤ 1048576) {B : Nat} (hB : B + 26 ≤ 524288) {cnd : Tm → List Nat → List Nat} (hc : ∀ t l, (∀ i ∈ cnd t l, i ∈ l) ∧ (cnd t l).length ≤ l.length) {s s' : RS} {g : RG} {rest : List RG} (hgs : s.goals = g :: rest) (h : pT p B s)
 (e : iX p cnd s g rest = .go s') : pT p (B + 26) s' := by
 have hgm : g ∈ s.goals := by rw [hgs]; simp
 have hrm : ∀ x ∈ rest, x ∈ s.goals := fun x hx => by rw [hgs]; simp [hx]
 have hgl := h.gl
 rw [hgs, aS] at hgl
 have hU := h.up (C := B + 26) (by omega)
 unfold iX at e
 split at e
 · cases e
 rename_i fT
 have MD : eH (g.t.aJ (rs s.σ)) = true := by simpa using fT
 have hok := KY h.gI h.ok (h.goals g hgm).1 MD
 generalize g.t.aJ (rs s.σ) = t at *
 split at e
 · cases e
   exact ⟨hU.gI, hU.ok, hU.vG, fun x hx => hU.goals x (hrm x hx), hU.pos, hU.hN, by simp only; omega, by simp only [d7]; have := hU.oV; omega, fun c hc => hU.chs c (lW hc)⟩
 split at e
 · split at e
   · cases e
     have S := KA h.gI h.ok t.s t.ts fun x hx => by
      obtain ⟨k, n, s', ts⟩ := t
      by_cases hk : k = 1
      · obtain ⟨_, _, _, h2⟩ := (show cD s.N (.mk 1 n s' ts) from hk ▸ hok.1).var
        simp only [Tm.ts] at hx
        rw [h2] at hx; cases hx
      · exact pX _ (.mk k n s' ts) hk hok x hx
     exact ⟨S.gI, S.ok, fun n hn => by simp only at hn ⊢; rw [S.a8 n (fun h => hn (S.fO n h))]; exact hU.vG n hn, fun x hx => hU.goals x (hrm x hx), hU.pos, hU.hN, by simp only; omega, hU.oV, hU.chs⟩
   · split at e <;> cases e
 split at e
 · cases e
 split at e
 case h_2 => cases e
 rename_i s2 hs
 cases e
 obtain ⟨c1, c2⟩ := hc t (fD p t)
 have hfl : (fD p t).length ≤ p.length := by rw [G9]; exact IW p t p.length
 refine PR hp (by omega) h.gI h.ok h.vG hok (fun x hx => h.goals x (hrm x hx)) h.pos (by have := h.hN; omega) (by omega) (by have := h.oV; omega) hU.chs _ (fun i hi => ?_) (by omega) s' hs
 have := c1 i hi
 unfold fD at this
 have := (List.mem_filter.1 this).1
 exact xP.1 this
def mS (n : Nat) (l : List RG) : Prop := l.Pairwise (fun a b => b.a8 ≤ a.a8) ∧ ∀ g ∈ l, g.a8 ≤ n
theorem mS.up {n m : Nat} {l : List RG} (h : mS n l) (hm : n ≤ m) : mS m l := ⟨h.1, fun g hg => nC (h.2 g hg) hm⟩
theorem mS.tail {n : Nat} {g : RG} {l : List RG} (h : mS n (g :: l)) : mS n l ∧ mS g.a8 l := by
 obtain ⟨h1, h2⟩ := h
 rw [List.pairwise_cons] at h1
 exact ⟨⟨h1.2, fun x hx => h2 x (by simp [hx])⟩, h1.2, h1.1⟩
theorem mS.body {n : Nat} {l : List RG} (h : mS n l) (f : Tm → Tm) (bd : List Tm) : mS n (bd.map (fun t => (⟨f t, n⟩ : RG)) ++ l) := by
 refine ⟨List.pairwise_append.2 ⟨?_, h.1, fun a ha b hb => ?_⟩, fun g hg => ?_⟩
 · rw [List.pairwise_map]
   exact List.pairwise_of_forall fun _ _ => c7 _
 · obtain ⟨t, _, rfl⟩ := cU.1 ha
   exact h.2 b hb
 · rcases fR.1 hg with hg | hg
   · obtain ⟨t, _, rfl⟩ := cU.1 hg
     exact c7 _
   · exact h.2 g hg
structure x9 (s : RS) : Prop where
 goals : mS s.chs.length s.goals
 chs : ∀ i c, s.chs[i]? = some c → mS i c.rest
theorem N7 {p : List Cl} {cs : List RC} {goal : Tm} {rest : List RG} {σ : Sub} {N : Nat} (hr : mS cs.length rest) (hc : ∀ i c, cs[i]? = some c → mS i c.rest) :
 ∀ (left : List Nat) s, iB p cs goal rest σ N left = some s → x9 s
 | [], s, h => by simp [iB] at h
 | i :: l, s, h => by
  rw [iB.eq_def] at h
  simp only at h
  split at h
  · cases h
  rename_i x hx
  split at h
  case isFalse => exact N7 hr hc l s h
  cases h
  have hb := hr.body (dC N) x.2
  refine ⟨?_, ?_⟩
  · simp only
    split
    · exact hb
    · exact hb.up (by simp)
  · simp only
    intro j c hj
    split at hj
    · exact hc j c hj
    · rw [List.getElem?_append] at hj
      split at hj
      · exact hc j c hj
      · rename_i hlt
        have hj0 : j - cs.length = 0 := by
         have := (gQ.1 hj).1
         simp at this; omega
        rw [hj0] at hj
        simp only [RE, Option.some.injEq] at hj
        subst hj
        exact hr.up (by omega)
theorem aLF {p : List Cl} : ∀ (n : Nat) (chs : List RC), (∀ i c, chs[i]? = some c → mS i c.rest) → ∀ s, f9 p n chs = some s → x9 s
 | 0, _, _, s, h => by simp [f9] at h
 | n + 1, chs, hc, s, h => by
  rw [f9] at h
  split at h
  · cases h
  · rename_i c sX
    have hd : ∀ i c, chs.dropLast[i]? = some c → mS i c.rest := fun i c hi => hc i c (by
     rw [List.dropLast_eq_take, List.getElem?_take] at hi
     split at hi
     · exact hi
     · cases hi)
    rw [aMC] at sX
    have hk := hc _ _ sX
    split at h
    · rename_i s' hs
      cases h
      exact N7 (by rw [List.length_dropLast]; exact hk) hd _ s hs
    · exact aLF n _ hd s h
theorem x9.step {p : List Cl} {cnd : Tm → List Nat → List Nat} {s s' : RS} {g : RG} {rest : List RG} (hgs : s.goals = g :: rest) (h : x9 s) (e : iX p cnd s g rest = .go s') : x9 s' := by
 have hg := h.goals
 rw [hgs] at hg
 obtain ⟨h1, h2⟩ := hg.tail
 have h3 := hg.2 g (by simp)
 unfold iX at e
 split at e
 · cases e
 split at e
 · cases e
   refine ⟨?_, fun i c hi => ?_⟩
   · simp only [d7]
     exact h2.up (by omega)
   · simp only [List.getElem?_take] at hi
     split at hi
     · exact h.chs i c hi
     · cases hi
 split at e
 · split at e
   · cases e
     exact ⟨h1, h.chs⟩
   · split at e <;> cases e
 split at e
 · cases e
 split at e
 case h_2 => cases e
 rename_i s2 hs
 cases e
 exact N7 h1 h.chs _ s' hs
def CJ (s : RS) : Prop := 26 ≤ s.N ∧ ∀ c ∈ s.chs, 26 ≤ c.N
theorem K9 {p : List Cl} {cs : List RC} {goal : Tm} {rest : List RG} {σ : Sub} {N : Nat} (hN : 26 ≤ N) (hc : ∀ c ∈ cs, 26 ≤ c.N) :
 ∀ (left : List Nat) s, iB p cs goal rest σ N left = some s → CJ s
 | [], s, h => by simp [iB] at h
 | i :: l, s, h => by
  rw [iB.eq_def] at h
  simp only at h
  split at h
  · cases h
  rename_i x hx
  split at h
  case isFalse => exact K9 hN hc l s h
  cases h
  refine ⟨by simp only; omega, ?_⟩
  simp only
  split
  · exact hc
  · intro c h
    rcases fR.1 h with h | h
    · exact hc c h
    · simp only [cY, dP, d4] at h
      subst h; exact hN
theorem T0 {p : List Cl} : ∀ (n : Nat) (chs : List RC), (∀ c ∈ chs, 26 ≤ c.N) → ∀ s, f9 p n chs = some s → CJ s
 | 0, _, _, s, h => by simp [f9] at h
 | n + 1, chs, hc, s, h => by
  rw [f9] at h
  split at h
  · cases h
  · rename_i c sX
    have hd : ∀ c ∈ chs.dropLast, 26 ≤ c.N := fun c h => hc c (RM _ h)
    split at h
    · rename_i s' hs
      cases h
      exact K9 (hc c (RL sX)) hd _ s hs
    · exact T0 n _ hd s h
theorem CJ.step {p : List Cl} {cnd : Tm → List Nat → List Nat} {s s' : RS} {g : RG} {rest : List RG} (h : CJ s) (e : iX p cnd s g rest = .go s') : CJ s' := by
 unfold iX at e
 split at e
 · cases e
 split at e
 · cases e
   exact ⟨h.1, fun c hc => h.2 c (lW hc)⟩
 split at e
 · split at e
   · cases e
     exact h
   · split at e <;> cases e
 split at e
 · cases e
 split at e
 case h_2 => cases e
 rename_i s2 hs
 cases e
 exact K9 h.1 h.2 _ s' hs
structure lD (p : List Cl) (B : Nat) (s : RS) : Prop where
 a : pT p B s
 k : x9 s
 l : CJ s
theorem lD.step {p : List Cl} (hp : ∀ c ∈ p, gE c ∧ c.2.length ≤ 6) (hpl : p.length ≤ 1048576) {B : Nat} (hB : B + 26 ≤ 524288) {cnd : Tm → List Nat → List Nat} (hc : ∀ t l, (∀ i ∈ cnd t l, i ∈ l) ∧ (cnd t l).length ≤ l.length) {s s' : RS} {g : RG} {rest : List RG} (hgs : s.goals = g :: rest) (h : lD p B s)
 (e : iX p cnd s g rest = .go s') : lD p (B + 26) s' := ⟨h.a.step hp hpl hB hc hgs e, h.k.step hgs e, h.l.step e⟩
theorem lD.back {p : List Cl} (hp : ∀ c ∈ p, gE c ∧ c.2.length ≤ 6) {B : Nat} (hB : B ≤ 524288) {s s' : RS} (h : lD p B s) (e : f9 p s.chs.length s.chs = some s') : lD p B s' :=
 ⟨h.a.back hp hB e, aLF _ _ h.k.chs s' e, T0 _ _ h.l.2 s' e⟩
theorem lD.up {p : List Cl} {B C : Nat} {s : RS} (h : lD p B s) (hC : B ≤ C) : lD p C s := ⟨h.a.up hC, h.k, h.l⟩
theorem lD.start {p : List Cl} {q : List Tm} (hq : ∀ t ∈ q, bD 26 t ∧ t.k = 3) (h6 : q.length ≤ 6) : lD p 26 (lR q) := by
 refine ⟨⟨cK.none, fun n u h => (by cases h), fun n _ => rfl, ?_, (by show 0 < 26; omega), c7 _, ?_, jD _, fun c hc => (by cases hc)⟩, ⟨⟨?_, ?_⟩, fun i c hi => (by cases hi)⟩, ⟨c7 _, fun c hc => (by cases hc)⟩⟩
 · intro g hg
   simp only [lR, cU] at hg
   obtain ⟨t, ht, rfl⟩ := hg
   exact hq t ht
 · simp only [lR, aF]; omega
 · simp only [lR, List.pairwise_map]
   exact List.pairwise_of_forall fun _ _ => c7 _
 · intro g hg
   simp only [lR, cU] at hg
   obtain ⟨t, ht, rfl⟩ := hg
   exact jD _
theorem aC2 {φ : AF} {t : TypeId} {ag : Bool} {w d k : Nat} {es : List AV} (hI : eI prog t = some (ag, w)) (h : φ d = .int .i64 (k : Int)) (hk : k ≤ es.length) : iL prog φ t (.slice es) none (some (.tmp d)) none = some (.slice (es.take k)) := by
 have he : φ.eval (.tmp d) = .int .i64 (k : Int) := h
 unfold iL
 rw [aE (by simp [sB])]
 simp only [pN, hI]
 rw [aE (by simp)]
 simp only [dX, he]
 rw [aG (by omega)]
 simp
def JP (a : AV) : Prop := (∃ l, a = .slice l) ∨ a = .fslice []
theorem JP.facts {a : AV} (h : JP a) : a.isAgg = false ∧ a.width = 1 ∧ a.cB = false ∧ a.cells = [a] ∧ a.storable = true ∧ ∃ l, a.soft = .slice l := by
 rcases h with ⟨l, rfl⟩ | rfl
 · exact ⟨rfl, rfl, rfl, rfl, rfl, l, rfl⟩
 · exact ⟨rfl, rfl, rfl, rfl, rfl, [], rfl⟩
abbrev sT := zi tI_3 (zi zI_3 (zi aX (zi tI_4 (zi zI_4 (zi cF (zi tI_29 (zi zI_29 (zi gZ (zi j8 (zi j6 (zi kU (zi tI_101 (zi zI_101 (zi rR (zi wS (zi vR (zi AL (zi tI_103 (zi zI_103 (zi D7 (zi DU (zi EC (zi GK (zi tI_146 (zi zI_146 (zi O9 (zi QR (zi MR (zi LQ M4)))))))))))))))))))))))))))))
theorem aAD {p : List Cl} (hp : ∀ c ∈ p, gE c ∧ c.2.length ≤ 6) {B : Nat} (hB : B ≤ 524288) (gs0 : List RG) (σ0 : List AV) (chs : List RC) (hl : chs.length ≤ B) (hc : ∀ c ∈ chs, xI p c ∧ c.N + 26 ≤ B ∧ c.rest.length + 26 ≤ B ∧ 0 < c.N) (st : aB) :
 aD prog 73 [.slice (p.map b7), .agg [.slice (gs0.map eG), .slice σ0, .slice (chs.map fE)]] st (fun r st' => st' = st ∧ match f9 p chs.length chs with
  | some s => r = .tup [sH s, .bool true]
  | none => ∃ l1 l2 l3, r = .tup [.agg [.slice l1, .slice l2, .slice l3], .bool false]) := by
 refine aD.lK (aD.soft ?_)
 refine wF [1000000, 3] 2 func73 ntmps73 rfl rfl ?_
 intro _
 simp -implicitDefEqProofs only [aA, seval, sT]
 intro b3 h3 b4 h4
 have hne : b4 ≠ b3 := by rintro rfl; rw [aB.aO] at h4; cases h4
 have O3 : st b4 = none := by rw [aB.aM _ _ hne] at h4; exact h4
 rw [aB.nK _ _ _ (dB hne)]
 generalize hW : st.aC b4 (.cells [.fslice [], .fslice [], .fslice []]) = W
 have hW4 : W b4 = some (.cells [.fslice [], .fslice [], .fslice []]) := by rw [← hW]; exact aB.aO _ _ _
 have hW3 : W b3 = none := by rw [← hW, aB.aM _ _ (dB hne)]; exact h3
 have hDW : ∀ o o', aL ((W.aC b3 o).aC b4 o') st := fun o o' q => by
  by_cases q4 : q = b4
  · subst q4; rw [aB.aO, O3]; simp
  rw [aB.aM _ _ q4]
  by_cases q3 : q = b3
  · subst q3; rw [aB.aO, h3]; simp
  rw [aB.aM _ _ q3, ← hW, aB.aM _ _ q4]
  simp
 have a1K : b3 ≠ b4 := dB hne
 refine g9 (σ := List RC × AV × AV) [1000000, 3] [0, 3, 4] (fun s => s.1.length ≤ B ∧ (∀ c ∈ s.1, xI p c ∧ c.N + 26 ≤ B ∧ c.rest.length + 26 ≤ B ∧ 0 < c.N) ∧ JP s.2.1 ∧ JP s.2.2 ∧ f9 p s.1.length s.1 = f9 p chs.length chs) (fun s => [(5, .bool false)]) (fun s => W.aC b3 (.cells [s.2.1, s.2.2, .slice (s.1.map fE)])) (fun s => s.1.length) (by decide +kernel) ⟨(chs, .slice (gs0.map eG), .slice σ0), ⟨hl, hc, .inl ⟨_, rfl⟩, .inl ⟨_, rfl⟩, rfl⟩, aP.mk (by simp -implicitDefEqProofs only [aA, seval])⟩ ?_
 rintro ⟨l, a, b⟩ ⟨hl1, hlc, ha, hb, hinv⟩
 simp only at hl1 hlc ha hb hinv
 obtain ⟨a1, a2, a3, a4, a5, la, a6⟩ := ha.facts
 obtain ⟨b1, b2, b3', b4', b5, lb, b6⟩ := hb.facts
 simp only
 rw [aXA] at hinv
 by_cases zJ : l = []
 · subst zJ
   simp only [List.getLast?_nil] at hinv
   simp -implicitDefEqProofs only [aB.aO, u7, List.contains, List.elem, qH, gY, sub, ↓reduceIte, reduceCtorEq, Nat.reduceEqDiff, sT]
   refine aQ (fun h => absurd h (by decide)) (fun h => ?_)
   simp -implicitDefEqProofs only [aK, hne, aB.aO, hW4, a5, b5, aA, seval, sT]
   rw [← hinv]
   exact ⟨st, hDW _ _, rfl, la, lb, [], by simp only [j5, kC, rP, qC, bA, aW, a6, b6]⟩
 obtain ⟨c, sX⟩ : ∃ c, l.getLast? = some c := by
  cases h : l.getLast? with
  | none => exact absurd (List.getLast?_eq_none_iff.1 h) zJ
  | some c => exact ⟨c, rfl⟩
 have hlp := List.length_pos_iff.2 zJ
 have hcm := RL sX
 obtain ⟨aPC, hcN, hcr, hc0⟩ := hlc c hcm
 rw [sX] at hinv
 simp only at hinv
 have hat := bL (av := fE) (P := prog) (l := l) (i := l.length - 1) (x := c) rR (by rw [← aMC]; exact sX) (IM c)
 rw [show (((l.length - 1 : Nat) : Int)) = (l.length : Int) - 1 by omega] at hat
 have hw := bK (n := (l.length : Int) - 1)
 have hdl : l.dropLast = l.take (l.length - 1) := List.dropLast_eq_take
 have a03 : l.dropLast.length + 1 = l.length := by simp; omega
 have hct := SP p hp [] [] l.dropLast c aPC hc0 (by omega) (by omega)
 have hcs := fun (φ : AF) (d : Nat) (h : φ d = .int .i64 ((l.length : Int) - 1)) => aC2 (es := l.map fE) (k := l.length - 1) rR (h.trans (by congr 1; omega)) (by simp)
 rw [← List.map_take, ← hdl] at hcs
 generalize hx : iB p l.dropLast c.goal c.rest c.σ c.N c.left = x at hinv hct
 obtain ⟨⟨ck, cn, cs', cts⟩, VL, aC7, cσ, cN⟩ := c
 rw [Q4] at hct hat
 simp only [aW] at hct
 simp -implicitDefEqProofs only [aF, aB.aO, aA, seval, sT]
 refine aQ (fun h => ?_) (fun h => absurd hlp (by simpa using h))
 simp -implicitDefEqProofs only [aF, aB.aO, hw, hat, aA, ↓aU, seval, sT]
 cases x with
 | none =>
  have JS : ∀ st, aD prog 110 [.slice (p.map b7), .agg [.fslice [], .fslice [], .slice (l.dropLast.map fE)], .agg [.int .i64 ck, .int .i64 cn, .str cs', .slice (cts.map Tm.av), .slice (VL.map eG), .slice (aC7.map nv), .slice (cT cN cσ)]] st (fun r st' => r = .tup [.agg [.slice [], .slice [], .slice (l.dropLast.map fE)], .bool false] ∧ st' = st) := fun st =>
   aD.oA ((hct st).mono fun _ _ h => ⟨h.2, h.1⟩)
  simp only at hinv
  refine wP [(0, 1), (1, 1), (3, 1), (2, 2), (4, 1), (5, 1), (6, 2), (7, 1), (8, 1), (9, 1), (10, 1), (11, 0), (12, 0), (13, 1)] [0, 1, 3, 2, 4, 5, 6, 7, 8, 9, 10, 13] mixed ?_
  simp -implicitDefEqProofs only [aB.aO, hcs, aA, seval, sT]
  refine N1 JS ?_
  simp -implicitDefEqProofs only [aK, aB.aO, aA, seval, sT]
  intro b8 h8
  have h83 : b8 ≠ b3 := by rintro rfl; rw [aB.aO] at h8; cases h8
  rw [aB.aM _ _ h83] at h8
  have h84 : b8 ≠ b4 := by rintro rfl; rw [hW4] at h8; cases h8
  have hs8 : st b8 = none := by rw [← hW, aB.aM _ _ h84] at h8; exact h8
  have h38 := dB h83
  have h48 := dB h84
  simp -implicitDefEqProofs only [aK, h38, aB.aO, hcs, aA, seval, sT]
  refine ⟨(l.dropLast, .fslice [], .fslice []), by simp only; omega, ⟨by simp only; omega, fun c h => hlc c (RM _ h), .inr rfl, .inr rfl, hinv⟩, aP.drop (fun q => ?_) (by simp -implicitDefEqProofs only [aA, seval])⟩
  by_cases q3 : q = b3
  · subst q3; rw [aB.aO, aB.aO]; simp
  rw [aB.aM _ _ q3, aB.aM _ _ q3]
  by_cases q8 : q = b8
  · subst q8; rw [aB.aO, h8]; simp
  rw [aB.aM _ _ q8, aB.aM _ _ q3]
  simp
 | some s =>
  have JS : ∀ st, aD prog 110 [.slice (p.map b7), .agg [.fslice [], .fslice [], .slice (l.dropLast.map fE)], .agg [.int .i64 ck, .int .i64 cn, .str cs', .slice (cts.map Tm.av), .slice (VL.map eG), .slice (aC7.map nv), .slice (cT cN cσ)]] st (fun r st' => r = .tup [sH s, .bool true] ∧ st' = st) := fun st =>
   aD.oA ((hct st).mono fun _ _ h => ⟨h.2, h.1⟩)
  simp only at hinv
  simp only [sH] at JS
  refine wP [(0, 1), (1, 1), (3, 1), (2, 2), (4, 1), (5, 1), (6, 2), (7, 1), (8, 1), (9, 1), (10, 1), (11, 0), (12, 0), (13, 1)] [0, 1, 3, 2, 4, 5, 6, 7, 8, 9, 10, 13] mixed ?_
  simp -implicitDefEqProofs only [aB.aO, hcs, aA, seval, sT]
  refine N1 JS ?_
  simp -implicitDefEqProofs only [aK, aB.aO, aA, seval, sT]
  intro b8 h8
  have h83 : b8 ≠ b3 := by rintro rfl; rw [aB.aO] at h8; cases h8
  rw [aB.aM _ _ h83] at h8
  have h84 : b8 ≠ b4 := by rintro rfl; rw [hW4] at h8; cases h8
  have hs8 : st b8 = none := by rw [← hW, aB.aM _ _ h84] at h8; exact h8
  have h38 := dB h83
  have h48 := dB h84
  simp -implicitDefEqProofs only [hne, h48, hW4, aA, seval]
  refine ⟨st, ?_, rfl, ?_⟩
  · have d1 : aL W st := by rw [← hW]; exact (aL.refl _).aC O3
    exact ((d1.aC h3).aC hs8).aC O3
  · rw [← hinv]
    simp only [j5, kC, rP, qC, bA, aW]
    rfl
theorem aO3 {φ : AF} {t : TypeId} {ag : Bool} {w : Nat} {y : Operand} {e : AV} {es : List AV} (hI : eI prog t = some (ag, w)) (h : φ.eval y = .int .i64 1) (hw : ∀ x ∈ es, x.width = w) : iL prog φ t (.slice (e :: es)) (some y) none none = some (.slice es) := by
 have hwo : zP (e :: es) 1 w = true := by
  unfold zP
  rw [RF]
  split
  · rename_i x hx
    simp [hw x (cW hx)]
  · rfl
 unfold iL
 rw [aE (by simp [sB])]
 simp only [pN, hI]
 rw [aE (by simp)]
 simp only [dX, h]
 rw [aG (by constructor <;> simp <;> omega)]
 simp [hwo]
abbrev a20 := zi tI_3 (zi zI_3 aX)
theorem aYJ (c : Int) (st : aB) : aD prog 133 [.int .i64 c] st (fun r st' => r = .int .i64 (pV c) ∧ st' = st) := by
 refine aD.done ?_
 refine wF [1000000] 1 func133 ntmps133 rfl rfl ?_
 intro _
 simp -implicitDefEqProofs only [aA, seval]
 unfold pV
 refine aQ (fun h => ?_) (fun h => ?_)
 · simp -implicitDefEqProofs only [aA, seval]
   have h' : c = 2 := by simpa using h
   exact ⟨by rw [aG h']; try rfl, aL.refl _⟩
 rw [aE (show ¬ c = 2 by simpa using h)]
 simp -implicitDefEqProofs only [aA, seval]
 refine aQ (fun h => ?_) (fun h => ?_)
 · simp -implicitDefEqProofs only [aA, seval]
   have h' : c = 3 := by simpa using h
   exact ⟨by rw [aG h']; try rfl, aL.refl _⟩
 rw [aE (show ¬ c = 3 by simpa using h)]
 simp -implicitDefEqProofs only [aA, seval]
 refine aQ (fun h => ?_) (fun h => ?_)
 · simp -implicitDefEqProofs only [aA, seval]
   have h' : c = 4 := by simpa using h
   exact ⟨by rw [aG h']; try rfl, aL.refl _⟩
 rw [aE (show ¬ c = 4 by simpa using h)]
 simp -implicitDefEqProofs only [aA, seval]
 exact ⟨rfl, aL.refl _⟩
def wA (x : RO) (r : AV) : Prop := match x with
 | .go s => r = .tup [sH s, .int .i64 (-1)]
 | .fail => ∃ l1 l2 l3, r = .tup [.agg [.slice l1, .slice l2, .slice l3], .int .i64 (-2)]
 | .stop e => 0 ≤ e ∧ ∃ l1 l2 l3, r = .tup [.agg [.slice l1, .slice l2, .slice l3], .int .i64 e]
abbrev mG := zi tI_2 (zi zI_2 (zi KT (zi tI_3 (zi zI_3 (zi aX (zi tI_4 (zi zI_4 (zi cF (zi tI_9 (zi zI_9 (zi cH (zi tI_29 (zi zI_29 (zi gZ (zi j8 (zi j6 (zi kU (zi tI_31 (zi zI_31 (zi aN (zi bF (zi bE (zi b9 (zi tI_51 (zi zI_51 (zi dV (zi fS (zi fV (zi gA (zi tI_63 (zi zI_63 (zi bS (zi bR (zi bP (zi bQ (zi bT (zi tI_100 (zi zI_100 (zi uL (zi yC (zi yO (zi F6 (zi tI_101 (zi zI_101 (zi rR (zi wS (zi vR (zi AL (zi tI_103 (zi zI_103 (zi D7 (zi DU (zi EC (zi GK (zi tI_146 (zi zI_146 (zi O9 (zi QR (zi MR (zi LQ (zi M4 (zi tI_167 (zi zI_167 (zi XM (zi WE aC9)))))))))))))))))))))))))))))))))))))))))))))))))))))))))))))))))
theorem aS1 {p : List Cl} (hp : ∀ c ∈ p, gE c ∧ c.2.length ≤ 6) (hpl : p.length ≤ 1048576) {B : Nat} (hB : B + 26 ≤ 524288) (goals : List RG) (σ : Sub) (N : Nat) (chs : List RC) (g : RG) (rest : List RG) (hgs : goals = g :: rest) (h : pT p B ⟨goals, σ, N, chs⟩) (hK : x9 ⟨goals, σ, N, chs⟩) (st : aB) :
 aD prog 97 [.slice (p.map b7), .agg [.slice (goals.map eG), .slice (cT N σ), .slice (chs.map fE)]] st (fun r st' => st' = st ∧ wA (iX p (fun _ l => l) ⟨goals, σ, N, chs⟩ g rest) r) := by
 subst hgs
 obtain ⟨hg, ho, hd, hgo, h0, hN, hgl, hcl, hch⟩ := h
 simp only at hg ho hd hgo h0 hN hgl hcl hch
 obtain ⟨hgx, hg3⟩ := hgo g (by simp)
 have BV : ∀ x ∈ rest, bD N x.t ∧ x.t.k = 3 := fun x hx => hgo x (by simp [hx])
 have hkp := hK.goals.2 g (by simp)
 simp only at hkp
 have hsm := aEL hg ho g.t hgx
 have hyk : (g.t.aJ (rs σ)).k = 3 := by rw [Tm.qK _ (by omega)]; exact hg3
 have hfo := KY hg ho hgx
 generalize hR : iX p (fun _ l => l) ⟨g :: rest, σ, N, chs⟩ g rest = R
 unfold iX at hR
 dsimp only at hR
 obtain ⟨⟨gk, gn, gs', gts⟩, a8⟩ := g
 simp only at hgx hg3 hkp hsm hyk hfo
 dsimp only at hR
 generalize (Tm.mk gk gn gs' gts).aJ (rs σ) = y at *
 obtain ⟨yk, yn, ys, yts⟩ := y
 obtain rfl : yk = 3 := hyk
 have hat : dJ prog 100 (.slice ((⟨.mk gk gn gs' gts, a8⟩ :: rest).map eG)) (.int .i64 0) = some (.pptr (eG ⟨.mk gk gn gs' gts, a8⟩)) := bL (av := eG) (l := ⟨.mk gk gn gs' gts, a8⟩ :: rest) (i := 0) uL rfl (BU _)
 have hs1 := fun (φ : AF) (y : Operand) (h : φ.eval y = .int .i64 1) => aO3 (e := eG ⟨.mk gk gn gs' gts, a8⟩) (es := rest.map eG) uL h (by intro e he; simp only [cU] at he; obtain ⟨t, _, rfl⟩ := he; exact BU t)
 rw [bA, E9] at hat
 rw [E9] at hs1
 rw [bA, E9]
 simp only [aV] at hsm
 refine aD.fin (aD.lK ?_)
 refine wF [1000000] 2 func97 ntmps97 rfl rfl ?_
 intro _
 simp -implicitDefEqProofs only [aS, hat, hs1, aA, ↓aU, seval, mG]
 intro b4 h4
 refine (hsm _).mono ?_
 rintro _ _ ⟨rfl, x, rfl, hx⟩
 generalize fT : eH (.mk 3 yn ys yts) = fit at *
 have uK : ∀ (o : AO) (r : AV) (x : RO), wA x (r.fin 0 []) → ∃ s2, aL (st.aC b4 o) s2 ∧ ∃ b l s0, s2 = aZ s0 b l ∧ (l ≠ [] → s0 b = none) ∧ (∀ e ∈ l, e.cB = false) ∧ gT l ∧ s0 = st ∧ wA x (r.fin b l) := fun o r x hr =>
  ⟨st, (aL.refl _).aC h4, 0, [], st, rfl, by simp, by simp, ⟨0, by simp⟩, rfl, hr⟩
 simp -implicitDefEqProofs only [aS, aH, bZ, cG, aA, ↓aU, seval, mG]
 refine aQ (fun h => ?_) (fun h => ?_)
 · have h' : fit = false := by simpa using h
   subst h'
   rw [aG rfl] at hR
   subst hR
   simp -implicitDefEqProofs only [aK, aS, aA, seval, mG]
   exact uK _ _ _ ⟨by decide, _, _, _, by simp only [fL, jK, d9, iE, bA, aW]; rfl⟩
 obtain rfl : fit = true := by simpa using h
 obtain rfl := hx rfl
 simp only [aV]
 have hyo := hfo rfl
 rw [aE (by simp)] at hR
 have tH : ∀ st, aD prog 130 [.agg [.int .i64 3, .int .i64 yn, .str ys, .slice (yts.map Tm.av)]] st (fun r st' => r = .bool (n9 (.mk 3 yn ys yts)) ∧ st' = st) := fun st => by
  have := XS 3 yn ys yts st
  rw [aV] at this
  exact this
 have hbi := fun st => MO ys (yts.length : Int) st
 have aIX := fun st => aRA p (.mk 3 yn ys yts) hpl st
 have TY := fun hb => aN9 (N := N) h0 (by omega) hg ho yn ys yts hb (pX N (.mk 3 yn ys yts) (by show (3 : Int) ≠ 1; decide) hyo)
 have htr := SP p hp
 simp only [aV] at aIX TY
 replace hR : (if n9 (.mk 3 yn ys yts) = true then RO.go ⟨rest, σ, N, chs.take a8⟩ else if isBuiltin ys (yts.length : Int) = true then (if (c8 σ ys yts).1 = 0 then RO.go ⟨rest, (c8 σ ys yts).2.1, N, chs⟩ else if (c8 σ ys yts).1 = 1 then RO.fail else RO.stop (pV (c8 σ ys yts).1)) else if fD p (.mk 3 yn ys yts) = [] then RO.stop 8 else match iB p chs (.mk 3 yn ys yts) rest σ N (fD p (.mk 3 yn ys yts)) with | some s' => RO.go s' | none => RO.fail) = R := hR
 generalize hcu : n9 (.mk 3 yn ys yts) = cu at *
 have hs2 := fun (φ : AF) (d : Nat) (h : φ d = .int .i64 (a8 : Int)) => aC2 (es := chs.map fE) (k := a8) rR h (by simpa using hkp)
 rw [← List.map_take] at hs2
 refine (tH _).to ?_
 simp -implicitDefEqProofs only [aA, seval]
 refine aQ (fun h => ?_) (fun h => ?_)
 · rw [aG h] at hR
   subst h hR
   simp -implicitDefEqProofs only [aA, seval]
   refine wP [(0, 1), (1, 1), (3, 1), (5, 1), (2, 2), (4, 2), (6, 2), (7, 1), (8, 1), (9, 0), (10, 1)] [0, 1, 3, 5, 2, 4, 6, 7, 8, 10] mixed ?_
   simp -implicitDefEqProofs only [aK, aS, hs2, aA, seval, mG]
   exact uK _ _ _ (by simp only [fL, jK, d9, iE, bA, aW]; rfl)
 rw [aE (by rw [h]; simp)] at hR
 subst h
 simp -implicitDefEqProofs only [aF, aA, seval, mG]
 refine (hbi _).to ?_
 simp -implicitDefEqProofs only [aA, seval]
 refine aQ (fun h => ?_) (fun h => ?_)
 · have CW := TY h
   rw [aG h] at hR
   simp -implicitDefEqProofs only [aA, seval, mG]
   refine QH h0 (by omega) σ fun b hb hA0 => ?_
   have hst := aL.aC (aL.refl st) (o := .cells [.fslice [], .fslice [], .fslice []]) h4
   generalize hW : st.aC b4 (.cells [.fslice [], .fslice [], .fslice []]) = W at *
   have hW4 : W b4 = some (.cells [.fslice [], .fslice [], .fslice []]) := by rw [← hW]; exact aB.aO _ _ _
   have hT : aL (W.aC b (.cells ((cT N σ).flatMap AV.cells))) W := (aL.refl _).aC hb
   generalize W.aC b (.cells ((cT N σ).flatMap AV.cells)) = T at *
   have hb4 : b ≠ b4 := by rintro rfl; rw [hW4] at hb; cases hb
   simp -implicitDefEqProofs only [aS, aA, seval, mG]
   refine (CW b _ hA0).mono ?_
   rintro _ s2 ⟨rfl, hA, hk2⟩
   have aOV := aVL σ ys yts
   generalize c8 σ ys yts = S at *
   obtain ⟨c, σ', tr⟩ := S
   simp only at hA aOV ⊢
   dsimp only at hR
   have hDs : aL s2 W := by
    intro q
    have key : ∀ o, W q = some o → s2 q = some o := fun o h => hk2 q o ((hT q).2 o h) (by rintro rfl; rw [hb] at h; cases h)
    refine ⟨fun h => ?_, key⟩
    cases hq : W q with
    | none => rfl
    | some o => rw [key o hq] at h; cases h
   have MM := (hDs b4).2 _ hW4
   have aV9 : st b = none := by rw [← hW, aB.aM _ _ hb4] at hb; exact hb
   have aBR : ∀ (o : AO) (r : AV) (x : RO), wA x (r.fin 0 []) → ∃ s3, aL (s2.aC b4 o) s3 ∧ ∃ b l s0, s3 = aZ s0 b l ∧ (l ≠ [] → s0 b = none) ∧ (∀ e ∈ l, e.cB = false) ∧ gT l ∧ s0 = st ∧ wA x (r.fin b l) := fun o r x hr =>
    ⟨st, (hDs.trans hst).aC h4, 0, [], st, rfl, by simp, by simp, ⟨0, by simp⟩, rfl, hr⟩
   simp -implicitDefEqProofs only [aA, seval]
   refine aQ (fun h => ?_) (fun h => ?_)
   · have hc0 : c = 0 := by simpa using h
     subst hc0
     rw [aG rfl] at hR
     subst hR
     simp -implicitDefEqProofs only [aK, aS, MM, aA, seval, mG]
     have nV : cT N σ' ≠ [] := by intro e; have := tB N σ'; rw [e] at this; simp at this; omega
     refine ⟨st.aC b (.cells ((cT N σ').flatMap AV.cells)), fun q => ?_, b, cT N σ', st, by rw [jF nV], fun _ => aV9, D9 _ _, ⟨4, B4 _ _⟩, rfl, ?_⟩
     · by_cases q4 : q = b4
       · subst q4; rw [aB.aO, aB.aM _ _ (dB hb4), h4]; simp
       rw [aB.aM _ _ q4]
       by_cases qb : q = b
       · subst qb; rw [aB.aO, show s2 q = _ from hA]; simp
       rw [aB.aM _ _ qb]
       exact (hDs.trans hst) q
     · simp only [fL, jK, d9, iE, bA, aW, IY h0]
       rfl
   have hc0 : c ≠ 0 := by simpa using h
   rw [aE hc0] at hR
   simp -implicitDefEqProofs only [aA, seval]
   refine aQ (fun h => ?_) (fun h => ?_)
   · have hc1 : c = 1 := by simpa using h
     subst hc1
     rw [aG rfl] at hR
     subst hR
     simp -implicitDefEqProofs only [aK, aS, MM, aA, seval, mG]
     exact aBR _ _ _ ⟨_, _, _, by simp only [fL, jK, d9, iE, bA, aW]; rfl⟩
   have hc1 : c ≠ 1 := by simpa using h
   rw [aE hc1] at hR
   subst hR
   have jP : 0 ≤ pV c := by unfold pV; split; omega; split; omega; split; omega; omega
   simp -implicitDefEqProofs only [aA, seval]
   refine wP [(1, 1), (0, 2), (2, 2), (3, 0), (4, 1)] [1, 0, 2, 4] mixed ?_
   simp -implicitDefEqProofs only [aS, aA, seval, mG]
   refine i8 (aYJ c _) ?_
   simp -implicitDefEqProofs only [aK, aS, MM, aA, seval, mG]
   exact aBR _ _ _ ⟨jP, _, _, _, by simp only [fL, jK, d9, iE, bA, aW]; rfl⟩
 rw [aE (by rw [h]; simp)] at hR
 simp -implicitDefEqProofs only [aS, aA, seval, mG]
 refine (aIX _).to ?_
 have hcx : xI p ⟨.mk 3 yn ys yts, rest, fD p (.mk 3 yn ys yts), σ, N⟩ := ⟨hg, ho, hd, hyo, BV, fun i hi => by
  unfold fD at hi
  exact xP.1 (List.mem_filter.1 hi).1, by simp only; simp only [aS] at hgl; omega, by
  have := IW p (.mk 3 yn ys yts) p.length
  rw [← G9] at this
  simp only; omega⟩
 have B2 := fun st => htr (⟨.mk gk gn gs' gts, a8⟩ :: rest) (cT N σ) chs _ hcx h0 (by simp only; omega) (by omega) st
 rw [bA, E9, Q4] at B2
 simp only at B2
 generalize fD p (.mk 3 yn ys yts) = left at *
 simp -implicitDefEqProofs only [aF, aA, seval, mG]
 refine aQ (fun h => ?_) (fun h => ?_)
 · have h' : left = [] := by
    have : (left.length : Int) = 0 := by simpa using h
    exact sI (by omega)
   rw [aG h'] at hR
   subst hR
   simp -implicitDefEqProofs only [aK, aS, aA, seval, mG]
   exact uK _ _ _ ⟨by decide, _, _, _, by simp only [fL, jK, d9, iE, bA, aW]; rfl⟩
 have h' : left ≠ [] := by
  rintro rfl
  simp at h
 rw [aE h'] at hR
 generalize iB p chs (.mk 3 yn ys yts) rest σ N left = x at *
 simp -implicitDefEqProofs only [aS, aA, seval, mG]
 cases x with
 | none =>
  simp only at hR B2
  subst hR
  refine (B2 _).mono ?_
  rintro _ _ ⟨rfl, rfl⟩
  simp -implicitDefEqProofs only [aK, aS, aA, ↓aU, seval, mG]
  exact uK _ _ _ ⟨_, _, _, by simp only [fL, jK, d9, iE, bA, aW]; rfl⟩
 | some s =>
  simp only [sH] at hR B2
  subst hR
  refine (B2 _).mono ?_
  rintro _ _ ⟨rfl, rfl⟩
  simp -implicitDefEqProofs only [aK, aS, aA, ↓aU, seval, mG]
  exact uK _ _ _ (by simp only [fL, jK, d9, iE, bA, aW]; rfl)
theorem aVC {N : Int} {t : Tm} (h : cD N t) : dC 0 t = t := by
 have h1 : dC 0 t = t.aJ vr := by
  unfold dC bV
  congr 1
  funext v
  congr 1
  simp
 rw [h1, L0 t h.2.1]
theorem VO (N : Nat) : cT N Sub.none = List.replicate N zt := by
 apply K3
 intro i
 by_cases h : i < N
 · rw [yD N _ h, List.getElem?_replicate, aG h]; try rfl
 · rw [xS (by rw [tB]; omega), xS (by simp; omega)]
abbrev Q1 := zi tI_3 (zi zI_3 (zi aX (zi tI_31 (zi zI_31 (zi aN (zi bF (zi bE (zi b9 (zi tI_100 (zi zI_100 (zi uL (zi yC (zi yO (zi F6 (zi tI_103 (zi zI_103 (zi D7 (zi DU (zi EC GK)))))))))))))))))))
theorem aPS (q : List Tm) (hq : ∀ t ∈ q, bD 26 t) (h6 : q.length ≤ 6) (st : aB) : aD prog 70 [.slice (q.map Tm.av)] st (fun r st' => r = sH (lR q) ∧ st' = st) := by
 have hgo : ∀ st, aD prog 104 [.slice (q.map Tm.av), .int .i64 0, .int .i64 0, .fslice []] st (fun r st' => r = .slice ((lR q).goals.map eG) ∧ st' = st) := fun st =>
  aD.oA ((aLS q 0 0 [] hq h6 (by omega) (by simp) st).mono fun _ _ h => ⟨by
   rw [h.1]
   unfold lR
   rw [iA]
   congr 2
   exact qY fun t ht => by rw [aVC (hq t ht).1], h.2⟩)
 refine aD.pR (aD.fin (aD.lK ?_))
 refine wF [1000000, 3] 1 func70 ntmps70 rfl rfl ?_
 intro _
 simp -implicitDefEqProofs only [aA, seval, Q1]
 intro b2 h2
 simp -implicitDefEqProofs only [wJ, aK, u7, ↓JZ, ↓K4, List.contains, List.elem, v8, oG, pM, ↓reduceIte, reduceCtorEq, Nat.reduceEqDiff, Nat.reduceAdd, Nat.reduceLT, Nat.reduceBEq, Q1]
 refine ⟨by omega, by omega, by omega, fun bb hbb => ?_⟩
 rw [show Int.toNat 26 = 26 from rfl, aEM _ (by simp)]
 have hb2 : bb ≠ b2 := by rintro rfl; rw [aB.aO] at hbb; cases hbb
 have KQ : (List.replicate 26 [AV.int .i64 0, .int .i64 0, .str ⟨#[]⟩, .fslice []]).flatten = (cT 26 Sub.none).flatMap AV.cells := by
  rw [VO]; try rfl
 rw [KQ]
 have h22 : (st.aC b2 (AO.cells [AV.fslice [], AV.fslice [], AV.fslice []])) b2 = some (AO.cells [AV.fslice [], AV.fslice [], AV.fslice []]) := aB.aO _ _ _
 have hD2 : aL (st.aC b2 (AO.cells [AV.fslice [], AV.fslice [], AV.fslice []])) st := (aL.refl _).aC h2
 intro b3 h3
 have h3b : b3 ≠ bb := by rintro rfl; rw [aB.aO] at h3; cases h3
 rw [aB.aM _ _ h3b] at h3
 have h32 : b3 ≠ b2 := by rintro rfl; rw [aB.aO] at h3; cases h3
 have hs3 : st b3 = none := by rw [aB.aM _ _ h32] at h3; exact h3
 have hsb : st bb = none := by rw [aB.aM _ _ hb2] at hbb; exact hbb
 refine (hgo _).to ?_
 have e1 := dB h3b
 have e2 := dB h32
 have e3 := dB hb2
 simp -implicitDefEqProofs only [aK, e2, e3, aB.aO, aA, seval, Q1]
 have nV : cT 26 Sub.none ≠ [] := by rw [VO]; simp
 refine ⟨st.aC bb (.cells ((cT 26 Sub.none).flatMap AV.cells)), fun q' => ?_, bb, cT 26 Sub.none, st, by rw [jF nV], fun _ => hsb, D9 _ _, ⟨4, B4 _ _⟩, ?_, aL.refl _⟩
 · by_cases q2 : q' = b2
   · subst q2; rw [aB.aO, aB.aM _ _ e3, h2]; simp
   rw [aB.aM _ _ q2]
   by_cases q3 : q' = b3
   · subst q3; rw [aB.aO, aB.aM _ _ h3b, hs3]; simp
   simp only [aB.aM _ _ q3]
   by_cases qb : q' = bb
   · subst qb; rw [aB.aO, aB.aO]; simp
   rw [aB.aM _ _ qb, aB.aM _ _ qb, aB.aM _ _ q2]
   simp
 · simp only [fL, iE, oP, bA, aW, IY (show 0 < 26 by omega)]
   rfl
theorem PC {S : aB} {b c : Nat} {l : List AV} {o : AO} (h : l ≠ [] → b ≠ c) : (aZ S b l).aC c o = aZ (S.aC c o) b l := by
 cases l with
 | nil => rfl
 | cons x l => rw [jF (by simp), jF (by simp), aB.nK _ _ _ (h (by simp))]
theorem GA {p : List Cl} {cnd : Tm → List Nat → List Nat} {vars : List Int} {most fuel : Nat} {s : RS} (hg : s.goals = []) : jX p cnd vars most fuel s = if most = 0 then ([], 1) else match jL s.σ vars with
 | none => ([], 3)
 | some a => match f9 p s.chs.length s.chs with
  | none => ([a], 0)
  | some s' => (a :: (jX p cnd vars (most - 1) fuel s').1, (jX p cnd vars (most - 1) fuel s').2) := by
 rw [jX.eq_def, hg]
 simp only
 split <;> rfl
theorem xW {p : List Cl} {cnd : Tm → List Nat → List Nat} {vars : List Int} {most fuel : Nat} {s : RS} {g : RG} {rest : List RG} (hg : s.goals = g :: rest) : jX p cnd vars most fuel s = if fuel = 0 then ([], 2) else match iX p cnd s g rest with
 | .stop e => ([], e)
 | .go s' => jX p cnd vars most (fuel - 1) s'
 | .fail => match f9 p s.chs.length s.chs with
  | none => ([], 0)
  | some s' => jX p cnd vars most (fuel - 1) s' := by
 rw [jX.eq_def, hg]
 simp only
 split <;> rfl
structure YQ (p : List Cl) (vars : List Int) (most fuel : Nat) (T : List (List Tm) × Int) (s : RS) (out : List (List Tm)) (f B : Nat) : Prop where
 tot : T = (out ++ (jX p (fun _ l => l) vars (most - out.length) f s).1, (jX p (fun _ l => l) vars (most - out.length) f s).2)
 len : out.length ≤ most
 ok : lD p B s
 bd : B + 26 * f ≤ 8000
abbrev lT := zi tI_2 (zi zI_2 (zi KT (zi tI_3 (zi zI_3 (zi aX (zi tI_4 (zi zI_4 (zi cF (zi tI_26 (zi zI_26 (zi qR (zi tP (zi sO (zi vO (zi tI_29 (zi zI_29 (zi gZ (zi j8 (zi j6 (zi kU (zi tI_31 (zi zI_31 (zi aN (zi bF (zi bE (zi b9 (zi tI_51 (zi zI_51 (zi dV (zi fS (zi fV (zi gA (zi tI_82 (zi zI_82 (zi C3 (zi AG (zi tI_100 (zi zI_100 (zi uL (zi yC (zi yO (zi F6 (zi tI_103 (zi zI_103 (zi D7 (zi DU (zi EC GK)))))))))))))))))))))))))))))))))))))))))))))))
theorem aTF {p : List Cl} (hp : ∀ c ∈ p, gE c ∧ c.2.length ≤ 6) (hpl : p.length ≤ 20) {q : List Tm} (hq : ∀ t ∈ q, bD 26 t ∧ t.k = 3) (h6 : q.length ≤ 6) {most fuel : Nat} (hm : most ≤ 20) (hf : fuel ≤ 300) (st : aB) :
 aD prog 65 [.slice (p.map b7), .slice (q.map Tm.av), .int .i64 (most : Int), .int .i64 (fuel : Int)] st (fun r st' => r = .tup [.slice ((rV p (fun _ l => l) q most fuel).1.map c9), .int .i64 (rV p (fun _ l => l) q most fuel).2] ∧ st' = st) := by
 have hnd : bG Tm.nodes q ≤ 1099511627776 := by
  have := BE q fun t ht => (hq t ht).1.2
  omega
 have hva := fun st => ZL q st (fun t ht => Tm.sN t (hq t ht).1.1.2.1) hnd
 have GM := fun st => aPS q (fun t ht => (hq t ht).1) h6 st
 have hv : ∀ v ∈ bY q [], 0 ≤ v ∧ v < 26 := fun v hv => by
  rcases (w6 q [] fun t ht => (hq t ht).1.1.2.1).1 hv with h | ⟨t, ht, h⟩
  · cases h
  · exact (hq t ht).1.1.2.2 v h
 have hvl : (bY q []).length ≤ 1000 := by
  have h1 := v4 q []
  have h2 := BE q fun t ht => (hq t ht).1.2
  simp only [a7] at h1
  omega
 have J1 := lD.start (p := p) hq h6
 generalize hT : rV p (fun _ l => l) q most fuel = T
 unfold rV at hT
 generalize bY q [] = vars at *
 have hI0 : YQ p vars most fuel T (lR q) [] fuel 26 := ⟨by rw [← hT]; try rfl, jD _, J1, by omega⟩
 generalize lR q = s0 at *
 simp only [sH] at GM
 refine aD.pR (aD.fin (aD.lK ?_))
 refine wF [1000000, 12] 4 func65 ntmps65 rfl rfl ?_
 intro _
 simp -implicitDefEqProofs only [aA, seval, lT]
 refine (hva _).to ?_
 simp -implicitDefEqProofs only [aA, seval]
 refine (GM _).to ?_
 simp -implicitDefEqProofs only [aK, aA, ↓aU, seval, lT]
 intro b12 h12
 refine g9 (σ := RS × List (List Tm) × Nat × Nat × Nat) [1000000, 12] [0, 2, 11, 12] (fun x => YQ p vars most fuel T x.1 x.2.1 x.2.2.1 x.2.2.2.1 ∧ (x.2.1.map c9 ≠ [] → (st.aC b12 (.cells [.slice (x.1.goals.map eG), .slice (cT x.1.N x.1.σ), .slice (x.1.chs.map fE)])) x.2.2.2.2 = none))
  (fun x => [(3, .int .i64 (x.2.2.1 : Int)), (8, .fslice []), (9, .int .i64 0), (10, a9 1 x.2.2.2.2 (x.2.1.map c9))])
  (fun x => aZ (st.aC b12 (.cells [.slice (x.1.goals.map eG), .slice (cT x.1.N x.1.σ), .slice (x.1.chs.map fE)])) x.2.2.2.2 (x.2.1.map c9))
  (fun x => (most - x.2.1.length) + x.2.2.1) (by decide +kernel) ⟨(s0, [], fuel, 26, 0), ⟨hI0, by simp⟩, aP.mk (by simp -implicitDefEqProofs only [jH, aW, aA, seval])⟩ ?_
 rintro ⟨s, out, f, B, b⟩ ⟨⟨tot, hlen, hok, hbd⟩, hb⟩
 simp only at tot hlen hok hbd hb
 simp only
 have hbc : out.map c9 ≠ [] → b ≠ b12 := fun h => by rintro rfl; have := hb h; rw [aB.aO] at this; cases this
 have o9 := CK hb (aB.aO st b12 (.cells [.slice (s.goals.map eG), .slice (cT s.N s.σ), .slice (s.chs.map fE)]))
 have hlo : (out.map c9).length = out.length := aF _
 have aRK : ∀ l : List (List Tm), ∀ e ∈ l.map c9, e.cB = false := fun l e he => by simp only [cU] at he; obtain ⟨t, _, rfl⟩ := he; rfl
 have K1 : ∀ l : List (List Tm), ∀ e ∈ l.map c9, e.width = 1 := fun l e he => by simp only [cU] at he; obtain ⟨t, _, rfl⟩ := he; rfl
 have fin : ∀ (S : aB) (b : Nat) (l : List (List Tm)) (e : Int), (l.map c9 ≠ [] → S b = none) → aL S st → T = (l, e) → ∃ s2, aL (aZ S b (l.map c9)) s2 ∧ ∃ b' l' s0, s2 = aZ s0 b' l' ∧ (l' ≠ [] → s0 b' = none) ∧ (∀ e ∈ l', e.cB = false) ∧ gT l' ∧ (AV.tup [a9 1 b (l.map c9), .int .i64 e]).fin b' l' = .tup [.slice (T.1.map c9), .int .i64 T.2] ∧ aL s0 st := fun S b l e h1 h2 h3 =>
  ⟨_, aL.refl _, b, l.map c9, S, rfl, h1, aRK l, ⟨1, K1 l⟩, by subst h3; simp only [jK, d9, lP, bA, aW], h2⟩
 have hSD : ∀ o, aL (st.aC b12 o) st := fun o => (aL.refl _).aC h12
 generalize hX : (AO.cells [.slice (s.goals.map eG), .slice (cT s.N s.σ), .slice (s.chs.map fE)]) = X at o9 hb
 have o9 := o9.trans (nZ some hX.symm)
 have hun : prog.underlying 26 = some (.slice 82) := by kernel_rfl
 have sR := sU (w := 1) (b := b) (l := out.map c9) hun
 rw [hlo] at sR
 cases hgs : s.goals with
 | nil =>
  rw [hgs] at hX o9
  simp only [aW] at hX o9
  rw [GA hgs] at tot
  simp -implicitDefEqProofs only [a7, sR, o9, aA, seval, lT]
  refine aQ (fun h => ?_) (fun h => ?_)
  · have h' : out.length = most := by simp at h; omega
    rw [aG (by omega)] at tot
    simp -implicitDefEqProofs only [m6, aA, seval]
    exact fin _ b out 1 hb (hSD _) (by rw [tot, iA])
  have h' : out.length < most := by simp at h; omega
  rw [aE (by omega)] at tot
  simp -implicitDefEqProofs only [o9, aA, seval, lT]
  refine (aOO (N := s.N) hok.a.gI hok.a.ok vars (fun v h => ⟨(hv v h).1, by have := (hv v h).2; have := hok.l.1; omega⟩) hvl _).mono ?_
  rintro _ _ ⟨rfl, a, rfl, ha⟩
  cases pQ : jL s.σ vars with
  | none =>
   rw [pQ] at tot
   simp only [Option.isSome_none, c9]
   simp -implicitDefEqProofs only [a7, aS, m6, aA, ↓aU, seval, lT]
   exact fin _ b out 3 hb (hSD _) (by rw [tot, iA])
  | some x =>
   obtain rfl := ha x pQ
   rw [pQ] at tot
   simp only [Option.isSome_some, c9] at tot ⊢
   simp -implicitDefEqProofs only [a7, aS, aA, ↓aU, seval, lT]
   refine eN (P := prog) (b := b) (l := out.map c9) (xs := [c9 a]) qR tP sO rfl rfl (fC rfl rfl) (K1 out) hb (by simp only [aS, a7, hlo]; omega) (by simp only [aS, a7, hlo]; omega) (fun b' hb' => ?_)
   rw [show (out.map c9) ++ [c9 a] = (out ++ [a]).map c9 by simp] at hb' ⊢
   have aLB := (CK hb' (aB.aO st b12 X)).trans (nZ some hX.symm)
   simp -implicitDefEqProofs only [a7, aS, aLB, aA, seval, lT]
   have KI : (f : Int) = (f : Int) := rfl
   refine (aAD hp (B := B) (by omega) [] (cT s.N s.σ) s.chs hok.a.oV hok.a.chs _).mono ?_
   rintro r _ ⟨rfl, hr⟩
   cases hbk : f9 p s.chs.length s.chs with
   | none =>
    rw [hbk] at hr tot
    simp only at hr tot
    obtain ⟨l1, l2, l3, rfl⟩ := hr
    simp -implicitDefEqProofs only [a7, aS, m6, aA, ↓aU, seval, lT]
    exact fin _ b' (out ++ [a]) 0 hb' (hSD _) (by rw [tot]; try rw [iA])
   | some s' =>
    rw [hbk] at hr tot
    simp only [sH] at hr tot
    subst hr
    simp -implicitDefEqProofs only [aK, a7, aS, aLB, aA, ↓aU, seval, lT]
    rw [PC (fun h => by rintro rfl; have := hb' h; rw [aB.aO] at this; cases this), dE]
    have hne : (out ++ [a]).map c9 ≠ [] → b' ≠ b12 := fun h => by rintro rfl; have := hb' h; rw [aB.aO] at this; cases this
    refine ⟨(s', out ++ [a], f, B, b'), by simp only [dQ, aS, a7]; omega, ⟨⟨by rw [tot]; try simp only [nX, fF, eR, dQ, aS, a7, Nat.sub_sub]; try rfl, by simp only [dQ, aS, a7]; omega, hok.back hp (by omega) hbk, by simp only; omega⟩, fun h => by rw [aB.aM _ _ (hne h)]; have := hb' h; rwa [aB.aM _ _ (hne h)] at this⟩, aP.mk (by simp -implicitDefEqProofs only [aA, seval])⟩
 | cons g rest =>
  rw [hgs] at hX o9
  rw [xW hgs] at tot
  simp -implicitDefEqProofs only [aF, aS, o9, aA, seval, lT]
  refine aQ (fun h => absurd h (by simp; omega)) (fun h => ?_)
  simp -implicitDefEqProofs only [aA, seval]
  refine aQ (fun h => ?_) (fun h => ?_)
  · have h' : f = 0 := by simp at h; omega
    rw [aG h'] at tot
    simp -implicitDefEqProofs only [m6, aA, seval]
    exact fin _ b out 2 hb (hSD _) (by rw [tot, iA])
  have h' : f ≠ 0 := by simp at h; omega
  rw [aE h'] at tot
  have hw := bK (n := (f : Int) - 1)
  simp -implicitDefEqProofs only [hw, a7, aS, o9, aA, seval, lT]
  have hst := aS1 hp (by omega) (B := B) (by omega) s.goals s.σ s.N s.chs g rest hgs hok.a hok.k
  rw [hgs, bA] at hst
  refine (hst _).mono ?_
  rintro r _ ⟨rfl, hr⟩
  have hse : (⟨g :: rest, s.σ, s.N, s.chs⟩ : RS) = s := by rw [← hgs]
  rw [hse] at hr
  cases iK : iX p (fun _ l => l) s g rest with
  | go s' =>
   rw [iK] at hr tot
   simp only [wA, sH] at hr tot
   subst hr
   simp -implicitDefEqProofs only [a7, aS, u7, ↓JZ, List.contains, List.elem, zN, ↓reduceIte, Nat.reduceEqDiff, Nat.reduceAdd, Nat.reduceBEq, lT]
   refine aQ (fun h => absurd h (by decide)) (fun h => ?_)
   simp -implicitDefEqProofs only [aK, a7, aS, o9, aA, seval, lT]
   rw [PC hbc, dE]
   have KI : ((f - 1 : Nat) : Int) = (f : Int) - 1 := by omega
   refine ⟨(s', out, f - 1, B + 26, b), by simp only; omega, ⟨⟨tot, hlen, hok.step hp (by omega) (by omega) (cnd := fun _ l => l) (fun _ _ => ⟨fun _ h => h, c7 _⟩) hgs iK, by simp only; omega⟩, fun h => by rw [aB.aM _ _ (hbc h)]; have := hb h; rwa [aB.aM _ _ (hbc h)] at this⟩, aP.mk (by simp -implicitDefEqProofs only [KI, aA, seval])⟩
  | fail =>
   rw [iK] at hr tot
   simp only [wA] at hr tot
   obtain ⟨l1, l2, l3, rfl⟩ := hr
   simp -implicitDefEqProofs only [a7, aS, u7, ↓JZ, List.contains, List.elem, zN, ↓reduceIte, Nat.reduceEqDiff, Nat.reduceAdd, Nat.reduceBEq, lT]
   refine aQ (fun h => absurd h (by decide)) (fun h => ?_)
   simp -implicitDefEqProofs only [a7, aS, o9, aA, seval, lT]
   have KI : ((f - 1 : Nat) : Int) = (f : Int) - 1 := by omega
   refine (aAD hp (B := B) (by omega) (g :: rest) (cT s.N s.σ) s.chs hok.a.oV hok.a.chs _).mono ?_
   rintro r _ ⟨rfl, hr⟩
   cases hbk : f9 p s.chs.length s.chs with
   | none =>
    rw [hbk] at hr tot
    simp only at hr tot
    obtain ⟨l1, l2, l3, rfl⟩ := hr
    simp -implicitDefEqProofs only [a7, aS, m6, aA, ↓aU, seval, lT]
    exact fin _ b (out) 0 hb (hSD _) (by rw [tot]; try rw [iA])
   | some s' =>
    rw [hbk] at hr tot
    simp only [sH] at hr tot
    subst hr
    simp -implicitDefEqProofs only [aK, a7, aS, o9, aA, ↓aU, seval, lT]
    rw [PC (fun h => by rintro rfl; have := hb h; rw [aB.aO] at this; cases this), dE]
    have hne : (out).map c9 ≠ [] → b ≠ b12 := fun h => by rintro rfl; have := hb h; rw [aB.aO] at this; cases this
    refine ⟨(s', out, f - 1, B, b), by simp only []; omega, ⟨⟨by rw [tot]; try simp only [nX, fF, eR, dQ, aS, a7, Nat.sub_sub]; try rfl, by simp only []; omega, hok.back hp (by omega) hbk, by simp only; omega⟩, fun h => by rw [aB.aM _ _ (hne h)]; have := hb h; rwa [aB.aM _ _ (hne h)] at this⟩, aP.mk (by simp -implicitDefEqProofs only [KI, aA, seval])⟩
  | stop e =>
   rw [iK] at hr tot
   simp only [wA] at hr tot
   obtain ⟨he0, l1, l2, l3, rfl⟩ := hr
   simp -implicitDefEqProofs only [a7, aS, aA, ↓aU, seval, lT]
   refine aQ (fun h => ?_) (fun h => absurd he0 (by simpa using h))
   simp -implicitDefEqProofs only [m6, aA, seval]
   exact fin _ b out e hb (hSD _) (by rw [tot, iA])
end Go.AW
namespace Go.AW
def zB (st : aB) (xs : List AV) (r : AV) (st' : aB) : Prop := ∃ (os : List AV) (bs : List Nat), r = .tup os ∧ bs.Nodup ∧ (∀ b ∈ bs, st b = none) ∧ cE st' xs os bs ∧ ∀ b, b ∉ bs → st' b = st b
theorem cE.UC {h : bH} {st s0 : aB} (S : cQ h st) (D : aL st s0) : ∀ (xs os : List AV) (bs : List Nat) (vs : List Value), cE st xs os bs → (∀ b ∈ bs, s0 b = none) → dO h st os vs → dO h s0 xs vs
 | [], os, bs, vs, x, _, y => by simp only [cE] at x; rw [x.1] at y; exact y
 | a :: xs, os, bs, vs, x, hb, y => by
  simp only [cE] at x
  obtain ⟨o, os', b1, b2, rfl, rfl, x1, x2⟩ := x
  simp only [dO] at y ⊢
  obtain ⟨v, r, e, ⟨y0, y1⟩, y2⟩ := y
  exact ⟨v, r, e, ⟨x1.shape.1.symm.trans y0, cL.view S D a o b1 _ x1 (fun q hq => hb q (by simp [hq])) y1⟩, cE.UC S D xs os' b2 r x2 (fun q hq => hb q (by simp [hq])) y2⟩
theorem aD.XB {P : Program} {g : FuncId} {args : List AV} {st : aB} {xs : List AV} (x : aD P g args st (zB st xs)) : aD P g args st (fun r st' => r = .tup xs ∧ st' = st) :=
 x.mV fun r st' ⟨os, bs, hr, _, h2, h3, h4⟩ => by
  have D : aL st' st := fun b => ⟨fun e => by
   by_cases hb : b ∈ bs
   · exact h2 b hb
   · rw [← h4 b hb]; exact e, fun o e => by
   by_cases hb : b ∈ bs
   · rw [h2 b hb] at e; cases e
   · rw [h4 b hb]; exact e⟩
  refine ⟨.tup xs, st, D.tF, fun h v S y => ?_, rfl, rfl⟩
  subst hr
  obtain ⟨y0, y1⟩ := y
  refine ⟨y0, ?_⟩
  unfold VC at y1 ⊢
  obtain ⟨vs, e, y2⟩ := y1
  exact ⟨vs, e, cE.UC S D xs os bs vs h3 h2 y2⟩
theorem cL.Z7 {st : aB} {es : List AV} {q : AV} {bs : List Nat} (h : cL st (.slice es) q bs) : q.cells = [q] ∧ q.storable = true ∧ q.isAgg = false ∧ q.width = 1 ∧ q.cB = false := by
 simp only [cL] at h
 rcases h with ⟨_, rfl, _⟩ | ⟨_, _, _, _, rfl, _⟩ <;> exact ⟨rfl, rfl, rfl, rfl, rfl⟩
theorem aNW {s : aB} {x o : AV} {bs : List Nat} : cL s (.agg [x]) o bs ↔ ∃ q, o = .agg [q] ∧ cL s x q bs := by
 simp only [cL, cE]
 constructor
 · rintro ⟨os, rfl, o1, os1, b1, b2, rfl, rfl, h, rfl, rfl⟩
   exact ⟨o1, rfl, by simpa using h⟩
 · rintro ⟨q, rfl, h⟩
   exact ⟨_, rfl, q, [], bs, [], rfl, by simp, h, rfl, rfl⟩
theorem aRP {s : aB} {x y : AV} {os : List AV} {bs : List Nat} : cE s [x, y] os bs ↔ ∃ o1 o2 b1 b2, os = [o1, o2] ∧ bs = b1 ++ b2 ∧ cL s x o1 b1 ∧ cL s y o2 b2 := by
 simp only [cE]
 constructor
 · rintro ⟨o1, os1, b1, b1', rfl, rfl, h1, o2, os2, b2, b2', rfl, rfl, h2, rfl, rfl⟩
   exact ⟨o1, o2, b1, b2, rfl, by simp, h1, h2⟩
 · rintro ⟨o1, o2, b1, b2, rfl, rfl, h1, h2⟩
   exact ⟨o1, [o2], b1, b2, rfl, rfl, h1, o2, [], b2, [], rfl, by simp, h2, rfl, rfl⟩
end Go.AW
namespace Go.AW
open Go.Proofs.Tryz

section
variable {S : aB} {c b w : Nat} {hd tl l : List AV}
theorem aGZ {h : bH} {st : aB} {a a' : AV} (hv : ∀ v, VC h st a [v] → VC h st a' [v]) : ∀ (hd : List AV) {tl : List AV} {vs : List Value}, aY h st (hd ++ a :: tl) vs → aY h st (hd ++ a' :: tl) vs
 | [], tl, vs, x => by
  simp only [eR, aY] at x ⊢
  obtain ⟨c, r, e, x1, x2⟩ := x
  exact ⟨c, r, e, hv c x1, x2⟩
 | y :: hd, tl, vs, x => by
  simp only [fF, aY] at x ⊢
  obtain ⟨c, r, e, x1, x2⟩ := x
  exact ⟨c, r, e, x1, aGZ hv hd x2⟩
theorem fK.aQS {φ : AF} {st : aB} {c : Nat} {hd tl : List AV} {a : AV} (hc : st c = some (.cells (hd ++ a :: tl))) : fK φ st φ (st.aC c (.cells (hd ++ a.soft :: tl))) := fun h tmps S F => by
 have T : cC h st h (st.aC c (.cells (hd ++ a.soft :: tl))) := cC.of fun x hx => by
  have : x ≠ c := by rintro rfl; rw [hc] at hx; cases hx
  rw [aB.aM _ _ this]; exact hx
 refine ⟨fun x o hx => ?_, T, fun d => (F d).mono T⟩
 by_cases e : x = c
 · subst e
   rw [aB.aO] at hx
   cases hx
   obtain ⟨hl, c0, t, e1, e2, vs, e3, e4⟩ := S x _ hc
   refine ⟨hl, c0, t, e1, ?_, vs, e3, aY.mono T _ _ (aGZ (fun v hv => VC.soft a [v] hv) hd e4)⟩
   simpa using e2
 · rw [aB.aM _ _ e] at hx
   obtain ⟨hl, y⟩ := S x o hx
   exact ⟨hl, k9.mono T rfl y⟩
end
abbrev vZ := zi tI_3 (zi zI_3 (zi aX (zi tI_31 (zi zI_31 (zi aN (zi bF (zi bE (zi b9 (zi tI_63 (zi zI_63 (zi bS (zi bR (zi bP (zi bQ (zi bT (zi tI_76 (zi zI_76 (zi lF (zi lI lS)))))))))))))))))))
theorem LP (cl : Cl) (h1 : cl.1.small = true) (h2 : cl.2.length ≤ 1048576) (h3 : ∀ x ∈ cl.2, x.small = true) (st : aB) : aD prog 80 [b7 cl] st (fun r st' => r = b7 cl ∧ st' = st) := by
 obtain ⟨⟨k, n, s, ks⟩, ts⟩ := cl
 have hhd := fun st => xT (.mk k n s ks) st h1
 simp only [aV] at hhd
 have IH := fun (x : Tm) (hx : x ∈ ts) st => xT x st (h3 x hx)
 have hlen : ts.length ≤ 1048576 := h2
 refine aD.pR (aD.fin ?_)
 simp only [gH]
 refine wF [] 1 func80 ntmps80 rfl rfl ?_
 simp only [eE, AV.fits, eM, aF]
 intro ⟨_, _, _, _, hl, _⟩
 simp -implicitDefEqProofs only [aA, seval, vZ]
 intro b2 hb2
 refine (hhd _).to ?_
 simp -implicitDefEqProofs only [aK, aA, seval, vZ]
 intro c hc
 have hne : c ≠ b2 := by rintro rfl; rw [aB.aO] at hc; cases hc
 have hn2 : st c = none := by rw [aB.aM st _ hne] at hc; exact hc
 have m7 : b2 ≠ c := dB hne
 refine eK (σ := Nat) [] [1, 2, 3] ts (fun i b => (((ts.take i).map (fun y => y)).map Tm.av ≠ [] → (aB.aC (st.aC b2 (.cells [AV.int .i64 0, AV.int .i64 0, AV.str ⟨#[]⟩, AV.fslice [], AV.fslice []])) c (.cells ([AV.int .i64 k, AV.int .i64 n, AV.str s, AV.slice (ks.map Tm.av)] ++ [a9 4 b (((ts.take i).map (fun y => y)).map Tm.av)]))) b = none)) (fun i b => [(4, .int .i64 i)]) (fun i b => eV (st.aC b2 (.cells [AV.int .i64 0, AV.int .i64 0, AV.str ⟨#[]⟩, AV.fslice [], AV.fslice []])) c b [AV.int .i64 k, AV.int .i64 n, AV.str s, AV.slice (ks.map Tm.av)] (((ts.take i).map (fun y => y)).map Tm.av)) (by decide +kernel)
  ⟨0, fun h => absurd rfl h, aP.mk (by simp -implicitDefEqProofs only [aA, ↓aU, seval])⟩ (fun i x b hx hlt bU hdr hinv => ?_) (fun b hge hinv => ?_)
 case refine_1 =>
  have hw := bK (n := (i : Int) + 1)
  have cV : (((ts.take i).map (fun y => y)).map Tm.av).length = i := by simp only [aF, d7]; omega
  have htk : (ts.take (i + 1)).map (fun y => y) = (ts.take i).map (fun y => y) ++ [(fun y => y) x] := by rw [fM, hx]; simp
  have hbo := eC hinv
  simp -implicitDefEqProofs only [aF, bU, aA, seval, vZ]
  refine wP [(0, 1), (2, 1), (4, 1), (1, 2), (3, 2), (5, 1), (6, 2), (7, 2), (8, 1), (9, 0), (10, 1), (11, 0)] [0, 2, 4, 1, 3, 5, 6, 7, 8, 10] mixed ?_
  simp -implicitDefEqProofs only [bL (av := Tm.av) aN hx (aH x), aT, aH, hbo, mD, gV, aA, seval, vZ]
  refine i8 (IH x (cW hx) _) ?_
  simp -implicitDefEqProofs only [aT, aH, cG, gV, aA, seval, vZ]
  refine eN aN bF bE rfl rfl (fC (aH _) (bZ _)) (dR _) hinv (by simp only [cV, aS, a7]; omega) (by simp only [cV, aS, a7]; omega) (fun b' hb' => ?_)
  rw [show (((ts.take i).map (fun y => y)).map Tm.av) ++ [((fun y => y) x).av] = ((ts.take (i + 1)).map (fun y => y)).map Tm.av by rw [htk]; simp] at hb' ⊢
  obtain ⟨g1, g2, g3⟩ := nG hb'
  simp only [fF, eR] at g1 g3
  simp -implicitDefEqProofs only [g3, mB, eU, aK, g1, hw, aK, aA, seval, vZ]
  exact ⟨b', g2, aP.mk (by simp -implicitDefEqProofs only [aA, seval])⟩
 have hbo := eC hinv
 rw [eS] at hinv hbo ⊢
 simp -implicitDefEqProofs only [aF, hge, aA, seval, vZ]
 simp -implicitDefEqProofs only [hbo, aK, aA, seval, vZ]
 have hS : (st.aC b2 (.cells [AV.int .i64 0, AV.int .i64 0, AV.str ⟨#[]⟩, AV.fslice [], AV.fslice []])) b2 ≠ none := by rw [aB.aO]; simp
 have h1 := gC hinv hS m7
 rw [aB.aO] at h1
 simp -implicitDefEqProofs only [h1, eU, aA, seval]
 obtain ⟨h2, h3⟩ := j0 (o := .cells [AV.int .i64 k, AV.int .i64 n, AV.str s, AV.slice (ks.map Tm.av), a9 4 b ((ts.map fun y => y).map Tm.av)]) hinv hS m7
 refine ⟨b, _, _, h2, h3, hH _, ⟨4, dR _⟩, ?_, ?_⟩
 · simp only [fL, bA, aW, d9, iO, iE, iG, List.map_id']
 · exact (((aL.refl _).aC hb2).aC hn2).aC hb2
structure Ss where
 p : List Cl
 q : List Tm
 a01 : Int
 used : Int
 a05 : Int
 fin : Int
theorem zR (l : List Cl) : ∀ e ∈ l.map b7, e.width = 5 := by intro e h; simp only [cU] at h; obtain ⟨t, _, rfl⟩ := h; exact oR t
theorem HE (l : List Cl) : ∀ e ∈ l.map b7, e.cB = false := by intro e h; simp only [cU] at h; obtain ⟨t, _, rfl⟩ := h; exact JM t

def iF (p : List Cl) (q : List Tm) (most fuel : Int) : Bool := pY p && (lV q && (decide (0 ≤ most) && (decide (most ≤ 20) && (decide (0 ≤ fuel) && decide (fuel ≤ 300)))))
noncomputable def iJ (p : List Cl) (cnd : Tm → List Nat → List Nat) (q : List Tm) (most fuel : Int) : List (List Tm) × Int := if iF p q most fuel = true then rV p cnd q most.toNat fuel.toNat else ([], 9)
theorem MK {p : List Cl} (h : pY p = true) : p.length ≤ 20 ∧ ∀ c ∈ p, gE c ∧ c.2.length ≤ 6 := by
 simp only [pY, cM, bJ, eW] at h
 refine ⟨h.1, fun c hc => ⟨aW5 (h.2 c hc), ?_⟩⟩
 have := h.2 c hc
 simp only [k7, cM, bJ, eW] at this
 exact this.2.1
theorem I8 {q : List Tm} (h : lV q = true) : q.length ≤ 6 ∧ ∀ t ∈ q, bD 26 t ∧ t.k = 3 := by
 simp only [lV, cM, bJ, eW] at h
 refine ⟨h.1, fun t ht => ?_⟩
 have hg := h.2 t ht
 have hk : t.valid = true ∧ t.k = 3 := by
  obtain ⟨k, n, s, ts⟩ := t
  simp only [Tm.goal, cM] at hg
  refine ⟨hg.1, ?_⟩
  have := hg.2
  simp only [wG, pK, qZ, cM, bJ] at this
  simp only [Tm.k]
  rcases this with (h | h) | h <;> first | exact h.1 | exact h.1.1 | exact h.1.1.1
 exact ⟨⟨Tm.DK hk.1, Tm.HJ hk.1⟩, hk.2⟩
abbrev AQ := zi tI_3 (zi zI_3 (zi aX (zi tI_4 (zi zI_4 (zi cF (zi tI_26 (zi zI_26 (zi qR (zi tP (zi sO (zi vO (zi tI_29 (zi zI_29 (zi gZ (zi j8 (zi j6 (zi kU (zi tI_31 (zi zI_31 (zi aN (zi bF (zi bE b9))))))))))))))))))))))
theorem aY7 (p : List Cl) (q : List Tm) (most fuel : Int) (st : aB) :
 aD prog 37 [.slice (p.map b7), .slice (q.map Tm.av), .int .i64 most, .int .i64 fuel] st (fun r st' => r = .tup [.slice ((iJ p (fun _ l => l) q most fuel).1.map c9), .int .i64 (iJ p (fun _ l => l) q most fuel).2] ∧ st' = st) := by
 refine aD.done ?_
 have oC : iF p q most fuel = false → ∀ {st'}, st' = st → (AV.tup [AV.fslice [], .int .i64 9]).soft = .tup [.slice ((iJ p (fun _ l => l) q most fuel).1.map c9), .int .i64 (iJ p (fun _ l => l) q most fuel).2] ∧ aL st' st := fun h _ e => by
  subst e
  unfold iJ
  rw [aE (by rw [h]; simp)]
  exact ⟨by simp only [kC, jV, l9, bA, aW], aL.refl _⟩
 refine wF [1000000] 4 func37 ntmps37 rfl rfl ?_
 intro _
 simp -implicitDefEqProofs only [aA, seval]
 refine (aYK p _).to ?_
 simp -implicitDefEqProofs only [aA, seval]
 refine cS (fun h => ?_) (fun h => ?_)
 case refine_2 =>
  simp -implicitDefEqProofs only [h, aA, seval, AQ]
  exact oC (by simp at h; simp [iF, h]) rfl
 have hp : pY p = true := by simpa using h
 simp -implicitDefEqProofs only [h, aA, seval]
 refine (aD4 q _).to ?_
 simp -implicitDefEqProofs only [aA, seval]
 refine cS (fun h2 => ?_) (fun h2 => ?_)
 case refine_2 =>
  simp -implicitDefEqProofs only [h2, aA, seval, AQ]
  exact oC (by simp at h2; simp [iF, h2]) rfl
 have hq : lV q = true := by simpa using h2
 simp -implicitDefEqProofs only [h2, aA, seval]
 refine cS (fun h3 => ?_) (fun h3 => ?_)
 case refine_2 =>
  simp -implicitDefEqProofs only [h3, aA, seval, AQ]
  exact oC (by simp at h3; simp only [iF]; rw [show decide (0 ≤ most) = false from fH (by omega)]; simp) rfl
 have h3' : 0 ≤ most := by simpa using h3
 simp -implicitDefEqProofs only [h3, aA, seval]
 refine cS (fun h4 => ?_) (fun h4 => ?_)
 case refine_2 =>
  simp -implicitDefEqProofs only [h4, aA, seval, AQ]
  exact oC (by simp at h4; simp only [iF]; rw [show decide (most ≤ 20) = false from fH (by omega)]; simp) rfl
 have h4' : most ≤ 20 := by simpa using h4
 simp -implicitDefEqProofs only [h4, aA, seval]
 refine cS (fun h5 => ?_) (fun h5 => ?_)
 case refine_2 =>
  simp -implicitDefEqProofs only [h5, aA, seval, AQ]
  exact oC (by simp at h5; simp only [iF]; rw [show decide (0 ≤ fuel) = false from fH (by omega)]; simp) rfl
 have h5' : 0 ≤ fuel := by simpa using h5
 simp -implicitDefEqProofs only [h5, aA, seval]
 refine aQ (fun h6 => ?_) (fun h6 => ?_)
 · simp -implicitDefEqProofs only [aA, seval, AQ]
   exact oC (by simp at h6; simp only [iF]; rw [show decide (fuel ≤ 300) = false from fH (by omega)]; simp) rfl
 have h6' : fuel ≤ 300 := by simpa using h6
 obtain ⟨p1, p2⟩ := MK hp
 obtain ⟨q1, q2⟩ := I8 hq
 obtain ⟨m, rfl⟩ := tT h3'
 obtain ⟨f, rfl⟩ := tT h5'
 simp -implicitDefEqProofs only [aA, seval]
 refine (aTF p2 p1 q2 q1 (by omega) (by omega) _).to ?_
 simp -implicitDefEqProofs only [aA, seval]
 refine ⟨?_, aL.refl _⟩
 have hok : iF p q m f = true := by simp [iF, hp, hq, h4', h6']
 unfold iJ
 rw [aG hok]
 simp only [kC, jV, qC, bA, aW, lY]
end Go.AW
namespace Go.AW

def tG : Tm := .mk 3 0 ⟨#[116, 114, 117, 101]⟩ []
theorem aZ5 (f : Int → Tm) (b : ByteArray) : (Tm.mk 3 0 b []).aJ f = Tm.mk 3 0 b [] := by
 unfold Tm.aJ
 rw [aE (by decide)]
 try rfl
theorem aVH {p : List Cl} {cnd : Tm → List Nat → List Nat} {s : RS} {g : RG} {rest : List RG} {b : ByteArray} (hb : b = ⟨#[116, 114, 117, 101]⟩ ∨ b = ⟨#[102, 97, 105, 108]⟩) (hg : g.t = .mk 3 0 b []) :
 iX p cnd s g rest = if b = ⟨#[116, 114, 117, 101]⟩ then .go ⟨rest, s.σ, s.N, s.chs⟩ else .fail := by
 have hm : (Tm.mk 3 0 b []).aJ (rs s.σ) = Tm.mk 3 0 b [] := aZ5 (rs s.σ) b
 have fT : eH (.mk 3 0 b []) = true := rfl
 have tH : n9 (.mk 3 0 b []) = false := by
  have h : ¬ (Tm.mk 3 0 b []).s = ⟨#[33]⟩ := by
   show ¬ b = _
   rcases hb with rfl | rfl <;> decide
  unfold n9
  simp [h]
 have hbi : isBuiltin (Tm.mk 3 0 b []).s ((Tm.mk 3 0 b []).ts.length : Int) = true := by
  show isBuiltin b 0 = true
  rcases hb with rfl | rfl <;> decide
 unfold iX
 rw [hg, hm]
 simp only [fT, tH, hbi, Bool.true_eq_false, jC, dZ, fY]
 simp only [Tm.s, Tm.ts, c8, gX]
 have hne : ¬ ((⟨#[102, 97, 105, 108]⟩ : ByteArray) = ⟨#[116, 114, 117, 101]⟩) := by decide
 rcases hb with rfl | rfl
 · simp
 · simp [hne]
theorem aYC (p : List Cl) (cnd : Tm → List Nat → List Nat) (q : List Tm) (most fuel : Nat) : rV p cnd (tG :: q) most (fuel + 1) = rV p cnd q most fuel := by
 unfold rV
 have hv : bY (tG :: q) [] = bY q [] := rfl
 rw [hv, xW (s := lR (tG :: q)) (g := ⟨tG, 0⟩) (rest := q.map fun t => ⟨t, 0⟩) rfl, aE (by omega), aVH (.inl rfl) rfl, aG rfl]
 try rfl
theorem aTN {p : List Cl} {cnd : Tm → List Nat → List Nat} {q : List Tm} {most fuel : Int} (h : iF p q most fuel = false) : iJ p cnd q most fuel = ([], 9) := by
 unfold iJ
 rw [h]; try rfl
theorem OZ {p : List Cl} {cnd : Tm → List Nat → List Nat} {q : List Tm} {most fuel : Int} (h : iF p q most fuel = true) : iJ p cnd q most fuel = rV p cnd q most.toNat fuel.toNat := by
 unfold iJ
 rw [aG h]
theorem aU3 {p : List Cl} {q : List Tm} {most fuel : Int} : iF p q most fuel = true ↔ (pY p = true ∧ lV q = true ∧ 0 ≤ most ∧ most ≤ 20 ∧ 0 ≤ fuel ∧ fuel ≤ 300) := by
 simp only [iF, cM, bJ]
theorem aSA {p : List Cl} {cnd : Tm → List Nat → List Nat} {s : RS} {g : RG} {rest : List RG} {e : Int} (h : iX p cnd s g rest = .stop e) : e ≠ 9 := by
 unfold iX at h
 intro he
 subst he
 repeat' split at h
 all_goals first | (cases h; done) | (injection h with h; unfold pV at h; repeat' split at h; all_goals omega) | (injection h with h; omega)
theorem aUH (p : List Cl) (cnd : Tm → List Nat → List Nat) (vars : List Int) : ∀ (n most f : Nat) (s : RS), most + f ≤ n → (jX p cnd vars most f s).2 ≠ 9 ∧ (jX p cnd vars most f s).1.length ≤ most := by
 intro n
 induction n with
 | zero =>
  intro most f s hn
  obtain rfl : most = 0 := by omega
  obtain rfl : f = 0 := by omega
  cases hg : s.goals with
  | nil => rw [GA hg]; simp
  | cons g rest => rw [xW (fuel := 0) hg]; simp
 | succ n ih =>
  intro most f s hn
  cases hg : s.goals with
  | nil =>
   rw [GA hg]
   by_cases hm : most = 0
   · rw [aG hm]; simp
   rw [aE hm]
   cases ha : jL s.σ vars with
   | none => simp
   | some a =>
    simp only
    cases hb : f9 p s.chs.length s.chs with
    | none => simp; omega
    | some s' =>
     obtain ⟨h1, h2⟩ := ih (most - 1) f s' (by omega)
     simp only [aS]
     exact ⟨h1, by omega⟩
  | cons g rest =>
   by_cases hf : f = 0
   · subst hf
     rw [xW (fuel := 0) hg]; simp
   rw [xW hg, aE hf]
   cases hst : iX p cnd s g rest with
   | stop e => exact ⟨aSA hst, jD _⟩
   | go s' => exact ih most (f - 1) s' (by omega)
   | fail =>
    simp only
    cases hb : f9 p s.chs.length s.chs with
    | none => simp
    | some s' => exact ih most (f - 1) s' (by omega)
theorem aHL {p : List Cl} {cnd : Tm → List Nat → List Nat} {q : List Tm} {most fuel : Int} : (iJ p cnd q most fuel).2 = 9 ↔ iF p q most fuel = false := by
 constructor
 · intro h
   cases hk : iF p q most fuel with
   | false => rfl
   | true => rw [OZ hk] at h; exact absurd h (aUH p cnd _ _ _ _ _ (c7 _)).1
 · intro h
   rw [aTN h]
theorem aOL {p : List Cl} {cnd : Tm → List Nat → List Nat} {q : List Tm} {most fuel : Int} (h : iF p q most fuel = true) (h' : iF p (tG :: q) most (fuel + 1) = true) : iJ p cnd (tG :: q) most (fuel + 1) = iJ p cnd q most fuel := by
 obtain ⟨h1, h2, h3, h4, h5, h6⟩ := aU3.1 h
 rw [OZ h, OZ h', show (fuel + 1).toNat = fuel.toNat + 1 by omega]
 exact aYC p cnd q _ _
def n6 (l : List IC) : Nat := (l.map fun c => c.list.length).sum
theorem OF (l m : List IC) : n6 (l ++ m) = n6 l + n6 m := by simp [n6]
theorem aB0 (c : IC) : n6 [c] = c.list.length := by simp [n6]
theorem aJD (l : List IC) (k : Nat) : n6 (l.take k) ≤ n6 l := by
 have := OF (l.take k) (l.drop k)
 rw [sK] at this
 omega
structure IX (p : List Cl) (M : Nat) (i : IS) : Prop where
 tnd : i.tr.Nodup
 tin : ∀ n ∈ i.tr, (0 ≤ n ∧ n < (i.fresh : Int)) ∧ i.σ n ≠ none
 phi : i.fresh + 26 * n6 i.chs ≤ M
 ch : ∀ c ∈ i.chs, c.node < c.taken ∧ c.taken ≤ i.nn ∧ c.eP ≤ i.tr.length ∧ ∀ x ∈ c.list, x < p.length
 mono : i.chs.Pairwise (fun c d => c.taken ≤ d.taken ∧ c.eP ≤ d.eP)
theorem IX.up {p : List Cl} {M M' : Nat} {i : IS} (h : IX p M i) (hM : M ≤ M') : IX p M' i := ⟨h.tnd, h.tin, nC h.phi hM, h.ch, h.mono⟩
theorem IX.NR {p : List Cl} {M : Nat} {i : IS} (h : IX p M i) : i.tr.length ≤ i.fresh := A0 h.tnd fun n hn => (h.tin n hn).1
theorem ID {p : List Cl} (hp : ∀ c ∈ p, gE c) {M : Nat} {goal : Tm} {at' : Nat} {rest : List IG} : ∀ (l : List Nat) (s : IS), (∀ x ∈ l, x < p.length) → at' < s.nn → s.fresh + 26 * n6 s.chs + 26 * l.length ≤ M → IX p M s → cK s.σ → cP (bD s.fresh) s.σ → bD s.fresh goal →
 IX p M (gF p goal at' rest l s).2
 | [], s, _, _, _, h, _, _, _ => by unfold gF; exact h
 | j :: l, s, hl, ha, hM, h, hg, ho, hgo => by
  obtain ⟨x, hx⟩ : ∃ x, p[j]? = some x := ⟨_, fG (hl j (by simp))⟩
  have hX := hp x (cW hx)
  have hl' : ∀ x ∈ l, x < p.length := fun x h => hl x (by simp [h])
  simp only [aS] at hM
  unfold gF
  simp only [hx]
  split
  · have hhd : bD ((s.fresh + 26 : Nat) : Int) (dC s.fresh x.1) := (hX.dC s.fresh x.1 (by simp)).mono (by have := hX.fr.1; omega)
    obtain ⟨r, σ', add, U⟩ := sF (N := s.fresh + 26) hg (fun n u e => (ho n u e).mono (by omega)) (hgo.mono (by omega)) hhd
    rw [U.eq]
    have S := U.uH
    refine ⟨?_, ?_, ?_, ?_, ?_⟩
    · simp only
      refine tU.2 ⟨h.tnd, S.nodup, fun a ha b hb e => ?_⟩
      subst e
      exact (h.tin a ha).2 (S.new a hb).1
    · intro n hn
      simp only [fR] at hn ⊢
      rcases hn with hn | hn
      · have h1 := h.tin n hn
        have hna : n ∉ add := fun ha => h1.2 (S.new n ha).1
        exact ⟨⟨h1.1.1, by have := h1.1.2; omega⟩, by rw [S.a8 n hna]; exact h1.2⟩
      · have := S.fO n hn
        exact ⟨⟨this.1, by omega⟩, (S.new n hn).2⟩
    · simp only
      split
      · omega
      · rw [OF, aB0]; simp only; omega
    · intro c hc
      have key : ∀ c ∈ s.chs, c.node < c.taken ∧ c.taken ≤ s.nn ∧ c.eP ≤ (s.tr ++ add).length ∧ ∀ x ∈ c.list, x < p.length := fun c hc => by
       obtain ⟨h1, h2, h3, h4⟩ := h.ch c hc
       exact ⟨h1, h2, by rw [dQ]; omega, h4⟩
      simp only at hc ⊢
      split at hc
      · exact key c hc
      · rcases fR.1 hc with hc | hc
        · exact key c hc
        · simp only [cY, dP, d4] at hc
          subst hc
          exact ⟨ha, c7 _, by rw [dQ]; simp only; omega, hl'⟩
    · simp only
      split
      · exact h.mono
      · refine List.pairwise_append.2 ⟨h.mono, List.pairwise_singleton _ _, fun a ha b hb => ?_⟩
        simp only [cY, dP, d4] at hb
        subst hb
        obtain ⟨h1, h2, h3, h4⟩ := h.ch a ha
        exact ⟨h2, h3⟩
  · refine ID hp l { s with fresh := s.fresh + 26 } hl' ha (by simp only; omega) ⟨h.tnd, fun n hn => ?_, by simp only; omega, h.ch, h.mono⟩ hg (fun n u e => (ho n u e).mono (by simp only; omega)) (hgo.mono (by simp only; omega))
    have := h.tin n hn
    exact ⟨⟨this.1.1, by simp only; omega⟩, this.2⟩
theorem IX.pop {p : List Cl} {M : Nat} {gl : List IG} {τ : Sub} {tr : List Int} {ds : List IC} {d : IC} {F nn : Nat} (h : IX p M ⟨gl, τ, tr, ds ++ [d], F, nn⟩) :
 IX p M ⟨gl, τ.out (tr.drop d.eP), tr.take d.eP, ds, F, d.taken⟩ ∧ F + 26 * n6 ds + 26 * d.list.length ≤ M ∧ d.node < d.taken ∧ d.taken ≤ nn ∧ d.eP ≤ tr.length ∧ ∀ x ∈ d.list, x < p.length := by
 obtain ⟨h1, h2, h3, h4⟩ := h.ch d (by simp)
 have aTM := h.phi
 simp only [OF, aB0] at aTM
 have hm := List.pairwise_append.1 h.mono
 have hnd := h.tnd
 simp only at hnd h2 h3
 have hsp : tr.take d.eP ++ tr.drop d.eP = tr := sK _ _
 rw [← hsp, tU] at hnd
 refine ⟨⟨hnd.1, fun n hn => ?_, by simp only; omega, fun c hc => ?_, hm.1⟩, by omega, h1, h2, h3, h4⟩
 · have := h.tin n (lW hn)
   refine ⟨this.1, ?_⟩
   simp only
   unfold Sub.out
   rw [aE (fun hd => hnd.2.2 n hn n hd rfl)]
   exact this.2
 · obtain ⟨g1, g2, g3, g4⟩ := h.ch c (by simp [hc])
   have := hm.2.2 c hc d (by simp)
   exact ⟨g1, this.1, by simp only [d7]; simp only at g3; omega, g4⟩
theorem aL7 {p : List Cl} (hp : ∀ c ∈ p, gE c) {M : Nat} : ∀ (n : Nat) (cs : List RC) (i : IS), iI i.fresh cs i.chs i.σ i.tr → IX p M i → ∀ i', gO p n i = some i' → IX p M i'
 | 0, _, _, _, _, i', h => by simp [gO] at h
 | n + 1, cs, i, C, h, i', e => by
  obtain ⟨gl, τ, tr, ds, F, nn⟩ := i
  simp only at C
  cases C with
  | nil => simp only [gO, List.getLast?_nil] at e; cases e
  | @snoc cs ds c d _ _ C h1 h2 =>
   obtain ⟨hP, hM, hnt, htn, htr, hli⟩ := h.pop
   have e3 : (IS.pop ⟨gl, τ, tr, ds ++ [d], F, nn⟩ d) = ⟨gl, τ.out (tr.drop d.eP), tr.take d.eP, ds, F, d.taken⟩ := by simp only [IS.pop, RJ]
   simp only [gO, List.getLast?_append, List.getLast?_singleton, Option.some_or, e3] at e
   obtain ⟨ρ, S, e1, hok, hG, e2⟩ := h1
   have hX := ID hp (rest := d.rest) d.list _ hli (at' := d.node) (by simp only; exact hnt) (by simp only; exact hM) hP S.g2 S.o2 (e1 ▸ S.yE hok)
   split at e
   · cases e
     exact hX
   · rename_i hf
     have key := J7 hp (cs := cs) (nn := d.taken) (at' := d.node) (tr := tr.take d.eP) hok hG c.left F gl S C
     rw [← e1, ← e2] at key
     cases ht : iB p cs c.goal c.rest c.σ c.N c.left with
     | some s =>
      rw [e2, ht] at key
      obtain ⟨i2, k1, _⟩ := key
      rw [← e2] at k1
      rw [k1] at hf
      simp at hf
     | none =>
      rw [e2, ht] at key
      obtain ⟨F', hF, k1⟩ := key
      rw [← e2] at k1
      rw [k1] at e hX
      exact aL7 hp n cs _ (C.mono hF) hX i' e
end Go.AW
namespace Go.AW
open Go.Proofs.Tryz
def eA : List IG → AV
 | [] => .nilptr
 | ⟨.mk k n s ts, cut, up⟩ :: l => .pptr (.agg [.int .i64 k, .int .i64 n, .str s, .slice (ts.map Tm.av), .int .i64 (cut : Int), .int .i64 up, eA l])
theorem sE (k n : Int) (s : ByteArray) (ts : List Tm) (cut : Nat) (up : Int) (l : List IG) : eA (⟨.mk k n s ts, cut, up⟩ :: l) = .pptr (.agg [.int .i64 k, .int .i64 n, .str s, .slice (ts.map Tm.av), .int .i64 (cut : Int), .int .i64 up, eA l]) := by rw [eA]
theorem n8 (l : List IG) : (eA l).isAgg = false ∧ (eA l).width = 1 ∧ (eA l).cB = false ∧ (eA l).cells = [eA l] ∧ (eA l).storable = true ∧ (eA l).soft = eA l := by
 cases l with
 | nil => rw [eA]; exact ⟨rfl, rfl, rfl, rfl, rfl, rfl⟩
 | cons g l => obtain ⟨⟨k, n, s, ts⟩, cut, up⟩ := g; rw [sE]; exact ⟨rfl, rfl, rfl, rfl, rfl, rfl⟩
abbrev aAY := zi tI_3 (zi zI_3 (zi aX (zi tI_31 (zi zI_31 (zi aN (zi bF (zi bE (zi b9 (zi tI_63 (zi zI_63 (zi bS (zi bR (zi bP (zi bQ (zi bT (zi tI_150 (zi zI_150 (zi tI_185 (zi zI_185 (zi aAM (zi aIS (zi aAF (zi aIE aDN)))))))))))))))))))))))
theorem OQ (bd : List Tm) (cut : Nat) (up : Int) (rest : List IG) (hl : bd.length ≤ 1048576) (st : aB) :
 aD prog 112 [.slice (bd.map Tm.av), .int .i64 (cut : Int), .int .i64 up, eA rest] st (fun r st' => r = eA (bd.map (fun t => (⟨t, cut, up⟩ : IG)) ++ rest) ∧ st' = st) := by
 obtain ⟨r1, r2, r3, r4, r5, r6⟩ := n8 rest
 refine aD.done ?_
 refine wF [1000000] 4 func112 ntmps112 rfl rfl ?_
 intro _
 have hw0 := bK (n := (bd.length : Int) - 1)
 simp -implicitDefEqProofs only [aF, hw0, aA, seval, aAY]
 refine g9 (σ := Nat) [1000000] [0, 1, 2, 8] (fun j => j ≤ bd.length) (fun j => [(3, eA ((bd.drop j).map (fun t => (⟨t, cut, up⟩ : IG)) ++ rest)), (9, .int .i64 ((j : Int) - 1))]) (fun _ => st) (fun j => j) (by decide +kernel) ⟨bd.length, c7 _, aP.mk (by simp -implicitDefEqProofs only [kF, aW, eR, aA, seval])⟩ ?_
 intro j hj
 cases j with
 | zero =>
  rw [tS]
  obtain ⟨s1, s2, s3, s4, s5, s6⟩ := n8 (bd.map (fun t => (⟨t, cut, up⟩ : IG)) ++ rest)
  simp -implicitDefEqProofs only [u7, ↓K4, List.contains, List.elem, ↓reduceIte, reduceCtorEq, Nat.reduceEqDiff]
  refine aQ (fun h => absurd h (by simp)) (fun h => ?_)
  simp -implicitDefEqProofs only [aA, seval]
  exact ⟨s6, aL.refl _⟩
 | succ j =>
 obtain ⟨s1, s2, s3, s4, s5, s6⟩ := n8 ((bd.drop (j + 1)).map (fun t => (⟨t, cut, up⟩ : IG)) ++ rest)
 obtain ⟨x, hx⟩ : ∃ x, bd[j]? = some x := ⟨_, fG (by omega)⟩
 have hat := bL (av := Tm.av) (P := prog) aN hx (aH x)
 have hdr : bd.drop j = x :: bd.drop (j + 1) := by
  obtain ⟨h1, h2⟩ := gQ.1 hx
  rw [qW h1, h2]
 have hc : ((j + 1 : Nat) : Int) - 1 = (j : Int) := by omega
 have hw := bK (n := (j : Int) - 1)
 have hnx : eA ((bd.drop j).map (fun t => (⟨t, cut, up⟩ : IG)) ++ rest) = .pptr (.agg (x.av.cells ++ [.int .i64 (cut : Int), .int .i64 up, eA ((bd.drop (j + 1)).map (fun t => (⟨t, cut, up⟩ : IG)) ++ rest)])) := by
  rw [hdr]
  obtain ⟨k, n, s, ts⟩ := x
  rw [bA, fF, sE, aV]
  try rfl
 generalize eA ((bd.drop (j + 1)).map (fun t => (⟨t, cut, up⟩ : IG)) ++ rest) = A at *
 obtain ⟨k, n, s, ts⟩ := x
 simp only [aV] at hat hnx
 rw [hc]
 simp -implicitDefEqProofs only [aA, seval]
 refine aQ (fun h => ?_) (fun h => absurd h (by simp))
 simp -implicitDefEqProofs only [s3, s4, hat, hw, aA, seval, aAY]
 trace_state
 refine ⟨j, by omega, by omega, aP.mk (by rw [hnx]; simp -implicitDefEqProofs only [aA, seval])⟩
theorem aOC (c : Int) (st : aB) : aD prog 151 [.int .i64 c] st (fun r st' => r = .int .i64 (pV c) ∧ st' = st) := by
 refine aD.done ?_
 refine wF [1000000] 1 func151 ntmps151 rfl rfl ?_
 intro _
 simp -implicitDefEqProofs only [aA, seval]
 unfold pV
 refine aQ (fun h => ?_) (fun h => ?_)
 · simp -implicitDefEqProofs only [aA, seval]
   have h' : c = 2 := by simpa using h
   exact ⟨by rw [aG h']; try rfl, aL.refl _⟩
 rw [aE (show ¬ c = 2 by simpa using h)]
 simp -implicitDefEqProofs only [aA, seval]
 refine aQ (fun h => ?_) (fun h => ?_)
 · simp -implicitDefEqProofs only [aA, seval]
   have h' : c = 3 := by simpa using h
   exact ⟨by rw [aG h']; try rfl, aL.refl _⟩
 rw [aE (show ¬ c = 3 by simpa using h)]
 simp -implicitDefEqProofs only [aA, seval]
 refine aQ (fun h => ?_) (fun h => ?_)
 · simp -implicitDefEqProofs only [aA, seval]
   have h' : c = 4 := by simpa using h
   exact ⟨by rw [aG h']; try rfl, aL.refl _⟩
 rw [aE (show ¬ c = 4 by simpa using h)]
 simp -implicitDefEqProofs only [aA, seval]
 exact ⟨rfl, aL.refl _⟩
abbrev aTH := zi tI_9 (zi zI_9 (zi cH (zi tI_31 (zi zI_31 (zi aN (zi bF (zi bE (zi b9 (zi tI_63 (zi zI_63 (zi bS (zi bR (zi bP (zi bQ (zi bT (zi tI_193 (zi zI_193 (zi NA (zi Q7 NO)))))))))))))))))))
theorem aKI (k n : Int) (s : ByteArray) (ts : List Tm) (st : aB) : aD prog 153 [(Tm.mk k n s ts).av] st (fun r st' => r = .agg [.str s, .int .i64 (ts.length : Int)] ∧ st' = st) := by
 refine aD.done ?_
 simp only [aV]
 refine wF [1000000] 1 func153 ntmps153 rfl rfl ?_
 intro _
 simp -implicitDefEqProofs only [aK, aF, aA, seval, aTH]
 intro b2 h2
 exact ⟨by simp only [j5, jV, lB, bA, aW], (aL.refl _).aC h2⟩
abbrev GD := zi tI_3 (zi zI_3 (zi aX (zi tI_29 (zi zI_29 (zi gZ (zi j8 (zi j6 (zi kU (zi tI_51 (zi zI_51 (zi dV (zi fS (zi fV (zi gA (zi tI_63 (zi zI_63 (zi bS (zi bR (zi bP (zi bQ (zi bT (zi tI_76 (zi zI_76 (zi lF (zi lI (zi lS (zi tI_193 (zi zI_193 (zi NA (zi Q7 NO))))))))))))))))))))))))))))))
theorem aMG (p : List Cl) (t : Tm) (hp : p.length ≤ 1048576) (st : aB) : aD prog 152 [.slice (p.map b7), .agg [.str t.s, .int .i64 (t.ts.length : Int)]] st (fun r st' => r = .slice ((fD p t).map nv) ∧ st' = st) := by
 rw [G9]
 refine aD.done ?_
 obtain ⟨tk, tn, ts', tts⟩ := t
 simp only [Tm.s, Tm.ts]
 refine wF [1000000] 2 func152 ntmps152 rfl rfl ?_
 intro _
 simp -implicitDefEqProofs only [aF, aA, seval, GD]
 refine rD (σ := Unit) [1000000] [3, 4, 8, 9] p 1 5 (fun i _ => ((List.range i).filter (pF p (.mk tk tn ts' tts))).map nv) (fun _ _ => True) (fun i _ => [(10, .int .i64 i)]) (fun _ _ => st) (fun i _ _ e he => by simp only [cU] at he; obtain ⟨t, _, rfl⟩ := he; exact ⟨rfl, rfl⟩) (by decide +kernel) ⟨(), 0, trivial, fun h => absurd rfl h, aP.mk (by simp -implicitDefEqProofs only [jH, List.range_zero, List.filter_nil, aW, aA, ↓aU, seval])⟩ (fun i x _ b hx hlt bU hdr hinv hb => ?_) (fun _ b hge hinv => ?_)
 case refine_2 =>
  simp -implicitDefEqProofs only [hge, d9, iE, oP, B0, lP, aA, seval]
  exact ⟨rfl, aL.refl _⟩
 have hw := bK (n := (i : Int) + 1)
 have hst := aAN p (.mk tk tn ts' tts) i
 have hln := IW p (.mk tk tn ts' tts) i
 have hat := bL (av := b7) (P := prog) gZ hx (oR x)
 obtain ⟨⟨k, n, s', ts⟩, bd⟩ := x
 rw [gH] at hat
 have hP : pF p (.mk tk tn ts' tts) i = (decide (s' = ts') && decide ((ts.length : Int) = (tts.length : Int))) := by unfold pF; rw [hx]; try rfl
 rw [hP] at hst
 have hpr := fun st => aKI k n s' ts st
 have aUD : d5 prog .eql 193 (.agg [.str s', .int .i64 (ts.length : Int)]) (.agg [.str ts', .int .i64 (tts.length : Int)]) = some (.bool (decide (s' = ts') && decide ((ts.length : Int) = (tts.length : Int)))) := by
  have h : KU prog 193 = true := by kernel_rfl
  simp only [d5, h, and_self, fY]
 simp only [aV] at hpr
 simp -implicitDefEqProofs only [bU, hat, aA, ↓aU, seval, GD]
 refine wP [(0, 1), (1, 2), (2, 2), (3, 2), (4, 1)] [0, 1, 2, 3, 4] mixed ?_
 simp -implicitDefEqProofs only [aA, seval, GD]
 refine i8 (hpr _) ?_
 simp -implicitDefEqProofs only [aUD, aA, seval, GD]
 refine aQ (fun h2 => ?_) (fun h2 => ?_)
 · rw [aG h2] at hst
   simp -implicitDefEqProofs only [aA, seval, GD]
   refine eN dV fS fV rfl rfl (fC rfl rfl) (aI4 _) hb (by simp only [aF, aS, a7]; omega) (by simp only [aF, aS, a7]; omega) (fun b' hb' => ?_)
   rw [show ∀ l : List Nat, l.map nv ++ [AV.int .i64 (i : Int)] = (l ++ [i]).map nv from fun l => by simp [nv], ← hst] at hb' ⊢
   simp -implicitDefEqProofs only [hw, aA, seval]
   exact ⟨(), b', hb', aP.mk (by simp -implicitDefEqProofs only [aA, seval])⟩
 · rw [aE (by rw [h2]; simp), iA] at hst
   rw [← hst] at hb ⊢
   simp -implicitDefEqProofs only [hw, aA, seval]
   exact ⟨(), b, hb, aP.mk (by simp -implicitDefEqProofs only [aA, seval])⟩
def qD : IC → AV
 | ⟨.mk k n s ts, node, rest, list, eP, taken⟩ => .agg [.int .i64 k, .int .i64 n, .str s, .slice (ts.map Tm.av), .int .i64 (node : Int), eA rest, .slice (list.map nv), .int .i64 (eP : Int), .int .i64 (taken : Int)]
theorem aBW (k n : Int) (s : ByteArray) (ts : List Tm) (node : Nat) (rest : List IG) (list : List Nat) (eP taken : Nat) : qD ⟨.mk k n s ts, node, rest, list, eP, taken⟩ = .agg [.int .i64 k, .int .i64 n, .str s, .slice (ts.map Tm.av), .int .i64 (node : Int), eA rest, .slice (list.map nv), .int .i64 (eP : Int), .int .i64 (taken : Int)] := rfl
theorem aY4 (c : IC) : (qD c).width = 9 := by obtain ⟨⟨k, n, s, ts⟩, _, _, _, _, _⟩ := c; rfl
theorem MP (l : List IC) : ∀ e ∈ l.map qD, e.width = 9 := by intro e he; simp only [cU] at he; obtain ⟨t, _, rfl⟩ := he; exact aY4 t
theorem aSM (c : IC) : (qD c).cells.all AV.storable = true := by
 obtain ⟨⟨k, n, s, ts⟩, _, rest, _, _, _⟩ := c
 rw [aBW]
 have := (n8 rest).2.2.2.2.1
 rw [eW]
 intro e he
 simp only [AV.cells, cY, dP, d4] at he
 rcases he with rfl | rfl | rfl | rfl | rfl | rfl | rfl | rfl | rfl <;> first | rfl | exact this
def gS (c : Nat) (p : List Cl) (q : List Tm) (idx : Bool) (fuel used fresh : Int) (gl qc qn : AV) (mx : Int) : List AV :=
 [.ptr c 0, .slice (p.map b7), .slice (q.map Tm.av), .bool idx, .bool false, .int .i64 fuel, .int .i64 used, .int .i64 fresh, gl, qc, qn, .int .i64 mx]
def iQ (S c m : Nat) (qt qc qn : AV) : List Nat := [S, c, m] ++ dI qt ++ dM qc ++ dM qn
theorem aW0 (q : AV) : dI q = dM q := by cases q <;> rfl
theorem LH (q : AV) : (dM q).Nodup := by cases q <;> simp [dM]
structure dF (st0 st : aB) (S c m : Nat) (qt qc qn : AV) (p : List Cl) (q : List Tm) (idx : Bool) (fuel used mx : Int) (nd : List AV) (i : IS) : Prop where
 cell : st S = some (.cells (gS c p q idx fuel used i.fresh (eA i.goals) qc qn mx))
 sto : fU st c m qt i.σ i.tr
 acC : iZ st 9 qc (i.chs.map qD)
 acN : iZ st 6 qn nd
 ndl : nd.length = i.nn
 ndw : ∀ e ∈ nd, e.width = 6
 dis : (iQ S c m qt qc qn).Nodup
 new : ∀ b ∈ iQ S c m qt qc qn, st0 b = none
 a8 : ∀ b o, st0 b = some o → st b = some o
theorem d6 {b S c m : Nat} {qt qc qn : AV} : b ∈ iQ S c m qt qc qn ↔ b = S ∨ b = c ∨ b = m ∨ b ∈ dI qt ∨ b ∈ dM qc ∨ b ∈ dM qn := by
 simp only [iQ, fR, cY, dP, d4, or_assoc]
section
variable {st0 st : aB} {S c m : Nat} {qt qc qn : AV} {p : List Cl} {q : List Tm} {idx : Bool} {fuel used mx : Int} {nd : List AV} {i : IS}
theorem dF.held (h : dF st0 st S c m qt qc qn p q idx fuel used mx nd i) : ∀ b ∈ iQ S c m qt qc qn, st b ≠ none := fun b hb => by
 rcases d6.1 hb with rfl | rfl | rfl | hb | hb | hb
 · rw [h.cell]; simp
 · rw [h.sto.sub.cells]; simp
 · rw [h.sto.sub.map]; simp
 · obtain ⟨cs, e⟩ := h.sto.DJ b hb; rw [e]; simp
 · obtain ⟨cs, e⟩ := h.acC.some b hb; rw [e]; simp
 · obtain ⟨cs, e⟩ := h.acN.some b hb; rw [e]; simp
theorem dF.uT (h : dF st0 st S c m qt qc qn p q idx fuel used mx nd i) : aL st st0 := fun b => by
 refine ⟨fun e => ?_, h.a8 b⟩
 cases hb : st0 b with
 | none => rfl
 | some o => rw [h.a8 b o hb] at e; cases e
theorem dF.aAA (h : dF st0 st S c m qt qc qn p q idx fuel used mx nd i) {b : Nat} (hb : st b = none) : st0 b = none := (h.uT b).1 hb
theorem dF.parts (h : dF st0 st S c m qt qc qn p q idx fuel used mx nd i) : S ≠ c ∧ S ≠ m ∧ c ≠ m ∧ S ∉ dI qt ∧ S ∉ dM qc ∧ S ∉ dM qn ∧ c ∉ dI qt ∧ c ∉ dM qc ∧ c ∉ dM qn ∧ m ∉ dI qt ∧ m ∉ dM qc ∧ m ∉ dM qn ∧ (∀ b ∈ dI qt, b ∉ dM qc ∧ b ∉ dM qn) ∧ ∀ b ∈ dM qc, b ∉ dM qn := by
 have hd := h.dis
 simp only [iQ, tU, List.nodup_cons, cY, dP, d4, not_or, fR] at hd
 obtain ⟨⟨⟨⟨⟨h1, h2⟩, h3, _⟩, h4, h5⟩, h6, h7⟩, h8, h9⟩ := hd
 refine ⟨h1, h2, h3, fun hb => h5 _ (.inl rfl) _ hb rfl, fun hb => h7 _ (.inl (.inl rfl)) _ hb rfl, fun hb => h9 _ (.inl (.inl (.inl rfl))) _ hb rfl,
  fun hb => h5 _ (.inr (.inl rfl)) _ hb rfl, fun hb => h7 _ (.inl (.inr (.inl rfl))) _ hb rfl, fun hb => h9 _ (.inl (.inl (.inr (.inl rfl)))) _ hb rfl,
  fun hb => h5 _ (.inr (.inr rfl)) _ hb rfl, fun hb => h7 _ (.inl (.inr (.inr rfl))) _ hb rfl, fun hb => h9 _ (.inl (.inl (.inr (.inr rfl)))) _ hb rfl,
  fun b hb => ⟨fun h' => h7 b (.inr hb) b h' rfl, fun h' => h9 b (.inl (.inr hb)) b h' rfl⟩, fun b hb h' => h9 b (.inr hb) b h' rfl⟩
theorem Q6 {X A A' Y : List Nat} (h : (X ++ A ++ Y).Nodup) (hA : A'.Nodup) (hn : ∀ b ∈ A', b ∈ A ∨ b ∉ X ++ A ++ Y) : (X ++ A' ++ Y).Nodup := by
 simp only [tU, fR] at h ⊢
 obtain ⟨⟨hX, hA0, hXA⟩, hY, hXY⟩ := h
 refine ⟨⟨hX, hA, fun a ha b hb e => ?_⟩, hY, fun a ha b hb e => ?_⟩
 · subst e
   rcases hn a hb with h | h
   · exact hXA a ha a h rfl
   · simp only [fR, not_or] at h; exact h.1.1 ha
 · subst e
   rcases ha with ha | ha
   · exact hXY a (.inl ha) a hb rfl
   · rcases hn a ha with h | h
     · exact hXY a (.inr h) a hb rfl
     · simp only [fR, not_or] at h; exact h.2 hb
theorem dF.go {st' : aB} {qt' qc' qn' : AV} {fuel' used' mx' : Int} {nd' : List AV} {i' : IS} (h : dF st0 st S c m qt qc qn p q idx fuel used mx nd i)
 (cell : st' S = some (.cells (gS c p q idx fuel' used' i'.fresh (eA i'.goals) qc' qn' mx'))) (sto : fU st' c m qt' i'.σ i'.tr) (acC : iZ st' 9 qc' (i'.chs.map qD)) (acN : iZ st' 6 qn' nd') (ndl : nd'.length = i'.nn) (ndw : ∀ e ∈ nd', e.width = 6)
 (dis : (iQ S c m qt' qc' qn').Nodup) (new : ∀ b ∈ iQ S c m qt' qc' qn', b ∈ iQ S c m qt qc qn ∨ st b = none) (frame : ∀ b o, st b = some o → b ∉ iQ S c m qt qc qn → st' b = some o) :
 dF st0 st' S c m qt' qc' qn' p q idx fuel' used' mx' nd' i' :=
 ⟨cell, sto, acC, acN, ndl, ndw, dis, fun b hb => by
  rcases new b hb with h1 | h1
  · exact h.new b h1
  · exact h.aAA h1, fun b o hb => frame b o (h.a8 b o hb) fun hm => by rw [h.new b hm] at hb; cases hb⟩
theorem dF.put {fuel' used' mx' : Int} {gl : List IG} {F : Nat} {cs : List AV} (h : dF st0 st S c m qt qc qn p q idx fuel used mx nd i) (hcs : cs = gS c p q idx fuel' used' F (eA gl) qc qn mx') :
 dF st0 (st.aC S (.cells cs)) S c m qt qc qn p q idx fuel' used' mx' nd { i with goals := gl, fresh := F } := by
 obtain ⟨h1, h2, h3, h4, h5, h6, _⟩ := h.parts
 subst hcs
 refine h.go (aB.aO _ _ _) (h.sto.aC h1 h2 h4) (h.acC.a8 fun b hb => aB.aM _ _ (by rintro rfl; exact h5 hb)) (h.acN.a8 fun b hb => aB.aM _ _ (by rintro rfl; exact h6 hb)) h.ndl h.ndw h.dis (fun b hb => .inl hb) fun b o hb hn => ?_
 rw [aB.aM _ _ (by rintro rfl; exact hn (d6.2 (.inl rfl)))]
 exact hb
theorem dF.LK {st' : aB} {qt' : AV} {σ' : Sub} {tr' : List Int} (h : dF st0 st S c m qt qc qn p q idx fuel used mx nd i) (hS : fU st' c m qt' σ' tr') (hf : ∀ b o, st b = some o → b ≠ c → b ≠ m → b ∉ dI qt → st' b = some o) (hn : ∀ b ∈ dI qt', b ∈ dI qt ∨ st b = none) :
 dF st0 st' S c m qt' qc qn p q idx fuel used mx nd { i with σ := σ', tr := tr' } := by
 obtain ⟨h1, h2, h3, h4, h5, h6, h7, h8, h9, h10, h11, h12, h13, h14⟩ := h.parts
 have hC : ∀ b ∈ dM qc, st' b = st b := fun b hb => by
  obtain ⟨cs, e⟩ := h.acC.some b hb
  rw [e, hf b _ e (by rintro rfl; exact h8 hb) (by rintro rfl; exact h11 hb) (fun hb' => (h13 b hb').1 hb)]
 have hN : ∀ b ∈ dM qn, st' b = st b := fun b hb => by
  obtain ⟨cs, e⟩ := h.acN.some b hb
  rw [e, hf b _ e (by rintro rfl; exact h9 hb) (by rintro rfl; exact h12 hb) (fun hb' => (h13 b hb').2 hb)]
 refine h.go (hf S _ h.cell h1 h2 h4) hS (h.acC.a8 hC) (h.acN.a8 hN) h.ndl h.ndw ?_ (fun b hb => ?_) (fun b o hb hn' => ?_)
 · have hd := h.dis
   unfold iQ at hd ⊢
   rw [nX] at hd ⊢
   refine Q6 hd (by rw [aW0]; exact LH _) fun b hb => ?_
   rcases hn b hb with h' | h'
   · exact .inl h'
   · refine .inr fun hm => h.held b ?_ h'
     unfold iQ; rw [nX]; exact hm
 · rcases d6.1 hb with rfl | rfl | rfl | hb | hb | hb
   · exact .inl (d6.2 (.inl rfl))
   · exact .inl (d6.2 (.inr (.inl rfl)))
   · exact .inl (d6.2 (.inr (.inr (.inl rfl))))
   · rcases hn b hb with h' | h'
     · exact .inl (d6.2 (.inr (.inr (.inr (.inl h')))))
     · exact .inr h'
   · exact .inl (d6.2 (.inr (.inr (.inr (.inr (.inl hb))))))
   · exact .inl (d6.2 (.inr (.inr (.inr (.inr (.inr hb))))))
 · have := fun x => hn' (d6.2 x)
   exact hf b o hb (by rintro rfl; exact this (.inr (.inl rfl))) (by rintro rfl; exact this (.inr (.inr (.inl rfl)))) fun hb' => this (.inr (.inr (.inr (.inl hb'))))
theorem dF.post {st' : aB} {σ' : Sub} {tr' : List Int} (h : dF st0 st S c m qt qc qn p q idx fuel used mx nd i) (hP : u0 c m st qt σ' tr' st') : ∃ qt', dF st0 st' S c m qt' qc qn p q idx fuel used mx nd { i with σ := σ', tr := tr' } := by
 obtain ⟨q', hS, hQ⟩ := hP
 exact ⟨q', h.LK hS (fun b o hb h1 h2 h3 => hQ.frame b o hb h1 h2 h3) hQ.fresh⟩
end
theorem fU.C0 {st st' : aB} {c m : Nat} {q : AV} {σ : Sub} {tr : List Int} (h : fU st c m q σ tr) (hc : st' c = st c) (hm : st' m = st m) (ht : ∀ b ∈ dI q, st' b = st b) : fU st' c m q σ tr := by
 refine ⟨⟨by rw [hc]; exact h.sub.cells, by rw [hm]; exact h.sub.map⟩, ?_, h.apart⟩
 rcases h.eP with h1 | ⟨b, cs, h1, h2, h3⟩
 · exact .inl h1
 · exact .inr ⟨b, cs, h1, by rw [ht b (by rw [h1]; simp [dI])]; exact h2, h3⟩
section
variable {st0 st : aB} {S c m : Nat} {qt qc qn : AV} {p : List Cl} {q : List Tm} {idx : Bool} {fuel used mx : Int} {nd : List AV} {i : IS}
theorem dF.aN1 {st' : aB} {qc' : AV} {Z1 : List IC} {cs : List AV} (h : dF st0 st S c m qt qc qn p q idx fuel used mx nd i) (nI : iZ st' 9 qc' (Z1.map qD)) (hf : ∀ y, y ∉ dM qc → y ∉ dM qc' → st' y = st y) (hn : ∀ y ∈ dM qc', y ∈ dM qc ∨ st y = none)
 (hcs : cs = gS c p q idx fuel used i.fresh (eA i.goals) qc' qn mx) : dF st0 (st'.aC S (.cells cs)) S c m qt qc' qn p q idx fuel used mx nd { i with chs := Z1 } := by
 obtain ⟨h1, h2, h3, h4, h5, h6, h7, h8, h9, h10, h11, h12, h13, h14⟩ := h.parts
 have same : ∀ b, st b ≠ none → b ∉ dM qc → st' b = st b := fun b hb hq => hf b hq fun hq' => by
  rcases hn b hq' with h' | h'
  · exact hq h'
  · exact hb h'
 have hS : S ∉ dM qc' := fun hb => by
  rcases hn S hb with h' | h'
  · exact h5 h'
  · rw [h.cell] at h'; cases h'
 subst hcs
 have held := fun b x => h.held b (d6.2 x)
 refine h.go (aB.aO _ _ _) (h.sto.C0 ?_ ?_ fun b hb => ?_) (nI.a8 fun b hb => aB.aM _ _ (by rintro rfl; exact hS hb)) (h.acN.a8 fun b hb => ?_) h.ndl h.ndw ?_ (fun b hb => ?_) fun b o hb hn' => ?_
 · rw [aB.aM _ _ (dB h1)]; exact same c (held c (.inr (.inl rfl))) h8
 · rw [aB.aM _ _ (dB h2)]; exact same m (held m (.inr (.inr (.inl rfl)))) h11
 · rw [aB.aM _ _ (by rintro rfl; exact h4 hb)]; exact same b (held b (.inr (.inr (.inr (.inl hb))))) (h13 b hb).1
 · rw [aB.aM _ _ (by rintro rfl; exact h6 hb)]; exact same b (held b (.inr (.inr (.inr (.inr (.inr hb)))))) fun h' => h14 b h' hb
 · have hd := h.dis
   unfold iQ at hd ⊢
   refine Q6 hd (LH _) fun b hb => ?_
   rcases hn b hb with h' | h'
   · exact .inl h'
   · refine .inr fun hm => h.held b ?_ h'
     unfold iQ; exact hm
 · rcases d6.1 hb with rfl | rfl | rfl | hb | hb | hb
   · exact .inl (d6.2 (.inl rfl))
   · exact .inl (d6.2 (.inr (.inl rfl)))
   · exact .inl (d6.2 (.inr (.inr (.inl rfl))))
   · exact .inl (d6.2 (.inr (.inr (.inr (.inl hb)))))
   · rcases hn b hb with h' | h'
     · exact .inl (d6.2 (.inr (.inr (.inr (.inr (.inl h'))))))
     · exact .inr h'
   · exact .inl (d6.2 (.inr (.inr (.inr (.inr (.inr hb))))))
 · have hno := fun x => hn' (d6.2 x)
   rw [aB.aM _ _ (by rintro rfl; exact hno (.inl rfl)), same b (by rw [hb]; simp) fun h' => hno (.inr (.inr (.inr (.inr (.inl h')))))]
   exact hb
theorem dF.aZ0 {st' : aB} {qn' : AV} {nd' : List AV} {n' : Nat} {cs : List AV} (h : dF st0 st S c m qt qc qn p q idx fuel used mx nd i) (nI : iZ st' 6 qn' nd') (hl : nd'.length = n') (hw : ∀ e ∈ nd', e.width = 6) (hf : ∀ y, y ∉ dM qn → y ∉ dM qn' → st' y = st y) (hn : ∀ y ∈ dM qn', y ∈ dM qn ∨ st y = none)
 (hcs : cs = gS c p q idx fuel used i.fresh (eA i.goals) qc qn' mx) : dF st0 (st'.aC S (.cells cs)) S c m qt qc qn' p q idx fuel used mx nd' { i with nn := n' } := by
 obtain ⟨h1, h2, h3, h4, h5, h6, h7, h8, h9, h10, h11, h12, h13, h14⟩ := h.parts
 have same : ∀ b, st b ≠ none → b ∉ dM qn → st' b = st b := fun b hb hq => hf b hq fun hq' => by
  rcases hn b hq' with h' | h'
  · exact hq h'
  · exact hb h'
 have hS : S ∉ dM qn' := fun hb => by
  rcases hn S hb with h' | h'
  · exact h6 h'
  · rw [h.cell] at h'; cases h'
 subst hcs
 have held := fun b x => h.held b (d6.2 x)
 refine h.go (aB.aO _ _ _) (h.sto.C0 ?_ ?_ fun b hb => ?_) (h.acC.a8 fun b hb => ?_) (nI.a8 fun b hb => aB.aM _ _ (by rintro rfl; exact hS hb)) hl hw ?_ (fun b hb => ?_) fun b o hb hn' => ?_
 · rw [aB.aM _ _ (dB h1)]; exact same c (held c (.inr (.inl rfl))) h9
 · rw [aB.aM _ _ (dB h2)]; exact same m (held m (.inr (.inr (.inl rfl)))) h12
 · rw [aB.aM _ _ (by rintro rfl; exact h4 hb)]; exact same b (held b (.inr (.inr (.inr (.inl hb))))) (h13 b hb).2
 · rw [aB.aM _ _ (by rintro rfl; exact h5 hb)]; exact same b (held b (.inr (.inr (.inr (.inr (.inl hb)))))) (h14 b hb)
 · have hd := h.dis
   unfold iQ at hd ⊢
   have := Q6 (X := [S, c, m] ++ dI qt ++ dM qc) (A := dM qn) (A' := dM qn') (Y := []) (by rw [iA]; exact hd) (LH _) fun b hb => by
    rcases hn b hb with h' | h'
    · exact .inl h'
    · refine .inr fun hm => h.held b ?_ h'
      rw [iA] at hm
      unfold iQ; exact hm
   rwa [iA] at this
 · rcases d6.1 hb with rfl | rfl | rfl | hb | hb | hb
   · exact .inl (d6.2 (.inl rfl))
   · exact .inl (d6.2 (.inr (.inl rfl)))
   · exact .inl (d6.2 (.inr (.inr (.inl rfl))))
   · exact .inl (d6.2 (.inr (.inr (.inr (.inl hb)))))
   · exact .inl (d6.2 (.inr (.inr (.inr (.inr (.inl hb))))))
   · rcases hn b hb with h' | h'
     · exact .inl (d6.2 (.inr (.inr (.inr (.inr (.inr h'))))))
     · exact .inr h'
 · have hno := fun x => hn' (d6.2 x)
   rw [aB.aM _ _ (by rintro rfl; exact hno (.inl rfl)), same b (by rw [hb]; simp) fun h' => hno (.inr (.inr (.inr (.inr (.inr h')))))]
   exact hb
theorem dF.nodes {k : Nat} (h : dF st0 st S c m qt qc qn p q idx fuel used mx nd i) (hk : k < i.nn) : ∃ b, qn = .mslice b 0 nd.length 6 := by
 have hl := h.ndl
 rcases h.acN with ⟨_, e⟩ | ⟨b, cs, e, _⟩
 · subst e; simp at hl; omega
 · exact ⟨b, e⟩
theorem dF.nodeAt {b n : Nat} (h : dF st0 st S c m qt qc (.mslice b 0 n 6) p q idx fuel used mx nd i) : ∃ cs, st b = some (.cells cs) ∧ nd.length * 6 ≤ cs.length := by
 rcases h.acN with ⟨e, _⟩ | ⟨b', cs, e, h2, _, h4⟩
 · cases e
 · cases e; exact ⟨cs, h2, h4⟩
theorem WF : ∀ (n : Nat) (cs : List AV), cs.length = n * 6 → ∃ nd : List AV, nd.length = n ∧ (∀ e ∈ nd, e.width = 6) ∧ nd.flatMap AV.cells = cs
 | 0, cs, h => ⟨[], rfl, by simp, by have : cs = [] := sI (by simpa using h); subst this; rfl⟩
 | n + 1, cs, h => by
  obtain ⟨nd, h1, h2, h3⟩ := WF n (cs.drop 6) (by rw [nE, h]; omega)
  refine ⟨.agg (cs.take 6) :: nd, by simp [h1], fun e he => ?_, ?_⟩
  · rcases cY.1 he with rfl | he
    · show (cs.take 6).length = 6
      rw [d7, h]; omega
    · exact h2 e he
  · rw [tR, h3]
    exact sK 6 cs
theorem dF.X3 {b k : Nat} {cs : List AV} {x : AV} (h : dF st0 st S c m qt qc qn p q idx fuel used mx nd i) (hq : qn = .mslice b 0 nd.length 6) (hb : st b = some (.cells cs)) (hk : k < nd.length * 6) :
 ∃ nd', dF st0 (st.aC b (.cells (aK cs k [x]))) S c m qt qc qn p q idx fuel used mx nd' i := by
 obtain ⟨h1, h2, h3, h4, h5, h6, h7, h8, h9, h10, h11, h12, h13, h14⟩ := h.parts
 have hbq : b ∈ dM qn := by rw [hq]; simp [dM]
 have hne : ∀ a, a ∉ dM qn → st.aC b (.cells (aK cs k [x])) a = st a := fun a ha => aB.aM _ _ (by rintro rfl; exact ha hbq)
 have hcl : nd.length * 6 ≤ cs.length := by
  rcases h.acN with ⟨e, _⟩ | ⟨b', cs', e1, e2, e3, e4⟩
  · rw [hq] at e; cases e
  · rw [hq] at e1
    cases e1
    rw [hb] at e2; cases e2
    exact e4
 have hlen : (aK cs k [x]).length = cs.length := by
  simp only [aK, dQ, d7, nE, aS, a7]
  omega
 obtain ⟨nd', n1, n2, n3⟩ := WF nd.length ((aK cs k [x]).take (nd.length * 6)) (by rw [d7, hlen]; omega)
 refine ⟨nd', h.go (by rw [hne S h6]; exact h.cell) (h.sto.C0 (hne c h9) (hne m h12) fun b hb => hne b (h13 b hb).2) (h.acC.a8 fun b hb => hne b (h14 b hb)) (.inr ⟨b, _, by rw [hq, n1], aB.aO _ _ _, by rw [n1, n3], by rw [n1, hlen]; exact hcl⟩) (by rw [n1]; exact h.ndl) n2 h.dis (fun b hb => .inl hb) fun a o ha hn => ?_⟩
 rw [hne a fun h' => hn (d6.2 (.inr (.inr (.inr (.inr (.inr h'))))))]
 exact ha
end
theorem aKL {φ : AF} {t : TypeId} {ag : Bool} {w d k : Nat} {st : aB} {qc : AV} {l : List AV} (hI : eI prog t = some (ag, w)) (hA : iZ st w qc l) (h : φ d = .int .i64 (k : Int)) (hk : k ≤ l.length) : iL prog φ t qc none (some (.tmp d)) none = some (xK k qc) := by
 rcases hA with ⟨rfl, rfl⟩ | ⟨b, cs, rfl, _⟩
 · have h0 : k = 0 := by simpa using hk
   subst h0
   exact aI9 hI h
 · exact MJ hI h hk
section
variable {st0 st : aB} {S c m : Nat} {qt qc qn : AV} {p : List Cl} {q : List Tm} {idx : Bool} {fuel used mx : Int} {nd : List AV} {i : IS}
theorem dF.aJT {k : Nat} {cs : List AV} {gl : List IG} (h : dF st0 st S c m qt qc qn p q idx fuel used mx nd i) (hk : k ≤ i.chs.length) (hcs : cs = gS c p q idx fuel used i.fresh (eA gl) (xK k qc) qn mx) :
 dF st0 (st.aC S (.cells cs)) S c m qt (xK k qc) qn p q idx fuel used mx nd { i with goals := gl, chs := i.chs.take k } := by
 obtain ⟨h1, h2, h3, h4, h5, h6, _⟩ := h.parts
 subst hcs
 have hA := h.acC.take (k := k) (by rw [aF]; exact hk) (MP _)
 rw [← List.map_take] at hA
 refine h.go (aB.aO _ _ _) (h.sto.aC h1 h2 h4) (hA.a8 fun b hb => aB.aM _ _ (by rw [CZ] at hb; rintro rfl; exact h5 hb)) (h.acN.a8 fun b hb => aB.aM _ _ (by rintro rfl; exact h6 hb)) h.ndl h.ndw (by unfold iQ; rw [CZ]; exact h.dis) (fun b hb => .inl (by unfold iQ at hb; rw [CZ] at hb; exact hb)) fun b o hb hn => ?_
 rw [aB.aM _ _ (by rintro rfl; exact hn (d6.2 (.inl rfl)))]
 exact hb
theorem dF.aT0 {k : Nat} {cs : List AV} (h : dF st0 st S c m qt qc qn p q idx fuel used mx nd i) (hk : k ≤ i.nn) (hcs : cs = gS c p q idx fuel used i.fresh (eA i.goals) qc (xK k qn) mx) :
 dF st0 (st.aC S (.cells cs)) S c m qt qc (xK k qn) p q idx fuel used mx (nd.take k) { i with nn := k } := by
 obtain ⟨h1, h2, h3, h4, h5, h6, _⟩ := h.parts
 subst hcs
 have hnl := h.ndl
 have hA := h.acN.take (k := k) (by rw [hnl]; exact hk) h.ndw
 refine h.go (aB.aO _ _ _) (h.sto.aC h1 h2 h4) (h.acC.a8 fun b hb => aB.aM _ _ (by rintro rfl; exact h5 hb)) (hA.a8 fun b hb => aB.aM _ _ (by rw [CZ] at hb; rintro rfl; exact h6 hb)) (by rw [d7, hnl]; simp only; omega) (fun e he => h.ndw e (lW he)) (by unfold iQ; rw [CZ]; exact h.dis) (fun b hb => .inl (by unfold iQ at hb; rw [CZ] at hb; exact hb)) fun b o hb hn => ?_
 rw [aB.aM _ _ (by rintro rfl; exact hn (d6.2 (.inl rfl)))]
 exact hb
end
end Go.AW
