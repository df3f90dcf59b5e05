import Derived.Test.YtpficjlageaebaaGreatDoorSfaq
import Derived.Test.YtpficjlageaebaaGreatDoorSfaf
import Derived.Test.YtpficjlageaebaaGreatDoorSfap
import Derived.Test.YtpficjlageaebaaGreatDoorSfan
import Derived.ProofKit
import Derived.Test.YtpficjlageaebaaGreatDoorSfak
import Derived.Test.YtpficjlageaebaaGreatDoorSfah
set_option linter.unusedSimpArgs false
set_option linter.unusedVariables false
set_option maxRecDepth 100000
namespace Go.AW
open Go.Proofs.Tryz
def lC (p : List UInt8) : AV := .str (ba p)
theorem aJ9 (l : List (List UInt8)) : ∀ e ∈ l.map lC, e.width = 1 := by intro e h; simp only [cU] at h; obtain ⟨t, _, rfl⟩ := h; rfl
theorem aNW (l : List (List UInt8)) : ∀ e ∈ l.map lC, e.cB = false := by intro e h; simp only [cU] at h; obtain ⟨t, _, rfl⟩ := h; rfl
abbrev EM := zi tI_3 (zi zI_3 (zi aX (zi tI_5 (zi zI_5 (zi kI (zi tI_9 (zi zI_9 (zi cH (zi tI_125 (zi zI_125 (zi iS (zi lR (zi lQ mF)))))))))))))
set_option maxHeartbeats 1000000 in
theorem aYA (s : ByteArray) (c : Nat) (hs : s.size ≤ 1048576) (st : aB) : aD prog 123 [.str s, .int .u8 (c : Int)] st (fun r st' => r = .slice ((nC c (sb s) []).map lC) ∧ st' = st) := by
 generalize hT : nC c (sb s) [] = T
 refine aD.pO (aD.fin ?_)
 refine wF [1000000] 2 func123 ntmps123 rfl rfl ?_
 intro _
 simp -implicitDefEqProofs only [aA, seval, EM]
 refine gZ (σ := List (List UInt8) × Nat × Nat × Nat) [1000000] [0, 1, 4] (fun x => ((x.2.2.1 ≤ s.size ∧ x.2.1 ≤ x.2.2.1 ∧ x.1 ++ nC c ((sb s).drop x.2.2.1) (((sb s).drop x.2.1).take (x.2.2.1 - x.2.1)) = T) ∨ (x.2.2.1 = s.size + 1 ∧ x.2.1 ≤ s.size + 1 ∧ x.1 = T)) ∧ x.1.length ≤ x.2.2.1 ∧ (x.1.map lC ≠ [] → st x.2.2.2 = none)) (fun x => [(5, a9 1 x.2.2.2 (x.1.map lC)), (6, .int .i64 (x.2.1 : Int)), (7, .int .i64 (x.2.2.1 : Int))]) (fun x => aZ st x.2.2.2 (x.1.map lC)) (fun x => s.size + 1 - x.2.2.1) (by decide +kernel) ⟨([], 0, 0, 0), ⟨Or.inl ⟨jE _, c7 _, hT⟩, jE _, by simp⟩, aO.mk (by simp -implicitDefEqProofs only [aW, jG, aA, ↓aU, seval])⟩ ?_
 rintro ⟨out, f, i, b⟩ ⟨ht, hlen, hb⟩
 simp only at ht hlen hb ⊢
 by_cases hi : i ≤ s.size
 case neg =>
  obtain ⟨h1, h2, rfl⟩ : i = s.size + 1 ∧ f ≤ s.size + 1 ∧ out = T := by
   rcases ht with h | h
   · exact absurd h.1 hi
   · exact h
  have hi' : ((i : Int) ≤ (s.size : Int)) = False := cI (by omega)
  simp -implicitDefEqProofs only [hi', bX, aA, seval, EM]
  exact ⟨b, _, st, rfl, hb, aNW _, ⟨1, aJ9 _⟩, by rw [iD], aL.refl _⟩
 obtain ⟨-, hfi, ht⟩ : i ≤ s.size ∧ f ≤ i ∧ out ++ nC c ((sb s).drop i) (((sb s).drop f).take (i - f)) = T := by
  rcases ht with h | h
  · exact h
  · omega
 have hi' : ((i : Int) ≤ (s.size : Int)) = True := dA (by omega)
 have hw := bK (n := (i : Int) + 1)
 have hsl := fun (φ : AF) (y z : Operand) (h : φ.eval y = .int .i64 (f : Int)) (h' : φ.eval z = .int .i64 (i : Int)) => EP (s := s) h h' hfi hi
 rw [E6] at hsl
 generalize hp : ((sb s).drop f).take (i - f) = p at *
 have H3 : ∀ (K : AV → aB → Prop), (∀ b', ((out ++ [p]).map lC ≠ [] → st b' = none) → K (a9 1 b' ((out ++ [p]).map lC)) (aZ st b' ((out ++ [p]).map lC))) → jO prog 125 (aZ st b (out.map lC)) (a9 1 b (out.map lC)) (.fslice [.str (ba p)]) K := by
  intro K hK
  refine eO iS lR lQ rfl rfl (fB rfl rfl) (aJ9 _) hb (by simp only [aF, aS, a7]; omega) (by simp only [aF, aS, a7]; omega) (fun b' hb' => ?_)
  rw [show out.map lC ++ [AV.str (ba p)] = (out ++ [p]).map lC by simp [lC]] at hb' ⊢
  exact hK b' hb'
 by_cases hie : i = s.size
 case pos =>
  have J2 : ((i : Int) = (s.size : Int)) = True := dA (by omega)
  rw [GU (by rw [cJ]; omega)] at ht
  simp only [nC] at ht
  simp -implicitDefEqProofs only [hi', J2, hsl, bM, aA, seval, EM]
  refine H3 _ fun b' hb' => ?_
  simp -implicitDefEqProofs only [hw, aA, seval]
  refine ⟨(out ++ [p], i + 1, i + 1, b'), by simp only; omega, ⟨Or.inr ⟨by simp only; omega, by simp only; omega, ht⟩, by simp only [dQ, aS, a7]; omega, hb'⟩, aO.mk (by simp -implicitDefEqProofs only [aA, seval] <;> exact ⟨rfl, rfl⟩)⟩
 have J2 : ((i : Int) = (s.size : Int)) = False := cI (by omega)
 obtain ⟨x, hx⟩ := vG (s := s) (n := i) (by omega)
 have hix := sL (P := prog) (t := 9) cH hx
 obtain ⟨hx1, hx2⟩ := gS.1 hx
 rw [qY hx1, hx2] at ht
 unfold nC at ht
 by_cases hxc : x.toNat = c
 · rw [aG hxc] at ht
   have O1 : ((x.toNat : Int) = (c : Int)) = True := dA (by omega)
   simp -implicitDefEqProofs only [hi', J2, hsl, hix, O1, bM, bX, aA, seval, EM]
   refine H3 _ fun b' hb' => ?_
   simp -implicitDefEqProofs only [hw, aA, seval]
   refine ⟨(out ++ [p], i + 1, i + 1, b'), by simp only; omega, ⟨Or.inl ⟨by simp only; omega, c7 _, by rw [← ht]; simp⟩, by simp only [dQ, aS, a7]; omega, hb'⟩, aO.mk (by simp -implicitDefEqProofs only [aA, seval] <;> exact ⟨rfl, rfl⟩)⟩
 · rw [aE hxc] at ht
   have O1 : ((x.toNat : Int) = (c : Int)) = False := cI (by omega)
   have hp' : ((sb s).drop f).take (i + 1 - f) = p ++ [x] := by
    rw [show i + 1 - f = (i - f) + 1 by omega, fN, hp, RB, show f + (i - f) = i by omega, hx]; try rfl
   simp -implicitDefEqProofs only [hi', J2, hw, hix, O1, bM, bX, aA, seval, EM]
   refine ⟨(out, f, i + 1, b), by simp only; omega, ⟨Or.inl ⟨by simp only; omega, by simp only; omega, by simp only; rw [hp']; exact ht⟩, by simp only; omega, hb⟩, aO.mk (by simp -implicitDefEqProofs only [aA, seval] <;> rfl)⟩
def FS (o : Option (List Cl)) (r : AV) : Prop := match o with | some l => r = .tup [.slice (l.map bY), .bool true] | none => r = .tup [.slice [], .bool false]
theorem aJI : ∀ (ls : List (List UInt8)) (acc r : List Cl), (∀ c ∈ acc, t8 c ∧ kV c = true) → zH ls acc = some r → (∀ c ∈ r, t8 c ∧ kV c = true) ∧ r.length = acc.length + ls.length
 | [], acc, r, h, h1 => by cases h1; exact ⟨h, rfl⟩
 | l :: ls, acc, r, h, h1 => by
  unfold zH at h1
  split at h1
  · cases h1
  rename_i c h2
  have := aJI ls (acc ++ [c]) r (by intro x hx; rw [fS, K7] at hx; rcases hx with hx | rfl; exact h x hx; exact aB5 h2) h1
  refine ⟨this.1, ?_⟩
  rw [this.2]
  simp only [dQ, aS, a7]
  omega
abbrev wW := zi tI_3 (zi zI_3 (zi aX (zi tI_4 (zi zI_4 (zi cD (zi tI_5 (zi zI_5 (zi kI (zi tI_8 (zi zI_8 (zi wC (zi xI (zi wD (zi xN (zi w5 (zi tI_9 (zi zI_9 (zi cH (zi tI_10 (zi zI_10 (zi aMC (zi tI_29 (zi zI_29 (zi gT (zi j0 (zi jZ (zi kM (zi tI_76 (zi zI_76 (zi lO (zi lU (zi lM (zi tI_125 (zi zI_125 (zi iS (zi lR (zi lQ mF)))))))))))))))))))))))))))))))))))))
set_option maxHeartbeats 1000000 in
theorem aYL (s : ByteArray) (hs : s.size ≤ 100000) (st : aB) : aD prog 90 [.str s] st (fun r st' => FS (yS (sb s)) r ∧ st' = st) := by
 generalize hP : yS (sb s) = T
 unfold yS at hP
 simp only at hP
 have tB := fun st => aYA s 10 (by omega) st
 rw [show ((10 : Nat) : Int) = 10 from rfl] at tB
 have hne := aFY 10 (sb s) []
 have hcl := PY 10 (sb s) []
 rw [cJ] at hcl
 generalize nC 10 (sb s) [] = L at *
 obtain ⟨m, hm⟩ : ∃ m, L.length = m + 1 := ⟨L.length - 1, by have := List.length_pos_iff.2 hne; omega⟩
 obtain ⟨y, hy⟩ : ∃ y, L[m]? = some y := ⟨_, fH (by omega)⟩
 have hgl : L.getLast? = some y := by rw [aMA, hm]; exact hy
 rw [hgl] at hP
 refine aD.drop (Q := FS T) (aD.fin ?_)
 have tM : T = none → ∀ (b : Nat) (l : List Cl) (s0 : aB), (l.map bY ≠ [] → s0 b = none) → aL s0 st → ∃ b2 l2 s1, aZ s0 b (l.map bY) = aZ s1 b2 l2 ∧ (l2 ≠ [] → s1 b2 = none) ∧ (∀ e ∈ l2, e.cB = false) ∧ gX l2 ∧ aL s1 st ∧ FS T ((AV.tup [.fslice [], .bool false]).fin b2 l2) := by
  rintro rfl b l s0 hb hD
  exact ⟨b, _, s0, rfl, hb, HW _, ⟨5, xW _⟩, hD, by simp only [FS, jL, pQ, oC, bA, aW]⟩
 refine wF [1000000] 1 func90 ntmps90 rfl rfl ?_
 intro _
 simp -implicitDefEqProofs only [aA, seval, wW]
 refine (tB _).to ?_
 have hat := bL (av := lC) iS hy rfl
 have hw0 := nB (x := (L.length : Int) - 1) (m := m) (by omega) (by omega)
 by_cases h21 : 21 < L.length
 case pos =>
  rw [aG (Or.inl h21)] at hP
  have IP : ((21 : Int) < (L.length : Int)) = True := dA (by omega)
  simp -implicitDefEqProofs only [aF, IP, bM, aA, seval, wW]
  exact tM hP.symm 0 [] st (by simp) (aL.refl _)
 have IP : ((21 : Int) < (L.length : Int)) = False := cI (by omega)
 by_cases hye : y = []
 case neg =>
  rw [aG (Or.inr (by simpa using hye))] at hP
  have O7 : (ba y = ⟨#[]⟩) = False := cI fun h => hye (by have := n6 sb h; exact this)
  simp -implicitDefEqProofs only [aF, IP, hw0, hat, lC, O7, bX, aA, seval, wW]
  exact tM hP.symm 0 [] st (by simp) (aL.refl _)
 rw [aE (by rintro (h | h); exact h21 h; exact h (by rw [hye]))] at hP
 have O7 : (ba y = ⟨#[]⟩) = True := dA (by rw [hye])
 simp -implicitDefEqProofs only [aF, IP, hw0, hat, lC, O7, bM, bX, aA, seval, wW]
 refine gZ (σ := Nat × List Cl × Nat) [1000000] [5] (fun x => x.1 ≤ m ∧ zH (L.dropLast.drop x.1) x.2.1 = T ∧ x.2.1.length = x.1 ∧ (∀ c ∈ x.2.1, t8 c) ∧ (x.2.1.map bY ≠ [] → st x.2.2 = none)) (fun x => [(2, .fslice []), (3, .bool false), (4, a9 5 x.2.2 (x.2.1.map bY)), (6, .int .i64 (x.1 : Int))]) (fun x => aZ st x.2.2 (x.2.1.map bY)) (fun x => m - x.1) (by decide +kernel) ⟨(0, [], 0), ⟨jE _, hP, rfl, by simp, by simp⟩, aO.mk (by simp -implicitDefEqProofs only [aW, jG, aA, ↓aU, seval])⟩ ?_
 rintro ⟨i, acc, b⟩ ⟨hi, ht, hlen, hdn, hb⟩
 simp only at hi ht hlen hdn hb ⊢
 have hdl : L.dropLast.length = m := by rw [List.length_dropLast, hm]; try rfl
 have hw1 := bK (n := (i : Int) + 1)
 by_cases him : i < m
 case neg =>
  have N4 : ((i : Int) + 1 < (L.length : Int)) = False := cI (by omega)
  rw [GU (by omega)] at ht
  simp only [zH] at ht
  simp -implicitDefEqProofs only [aF, N4, hw1, mZ, n0, sP, bX, aA, seval, wW]
  exact ⟨b, _, st, rfl, hb, HW _, ⟨5, xW _⟩, aL.refl _, by rw [← ht]; simp only [FS, jL, pQ, lI, bA, aW]⟩
 have N4 : ((i : Int) + 1 < (L.length : Int)) = True := dA (by omega)
 obtain ⟨z, hz⟩ : ∃ z, L[i]? = some z := ⟨_, fH (by omega)⟩
 have hz2 : L.dropLast[i]? = some z := by rw [List.getElem?_dropLast, aG (by omega)]; exact hz
 obtain ⟨hz3, hz4⟩ := gS.1 hz2
 rw [qY hz3, hz4] at ht
 unfold zH at ht
 have a0N := bL (av := lC) iS hz rfl
 have hpc := aRB (ba z)
 rw [show sb (ba z) = z from rfl] at hpc
 simp -implicitDefEqProofs only [aF, N4, hw1, a0N, lC, bM, aA, seval, wW]
 refine (hpc _).to ?_
 cases hc : nT z with
 | none =>
  rw [hc] at ht
  simp -implicitDefEqProofs only [y6, gG, aA, ↓aU, seval, wW]
  exact tM ht.symm b acc st hb (aL.refl _)
 | some c =>
  rw [hc] at ht
  simp only at ht
  have hcd := (aB5 hc).1
  have hca := A5 c
  have hcw := n9 c
  have hcj := H9 c
  have hcs := VL c
  have hcc := aFI c
  simp -implicitDefEqProofs only [y6, hca, hcw, hcj, hcs, aA, ↓aU, seval, wW]
  refine eO gT j0 jZ rfl rfl (fB hcw hcs) (xW _) hb (by simp only [aF, aS, a7]; omega) (by simp only [aF, aS, a7]; omega) (fun b' hb' => ?_)
  rw [show acc.map bY ++ [bY c] = (acc ++ [c]).map bY by simp] at hb' ⊢
  simp -implicitDefEqProofs only [hw1, aA, seval]
  refine ⟨(i + 1, acc ++ [c], b'), by simp only; omega, ⟨by simp only; omega, ht, by simp only [dQ, aS, a7]; omega, ?_, hb'⟩, aO.mk (by simp -implicitDefEqProofs only [aA, seval] <;> rfl)⟩
  intro x hx
  rw [fS, K7] at hx
  rcases hx with hx | rfl
  · exact hdn x hx
  · exact hcd
def E0 (o : Option (List Tm)) : AV := match o with | some l => .tup [.slice (l.map Tm.av), .bool true] | none => .tup [.slice [], .bool false]
theorem aOK {l : List UInt8} {q : List Tm} (h : mP l = some q) : lW q = true ∧ ∀ t ∈ q, Dn t := by
 unfold mP at h
 split at h
 · cases h
 rename_i g e h1
 split at h
 · rename_i h2
   cases h
   exact ⟨h2.2.2, (KN h2.1 7 0 [] _ _ (jE _) (by simp) h1).2.2.1⟩
 · cases h
abbrev tK := zi tI_3 (zi zI_3 (zi aX (zi tI_4 (zi zI_4 (zi cD (zi tI_9 (zi zI_9 (zi cH (zi tI_31 (zi zI_31 (zi aN (zi bE (zi bF (zi b9 (zi tI_63 (zi zI_63 (zi bP (zi bQ (zi bT (zi bS bR))))))))))))))))))))
set_option maxHeartbeats 1000000 in
theorem aGC (s : ByteArray) (st : aB) : aD prog 92 [.str s] st (fun r st' => r = E0 (mP (sb s)) ∧ st' = st) := by
 refine aD.pO (aD.fin ?_)
 have tM : mP (sb s) = none → ∃ b l s0, st = aZ s0 b l ∧ (l ≠ [] → s0 b = none) ∧ (∀ e ∈ l, e.cB = false) ∧ gX l ∧ (AV.tup [.fslice [], .bool false]).fin b l = E0 (mP (sb s)) ∧ aL s0 st := fun h => by
  rw [h]
  exact ⟨0, [], st, rfl, by simp, by simp, ⟨4, by simp⟩, by simp only [E0, jL, pQ, oC, bA, aW], aL.refl _⟩
 refine wF [1000000] 1 func92 ntmps92 rfl rfl ?_
 intro _
 by_cases hs : s.size ≤ 1000
 case neg =>
  have hs' : ((1000 : Int) < (s.size : Int)) = True := dA (by omega)
  have hP : mP (sb s) = none := by
   unfold mP
   split
   · rfl
   · rw [aE fun h => hs (by rw [← cJ]; exact h.1)]
  simp -implicitDefEqProofs only [hs', bM, aA, seval, tK]
  exact tM hP
 have hs' : ((1000 : Int) < (s.size : Int)) = False := cI (by omega)
 have h0 := fun st => UH hs 0 (jE _) st
 rw [show ((0 : Nat) : Int) = 0 from rfl] at h0
 simp -implicitDefEqProofs only [hs', bX, aA, seval, tK]
 refine (h0 _).mono ?_
 rintro r st ⟨hr, rfl⟩
 cases hG : rL (sb s) 7 0 [] with
 | none =>
  have hP : mP (sb s) = none := by unfold mP; rw [hG]
  rw [hG] at hr
  simp only [rF] at hr
  subst hr
  have he : ((-1 : Int) = (s.size : Int)) = False := cI (by omega)
  simp -implicitDefEqProofs only [he, bX, aA, seval, tK]
  exact tM hP
 | some p =>
  obtain ⟨g, e⟩ := p
  rw [hG] at hr
  simp only [rF] at hr
  subst hr
  have hg := KN (by rw [cJ]; exact hs) 7 0 [] _ _ (jE _) (by simp) hG
  rw [cJ] at hg
  simp -implicitDefEqProofs only [aA, seval, tK]
  by_cases he : e = s.size
  case neg =>
   have hP : mP (sb s) = none := by
    unfold mP
    rw [hG]
    simp only
    rw [aE fun h => he (by rw [← cJ]; exact h.2.1)]
   have he' : ((e : Int) = (s.size : Int)) = False := cI (by omega)
   simp -implicitDefEqProofs only [he', bX, aA, seval, tK]
   exact tM hP
  have he' : ((e : Int) = (s.size : Int)) = True := dA (by omega)
  simp -implicitDefEqProofs only [he', bM, aA, seval]
  refine (WO g _).to ?_
  cases hq : lW g with
  | false =>
   have hP : mP (sb s) = none := by
    unfold mP
    rw [hG]
    simp only
    rw [aE fun h => by rw [hq] at h; exact absurd h.2.2 (by decide)]
   simp -implicitDefEqProofs only [aA, seval, tK]
   exact tM hP
  | true =>
   have hP : mP (sb s) = some g := by
    unfold mP
    rw [hG]
    simp only
    rw [aG ⟨by rw [cJ]; exact hs, by rw [cJ]; exact he, hq⟩]
   have hg6 : g.length ≤ 6 := by
    simp only [lW, cM, bJ] at hq
    exact hq.1
   simp -implicitDefEqProofs only [aA, seval, tK]
   refine eL (σ := Nat) [1000000] [2, 3, 4] g (fun i b => ((g.take i).map Tm.av ≠ [] → st b = none)) (fun i b => [(6, a9 4 b ((g.take i).map Tm.av)), (7, .int .i64 i)]) (fun i b => aZ st b ((g.take i).map Tm.av)) (by decide +kernel) ⟨0, fun h => absurd rfl h, aO.mk (by simp -implicitDefEqProofs only [jG, aA, ↓aU, seval])⟩ (fun i x b hx hlt bU hdr hinv => ?_) (fun b hge hinv => ?_)
   case refine_1 =>
    have hw := bK (n := (i : Int) + 1)
    have cV : ((g.take i).map Tm.av).length = i := by simp only [aF, d7]; omega
    have htk : (g.take i).map Tm.av ++ [x.av] = (g.take (i + 1)).map Tm.av := by rw [fN, hx]; simp
    have hat := bL (av := Tm.av) aN hx (aH x)
    simp -implicitDefEqProofs only [bU, aF, hat, aT, aH, aA, seval, tK]
    refine (yR x _ (hg.2.2.1 x (cW hx)).2).to ?_
    simp -implicitDefEqProofs only [aT, aH, cG, aA, seval, tK]
    refine eO aN bE bF rfl rfl (fB (aH _) (bZ _)) (dR _) hinv (by simp only [cV, aS, a7]; omega) (by simp only [cV, aS, a7]; omega) (fun b' hb' => ?_)
    rw [htk] at hb' ⊢
    simp -implicitDefEqProofs only [hw, aA, seval]
    exact ⟨b', hb', aO.mk (by simp -implicitDefEqProofs only [aA, seval])⟩
   rw [eS] at hinv ⊢
   simp -implicitDefEqProofs only [aF, hge, mZ, n0, sP, aA, seval, tK]
   rw [hP]
   exact ⟨b, _, st, rfl, hinv, iB _, ⟨4, dR _⟩, by simp only [E0, jL, pQ, lI, bA, aW], aL.refl _⟩
end Go.AW
namespace Go.AW
def mU (st s0 : aB) (os us : List AV) : Prop := ∀ h vs, cS h st → cZ h st os vs → cZ h s0 us vs
theorem mU.nil {st s0 : aB} : mU st s0 [] [] := fun _ _ _ y => y
theorem mU.cons {st s0 : aB} {o a : AV} {os us : List AV} (x : ∀ h v, cS h st → aR h st o v → aR h s0 a v) (h : mU st s0 os us) : mU st s0 (o :: os) (a :: us) := fun hp vs S y => by
 simp only [cZ] at y ⊢
 obtain ⟨v, r, rfl, y1, y2⟩ := y
 exact ⟨v, r, rfl, x hp v S y1, h hp r S y2⟩
theorem qA.fin {s0 : aB} {b : Nat} {l : List AV} {r : AV} (h0 : l ≠ [] → s0 b = none) (h2 : ∀ e ∈ l, e.cB = false) (h3 : gX l) : yD (aZ s0 b l) s0 ∧ qA (aZ s0 b l) r s0 (r.fin b l) := by
 cases l with
 | nil => exact ⟨(aL.refl _).sR, fun h v S y => y.soft⟩
 | cons e l =>
  have hb := h0 (by simp)
  have h1 : aZ s0 b (e :: l) b = some (.cells ((e :: l).flatMap AV.cells)) := by simp only [aZ, aB.aP]
  have e1 : (aZ s0 b (e :: l)).erase b = s0 := by simp only [aZ]; exact aB.w9 _ _ _ hb
  refine ⟨?_, fun h v S y => ?_⟩
  · have := (jH (aZ s0 b (e :: l)) b).sR
    rwa [e1] at this
  · have := y.fz S h1 h2 h3
    rw [e1] at this
    exact this.soft
theorem qA.tail {s0 : aB} {b k w : Nat} {l : List AV} (hb : s0 b = none) (hk : k < l.length) (h2 : ∀ e ∈ l, e.cB = false) (hw : ∀ e ∈ l, e.width = w) : yD (aZ s0 b l) s0 ∧ qA (aZ s0 b l) (.mslice b (k * w) (l.length - k) w) s0 (.slice (l.drop k)) := by
 have hl : l ≠ [] := by rintro rfl; simp at hk
 have h1 : aZ s0 b l b = some (.cells (l.flatMap AV.cells)) := by rw [jF hl, aB.aP]
 have e1 : (aZ s0 b l).erase b = s0 := by rw [jF hl]; exact aB.w9 _ _ _ hb
 refine ⟨?_, fun h v S y => ?_⟩
 · have := (jH (aZ s0 b l) b).sR
   rwa [e1] at this
 · obtain ⟨f1, f2⟩ := frozen S h1 h2
   rw [e1] at f2
   obtain ⟨cap, hv, l1, l2, _⟩ := y.z0
   have hE := cX.drop k hw f2
   rw [gY] at hE
   subst hv
   refine ⟨rfl, ?_⟩
   unfold VC
   exact .inr ⟨b, k * w, cap, by rw [nH]; try rfl, by rw [nH]; exact l1, l2, hb, f1, ⟨w, fun e he => hw e (List.mem_of_mem_drop he)⟩, hE⟩
theorem aD.W2 {P : Program} {g : FuncId} {args : List AV} {st : aB} {Q : AV → aB → Prop} (x : aD P g args st (fun r st' => ∃ r2 s2, (yD st' s2 ∧ qA st' r s2 r2) ∧ Q r2 s2)) : aD P g args st Q :=
 x.m7 fun r st' ⟨r2, s2, ⟨h1, h2⟩, h3⟩ => ⟨r2, s2, h1, h2, h3⟩
end Go.AW
namespace Go.AW
open Go.Proofs.Tryz
theorem aOT {P : Program} {t : TypeId} {ag : Bool} {w b n : Nat} (hI : eI P t = some (ag, w)) (h1 : 1 < n) (φ : AF) : iG P φ t (.mslice b 0 n w) (some (.const (.int .i64 1))) none none = some (.mslice b (0 + 1 * w) (n - 1) w) := by
 have h2 : dY φ none n n = some n := rfl
 have h3 : dY φ (some (.const (.int .i64 1))) 0 n = some 1 := by
  show (if ((0 : Nat) : Int) ≤ 1 ∧ (1 : Int) ≤ (n : Int) then some (Int.toNat 1) else none) = some 1
  rw [aG ⟨by omega, by omega⟩]
  try rfl
 unfold iG pM
 rw [aE (by simp [rP])]
 simp only [hI, h2, h3]
 rw [aG trivial, aE (by decide), aG h1]
def zG : Cl := (.mk 3 0 ⟨#[122]⟩ [], [])
abbrev EC := zi tI_3 (zi zI_3 (zi aX (zi tI_9 (zi zI_9 (zi cH (zi tI_29 (zi zI_29 (zi gT (zi j0 (zi jZ (zi kM (zi tI_31 (zi zI_31 (zi aN (zi bE (zi bF (zi b9 (zi tI_76 (zi zI_76 (zi lO (zi lU (zi lM (zi tI_90 zI_90)))))))))))))))))))))))
set_option maxHeartbeats 2000000 in
theorem aVD (bs : List Bt) (c p : Nat) (l : List Cl) (hl : ∀ x ∈ l, t8 x) (h1 : 2 ≤ l.length) (h2 : l.length ≤ 40) (st : aB) (hp : p + 1000000 ≤ 1099511627776) (hR : dK st c bs p) :
 aD prog 62 [.ptr c 0, .slice (l.map bY)] st (Dr bs c p 1000000 st (fun r => ∃ l' : List Cl, r = .slice (l'.map bY))) := by
 refine aD.W2 ?_
 have MQ : st.aC c (cA bs p) = st := LA hR
 have jV : ∀ (q b : Nat) (acc : List Cl), p ≤ q → q ≤ p + 1000000 → (acc.map bY ≠ [] → (st.aC c (cA bs q)) b = none) → ∃ r2 s2, (yD (aZ (st.aC c (cA bs q)) b (acc.map bY)) s2 ∧ qA (aZ (st.aC c (cA bs q)) b (acc.map bY)) (a9 5 b (acc.map bY)) s2 r2) ∧ Dr bs c p 1000000 st (fun r => ∃ l' : List Cl, r = .slice (l'.map bY)) r2 s2 := fun q b acc g1 g2 hb => by
  have := qA.fin (r := a9 5 b (acc.map bY)) hb (HW _) ⟨5, xW _⟩
  rw [iD] at this
  exact ⟨_, _, this, q, g1, g2, rfl, acc, rfl⟩
 have hRq : ∀ (q b : Nat) (L : List AV), (L ≠ [] → (st.aC c (cA bs q)) b = none) → dK (aZ (st.aC c (cA bs q)) b L) c bs q ∧ ∀ o, (aZ (st.aC c (cA bs q)) b L).aC c o = aZ (st.aC c o) b L ∧ (L ≠ [] → (st.aC c o) b = none) := fun q b L hb => by
  have hne : L ≠ [] → c ≠ b := fun h e => by have := hb h; rw [← e, aB.aP] at this; cases this
  refine ⟨?_, fun o => ⟨?_, fun h => ?_⟩⟩
  · unfold dK
    by_cases h : L = []
    · rw [h, vV, aB.aP]; try rfl
    · rw [pX (hne h), aB.aP]; try rfl
  · rw [oJ hne, dE]
  · have := hb h
    rw [aB.aM _ _ (dB (hne h))] at this ⊢
    exact this
 refine wF [1000000] 2 func62 ntmps62 rfl rfl ?_
 simp only [eG, AV.fits, eM, aF]
 intro _
 simp -implicitDefEqProofs only [aA, seval, EC]
 refine eL (σ := Nat × Nat × List Cl) [1000000] [0, 1, 4] l (fun i x => p ≤ x.1 ∧ x.1 ≤ p + 6000 * i ∧ x.2.2.length = i ∧ (x.2.2.map bY ≠ [] → (st.aC c (cA bs x.1)) x.2.1 = none)) (fun i x => [(5, a9 5 x.2.1 (x.2.2.map bY)), (6, .int .i64 i)]) (fun i x => aZ (st.aC c (cA bs x.1)) x.2.1 (x.2.2.map bY)) (by decide +kernel) ⟨(p, 0, []), ⟨c7 _, by simp only; omega, rfl, fun h => absurd rfl h⟩, by
  simp only [aW, vV, MQ]
  exact aO.mk (by simp -implicitDefEqProofs only [jG, aA, ↓aU, seval])⟩ (fun i x s hx hlt bU hdr hinv => ?_) (fun s hge hinv => ?_)
 case refine_1 =>
  obtain ⟨q, b, acc⟩ := s
  obtain ⟨g1, g2, g3, g4⟩ := hinv
  simp only at g1 g2 g3 g4
  have hw := bK (n := (i : Int) + 1)
  have hat := bL (av := bY) gT hx (n9 x)
  have hcw := n9 x
  have hca := A5 x
  obtain ⟨k1, k2⟩ := hRq _ _ _ g4
  simp -implicitDefEqProofs only [bU, aF, hat, hcw, hca, aA, seval, EC]
  refine (aSQ bs c q x (hl x (cW hx)) _ (by omega) k1).mono ?_
  rintro _ _ ⟨q2, r1, r2, rfl, y, rfl⟩
  obtain ⟨k3, k4⟩ := k2 (cA bs q2)
  rw [k3]
  have hya := A5 y
  have hyw := n9 y
  have hyj := H9 y
  have hys := VL y
  have hyc := aFI y
  simp -implicitDefEqProofs only [hya, hyw, hyj, aA, seval, EC]
  refine eO gT j0 jZ rfl rfl (fB hyw hys) (xW _) k4 (by simp only [aF, aS, a7]; omega) (by simp only [aF, aS, a7]; omega) (fun b' hb' => ?_)
  rw [show acc.map bY ++ [bY y] = (acc ++ [y]).map bY by simp] at hb' ⊢
  simp -implicitDefEqProofs only [hw, aA, seval]
  exact ⟨(q2, b', acc ++ [y]), ⟨by simp only; omega, by simp only; omega, by simp only [dQ, aS, a7]; omega, hb'⟩, aO.mk (by simp -implicitDefEqProofs only [aA, seval])⟩
 obtain ⟨q, b, acc⟩ := s
 obtain ⟨g1, g2, g3, g4⟩ := hinv
 simp only at g1 g2 g3 g4
 obtain ⟨k1, k2⟩ := hRq _ _ _ g4
 simp -implicitDefEqProofs only [aF, hge, aA, seval, EC]
 refine (mY bs c q (by omega) 30 (by omega) (by omega) _ k1).mono ?_
 rintro _ _ ⟨j, hj, rfl, rfl⟩
 obtain ⟨k3, k4⟩ := k2 (cA bs (q + 1))
 rw [k3]
 have NN : prog.underlying 29 = some (.slice 76) := by kernel_rfl
 simp -implicitDefEqProofs only [aA, seval]
 refine aQ (fun h0 => ?_) (fun h0 => ?_)
 · simp -implicitDefEqProofs only [aA, seval]
   refine gZ (σ := Nat × List Cl) [1000000] [4, 24] (fun x => (x.2.map bY ≠ [] → (st.aC c (cA bs (q + 1))) x.1 = none) ∧ x.2.length ≤ 41) (fun x => [(5, a9 5 x.1 (x.2.map bY))]) (fun x => aZ (st.aC c (cA bs (q + 1))) x.1 (x.2.map bY)) (fun x => 41 - x.2.length) (by decide +kernel) ⟨(b, acc), ⟨k4, by simp only; omega⟩, aO.mk (by simp -implicitDefEqProofs only [aA, seval])⟩ ?_
   rintro ⟨b, acc⟩ ⟨i1, i2⟩
   simp only at i1 i2
   have haL := sW (w := 5) (b := b) (l := acc.map bY) NN
   rw [aF] at haL
   simp -implicitDefEqProofs only [haL, aA, seval]
   refine aQ (fun h1 => ?_) (fun h1 => ?_)
   case refine_2 =>
    simp -implicitDefEqProofs only [aA, seval]
    exact jV _ _ _ (by omega) (by omega) i1
   simp only [bJ] at h1
   simp -implicitDefEqProofs only [aA, seval]
   refine (rH ⟨#[122]⟩ [] (by simp) _).to ?_
   simp -implicitDefEqProofs only [aV, aW, aA, seval, EC]
   refine eO (xs := [.agg [.int .i64 3, .int .i64 0, .str ⟨#[122]⟩, .slice [], .fslice []]]) gT j0 jZ rfl rfl (fB rfl rfl) (xW _) i1 (by simp only [aF, aS, a7]; omega) (by simp only [aF, aS, a7]; omega) (fun b' hb' => ?_)
   have hb2 : (acc ++ [zG]).map bY ≠ [] → (st.aC c (cA bs (q + 1))) b' = none := fun _ => hb' (by simp)
   have iL : aZ (st.aC c (cA bs (q + 1))) b' (acc.map bY ++ [.agg [.int .i64 3, .int .i64 0, .str ⟨#[122]⟩, .slice [], .fslice []]]) b' = some (.cells (((acc.map bY).flatMap AV.cells ++ [.int .i64 3, .int .i64 0, .str ⟨#[122]⟩, .slice []]) ++ .fslice [] :: [])) := by
    rw [jF (by simp), aB.aP]
    simp [AV.cells]
   have YA := fun φ => fL.aW5 (φ := φ) iL
   have aVC : (aZ (st.aC c (cA bs (q + 1))) b' (acc.map bY ++ [.agg [.int .i64 3, .int .i64 0, .str ⟨#[122]⟩, .slice [], .fslice []]])).aC b' (.cells (((acc.map bY).flatMap AV.cells ++ [.int .i64 3, .int .i64 0, .str ⟨#[122]⟩, .slice []]) ++ (AV.fslice []).soft :: [])) = aZ (st.aC c (cA bs (q + 1))) b' ((acc ++ [zG]).map bY) := by
    rw [jF (by simp), dE, jF (by simp)]
    congr 2
    simp [AV.cells, AV.soft, zG, gG]
   rw [aVC] at YA
   have hV : a9 5 b' (acc.map bY ++ [.agg [.int .i64 3, .int .i64 0, .str ⟨#[122]⟩, .slice [], .fslice []]]) = a9 5 b' ((acc ++ [zG]).map bY) := by
    rw [oB (by simp), oB (by simp)]
    simp
   rw [hV]
   simp -implicitDefEqProofs only [aA, seval]
   refine ⟨(b', acc ++ [zG]), by simp only [dQ, aS, a7]; omega, ⟨hb2, by simp only [dQ, aS, a7]; omega⟩, (YA _).trans (aO.mk (by simp -implicitDefEqProofs only [aA, seval]))⟩
 simp -implicitDefEqProofs only [aA, seval]
 refine aQ (fun h1 => ?_) (fun h1 => ?_)
 · have hne : acc.map bY ≠ [] := fun h => by have := n6 List.length h; simp at this; subst this; simp at g3; omega
   have hlen : (acc.map bY).length = acc.length := aF _
   have hsl := aOT (P := prog) (b := b) gT (show 1 < acc.length by omega)
   have hb0 := k4 hne
   simp -implicitDefEqProofs only [oB hne, hlen, hsl, aA, seval]
   have hT := qA.tail (k := 1) (w := 5) hb0 (by rw [hlen]; omega) (HW acc) (xW acc)
   rw [hlen] at hT
   simp only [Nat.one_mul] at hT ⊢
   exact ⟨_, _, hT, q + 1, by omega, by omega, rfl, acc.drop 1, by rw [List.map_drop]⟩
 · skip
   simp -implicitDefEqProofs only [aA, seval]
   exact jV _ _ _ (by omega) (by omega) k4
abbrev GK := zi tI_3 (zi zI_3 (zi aX (zi tI_9 (zi zI_9 (zi cH (zi tI_31 (zi zI_31 (zi aN (zi bE (zi bF (zi b9 (zi tI_63 (zi zI_63 (zi bP (zi bQ (zi bT (zi bS (zi bR (zi tI_90 (zi zI_90 (zi tI_101 (zi zI_101 (zi rG (zi v9 (zi xJ CI)))))))))))))))))))))))))
set_option maxHeartbeats 2000000 in
theorem aTS (bs : List Bt) (c p : Nat) (l : List Tm) (hl : ∀ x ∈ l, Dn x) (h2 : l.length ≤ 40) (st : aB) (hp : p + 1000000 ≤ 1099511627776) (hR : dK st c bs p) :
 aD prog 63 [.ptr c 0, .slice (l.map Tm.av)] st (Dr bs c p 1000000 st (fun r => ∃ l' : List Tm, l'.length ≤ 41 ∧ r = .slice (l'.map Tm.av))) := by
 refine aD.W2 ?_
 have MQ : st.aC c (cA bs p) = st := LA hR
 have jV : ∀ (q b : Nat) (acc : List Tm), acc.length ≤ 41 → p ≤ q → q ≤ p + 1000000 → (acc.map Tm.av ≠ [] → (st.aC c (cA bs q)) b = none) → ∃ r2 s2, (yD (aZ (st.aC c (cA bs q)) b (acc.map Tm.av)) s2 ∧ qA (aZ (st.aC c (cA bs q)) b (acc.map Tm.av)) (a9 4 b (acc.map Tm.av)) s2 r2) ∧ Dr bs c p 1000000 st (fun r => ∃ l' : List Tm, l'.length ≤ 41 ∧ r = .slice (l'.map Tm.av)) r2 s2 := fun q b acc g0 g1 g2 hb => by
  have := qA.fin (r := a9 4 b (acc.map Tm.av)) hb (iB _) ⟨4, dR _⟩
  rw [iD] at this
  exact ⟨_, _, this, q, g1, g2, rfl, acc, g0, rfl⟩
 have hRq : ∀ (q b : Nat) (L : List AV), (L ≠ [] → (st.aC c (cA bs q)) b = none) → dK (aZ (st.aC c (cA bs q)) b L) c bs q ∧ ∀ o, (aZ (st.aC c (cA bs q)) b L).aC c o = aZ (st.aC c o) b L ∧ (L ≠ [] → (st.aC c o) b = none) := fun q b L hb => by
  have hne : L ≠ [] → c ≠ b := fun h e => by have := hb h; rw [← e, aB.aP] at this; cases this
  refine ⟨?_, fun o => ⟨?_, fun h => ?_⟩⟩
  · unfold dK
    by_cases h : L = []
    · rw [h, vV, aB.aP]; try rfl
    · rw [pX (hne h), aB.aP]; try rfl
  · rw [oJ hne, dE]
  · have := hb h
    rw [aB.aM _ _ (dB (hne h))] at this ⊢
    exact this
 refine wF [1000000] 2 func63 ntmps63 rfl rfl ?_
 simp only [eG, AV.fits, eM, aF]
 intro _
 simp -implicitDefEqProofs only [aA, seval, GK]
 refine eL (σ := Nat × Nat × List Tm) [1000000] [0, 1, 4] l (fun i x => p ≤ x.1 ∧ x.1 ≤ p + 10 * i ∧ x.2.2.length = i ∧ (x.2.2.map Tm.av ≠ [] → (st.aC c (cA bs x.1)) x.2.1 = none)) (fun i x => [(5, a9 4 x.2.1 (x.2.2.map Tm.av)), (6, .int .i64 i)]) (fun i x => aZ (st.aC c (cA bs x.1)) x.2.1 (x.2.2.map Tm.av)) (by decide +kernel) ⟨(p, 0, []), ⟨c7 _, by simp only; omega, rfl, fun h => absurd rfl h⟩, by
  simp only [aW, vV, MQ]
  exact aO.mk (by simp -implicitDefEqProofs only [jG, aA, ↓aU, seval])⟩ (fun i x s hx hlt bU hdr hinv => ?_) (fun s hge hinv => ?_)
 case refine_1 =>
  obtain ⟨q, b, acc⟩ := s
  obtain ⟨g1, g2, g3, g4⟩ := hinv
  simp only at g1 g2 g3 g4
  have hw := bK (n := (i : Int) + 1)
  have hat := bL (av := Tm.av) aN hx (aH x)
  obtain ⟨k1, k2⟩ := hRq _ _ _ g4
  simp -implicitDefEqProofs only [bU, aF, hat, aH, aT, aA, seval, GK]
  refine (N6 bs c q x (hl x (cW hx)).2 _ (by omega) k1).mono ?_
  rintro _ _ ⟨q2, r1, r2, rfl, y, rfl⟩
  obtain ⟨k3, k4⟩ := k2 (cA bs q2)
  rw [k3]
  simp -implicitDefEqProofs only [aH, aT, cG, aA, seval, GK]
  refine eO aN bE bF rfl rfl (fB (aH _) (bZ _)) (dR _) k4 (by simp only [aF, aS, a7]; omega) (by simp only [aF, aS, a7]; omega) (fun b' hb' => ?_)
  rw [show acc.map Tm.av ++ [y.av] = (acc ++ [y]).map Tm.av by simp] at hb' ⊢
  simp -implicitDefEqProofs only [hw, aA, seval]
  exact ⟨(q2, b', acc ++ [y]), ⟨by simp only; omega, by simp only; omega, by simp only [dQ, aS, a7]; omega, hb'⟩, aO.mk (by simp -implicitDefEqProofs only [aA, seval])⟩
 obtain ⟨q, b, acc⟩ := s
 obtain ⟨g1, g2, g3, g4⟩ := hinv
 simp only at g1 g2 g3 g4
 obtain ⟨k1, k2⟩ := hRq _ _ _ g4
 simp -implicitDefEqProofs only [aF, hge, aA, seval, GK]
 refine (mY bs c q (by omega) 30 (by omega) (by omega) _ k1).mono ?_
 rintro _ _ ⟨j, hj, rfl, rfl⟩
 obtain ⟨k3, k4⟩ := k2 (cA bs (q + 1))
 rw [k3]
 have NN : prog.underlying 31 = some (.slice 63) := by kernel_rfl
 simp -implicitDefEqProofs only [aA, seval]
 refine aQ (fun h0 => ?_) (fun h0 => ?_)
 · simp -implicitDefEqProofs only [aA, seval]
   refine gZ (σ := Nat × List Tm) [1000000] [4] (fun x => (x.2.map Tm.av ≠ [] → (st.aC c (cA bs (q + 1))) x.1 = none) ∧ x.2.length ≤ 41) (fun x => [(5, a9 4 x.1 (x.2.map Tm.av))]) (fun x => aZ (st.aC c (cA bs (q + 1))) x.1 (x.2.map Tm.av)) (fun x => 41 - x.2.length) (by decide +kernel) ⟨(b, acc), ⟨k4, by simp only; omega⟩, aO.mk (by simp -implicitDefEqProofs only [aA, seval])⟩ ?_
   rintro ⟨b, acc⟩ ⟨i1, i2⟩
   simp only at i1 i2
   have haL := sW (w := 4) (b := b) (l := acc.map Tm.av) NN
   rw [aF] at haL
   simp -implicitDefEqProofs only [haL, aA, seval]
   refine aQ (fun h1 => ?_) (fun h1 => ?_)
   case refine_2 =>
    simp -implicitDefEqProofs only [aA, seval]
    exact jV _ _ _ i2 (by omega) (by omega) i1
   simp only [bJ] at h1
   simp -implicitDefEqProofs only [aA, seval]
   refine (rH ⟨#[116, 114, 117, 101]⟩ [] (by simp) _).to ?_
   simp -implicitDefEqProofs only [aT, aH, cG, aA, seval, GK]
   refine eO aN bE bF rfl rfl (fB (aH _) (bZ _)) (dR _) i1 (by simp only [aF, aS, a7]; omega) (by simp only [aF, aS, a7]; omega) (fun b' hb' => ?_)
   rw [show acc.map Tm.av ++ [(Tm.mk 3 0 ⟨#[116, 114, 117, 101]⟩ []).av] = (acc ++ [Tm.mk 3 0 ⟨#[116, 114, 117, 101]⟩ []]).map Tm.av by simp] at hb' ⊢
   simp -implicitDefEqProofs only [aA, seval]
   exact ⟨(b', acc ++ [Tm.mk 3 0 ⟨#[116, 114, 117, 101]⟩ []]), by simp only [dQ, aS, a7]; omega, ⟨hb', by simp only [dQ, aS, a7]; omega⟩, aO.mk (by simp -implicitDefEqProofs only [aA, seval])⟩
 · skip
   simp -implicitDefEqProofs only [aA, seval]
   exact jV _ _ _ (by omega) (by omega) (by omega) k4
abbrev aY7 := zi tI_3 (zi zI_3 (zi aX (zi tI_51 (zi zI_51 (zi dW (zi fW (zi fU (zi gA (zi tI_90 zI_90)))))))))
theorem aY9 (bs : List Bt) (c p : Nat) (st : aB) (hp : p + 10 ≤ 1099511627776) (hR : dK st c bs p) : aD prog 61 [.ptr c 0] st (Dr bs c p 10 st (fun r => ∃ n : Int, r = .int .i64 n)) := by
 refine wF [1000000] 1 func61 ntmps61 rfl rfl ?_
 intro _
 simp -implicitDefEqProofs only [aA, seval, aY7]
 refine (wT [20, 3, 1, 5, 0, 21, -1] (by simp) (by simp) bs c p (by omega) _ hR).mono ?_
 rintro _ _ ⟨x, hx, rfl, rfl⟩
 simp -implicitDefEqProofs only [aA, seval]
 exact ⟨p + 1, by omega, by omega, rfl, x, rfl⟩
abbrev aQE := zi tI_3 (zi zI_3 (zi aX (zi tI_51 (zi zI_51 (zi dW (zi fW (zi fU (zi gA (zi tI_90 zI_90)))))))))
theorem aOS (bs : List Bt) (c p : Nat) (st : aB) (hp : p + 10 ≤ 1099511627776) (hR : dK st c bs p) : aD prog 64 [.ptr c 0] st (Dr bs c p 10 st (fun r => ∃ n : Int, -1 ≤ n ∧ n ≤ 301 ∧ r = .int .i64 n)) := by
 refine wF [1000000] 1 func64 ntmps64 rfl rfl ?_
 intro _
 simp -implicitDefEqProofs only [aA, seval, aQE]
 refine (wT [100, 60, 200, 10, 300, 0, 301, -1] (by simp) (by simp) bs c p (by omega) _ hR).mono ?_
 rintro _ _ ⟨x, hx, rfl, rfl⟩
 simp -implicitDefEqProofs only [aA, seval]
 refine ⟨p + 1, by omega, by omega, rfl, x, ?_, ?_, rfl⟩ <;> (simp only [cY, dP, d4] at hx; omega)
abbrev aR4 := zi tI_125 (zi zI_125 (zi iS (zi lR (zi lQ mF))))
theorem aWU (st : aB) : aD prog 88 [] st (fun r st' => r = .slice (JS.map AV.str) ∧ st' = st) := by
 refine aD.done ?_
 refine wF [1000000] 0 func88 ntmps88 rfl rfl ?_
 intro _
 simp -implicitDefEqProofs only [aA, seval, aR4]
 exact ⟨rfl, aL.refl _⟩
abbrev aNZ := zi tI_125 (zi zI_125 (zi iS (zi lR (zi lQ mF))))
theorem a0C (st : aB) : aD prog 125 [] st (fun r st' => r = .slice (L2.map AV.str) ∧ st' = st) := by
 refine aD.done ?_
 refine wF [1000000] 0 func125 ntmps125 rfl rfl ?_
 intro _
 simp -implicitDefEqProofs only [aA, seval, aNZ]
 exact ⟨rfl, aL.refl _⟩
theorem aK8 {α : Type} {P : Program} {t : TypeId} {ag : Bool} {w : Nat} {av : α → AV} {l : List α} {i : Nat} {x : α} (hI : eI P t = some (ag, w)) (h : l[i]? = some x) (hw : (av x).width = w) : dJ P t (.fslice (l.map av)) (.int .i64 (i : Int)) = some (.pptr (av x)) := by
 simp only [dJ, hI, l7, oV, h, qZ, hw]
 simp
theorem a0F {P : Program} {φ : AF} {st : aB} {t u v w : Tmp} {K : AV → aB → Prop} : mO P [.tmp t, .tmp u, .tmp v, .tmp w] K φ st = (kB [φ t, φ u, φ v, φ w] = true ∧ K (.tup [φ t, φ u, φ v, φ w]) st) := rfl
def VZ (l : List ByteArray) : AV := .fslice (l.map AV.str)
abbrev L9 (q : List Tm) : Prop := q.length ≤ 6 ∧ ∀ t ∈ q, Dn t
theorem U5 (s : ByteArray) : ∃ q : List Tm, L9 q ∧ ∃ f, E0 (mP (sb s)) = .tup [.slice (q.map Tm.av), .bool f] := by
 cases h : mP (sb s) with
 | none => exact ⟨[], ⟨by simp, by simp⟩, false, rfl⟩
 | some q =>
  obtain ⟨h1, h2⟩ := aOK h
  exact ⟨q, ⟨(JU h1).1, h2⟩, true, rfl⟩
theorem aTT {s : ByteArray} (h : L7 s = true) : s.size ≤ 200 ∧ ∃ l : List Cl, yS (sb s) = some l ∧ 2 ≤ l.length ∧ l.length ≤ 20 ∧ ∀ c ∈ l, t8 c := by
 unfold L7 at h
 rw [cM, bJ] at h
 refine ⟨h.1, ?_⟩
 have h2 := h.2
 cases hp : yS (sb s) with
 | none => rw [hp] at h2; simp at h2
 | some l =>
  rw [hp] at h2
  simp only [cM, bJ] at h2
  refine ⟨l, rfl, h2.1, h2.2, fun c hc => ?_⟩
  unfold yS at hp
  simp only at hp
  split at hp
  · cases hp
  · exact ((aJI _ [] l (by simp) hp).1 c hc).1
abbrev aA9 := zi tI_3 (zi zI_3 (zi aX (zi tI_9 (zi zI_9 (zi cH (zi tI_31 (zi zI_31 (zi aN (zi bE (zi bF (zi b9 (zi tI_90 (zi zI_90 (zi tI_125 (zi zI_125 (zi iS (zi lR (zi lQ mF))))))))))))))))))
theorem aW7 (bs : List Bt) (c p : Nat) (st : aB) (hp : p + 10 ≤ 1099511627776) (hR : dK st c bs p) : aD prog 91 [.ptr c 0] st (Dr bs c p 10 st (fun r => ∃ q : List Tm, L9 q ∧ r = .slice (q.map Tm.av))) := by
 refine wF [1000000] 1 func91 ntmps91 rfl rfl ?_
 intro _
 simp -implicitDefEqProofs only [aA, seval]
 refine (a0C _).to ?_
 simp -implicitDefEqProofs only [aF, aA, seval, aA9]
 refine (mY bs c p (by omega) L2.length (by decide) (by decide) _ hR).mono ?_
 rintro _ _ ⟨k, hk, rfl, rfl⟩
 obtain ⟨x, hx⟩ : ∃ x, L2[k]? = some x := ⟨_, fH hk⟩
 have hat := bL (av := AV.str) iS hx rfl
 simp -implicitDefEqProofs only [hat, aA, seval, aA9]
 refine (aGC x _).to ?_
 obtain ⟨q, hq, f, hf⟩ := U5 x
 rw [hf]
 simp -implicitDefEqProofs only [aA, seval]
 exact ⟨p + 1, by omega, by omega, rfl, q, hq, rfl⟩
abbrev D6 := zi tI_3 (zi zI_3 (zi aX (zi tI_5 (zi zI_5 (zi kI (zi tI_9 (zi zI_9 (zi cH (zi tI_29 (zi zI_29 (zi gT (zi j0 (zi jZ (zi kM (zi tI_31 (zi zI_31 (zi aN (zi bE (zi bF (zi b9 (zi tI_90 (zi zI_90 (zi tI_125 (zi zI_125 (zi iS (zi lR (zi lQ (zi mF (zi tI_130 (zi zI_130 (zi aDY (zi aYB (zi aS6 aRI)))))))))))))))))))))))))))))))))
set_option maxHeartbeats 1000000 in
theorem aTF (bs : List Bt) (c p : Nat) (st : aB) (hp : p + 100 ≤ 1099511627776) (hR : dK st c bs p) :
 aD prog 60 [.ptr c 0] st (Dr bs c p 100 st (fun r => ∃ (l : List Cl) (q : List Tm), (2 ≤ l.length ∧ l.length ≤ 20 ∧ ∀ x ∈ l, t8 x) ∧ L9 q ∧ r = .tup [.slice (l.map bY), .slice (q.map Tm.av)])) := by
 refine wF [1000000] 1 func60 ntmps60 rfl rfl ?_
 intro _
 simp -implicitDefEqProofs only [aA, seval]
 refine (aWU _).to ?_
 simp -implicitDefEqProofs only [aF, aA, seval, D6]
 refine (mY bs c p (by omega) JS.length (by decide) (by decide) _ hR).mono ?_
 rintro _ _ ⟨k, hk, rfl, rfl⟩
 obtain ⟨x, hx⟩ : ∃ x, JS[k]? = some x := ⟨_, fH hk⟩
 have hat := bL (av := AV.str) iS hx rfl
 have hk2 : k < CO.length := hk
 obtain ⟨y, hy⟩ : ∃ y, CO[k]? = some y := ⟨_, fH hk2⟩
 obtain ⟨hxs, l, hl1, hl2, hl3, hl4⟩ := aTT (eW.1 aPB x (cW hx))
 have hyo := eW.1 aO3 y (cW hy)
 simp only [cM, bJ] at hyo
 have aCP := aK8 (P := prog) (av := VZ) aDY hy rfl
 simp only [CO, VZ, bA, aW] at aCP
 have hpp := fun st => aYL x (by omega) st
 rw [hl1] at hpp
 simp -implicitDefEqProofs only [hat, aA, seval, D6]
 refine (hpp _).mono ?_
 rintro _ _ ⟨rfl, rfl⟩
 simp -implicitDefEqProofs only [aCP, aA, seval, D6]
 refine (mY bs c (p + 1) (by omega) 5 (by omega) (by omega) _ dK.new).mono ?_
 rintro _ _ ⟨j, hj, rfl, rfl⟩
 rw [dE]
 simp -implicitDefEqProofs only [aA, seval]
 refine aQ (fun h0 => ?_) (fun h0 => ?_)
 · simp -implicitDefEqProofs only [aA, seval]
   refine (aW7 bs c (p + 1 + 1) _ (by omega) dK.new).mono ?_
   rintro _ _ ⟨p2, r1, r2, rfl, q, hq, rfl⟩
   rw [dE]
   simp -implicitDefEqProofs only [aA, seval]
   exact ⟨p2, by omega, by omega, rfl, l, q, ⟨hl2, hl3, hl4⟩, hq, rfl⟩
 simp -implicitDefEqProofs only [aF, aA, seval, D6]
 refine (mY bs c (p + 1 + 1) (by omega) y.length (by omega) (by have := aV0 y (cW hy); omega) _ dK.new).mono ?_
 rintro _ _ ⟨i, hi, rfl, rfl⟩
 rw [dE]
 obtain ⟨z, hz⟩ : ∃ z, y[i]? = some z := ⟨_, fH hi⟩
 have BE := aK8 (P := prog) (av := AV.str) iS hz rfl
 simp -implicitDefEqProofs only [BE, aA, seval, D6]
 refine (aGC z _).to ?_
 obtain ⟨q, hq, f, hf⟩ := U5 z
 rw [hf]
 simp -implicitDefEqProofs only [aA, seval]
 exact ⟨p + 1 + 1 + 1, by omega, by omega, rfl, l, q, ⟨hl2, hl3, hl4⟩, hq, rfl⟩
theorem aSS (code : List Bt) (st : aB) : aD prog 35 [.slice (code.map iN)] st (fun r st' => (∃ (p : List Cl) (q : List Tm) (most fuel : Int), (q.length ≤ 41 ∧ -1 ≤ fuel ∧ fuel ≤ 301) ∧ r = .tup [.slice (p.map bY), .slice (q.map Tm.av), .int .i64 most, .int .i64 fuel]) ∧ st' = st) := by
 refine aD.drop ?_
 refine wF [1000000] 1 func35 ntmps35 rfl rfl ?_
 intro _
 simp -implicitDefEqProofs only [aA, seval]
 refine (aWD code _).mono ?_
 rintro _ _ ⟨c, bs, rfl, hc, rfl⟩
 have hD : ∀ o, aL (st.aC c o) st := fun o => (aL.refl _).aC hc
 simp -implicitDefEqProofs only [aA, seval]
 refine (aTF bs c 0 _ (by omega) dK.new).mono ?_
 rintro _ _ ⟨p1, r1, r2, rfl, l, q, ⟨l1, l2, l3⟩, ⟨q1, q2⟩, rfl⟩
 rw [dE]
 simp -implicitDefEqProofs only [aA, seval]
 refine (aY9 bs c p1 _ (by omega) dK.new).mono ?_
 rintro _ _ ⟨p2, s1, s2, rfl, n, rfl⟩
 rw [dE]
 simp -implicitDefEqProofs only [aA, seval]
 refine (aVD bs c p2 l l3 l1 (by omega) _ (by omega) dK.new).mono ?_
 rintro _ _ ⟨p3, t1, t2, rfl, l', rfl⟩
 rw [dE]
 simp -implicitDefEqProofs only [aA, seval]
 refine (aTS bs c p3 q q2 (by omega) _ (by omega) dK.new).mono ?_
 rintro _ _ ⟨p4, u1, u2, rfl, q', u3, rfl⟩
 rw [dE]
 simp -implicitDefEqProofs only [aA, seval]
 refine (aOS bs c p4 _ (by omega) dK.new).mono ?_
 rintro _ _ ⟨p5, v1, v2, rfl, m, w1, w2, rfl⟩
 rw [dE]
 simp -implicitDefEqProofs only [a0F, aA, seval]
 exact ⟨hD _, l', q', n, m, ⟨u3, w1, w2⟩, rfl⟩
end Go.AW
namespace Go.AW
theorem aD.aM0 {P : Program} {g : FuncId} {args args' : List AV} {st : aB} {xs : List AV} (x : ∀ s, aD P g args s (zQ s xs)) (hv : mU st dX args' args) : aD P g args' st (zQ st xs) := by
 refine aD.frame (aL.dX st) ((x dX).mono ?_) hv
 rintro r s1 ⟨os, bs, hr, h1, _, h3, h4⟩ hfr
 have hso := cF.hH _ _ _ h3
 have hbs : ∀ b ∈ bs, st b = none := fun b hb => hfr b rfl (by
  obtain ⟨cs, e, _⟩ := hso.2 b hb
  rw [e]; simp)
 have hfb : ∀ b ∈ bs, (st.frame dX s1) b = s1 b := fun b hb => by simp only [aB.frame, hbs b hb]; split <;> simp_all
 refine ⟨by rw [hr]; unfold AV.hH; exact hso.1.1, fun b o e => ?_, os, bs, hr, h1, hbs, cF.a8 _ _ _ hfb h3, fun b hb => ?_⟩
 · by_cases hb : b ∈ bs
   · obtain ⟨cs, e2, hs⟩ := hso.2 b hb
     rw [e] at e2; cases e2; exact hs
   · rw [h4 b hb] at e; cases e
 · have := h4 b hb
   simp only [aB.frame, dX] at this ⊢
   cases hst : st b with
   | none => exact this
   | some o => rfl
theorem aD.aRS {P : Program} {g : FuncId} {args args' : List AV} {st s0 : aB} {Q : AV → aB → Prop} (D : aL st s0) (hv : mU st s0 args' args) (x : aD P g args s0 Q) : aD P g args' st Q :=
 ⟨x.1, fun w vs S V => (x.2 w vs (D.B1 S) (hv _ _ S V)).mono fun e w' ⟨v, r, st', e1, a, b, c, d, q⟩ => ⟨v, r, st', e1, a, b, (D.step w.heap).trans c, d, q⟩⟩
theorem mU.mono {st s0 : aB} (D : aL st s0) : ∀ (us : List AV), mU st s0 us us
 | [] => mU.nil
 | a :: us => mU.cons (fun hp v S y => y.mono (D.step hp)) (mU.mono D us)
theorem aQ8 {st s0 : aB} (D : aL st s0) {b w : Nat} {L : List AV} (hb : st b = some (.cells (L.flatMap AV.cells))) (hb0 : s0 b = none) (hj : ∀ e ∈ L, e.cB = false) (hw : ∀ e ∈ L, e.width = w) :
 ∀ h v, cS h st → aR h st (.mslice b 0 L.length w) v → aR h s0 (.slice (j9 L)) v := fun h v S y => by
 obtain ⟨f1, f2⟩ := frozen S hb hj
 have D2 : aL (st.erase b) s0 := fun x => by
  unfold aB.erase
  by_cases hx : x = b
  · subst hx; rw [aG rfl]; exact ⟨fun _ => hb0, fun o e => by rw [hb0] at e; cases e⟩
  · rw [aE hx]; exact D x
 have hE := cX.deep L b 0 (cX.mono (D2.step h) b rfl _ _ f2)
 obtain ⟨cap, hv, l1, l2, _⟩ := y.z0
 subst hv
 refine ⟨rfl, ?_⟩
 unfold VC
 exact .inr ⟨b, 0, cap, by rw [xD]; try rfl, by rw [xD]; exact l1, l2, hb0, f1, LC ⟨w, hw⟩, hE⟩
theorem aYS {P : Program} {t : TypeId} {ag : Bool} {w bytes : Nat} {zs : List AV} {st : aB} {E : AV} {L : List AV} {K : AV → aB → Prop} (hI : eI P t = some (ag, w)) (hB : eB P t = some bytes) (hZ : eZ P t = some zs) (hz : zs.length = w)
 (hx : s8 w L) (hE : E.width = w) (hEj : E.cB = false) (hw : ∀ e ∈ L, e.width = w) (hj : ∀ e ∈ L, e.cB = false) (hl : (1 + L.length) * bytes ≤ 140737488355328) (hl2 : 1 + L.length ≤ 9223372036854775807)
 (hK : ∀ f st', aL st' st → (f.isAgg = false ∧ f.cB = false ∧ f.width = 1 ∧ f.cells = [f] ∧ f.storable = true) → (∀ s0, aL st s0 → ∀ h v, cS h st' → aR h st' f v → aR h s0 (.slice (j9 (E :: L))) v) → K f st') :
 jO P t st (.fslice [E]) (.slice L) K := by
 unfold jO
 simp only [hI, hB, hZ, wH]
 refine ⟨hz, hx, by simpa using hl, by simpa using hl2, by simpa using hE, fun h0 => ?_, fun h0 b hb => ?_⟩
 · subst h0
   exact hK _ _ (aL.refl _) ⟨rfl, rfl, rfl, rfl, rfl⟩ fun s0 D h v S y => by
    have := (y.mono (D.step h)).deep
    exact this
 · have hle : ([E] : List AV).length + L.length = (E :: L).length := by simp; omega
   rw [hle]
   refine hK _ _ ((aL.refl _).aC hb) ⟨rfl, rfl, rfl, rfl, rfl⟩ fun s0 D h v S y => ?_
   exact aQ8 ((((aL.refl st).aC hb)).trans D) (L := E :: L) (by rw [aB.aP]; try rfl) ((D b).1 hb) (by intro e he; rcases cY.1 he with rfl | he; exact hEj; exact hj e he) (by intro e he; rcases cY.1 he with rfl | he; exact hE; exact hw e he) h v S y
end Go.AW
namespace Go.AW
open Go.Proofs.Tryz
abbrev a1L := zi tI_3 (zi zI_3 (zi aX (zi tI_4 (zi zI_4 (zi cD (zi tI_26 (zi zI_26 (zi o0 (zi rQ (zi r7 (zi uF (zi tI_29 (zi zI_29 (zi gT (zi j0 (zi jZ (zi kM (zi tI_31 (zi zI_31 (zi aN (zi bE (zi bF (zi b9 (zi tI_57 (zi zI_57 (zi sG (zi zC (zi yN v5))))))))))))))))))))))))))))
abbrev a11 := zi tI_3 (zi zI_3 (zi aX (zi tI_4 (zi zI_4 (zi cD (zi tI_26 (zi zI_26 (zi o0 (zi rQ (zi r7 (zi uF (zi tI_29 (zi zI_29 (zi gT (zi j0 (zi jZ (zi kM (zi tI_31 (zi zI_31 (zi aN (zi bE (zi bF (zi b9 (zi tI_57 (zi zI_57 (zi sG (zi zC (zi yN (zi v5 (zi tI_63 (zi zI_63 (zi bP (zi bQ (zi bT (zi bS (zi bR (zi tI_101 (zi zI_101 (zi rG (zi v9 (zi xJ CI)))))))))))))))))))))))))))))))))))))))))
theorem aVO (s : ByteArray) (q : List Tm) : j9 (AV.agg [.int .i64 3, .int .i64 0, .str s, .fslice []] :: q.map Tm.av) = (Tm.mk 3 0 s [] :: q).map Tm.av := by
 simp only [j9, AV.deep, O8, bA, aV, aW]
theorem aDV {st s2 : aB} {s : ByteArray} {q : List Tm} {f : AV} (hf : ∀ s0, aL st s0 → ∀ h v, cS h s2 → aR h s2 f v → aR h s0 (.slice (j9 (AV.agg [.int .i64 3, .int .i64 0, .str s, .fslice []] :: q.map Tm.av))) v) (D : aL s2 st) (s0 : aB) (D0 : aL st s0) (a b c : AV) :
 mU s2 s0 [a, f, b, c] [a, .slice ((Tm.mk 3 0 s [] :: q).map Tm.av), b, c] :=
 have D2 := D.trans D0
 mU.cons (fun hp v S y => y.mono (D2.step hp)) (mU.cons (fun h v S y => by have := hf s0 D0 h v S y; rw [aVO] at this; exact this) (mU.mono D2 [b, c]))
abbrev KG := zi tI_3 (zi zI_3 (zi aX (zi tI_4 (zi zI_4 (zi cD (zi tI_26 (zi zI_26 (zi o0 (zi rQ (zi r7 (zi uF (zi tI_29 (zi zI_29 (zi gT (zi j0 (zi jZ (zi kM (zi tI_31 (zi zI_31 (zi aN (zi bE (zi bF (zi b9 (zi tI_57 (zi zI_57 (zi sG (zi zC (zi yN (zi v5 (zi tI_63 (zi zI_63 (zi bP (zi bQ (zi bT (zi bS (zi bR (zi tI_102 (zi zI_102 (zi aVU (zi aWZ (zi aYD aSO)))))))))))))))))))))))))))))))))))))))))
set_option maxHeartbeats 2000000 in
theorem aMX (code : List Bt) (st : aB) : aD prog 9 [.slice (code.map iN)] st (fun r _ => r = .bool true) := by
 refine wF [1000000] 1 func9 ntmps9 rfl rfl ?_
 intro _
 simp -implicitDefEqProofs only [aF, aA, seval, KG]
 refine aQ (fun h1 => ?_) (fun h1 => ?_)
 · simp -implicitDefEqProofs only [aA, seval]
 simp -implicitDefEqProofs only [aA, seval]
 refine (aSS code _).mono ?_
 rintro _ s1 ⟨⟨p, q, most, fuel, ⟨hql, hf1, hf2⟩, rfl⟩, rfl⟩
 have hP := fun h => aUN (p := p) (cnd := fun _ l => l) (q := q) (most := most) (fuel := fuel) h
 have h9 := aZ6 (p := p) (cnd := fun _ l => l) (q := fG :: q) (most := most) (fuel := fuel)
 have hS3 := aPN p (fG :: q) most fuel
 have hS4 := aV4 p (fG :: q) most fuel
 generalize i9 p (fun _ l => l) (fG :: q) most fuel = T at *
 obtain ⟨L, e⟩ := T
 simp only at hP h9 hS3 hS4
 simp -implicitDefEqProofs only [aA, seval, KG]
 refine aYS aN bE bF rfl (by intro e he; simp only [cU] at he; obtain ⟨t, _, rfl⟩ := he; exact ⟨aH _, bZ _⟩) rfl rfl (dR _) (iB _) (by rw [aF]; omega) (by rw [aF]; omega) (fun f s2 D hf0 hf => ?_)
 obtain ⟨hfa, hfj, hfw, hfc, hfs⟩ := hf0
 simp -implicitDefEqProofs only [aA, seval]
 refine ((aD.aM0 hS3 (aDV hf D dX (aL.dX _) _ _ _)).aOZ).to ?_
 simp -implicitDefEqProofs only [aA, seval]
 refine (aD.aRS D (aDV hf D _ (aL.refl _) _ _ _) (hS4 _)).mono ?_
 rintro _ s3 ⟨rfl, hs3⟩
 simp -implicitDefEqProofs only [bM, iV, aA, seval]
 refine (aLO L _).to ?_
 simp -implicitDefEqProofs only [iV, aA, seval]
 refine aQ (fun he => ?_) (fun he => ?_)
 · simp -implicitDefEqProofs only [bM, iV, aA, seval]
   refine (aLO L _).to ?_
   simp -implicitDefEqProofs only [aA, seval]
 have hok : jM p (fG :: q) most fuel = true := by
  cases hk : jM p (fG :: q) most fuel with
  | true => rfl
  | false => have := h9.2 hk; subst this; simp at he
 have := hP hok
 by_cases hf0 : fuel = 0
 · rw [aG hf0] at this
   simp only [Prod.mk.injEq] at this
   obtain ⟨rfl, rfl⟩ := this
   subst hf0
   simp -implicitDefEqProofs only [aW, a7, bM, bX, iV, aA, seval, KG]
 · rw [aE hf0] at this
   simp only [Prod.mk.injEq] at this
   obtain ⟨rfl, rfl⟩ := this
   simp -implicitDefEqProofs only [aW, a7, bM, bX, iV, aA, seval, KG]
end Go.AW
namespace Go.AW
open Go.ChangeShapes Go.WideShapes Go.ChangeAt Go.RowKit
abbrev sI : aB := fun _ => none
section
variable {H : Type} {enc : TypeId × Value → H} {P : Program} {w : World}
def Reads (enc : TypeId × Value → H) (P : Program) (w : World) (t n : Nat) {α : Type} (av : α → AV) : Prop :=
 ∀ cs x, DataW.trod enc P w 0 (fun _ => true) true n t cs = some x → ∃ a : α, VC w.heap sI (av a) cs
theorem aF0 {h : bH} {st : aB} {b k : Nat} : ∀ {es : List AV} {off : Nat}, (∀ e ∈ es, e.width = k) → (∀ (i : Nat) e, es[i]? = some e → VE h st b (off + i * k) e) → cX h st b off es
 | [], _, _, _ => by simp [cX]
 | e :: es, off, hw, h => by
  simp only [cX]
  refine ⟨by simpa [VE] using h 0 e rfl, aF0 (fun x hx => hw x (by simp [hx])) fun i x hx => ?_⟩
  have := h (i + 1) x (by simpa using hx)
  rw [hw e (by simp), C8, ← Nat.aXM k i] 
  exact this
where Nat.aXM (k i : Nat) : (i + 1) * k = k + i * k := by rw [qW]; omega
theorem aES {a : Addr} {v : Value} (h : w.cell? a = some v) : a.spot = none ∧ a.block < w.heap.size ∧ cellAt w.heap a.block a.off = some v := by
 unfold World.cell? at h
 split at h
 · rename_i c t fr hb
   split at h
   · cases h
   · rename_i hs
     refine ⟨by simpa using hs, (Q9.1 hb).1, by simp [cellAt, hb, h]⟩
 · cases h
theorem aX1 {a : Addr} {n : Nat} {cs : List Value} (hs : a.spot = none) (h : w.cells? 0 a n = some cs) : fA w.heap a.block a.off cs ∧ cs.length = n := by
 obtain ⟨_, hl, hc⟩ := World.cells?_some h
 refine ⟨?_, hl⟩
 have : ∀ (l : List Value) (k : Nat), (∀ i, i < l.length → w.cell? (a.add (k + i)) = l[i]?) → fA w.heap a.block (a.off + k) l := by
  intro l
  induction l with
  | nil => intro _ _; trivial
  | cons v l ih =>
   intro k hk
   refine ⟨?_, ?_⟩
   · have := (aES (hk 0 (by simp))).2.2
     obtain ⟨b, off, sp⟩ := a
     simp only at hs
     subst hs
     simpa [Addr.oR] using this
   · have := ih (k + 1) (fun i hi => by have := hk (i + 1) (by simp; omega); rw [show k + 1 + i = k + (i + 1) by omega]; simpa using this)
     simpa [C8] using this
 simpa using this cs 0 (fun i hi => by simpa using hc i (by omega))
theorem aXR {t e n k : Nat} {α : Type} {av : α → AV} (ht : P.underlying t = some (.slice e)) (hk : P.cellsOf e = k) (BN : 0 < k) (hw : ∀ a, (av a).width = k) (hr : ∀ m, m < n → Reads enc P w e m av) :
 Reads enc P w t n (fun l : List α => .slice (l.map av)) := by
 intro cs x h
 rcases DataW.trod_slice ht h with ⟨rfl, _⟩ | ⟨a, len, cap, elems, rest, m, hm, rfl, rfl, _, hl, B3, hlen, hel, hsp, _⟩
 · exact ⟨[], by simp only [aW]; unfold VC; exact .inl ⟨⟨_, rfl⟩, rfl⟩⟩
 obtain ⟨hrl, A0⟩ := hsp rfl
 rw [hk] at hel A0
 have get : ∀ i, i < cap → ∃ ds y, w.cells? 0 (a.add (i * k)) k = some ds ∧ DataW.trod enc P w 0 (fun _ => true) true m e ds = some y := by
  intro i hi
  have hb : ∃ y, (w.cells? 0 (a.add (i * k)) k).bind (DataW.trod enc P w 0 (fun _ => true) true m e) = some y := by
   by_cases hi' : i < len
   · exact ⟨elems[i]'(by omega), by rw [hel i hi']; simp [show i < elems.length by omega]⟩
   · have := A0 (i - len) (by omega)
     rw [show len + (i - len) = i by omega] at this
     exact ⟨rest[i - len]'(by omega), by rw [this]; simp [show i - len < rest.length by omega]⟩
  obtain ⟨y, hy⟩ := hb
  obtain ⟨ds, h1, h2⟩ := Option.bind_eq_some_iff.1 hy
  exact ⟨ds, y, h1, h2⟩
 by_cases hc0 : cap = 0
 · subst hc0
   obtain rfl : len = 0 := by omega
   exact ⟨[], by simp only [aW]; unfold VC; exact .inl ⟨⟨_, rfl⟩, rfl⟩⟩
 obtain ⟨ds0, _, hd0, _⟩ := get 0 (by omega)
 have aDW : a.spot = none ∧ a.block < w.heap.size := by
  obtain ⟨_, hl0, hc⟩ := World.cells?_some hd0
  have := hc 0 BN
  have h0 : ds0[0]? = some (ds0[0]'(by omega)) := by simp [hl0, BN]
  rw [h0] at this
  have := aES this
  obtain ⟨b, off, sp⟩ := a
  simp only [Nat.zero_mul] at this
  cases sp with
  | none => exact ⟨rfl, by simpa [Addr.oR] using this.2.1⟩
  | some s => exact absurd this.1 (by simp [Addr.add])
 obtain ⟨b, off, sp⟩ := a
 simp only at aDW
 obtain ⟨rfl, hbl⟩ := aDW
 have val : ∀ i, i < len → ∃ v : α, VE w.heap sI b (off + i * k) (av v) := by
  intro i hi
  obtain ⟨ds, y, h1, h2⟩ := get i (by omega)
  obtain ⟨v, hv⟩ := hr m (by omega) ds y h2
  obtain ⟨c1, c2⟩ := aX1 (a := (⟨b, off, none⟩ : Addr).add (i * k)) (by simp [Addr.oR]) h1
  exact ⟨v, ds, by simpa [Addr.oR] using c1, by rw [hw]; exact c2, hv⟩
 have build : ∀ j, j ≤ len → ∃ l : List α, l.length = j ∧ ∀ (i : Nat) v, l[i]? = some v → VE w.heap sI b (off + i * k) (av v) := by
  intro j
  induction j with
  | zero => intro _; exact ⟨[], rfl, by simp⟩
  | succ j ih =>
   intro hj
   obtain ⟨l, h1, h2⟩ := ih (by omega)
   obtain ⟨v, hv⟩ := val j (by omega)
   refine ⟨l ++ [v], by simp [h1], fun i u hi => ?_⟩
   rw [List.getElem?_append] at hi
   split at hi
   · exact h2 i u hi
   · rename_i hge
     have : i = j := by
      have := (gS.1 hi).1
      simp at this
      omega
     subst this
     simp [h1] at hi
     subst hi
     exact hv
 obtain ⟨l, h1, h2⟩ := build len (c7 _)
 refine ⟨l, ?_⟩
 unfold VC
 refine .inr ⟨b, off, cap, by simp [h1], by simp [h1]; exact hl, B3, rfl, hbl, aPP hw l, aF0 (k := k) (by intro e he; simp only [cU] at he; obtain ⟨v, _, rfl⟩ := he; exact hw v) fun i e he => ?_⟩
 rw [oV] at he
 obtain ⟨v, hv, rfl⟩ := Option.map_eq_some_iff.1 he
 exact h2 i v hv
theorem aPI {t : TypeId} {α : Type} {av : α → AV} {v : Value} {d : DataW H} {ps : List MemPlace} (hr : ∀ n, Reads enc P w t n av) (hag : ∀ a, (av a).isAgg = k6 v) (h : DataW.Trod enc P w 0 (fun _ => true) true t v d ps) :
 ∃ a : α, aR w.heap sI (av a) v := by
 obtain ⟨n, hn⟩ := h
 obtain ⟨a, ha⟩ := hr n _ _ hn
 refine ⟨a, ?_⟩
 have := hag a
 cases hq : av a <;> rw [hq] at ha this <;> first | trivial | exact ⟨this, ha⟩
theorem Z8 (hl : laidOutB P = true) {W W' : World} {sp : Nat → Bool} : ∀ {ts : List TypeId} {vs : List Value} {ds : List (DataW H)} {ps : List MemPlace}, (ts.all fun t => P.readableRec t && decide (t < P.types.size)) = true →
 DataW.TrodAll enc P W 0 (fun _ => true) true ts vs ds ps → (∀ x ∈ ps, W.sameAt W' x) → (∀ x ∈ ps, sp x.block = true) → DataW.TrodAll enc P W' 0 sp true ts vs ds ps
 | [], vs, ds, ps, _, h, _, _ => by
  cases vs <;> cases ds <;> simp [DataW.TrodAll] at h ⊢
  exact h
 | t :: ts, vs, ds, ps, ht, h, h1, h2 => by
  obtain ⟨v, vs', d, ds', p, q, rfl, rfl, rfl, hd, A0⟩ := trodAll_cons h
  simp only [kG, cM, bJ] at ht
  refine ⟨p, q, Go.WideElems.Trod_stays hl ht.1.1 ht.1.2 hd (fun x hx => h1 x (by simp [hx])) (fun x hx => h2 x (by simp [hx])), Z8 hl ht.2 A0 (fun x hx => h1 x (by simp [hx])) (fun x hx => h2 x (by simp [hx])), rfl⟩
theorem aY2 {W W' : World} {st' : aB} (T : cC W.heap sI W'.heap st') (s : fP W W') : Below W.heap.size W W' :=
 ⟨s.1, s.2.1, s.2.2, T.size, fun k hk => (T.a8 k hk rfl).1⟩
theorem aVF {f : Func} {g : FuncId} {s : ChangeSpec} {W : World} {args : Array Value} {ds : List (DataW H)} {before : List MemPlace} {avs : List AV} {tb : TypeId}
 (hl : laidOutB P = true) (hts : (f.params.toList.all fun t => P.readableRec t && decide (t < P.types.size)) = true) (hrt : f.resultTypes = #[tb]) (htb : P.underlying tb = some .bool) (hsv : s.vars = [])
 (hW : DataW.Whole enc P f.params.toList [] false W args.toList ds [] before) (hfn : s.fn H ds = { results := [.lit (.bool true)], args := ds }) (aWX : cZ W.heap sI avs args.toList)
 (hc : aD P g avs sI (fun r _ => r = .bool true)) :
 Calls P g args W fun e W' => ∃ v, e = .returned v ∧ s.post enc P f false true false false W args v W' := by
 have hS : cS W.heap sI := fun b o h => by cases h
 have := hc.2 W args.toList hS aWX
 simp only [xP] at this
 refine this.mono ?_
 rintro e W' ⟨v, r, st', rfl, hv, _, T, sm, rfl⟩
 refine ⟨v, rfl, ?_⟩
 have hB := aY2 T sm
 rw [hv.x9]
 have hW' : DataW.Whole enc P f.params.toList s.vars false W args.toList ds [] before := by rw [hsv]; exact hW
 obtain ⟨p, q, hA, hV, rfl, hz, _⟩ := hW
 obtain ⟨_, rfl⟩ := trodVars_none hV
 have hlt : ∀ x ∈ p, x.block < W.heap.size := fun x hx => hW'.lt x (by simp [hx])
 have z7 : ∀ (b : Nat) (sp : Nat → Bool) (hd : Bool), DataW.TrodAll enc P W' b sp hd f.resultTypes.toList ((Value.bool true).resultList f.resultTypes.size) (s.fn H (ds ++ [])).results [] := fun _ _ _ => by
  rw [iC, hfn, hrt]
  exact trodAll_mk1 (shut_bool htb true)
 have qC : ∀ sp : Nat → Bool, (∀ x ∈ p, sp x.block = true) → DataW.TrodAll enc P W' 0 sp true f.params.toList args.toList (s.fn H (ds ++ [])).args p := fun sp hsp => by
  rw [iC, hfn]
  exact Z8 hl hts hA (fun x hx => hB.same (hlt x hx)) hsp
 have UF : ∀ sp : Nat → Bool, DataW.TrodVars enc P W' sp s.vars (s.fn H (ds ++ [])).vars [] := fun sp => by
  rw [iC, hfn, hsv]
  exact rfl
 refine ⟨ds, [], p ++ [], [], p, [], hW', z7 _ _ _, qC _ (fun x hx => by simpa using hlt x hx), UF _, World.keptBut_mono (fun x hx => ⟨hx, by simpa using hx⟩) (hB.frame (· ∈ p ++ [])), fun _ => ?_⟩
 refine ⟨ok_one hrt rfl (okWide_bool_mk htb true), _, _, ([] ++ p) ++ [], ⟨[] ++ p, [], trodAll_append (qC _ (fun _ _ => rfl)) (z7 _ _ _), UF _, rfl, ?_, ?_⟩, ?_⟩
 · intro b off hp
   have hp' : MemPlace.cell b off ∈ p := by simpa using hp
   rw [hB.frozen (p := ⟨b, off, none⟩) (hlt _ hp')]
   exact hz b off (by simpa using hp')
 · intro ha; cases ha
 · intro x hx _
   simpa using hx
end
end Go.AW

namespace Go.AW
open Go.Proofs.Tryz
section
variable {H : Type} {enc : TypeId × Value → H} {w : World}
theorem aZB : prog.cellsOf 5 = 1 := by kernel_rfl
theorem aSI (n : Nat) : Reads enc prog w 5 n iN := by
 intro cs x h
 obtain ⟨k, rfl, _, hw⟩ := DataW.trod_int kI h
 simp only [Lit.wf, IntKind.min, IntKind.max, IntKind.signed, IntKind.bits, cM, bJ] at hw
 refine ⟨⟨k.toNat, ?_⟩, ?_⟩
 · simp at hw; omega
 · have : (((k.toNat : Nat)) : Int) = k := by simp at hw; omega
   simp only [iN, this, VC]
theorem aSG (n : Nat) : Reads enc prog w 57 n (fun l : List Bt => .slice (l.map iN)) :=
 aXR v5 aZB (by omega) J8 fun m _ => aSI m
end
section
variable {H : Type} {enc : TypeId × Value → H} {w : World}
theorem aV6 {r : Reach} {b0 : Nat} {t e : TypeId} {v : Value} (ht : prog.underlying t = some (.slice e)) (h : Value.okWide prog w r b0 t v) : k6 v = false := by
 cases v <;> first | rfl | (simp [Value.okWide, ht, Cell.okWide, Cell.ok] at h)
end
end Go.AW
