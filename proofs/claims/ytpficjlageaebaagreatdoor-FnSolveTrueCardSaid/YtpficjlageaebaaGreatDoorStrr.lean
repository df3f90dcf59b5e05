import Derived.Test.YtpficjlageaebaaGreatDoorStrq
import Derived.Test.YtpficjlageaebaaGreatDoorStrf
import Derived.Test.YtpficjlageaebaaGreatDoorStrp
import Derived.Test.YtpficjlageaebaaGreatDoorStrn
import Derived.ProofKit
import Derived.Test.YtpficjlageaebaaGreatDoorStrk
import Derived.Test.YtpficjlageaebaaGreatDoorStrh
set_option linter.unusedSimpArgs false
set_option linter.unusedVariables false
set_option maxRecDepth 100000
namespace Go.AW
open Go.Proofs.Tryz
def k0 (p : List UInt8) : AV := .str (ba p)
theorem W1 (l : List (List UInt8)) : ∀ e ∈ l.map k0, e.width = 1 := by intro e h; simp only [cU] at h; obtain ⟨t, _, rfl⟩ := h; rfl
theorem aVK (l : List (List UInt8)) : ∀ e ∈ l.map k0, e.cB = false := by intro e h; simp only [cU] at h; obtain ⟨t, _, rfl⟩ := h; rfl
abbrev EO := zi tI_3 (zi zI_3 (zi aX (zi tI_5 (zi zI_5 (zi kN (zi tI_9 (zi zI_9 (zi cH (zi tI_125 (zi zI_125 (zi iV (zi lO (zi lJ mO)))))))))))))
set_option maxHeartbeats 1000000 in
theorem aV7 (s : ByteArray) (c : Nat) (hs : s.size ≤ 1048576) (st : aB) : aD prog 123 [.str s, .int .u8 (c : Int)] st (fun r st' => r = .slice ((mU c (sb s) []).map k0) ∧ st' = st) := by
 generalize hT : mU c (sb s) [] = T
 refine aD.pR (aD.fin ?_)
 refine wF [1000000] 2 func123 ntmps123 rfl rfl ?_
 intro _
 simp -implicitDefEqProofs only [aA, seval, EO]
 refine g9 (σ := List (List UInt8) × Nat × Nat × Nat) [1000000] [0, 1, 4] (fun x => ((x.2.2.1 ≤ s.size ∧ x.2.1 ≤ x.2.2.1 ∧ x.1 ++ mU c ((sb s).drop x.2.2.1) (((sb s).drop x.2.1).take (x.2.2.1 - x.2.1)) = T) ∨ (x.2.2.1 = s.size + 1 ∧ x.2.1 ≤ s.size + 1 ∧ x.1 = T)) ∧ x.1.length ≤ x.2.2.1 ∧ (x.1.map k0 ≠ [] → st x.2.2.2 = none)) (fun x => [(5, a9 1 x.2.2.2 (x.1.map k0)), (6, .int .i64 (x.2.1 : Int)), (7, .int .i64 (x.2.2.1 : Int))]) (fun x => aZ st x.2.2.2 (x.1.map k0)) (fun x => s.size + 1 - x.2.2.1) (by decide +kernel) ⟨([], 0, 0, 0), ⟨Or.inl ⟨jD _, c7 _, hT⟩, jD _, by simp⟩, aP.mk (by simp -implicitDefEqProofs only [aW, jH, aA, ↓aU, seval])⟩ ?_
 rintro ⟨out, f, i, b⟩ ⟨ht, hlen, hb⟩
 simp only at ht hlen hb ⊢
 by_cases hi : i ≤ s.size
 case neg =>
  obtain ⟨h1, h2, rfl⟩ : i = s.size + 1 ∧ f ≤ s.size + 1 ∧ out = T := by
   rcases ht with h | h
   · exact absurd h.1 hi
   · exact h
  have hi' : ((i : Int) ≤ (s.size : Int)) = False := cI (by omega)
  simp -implicitDefEqProofs only [hi', bX, aA, seval, EO]
  exact ⟨b, _, st, rfl, hb, aVK _, ⟨1, W1 _⟩, by rw [iG], aL.refl _⟩
 obtain ⟨-, hfi, ht⟩ : i ≤ s.size ∧ f ≤ i ∧ out ++ mU c ((sb s).drop i) (((sb s).drop f).take (i - f)) = T := by
  rcases ht with h | h
  · exact h
  · omega
 have hi' : ((i : Int) ≤ (s.size : Int)) = True := dA (by omega)
 have hw := bK (n := (i : Int) + 1)
 have hsl := fun (φ : AF) (y z : Operand) (h : φ.eval y = .int .i64 (f : Int)) (h' : φ.eval z = .int .i64 (i : Int)) => EB (s := s) h h' hfi hi
 rw [EN] at hsl
 generalize hp : ((sb s).drop f).take (i - f) = p at *
 have JT : ∀ (K : AV → aB → Prop), (∀ b', ((out ++ [p]).map k0 ≠ [] → st b' = none) → K (a9 1 b' ((out ++ [p]).map k0)) (aZ st b' ((out ++ [p]).map k0))) → jI prog 125 (aZ st b (out.map k0)) (a9 1 b (out.map k0)) (.fslice [.str (ba p)]) K := by
  intro K hK
  refine eN iV lO lJ rfl rfl (fC rfl rfl) (W1 _) hb (by simp only [aF, aS, a7]; omega) (by simp only [aF, aS, a7]; omega) (fun b' hb' => ?_)
  rw [show out.map k0 ++ [AV.str (ba p)] = (out ++ [p]).map k0 by simp [k0]] at hb' ⊢
  exact hK b' hb'
 by_cases hie : i = s.size
 case pos =>
  have G5 : ((i : Int) = (s.size : Int)) = True := dA (by omega)
  rw [GT (by rw [cJ]; omega)] at ht
  simp only [mU] at ht
  simp -implicitDefEqProofs only [hi', G5, hsl, bM, aA, seval, EO]
  refine JT _ fun b' hb' => ?_
  simp -implicitDefEqProofs only [hw, aA, seval]
  refine ⟨(out ++ [p], i + 1, i + 1, b'), by simp only; omega, ⟨Or.inr ⟨by simp only; omega, by simp only; omega, ht⟩, by simp only [dQ, aS, a7]; omega, hb'⟩, aP.mk (by simp -implicitDefEqProofs only [aA, seval] <;> exact ⟨rfl, rfl⟩)⟩
 have G5 : ((i : Int) = (s.size : Int)) = False := cI (by omega)
 obtain ⟨x, hx⟩ := uA (s := s) (n := i) (by omega)
 have hix := rA (P := prog) (t := 9) cH hx
 obtain ⟨hx1, hx2⟩ := gQ.1 hx
 rw [qW hx1, hx2] at ht
 unfold mU at ht
 by_cases hxc : x.toNat = c
 · rw [aG hxc] at ht
   have OC : ((x.toNat : Int) = (c : Int)) = True := dA (by omega)
   simp -implicitDefEqProofs only [hi', G5, hsl, hix, OC, bM, bX, aA, seval, EO]
   refine JT _ fun b' hb' => ?_
   simp -implicitDefEqProofs only [hw, aA, seval]
   refine ⟨(out ++ [p], i + 1, i + 1, b'), by simp only; omega, ⟨Or.inl ⟨by simp only; omega, c7 _, by rw [← ht]; simp⟩, by simp only [dQ, aS, a7]; omega, hb'⟩, aP.mk (by simp -implicitDefEqProofs only [aA, seval] <;> exact ⟨rfl, rfl⟩)⟩
 · rw [aE hxc] at ht
   have OC : ((x.toNat : Int) = (c : Int)) = False := cI (by omega)
   have hp' : ((sb s).drop f).take (i + 1 - f) = p ++ [x] := by
    rw [show i + 1 - f = (i - f) + 1 by omega, fM, hp, RD, show f + (i - f) = i by omega, hx]; try rfl
   simp -implicitDefEqProofs only [hi', G5, hw, hix, OC, bM, bX, aA, seval, EO]
   refine ⟨(out, f, i + 1, b), by simp only; omega, ⟨Or.inl ⟨by simp only; omega, by simp only; omega, by simp only; rw [hp']; exact ht⟩, by simp only; omega, hb⟩, aP.mk (by simp -implicitDefEqProofs only [aA, seval] <;> rfl)⟩
def E2 (o : Option (List Cl)) (r : AV) : Prop := match o with | some l => r = .tup [.slice (l.map b7), .bool true] | none => r = .tup [.slice [], .bool false]
theorem aC0 : ∀ (ls : List (List UInt8)) (acc r : List Cl), (∀ c ∈ acc, uJ c ∧ k7 c = true) → yU ls acc = some r → (∀ c ∈ r, uJ c ∧ k7 c = true) ∧ r.length = acc.length + ls.length
 | [], acc, r, h, h1 => by cases h1; exact ⟨h, rfl⟩
 | l :: ls, acc, r, h, h1 => by
  unfold yU at h1
  split at h1
  · cases h1
  rename_i c h2
  have := aC0 ls (acc ++ [c]) r (by intro x hx; rw [fR, K6] at hx; rcases hx with hx | rfl; exact h x hx; exact X1 h2) h1
  refine ⟨this.1, ?_⟩
  rw [this.2]
  simp only [dQ, aS, a7]
  omega
abbrev wH := zi tI_3 (zi zI_3 (zi aX (zi tI_4 (zi zI_4 (zi cF (zi tI_5 (zi zI_5 (zi kN (zi tI_8 (zi zI_8 (zi vT (zi vX (zi wN (zi wO (zi wL (zi tI_9 (zi zI_9 (zi cH (zi tI_10 (zi zI_10 (zi aXM (zi tI_29 (zi zI_29 (zi gZ (zi j8 (zi j6 (zi kU (zi tI_76 (zi zI_76 (zi lF (zi lI (zi lS (zi tI_125 (zi zI_125 (zi iV (zi lO (zi lJ mO)))))))))))))))))))))))))))))))))))))
set_option maxHeartbeats 1000000 in
theorem aT5 (s : ByteArray) (hs : s.size ≤ 100000) (st : aB) : aD prog 90 [.str s] st (fun r st' => E2 (z0 (sb s)) r ∧ st' = st) := by
 generalize hP : z0 (sb s) = T
 unfold z0 at hP
 simp only at hP
 have tH := fun st => aV7 s 10 (by omega) st
 rw [show ((10 : Nat) : Int) = 10 from rfl] at tH
 have hne := aI7 10 (sb s) []
 have hcl := O4 10 (sb s) []
 rw [cJ] at hcl
 generalize mU 10 (sb s) [] = L at *
 obtain ⟨m, hm⟩ : ∃ m, L.length = m + 1 := ⟨L.length - 1, by have := List.length_pos_iff.2 hne; omega⟩
 obtain ⟨y, hy⟩ : ∃ y, L[m]? = some y := ⟨_, fG (by omega)⟩
 have hgl : L.getLast? = some y := by rw [aMC, hm]; exact hy
 rw [hgl] at hP
 refine aD.drop (Q := E2 T) (aD.fin ?_)
 have tD : T = none → ∀ (b : Nat) (l : List Cl) (s0 : aB), (l.map b7 ≠ [] → s0 b = none) → aL s0 st → ∃ b2 l2 s1, aZ s0 b (l.map b7) = aZ s1 b2 l2 ∧ (l2 ≠ [] → s1 b2 = none) ∧ (∀ e ∈ l2, e.cB = false) ∧ gT l2 ∧ aL s1 st ∧ E2 T ((AV.tup [.fslice [], .bool false]).fin b2 l2) := by
  rintro rfl b l s0 hb hD
  exact ⟨b, _, s0, rfl, hb, HE _, ⟨5, zR _⟩, hD, by simp only [E2, jK, pE, oP, bA, aW]⟩
 refine wF [1000000] 1 func90 ntmps90 rfl rfl ?_
 intro _
 simp -implicitDefEqProofs only [aA, seval, wH]
 refine (tH _).to ?_
 have hat := bL (av := k0) iV hy rfl
 have hw0 := mW (x := (L.length : Int) - 1) (m := m) (by omega) (by omega)
 by_cases h21 : 21 < L.length
 case pos =>
  rw [aG (Or.inl h21)] at hP
  have KB : ((21 : Int) < (L.length : Int)) = True := dA (by omega)
  simp -implicitDefEqProofs only [aF, KB, bM, aA, seval, wH]
  exact tD hP.symm 0 [] st (by simp) (aL.refl _)
 have KB : ((21 : Int) < (L.length : Int)) = False := cI (by omega)
 by_cases hye : y = []
 case neg =>
  rw [aG (Or.inr (by simpa using hye))] at hP
  have NW : (ba y = ⟨#[]⟩) = False := cI fun h => hye (by have := nZ sb h; exact this)
  simp -implicitDefEqProofs only [aF, KB, hw0, hat, k0, NW, bX, aA, seval, wH]
  exact tD hP.symm 0 [] st (by simp) (aL.refl _)
 rw [aE (by rintro (h | h); exact h21 h; exact h (by rw [hye]))] at hP
 have NW : (ba y = ⟨#[]⟩) = True := dA (by rw [hye])
 simp -implicitDefEqProofs only [aF, KB, hw0, hat, k0, NW, bM, bX, aA, seval, wH]
 refine g9 (σ := Nat × List Cl × Nat) [1000000] [5] (fun x => x.1 ≤ m ∧ yU (L.dropLast.drop x.1) x.2.1 = T ∧ x.2.1.length = x.1 ∧ (∀ c ∈ x.2.1, uJ c) ∧ (x.2.1.map b7 ≠ [] → st x.2.2 = none)) (fun x => [(2, .fslice []), (3, .bool false), (4, a9 5 x.2.2 (x.2.1.map b7)), (6, .int .i64 (x.1 : Int))]) (fun x => aZ st x.2.2 (x.2.1.map b7)) (fun x => m - x.1) (by decide +kernel) ⟨(0, [], 0), ⟨jD _, hP, rfl, by simp, by simp⟩, aP.mk (by simp -implicitDefEqProofs only [aW, jH, aA, ↓aU, seval])⟩ ?_
 rintro ⟨i, acc, b⟩ ⟨hi, ht, hlen, hdn, hb⟩
 simp only at hi ht hlen hdn hb ⊢
 have hdl : L.dropLast.length = m := by rw [List.length_dropLast, hm]; try rfl
 have hw1 := bK (n := (i : Int) + 1)
 by_cases him : i < m
 case neg =>
  have LN : ((i : Int) + 1 < (L.length : Int)) = False := cI (by omega)
  rw [GT (by omega)] at ht
  simp only [yU] at ht
  simp -implicitDefEqProofs only [aF, LN, hw1, m6, nY, sL, bX, aA, seval, wH]
  exact ⟨b, _, st, rfl, hb, HE _, ⟨5, zR _⟩, aL.refl _, by rw [← ht]; simp only [E2, jK, pE, lP, bA, aW]⟩
 have LN : ((i : Int) + 1 < (L.length : Int)) = True := dA (by omega)
 obtain ⟨z, hz⟩ : ∃ z, L[i]? = some z := ⟨_, fG (by omega)⟩
 have hz2 : L.dropLast[i]? = some z := by rw [List.getElem?_dropLast, aG (by omega)]; exact hz
 obtain ⟨hz3, hz4⟩ := gQ.1 hz2
 rw [qW hz3, hz4] at ht
 unfold yU at ht
 have aX9 := bL (av := k0) iV hz rfl
 have hpc := aM0 (ba z)
 rw [show sb (ba z) = z from rfl] at hpc
 simp -implicitDefEqProofs only [aF, LN, hw1, aX9, k0, bM, aA, seval, wH]
 refine (hpc _).to ?_
 cases hc : nN z with
 | none =>
  rw [hc] at ht
  simp -implicitDefEqProofs only [yG, gH, aA, ↓aU, seval, wH]
  exact tD ht.symm b acc st hb (aL.refl _)
 | some c =>
  rw [hc] at ht
  simp only at ht
  have hcd := (X1 hc).1
  have hca := CP c
  have hcw := oR c
  have hcj := JM c
  have hcs := aI8 c
  have hcc := ZR c
  simp -implicitDefEqProofs only [yG, hca, hcw, hcj, hcs, aA, ↓aU, seval, wH]
  refine eN gZ j8 j6 rfl rfl (fC hcw hcs) (zR _) hb (by simp only [aF, aS, a7]; omega) (by simp only [aF, aS, a7]; omega) (fun b' hb' => ?_)
  rw [show acc.map b7 ++ [b7 c] = (acc ++ [c]).map b7 by simp] at hb' ⊢
  simp -implicitDefEqProofs only [hw1, aA, seval]
  refine ⟨(i + 1, acc ++ [c], b'), by simp only; omega, ⟨by simp only; omega, ht, by simp only [dQ, aS, a7]; omega, ?_, hb'⟩, aP.mk (by simp -implicitDefEqProofs only [aA, seval] <;> rfl)⟩
  intro x hx
  rw [fR, K6] at hx
  rcases hx with hx | rfl
  · exact hdn x hx
  · exact hcd
def F8 (o : Option (List Tm)) : AV := match o with | some l => .tup [.slice (l.map Tm.av), .bool true] | none => .tup [.slice [], .bool false]
theorem aMT {l : List UInt8} {q : List Tm} (h : mF l = some q) : lV q = true ∧ ∀ t ∈ q, Dn t := by
 unfold mF at h
 split at h
 · cases h
 rename_i g e h1
 split at h
 · rename_i h2
   cases h
   exact ⟨h2.2.2, (J6 h2.1 7 0 [] _ _ (jD _) (by simp) h1).2.2.1⟩
 · cases h
abbrev tA := zi tI_3 (zi zI_3 (zi aX (zi tI_4 (zi zI_4 (zi cF (zi tI_9 (zi zI_9 (zi cH (zi tI_31 (zi zI_31 (zi aN (zi bF (zi bE (zi b9 (zi tI_63 (zi zI_63 (zi bS (zi bR (zi bP (zi bQ bT))))))))))))))))))))
set_option maxHeartbeats 1000000 in
theorem X9 (s : ByteArray) (st : aB) : aD prog 92 [.str s] st (fun r st' => r = F8 (mF (sb s)) ∧ st' = st) := by
 refine aD.pR (aD.fin ?_)
 have tD : mF (sb s) = none → ∃ b l s0, st = aZ s0 b l ∧ (l ≠ [] → s0 b = none) ∧ (∀ e ∈ l, e.cB = false) ∧ gT l ∧ (AV.tup [.fslice [], .bool false]).fin b l = F8 (mF (sb s)) ∧ aL s0 st := fun h => by
  rw [h]
  exact ⟨0, [], st, rfl, by simp, by simp, ⟨4, by simp⟩, by simp only [F8, jK, pE, oP, bA, aW], aL.refl _⟩
 refine wF [1000000] 1 func92 ntmps92 rfl rfl ?_
 intro _
 by_cases hs : s.size ≤ 1000
 case neg =>
  have hs' : ((1000 : Int) < (s.size : Int)) = True := dA (by omega)
  have hP : mF (sb s) = none := by
   unfold mF
   split
   · rfl
   · rw [aE fun h => hs (by rw [← cJ]; exact h.1)]
  simp -implicitDefEqProofs only [hs', bM, aA, seval, tA]
  exact tD hP
 have hs' : ((1000 : Int) < (s.size : Int)) = False := cI (by omega)
 have h0 := fun st => UG hs 0 (jD _) st
 rw [show ((0 : Nat) : Int) = 0 from rfl] at h0
 simp -implicitDefEqProofs only [hs', bX, aA, seval, tA]
 refine (h0 _).mono ?_
 rintro r st ⟨hr, rfl⟩
 cases hG : rO (sb s) 7 0 [] with
 | none =>
  have hP : mF (sb s) = none := by unfold mF; rw [hG]
  rw [hG] at hr
  simp only [rN] at hr
  subst hr
  have he : ((-1 : Int) = (s.size : Int)) = False := cI (by omega)
  simp -implicitDefEqProofs only [he, bX, aA, seval, tA]
  exact tD hP
 | some p =>
  obtain ⟨g, e⟩ := p
  rw [hG] at hr
  simp only [rN] at hr
  subst hr
  have hg := J6 (by rw [cJ]; exact hs) 7 0 [] _ _ (jD _) (by simp) hG
  rw [cJ] at hg
  simp -implicitDefEqProofs only [aA, seval, tA]
  by_cases he : e = s.size
  case neg =>
   have hP : mF (sb s) = none := by
    unfold mF
    rw [hG]
    simp only
    rw [aE fun h => he (by rw [← cJ]; exact h.2.1)]
   have he' : ((e : Int) = (s.size : Int)) = False := cI (by omega)
   simp -implicitDefEqProofs only [he', bX, aA, seval, tA]
   exact tD hP
  have he' : ((e : Int) = (s.size : Int)) = True := dA (by omega)
  simp -implicitDefEqProofs only [he', bM, aA, seval]
  refine (aD4 g _).to ?_
  cases hq : lV g with
  | false =>
   have hP : mF (sb s) = none := by
    unfold mF
    rw [hG]
    simp only
    rw [aE fun h => by rw [hq] at h; exact absurd h.2.2 (by decide)]
   simp -implicitDefEqProofs only [aA, seval, tA]
   exact tD hP
  | true =>
   have hP : mF (sb s) = some g := by
    unfold mF
    rw [hG]
    simp only
    rw [aG ⟨by rw [cJ]; exact hs, by rw [cJ]; exact he, hq⟩]
   have hg6 : g.length ≤ 6 := by
    simp only [lV, cM, bJ] at hq
    exact hq.1
   simp -implicitDefEqProofs only [aA, seval, tA]
   refine eK (σ := Nat) [1000000] [2, 3, 4] g (fun i b => ((g.take i).map Tm.av ≠ [] → st b = none)) (fun i b => [(6, a9 4 b ((g.take i).map Tm.av)), (7, .int .i64 i)]) (fun i b => aZ st b ((g.take i).map Tm.av)) (by decide +kernel) ⟨0, fun h => absurd rfl h, aP.mk (by simp -implicitDefEqProofs only [jH, aA, ↓aU, seval])⟩ (fun i x b hx hlt bU hdr hinv => ?_) (fun b hge hinv => ?_)
   case refine_1 =>
    have hw := bK (n := (i : Int) + 1)
    have cV : ((g.take i).map Tm.av).length = i := by simp only [aF, d7]; omega
    have htk : (g.take i).map Tm.av ++ [x.av] = (g.take (i + 1)).map Tm.av := by rw [fM, hx]; simp
    have hat := bL (av := Tm.av) aN hx (aH x)
    simp -implicitDefEqProofs only [bU, aF, hat, aT, aH, aA, seval, tA]
    refine (xT x _ (hg.2.2.1 x (cW hx)).2).to ?_
    simp -implicitDefEqProofs only [aT, aH, cG, aA, seval, tA]
    refine eN aN bF bE rfl rfl (fC (aH _) (bZ _)) (dR _) hinv (by simp only [cV, aS, a7]; omega) (by simp only [cV, aS, a7]; omega) (fun b' hb' => ?_)
    rw [htk] at hb' ⊢
    simp -implicitDefEqProofs only [hw, aA, seval]
    exact ⟨b', hb', aP.mk (by simp -implicitDefEqProofs only [aA, seval])⟩
   rw [eS] at hinv ⊢
   simp -implicitDefEqProofs only [aF, hge, m6, nY, sL, aA, seval, tA]
   rw [hP]
   exact ⟨b, _, st, rfl, hinv, hH _, ⟨4, dR _⟩, by simp only [F8, jK, pE, lP, bA, aW], aL.refl _⟩
end Go.AW
namespace Go.AW
def nQ (st s0 : aB) (os us : List AV) : Prop := ∀ h vs, cQ h st → cZ h st os vs → cZ h s0 us vs
theorem nQ.nil {st s0 : aB} : nQ st s0 [] [] := fun _ _ _ y => y
theorem nQ.cons {st s0 : aB} {o a : AV} {os us : List AV} (x : ∀ h v, cQ h st → aR h st o v → aR h s0 a v) (h : nQ st s0 os us) : nQ st s0 (o :: os) (a :: us) := fun hp vs S y => by
 simp only [cZ] at y ⊢
 obtain ⟨v, r, rfl, y1, y2⟩ := y
 exact ⟨v, r, rfl, x hp v S y1, h hp r S y2⟩
theorem qM.fin {s0 : aB} {b : Nat} {l : List AV} {r : AV} (h0 : l ≠ [] → s0 b = none) (h2 : ∀ e ∈ l, e.cB = false) (h3 : gT l) : zZ (aZ s0 b l) s0 ∧ qM (aZ s0 b l) r s0 (r.fin b l) := by
 cases l with
 | nil => exact ⟨(aL.refl _).tF, fun h v S y => y.soft⟩
 | cons e l =>
  have hb := h0 (by simp)
  have h1 : aZ s0 b (e :: l) b = some (.cells ((e :: l).flatMap AV.cells)) := by simp only [aZ, aB.aO]
  have e1 : (aZ s0 b (e :: l)).erase b = s0 := by simp only [aZ]; exact aB.xH _ _ _ hb
  refine ⟨?_, fun h v S y => ?_⟩
  · have := (jJ (aZ s0 b (e :: l)) b).tF
    rwa [e1] at this
  · have := y.fz S h1 h2 h3
    rw [e1] at this
    exact this.soft
theorem qM.tail {s0 : aB} {b k w : Nat} {l : List AV} (hb : s0 b = none) (hk : k < l.length) (h2 : ∀ e ∈ l, e.cB = false) (hw : ∀ e ∈ l, e.width = w) : zZ (aZ s0 b l) s0 ∧ qM (aZ s0 b l) (.mslice b (k * w) (l.length - k) w) s0 (.slice (l.drop k)) := by
 have hl : l ≠ [] := by rintro rfl; simp at hk
 have h1 : aZ s0 b l b = some (.cells (l.flatMap AV.cells)) := by rw [jF hl, aB.aO]
 have e1 : (aZ s0 b l).erase b = s0 := by rw [jF hl]; exact aB.xH _ _ _ hb
 refine ⟨?_, fun h v S y => ?_⟩
 · have := (jJ (aZ s0 b l) b).tF
   rwa [e1] at this
 · obtain ⟨f1, f2⟩ := frozen S h1 h2
   rw [e1] at f2
   obtain ⟨cap, hv, l1, l2, _⟩ := y.xY
   have hE := cX.drop k hw f2
   rw [gV] at hE
   subst hv
   refine ⟨rfl, ?_⟩
   unfold VC
   exact .inr ⟨b, k * w, cap, by rw [nE]; try rfl, by rw [nE]; exact l1, l2, hb, f1, ⟨w, fun e he => hw e (List.mem_of_mem_drop he)⟩, hE⟩
theorem aD.YW {P : Program} {g : FuncId} {args : List AV} {st : aB} {Q : AV → aB → Prop} (x : aD P g args st (fun r st' => ∃ r2 s2, (zZ st' s2 ∧ qM st' r s2 r2) ∧ Q r2 s2)) : aD P g args st Q :=
 x.mV fun r st' ⟨r2, s2, ⟨h1, h2⟩, h3⟩ => ⟨r2, s2, h1, h2, h3⟩
end Go.AW
namespace Go.AW
open Go.Proofs.Tryz
theorem aUA {P : Program} {t : TypeId} {ag : Bool} {w b n : Nat} (hI : eI P t = some (ag, w)) (h1 : 1 < n) (φ : AF) : iL P φ t (.mslice b 0 n w) (some (.const (.int .i64 1))) none none = some (.mslice b (0 + 1 * w) (n - 1) w) := by
 have h2 : dX φ none n n = some n := rfl
 have h3 : dX φ (some (.const (.int .i64 1))) 0 n = some 1 := by
  show (if ((0 : Nat) : Int) ≤ 1 ∧ (1 : Int) ≤ (n : Int) then some (Int.toNat 1) else none) = some 1
  rw [aG ⟨by omega, by omega⟩]
  try rfl
 unfold iL pN
 rw [aE (by simp [sB])]
 simp only [hI, h2, h3]
 rw [aG trivial, aE (by decide), aG h1]
def zG : Cl := (.mk 3 0 ⟨#[122]⟩ [], [])
abbrev ED := zi tI_3 (zi zI_3 (zi aX (zi tI_9 (zi zI_9 (zi cH (zi tI_29 (zi zI_29 (zi gZ (zi j8 (zi j6 (zi kU (zi tI_31 (zi zI_31 (zi aN (zi bF (zi bE (zi b9 (zi tI_76 (zi zI_76 (zi lF (zi lI (zi lS (zi tI_90 zI_90)))))))))))))))))))))))
set_option maxHeartbeats 2000000 in
theorem aRC (bs : List Bt) (c p : Nat) (l : List Cl) (hl : ∀ x ∈ l, uJ x) (h1 : 2 ≤ l.length) (h2 : l.length ≤ 40) (st : aB) (hp : p + 1000000 ≤ 1099511627776) (hR : dL st c bs p) :
 aD prog 62 [.ptr c 0, .slice (l.map b7)] st (Dr bs c p 1000000 st (fun r => ∃ l' : List Cl, r = .slice (l'.map b7))) := by
 refine aD.YW ?_
 have MW : st.aC c (cA bs p) = st := LM hR
 have jP : ∀ (q b : Nat) (acc : List Cl), p ≤ q → q ≤ p + 1000000 → (acc.map b7 ≠ [] → (st.aC c (cA bs q)) b = none) → ∃ r2 s2, (zZ (aZ (st.aC c (cA bs q)) b (acc.map b7)) s2 ∧ qM (aZ (st.aC c (cA bs q)) b (acc.map b7)) (a9 5 b (acc.map b7)) s2 r2) ∧ Dr bs c p 1000000 st (fun r => ∃ l' : List Cl, r = .slice (l'.map b7)) r2 s2 := fun q b acc g1 g2 hb => by
  have := qM.fin (r := a9 5 b (acc.map b7)) hb (HE _) ⟨5, zR _⟩
  rw [iG] at this
  exact ⟨_, _, this, q, g1, g2, rfl, acc, rfl⟩
 have hRq : ∀ (q b : Nat) (L : List AV), (L ≠ [] → (st.aC c (cA bs q)) b = none) → dL (aZ (st.aC c (cA bs q)) b L) c bs q ∧ ∀ o, (aZ (st.aC c (cA bs q)) b L).aC c o = aZ (st.aC c o) b L ∧ (L ≠ [] → (st.aC c o) b = none) := fun q b L hb => by
  have hne : L ≠ [] → c ≠ b := fun h e => by have := hb h; rw [← e, aB.aO] at this; cases this
  refine ⟨?_, fun o => ⟨?_, fun h => ?_⟩⟩
  · unfold dL
    by_cases h : L = []
    · rw [h, wY, aB.aO]; try rfl
    · rw [pP (hne h), aB.aO]; try rfl
  · rw [oM hne, dE]
  · have := hb h
    rw [aB.aM _ _ (dB (hne h))] at this ⊢
    exact this
 refine wF [1000000] 2 func62 ntmps62 rfl rfl ?_
 simp only [eE, AV.fits, eM, aF]
 intro _
 simp -implicitDefEqProofs only [aA, seval, ED]
 refine eK (σ := Nat × Nat × List Cl) [1000000] [0, 1, 4] l (fun i x => p ≤ x.1 ∧ x.1 ≤ p + 6000 * i ∧ x.2.2.length = i ∧ (x.2.2.map b7 ≠ [] → (st.aC c (cA bs x.1)) x.2.1 = none)) (fun i x => [(5, a9 5 x.2.1 (x.2.2.map b7)), (6, .int .i64 i)]) (fun i x => aZ (st.aC c (cA bs x.1)) x.2.1 (x.2.2.map b7)) (by decide +kernel) ⟨(p, 0, []), ⟨c7 _, by simp only; omega, rfl, fun h => absurd rfl h⟩, by
  simp only [aW, wY, MW]
  exact aP.mk (by simp -implicitDefEqProofs only [jH, aA, ↓aU, seval])⟩ (fun i x s hx hlt bU hdr hinv => ?_) (fun s hge hinv => ?_)
 case refine_1 =>
  obtain ⟨q, b, acc⟩ := s
  obtain ⟨g1, g2, g3, g4⟩ := hinv
  simp only at g1 g2 g3 g4
  have hw := bK (n := (i : Int) + 1)
  have hat := bL (av := b7) gZ hx (oR x)
  have hcw := oR x
  have hca := CP x
  obtain ⟨k1, k2⟩ := hRq _ _ _ g4
  simp -implicitDefEqProofs only [bU, aF, hat, hcw, hca, aA, seval, ED]
  refine (aY8 bs c q x (hl x (cW hx)) _ (by omega) k1).mono ?_
  rintro _ _ ⟨q2, r1, r2, rfl, y, rfl⟩
  obtain ⟨k3, k4⟩ := k2 (cA bs q2)
  rw [k3]
  have hya := CP y
  have hyw := oR y
  have hyj := JM y
  have hys := aI8 y
  have hyc := ZR y
  simp -implicitDefEqProofs only [hya, hyw, hyj, aA, seval, ED]
  refine eN gZ j8 j6 rfl rfl (fC hyw hys) (zR _) k4 (by simp only [aF, aS, a7]; omega) (by simp only [aF, aS, a7]; omega) (fun b' hb' => ?_)
  rw [show acc.map b7 ++ [b7 y] = (acc ++ [y]).map b7 by simp] at hb' ⊢
  simp -implicitDefEqProofs only [hw, aA, seval]
  exact ⟨(q2, b', acc ++ [y]), ⟨by simp only; omega, by simp only; omega, by simp only [dQ, aS, a7]; omega, hb'⟩, aP.mk (by simp -implicitDefEqProofs only [aA, seval])⟩
 obtain ⟨q, b, acc⟩ := s
 obtain ⟨g1, g2, g3, g4⟩ := hinv
 simp only at g1 g2 g3 g4
 obtain ⟨k1, k2⟩ := hRq _ _ _ g4
 simp -implicitDefEqProofs only [aF, hge, aA, seval, ED]
 refine (nA bs c q (by omega) 30 (by omega) (by omega) _ k1).mono ?_
 rintro _ _ ⟨j, hj, rfl, rfl⟩
 obtain ⟨k3, k4⟩ := k2 (cA bs (q + 1))
 rw [k3]
 have OD : prog.underlying 29 = some (.slice 76) := by kernel_rfl
 simp -implicitDefEqProofs only [aA, seval]
 refine aQ (fun h0 => ?_) (fun h0 => ?_)
 · simp -implicitDefEqProofs only [aA, seval]
   refine g9 (σ := Nat × List Cl) [1000000] [4, 24] (fun x => (x.2.map b7 ≠ [] → (st.aC c (cA bs (q + 1))) x.1 = none) ∧ x.2.length ≤ 41) (fun x => [(5, a9 5 x.1 (x.2.map b7))]) (fun x => aZ (st.aC c (cA bs (q + 1))) x.1 (x.2.map b7)) (fun x => 41 - x.2.length) (by decide +kernel) ⟨(b, acc), ⟨k4, by simp only; omega⟩, aP.mk (by simp -implicitDefEqProofs only [aA, seval])⟩ ?_
   rintro ⟨b, acc⟩ ⟨i1, i2⟩
   simp only at i1 i2
   have haL := sU (w := 5) (b := b) (l := acc.map b7) OD
   rw [aF] at haL
   simp -implicitDefEqProofs only [haL, aA, seval]
   refine aQ (fun h1 => ?_) (fun h1 => ?_)
   case refine_2 =>
    simp -implicitDefEqProofs only [aA, seval]
    exact jP _ _ _ (by omega) (by omega) i1
   simp only [bJ] at h1
   simp -implicitDefEqProofs only [aA, seval]
   refine (rJ ⟨#[122]⟩ [] (by simp) _).to ?_
   simp -implicitDefEqProofs only [aV, aW, aA, seval, ED]
   refine eN (xs := [.agg [.int .i64 3, .int .i64 0, .str ⟨#[122]⟩, .slice [], .fslice []]]) gZ j8 j6 rfl rfl (fC rfl rfl) (zR _) i1 (by simp only [aF, aS, a7]; omega) (by simp only [aF, aS, a7]; omega) (fun b' hb' => ?_)
   have hb2 : (acc ++ [zG]).map b7 ≠ [] → (st.aC c (cA bs (q + 1))) b' = none := fun _ => hb' (by simp)
   have iC : aZ (st.aC c (cA bs (q + 1))) b' (acc.map b7 ++ [.agg [.int .i64 3, .int .i64 0, .str ⟨#[122]⟩, .slice [], .fslice []]]) b' = some (.cells (((acc.map b7).flatMap AV.cells ++ [.int .i64 3, .int .i64 0, .str ⟨#[122]⟩, .slice []]) ++ .fslice [] :: [])) := by
    rw [jF (by simp), aB.aO]
    simp [AV.cells]
   have WZ := fun φ => fK.aQS (φ := φ) iC
   have aW1 : (aZ (st.aC c (cA bs (q + 1))) b' (acc.map b7 ++ [.agg [.int .i64 3, .int .i64 0, .str ⟨#[122]⟩, .slice [], .fslice []]])).aC b' (.cells (((acc.map b7).flatMap AV.cells ++ [.int .i64 3, .int .i64 0, .str ⟨#[122]⟩, .slice []]) ++ (AV.fslice []).soft :: [])) = aZ (st.aC c (cA bs (q + 1))) b' ((acc ++ [zG]).map b7) := by
    rw [jF (by simp), dE, jF (by simp)]
    congr 2
    simp [AV.cells, AV.soft, zG, gH]
   rw [aW1] at WZ
   have hV : a9 5 b' (acc.map b7 ++ [.agg [.int .i64 3, .int .i64 0, .str ⟨#[122]⟩, .slice [], .fslice []]]) = a9 5 b' ((acc ++ [zG]).map b7) := by
    rw [oE (by simp), oE (by simp)]
    simp
   rw [hV]
   simp -implicitDefEqProofs only [aA, seval]
   refine ⟨(b', acc ++ [zG]), by simp only [dQ, aS, a7]; omega, ⟨hb2, by simp only [dQ, aS, a7]; omega⟩, (WZ _).trans (aP.mk (by simp -implicitDefEqProofs only [aA, seval]))⟩
 simp -implicitDefEqProofs only [aA, seval]
 refine aQ (fun h1 => ?_) (fun h1 => ?_)
 · have hne : acc.map b7 ≠ [] := fun h => by have := nZ List.length h; simp at this; subst this; simp at g3; omega
   have hlen : (acc.map b7).length = acc.length := aF _
   have hsl := aUA (P := prog) (b := b) gZ (show 1 < acc.length by omega)
   have hb0 := k4 hne
   simp -implicitDefEqProofs only [oE hne, hlen, hsl, aA, seval]
   have hT := qM.tail (k := 1) (w := 5) hb0 (by rw [hlen]; omega) (HE acc) (zR acc)
   rw [hlen] at hT
   simp only [Nat.one_mul] at hT ⊢
   exact ⟨_, _, hT, q + 1, by omega, by omega, rfl, acc.drop 1, by rw [List.map_drop]⟩
 · skip
   simp -implicitDefEqProofs only [aA, seval]
   exact jP _ _ _ (by omega) (by omega) k4
abbrev EA := zi tI_3 (zi zI_3 (zi aX (zi tI_9 (zi zI_9 (zi cH (zi tI_31 (zi zI_31 (zi aN (zi bF (zi bE (zi b9 (zi tI_63 (zi zI_63 (zi bS (zi bR (zi bP (zi bQ (zi bT (zi tI_90 (zi zI_90 (zi tI_101 (zi zI_101 (zi rR (zi wS (zi vR AL)))))))))))))))))))))))))
set_option maxHeartbeats 2000000 in
theorem aW9 (bs : List Bt) (c p : Nat) (l : List Tm) (hl : ∀ x ∈ l, Dn x) (h2 : l.length ≤ 40) (st : aB) (hp : p + 1000000 ≤ 1099511627776) (hR : dL st c bs p) :
 aD prog 63 [.ptr c 0, .slice (l.map Tm.av)] st (Dr bs c p 1000000 st (fun r => ∃ l' : List Tm, l'.length ≤ 41 ∧ r = .slice (l'.map Tm.av))) := by
 refine aD.YW ?_
 have MW : st.aC c (cA bs p) = st := LM hR
 have jP : ∀ (q b : Nat) (acc : List Tm), acc.length ≤ 41 → p ≤ q → q ≤ p + 1000000 → (acc.map Tm.av ≠ [] → (st.aC c (cA bs q)) b = none) → ∃ r2 s2, (zZ (aZ (st.aC c (cA bs q)) b (acc.map Tm.av)) s2 ∧ qM (aZ (st.aC c (cA bs q)) b (acc.map Tm.av)) (a9 4 b (acc.map Tm.av)) s2 r2) ∧ Dr bs c p 1000000 st (fun r => ∃ l' : List Tm, l'.length ≤ 41 ∧ r = .slice (l'.map Tm.av)) r2 s2 := fun q b acc g0 g1 g2 hb => by
  have := qM.fin (r := a9 4 b (acc.map Tm.av)) hb (hH _) ⟨4, dR _⟩
  rw [iG] at this
  exact ⟨_, _, this, q, g1, g2, rfl, acc, g0, rfl⟩
 have hRq : ∀ (q b : Nat) (L : List AV), (L ≠ [] → (st.aC c (cA bs q)) b = none) → dL (aZ (st.aC c (cA bs q)) b L) c bs q ∧ ∀ o, (aZ (st.aC c (cA bs q)) b L).aC c o = aZ (st.aC c o) b L ∧ (L ≠ [] → (st.aC c o) b = none) := fun q b L hb => by
  have hne : L ≠ [] → c ≠ b := fun h e => by have := hb h; rw [← e, aB.aO] at this; cases this
  refine ⟨?_, fun o => ⟨?_, fun h => ?_⟩⟩
  · unfold dL
    by_cases h : L = []
    · rw [h, wY, aB.aO]; try rfl
    · rw [pP (hne h), aB.aO]; try rfl
  · rw [oM hne, dE]
  · have := hb h
    rw [aB.aM _ _ (dB (hne h))] at this ⊢
    exact this
 refine wF [1000000] 2 func63 ntmps63 rfl rfl ?_
 simp only [eE, AV.fits, eM, aF]
 intro _
 simp -implicitDefEqProofs only [aA, seval, EA]
 refine eK (σ := Nat × Nat × List Tm) [1000000] [0, 1, 4] l (fun i x => p ≤ x.1 ∧ x.1 ≤ p + 10 * i ∧ x.2.2.length = i ∧ (x.2.2.map Tm.av ≠ [] → (st.aC c (cA bs x.1)) x.2.1 = none)) (fun i x => [(5, a9 4 x.2.1 (x.2.2.map Tm.av)), (6, .int .i64 i)]) (fun i x => aZ (st.aC c (cA bs x.1)) x.2.1 (x.2.2.map Tm.av)) (by decide +kernel) ⟨(p, 0, []), ⟨c7 _, by simp only; omega, rfl, fun h => absurd rfl h⟩, by
  simp only [aW, wY, MW]
  exact aP.mk (by simp -implicitDefEqProofs only [jH, aA, ↓aU, seval])⟩ (fun i x s hx hlt bU hdr hinv => ?_) (fun s hge hinv => ?_)
 case refine_1 =>
  obtain ⟨q, b, acc⟩ := s
  obtain ⟨g1, g2, g3, g4⟩ := hinv
  simp only at g1 g2 g3 g4
  have hw := bK (n := (i : Int) + 1)
  have hat := bL (av := Tm.av) aN hx (aH x)
  obtain ⟨k1, k2⟩ := hRq _ _ _ g4
  simp -implicitDefEqProofs only [bU, aF, hat, aH, aT, aA, seval, EA]
  refine (PH bs c q x (hl x (cW hx)).2 _ (by omega) k1).mono ?_
  rintro _ _ ⟨q2, r1, r2, rfl, y, rfl⟩
  obtain ⟨k3, k4⟩ := k2 (cA bs q2)
  rw [k3]
  simp -implicitDefEqProofs only [aH, aT, cG, aA, seval, EA]
  refine eN aN bF bE rfl rfl (fC (aH _) (bZ _)) (dR _) k4 (by simp only [aF, aS, a7]; omega) (by simp only [aF, aS, a7]; omega) (fun b' hb' => ?_)
  rw [show acc.map Tm.av ++ [y.av] = (acc ++ [y]).map Tm.av by simp] at hb' ⊢
  simp -implicitDefEqProofs only [hw, aA, seval]
  exact ⟨(q2, b', acc ++ [y]), ⟨by simp only; omega, by simp only; omega, by simp only [dQ, aS, a7]; omega, hb'⟩, aP.mk (by simp -implicitDefEqProofs only [aA, seval])⟩
 obtain ⟨q, b, acc⟩ := s
 obtain ⟨g1, g2, g3, g4⟩ := hinv
 simp only at g1 g2 g3 g4
 obtain ⟨k1, k2⟩ := hRq _ _ _ g4
 simp -implicitDefEqProofs only [aF, hge, aA, seval, EA]
 refine (nA bs c q (by omega) 30 (by omega) (by omega) _ k1).mono ?_
 rintro _ _ ⟨j, hj, rfl, rfl⟩
 obtain ⟨k3, k4⟩ := k2 (cA bs (q + 1))
 rw [k3]
 have OD : prog.underlying 31 = some (.slice 63) := by kernel_rfl
 simp -implicitDefEqProofs only [aA, seval]
 refine aQ (fun h0 => ?_) (fun h0 => ?_)
 · simp -implicitDefEqProofs only [aA, seval]
   refine g9 (σ := Nat × List Tm) [1000000] [4] (fun x => (x.2.map Tm.av ≠ [] → (st.aC c (cA bs (q + 1))) x.1 = none) ∧ x.2.length ≤ 41) (fun x => [(5, a9 4 x.1 (x.2.map Tm.av))]) (fun x => aZ (st.aC c (cA bs (q + 1))) x.1 (x.2.map Tm.av)) (fun x => 41 - x.2.length) (by decide +kernel) ⟨(b, acc), ⟨k4, by simp only; omega⟩, aP.mk (by simp -implicitDefEqProofs only [aA, seval])⟩ ?_
   rintro ⟨b, acc⟩ ⟨i1, i2⟩
   simp only at i1 i2
   have haL := sU (w := 4) (b := b) (l := acc.map Tm.av) OD
   rw [aF] at haL
   simp -implicitDefEqProofs only [haL, aA, seval]
   refine aQ (fun h1 => ?_) (fun h1 => ?_)
   case refine_2 =>
    simp -implicitDefEqProofs only [aA, seval]
    exact jP _ _ _ i2 (by omega) (by omega) i1
   simp only [bJ] at h1
   simp -implicitDefEqProofs only [aA, seval]
   refine (rJ ⟨#[116, 114, 117, 101]⟩ [] (by simp) _).to ?_
   simp -implicitDefEqProofs only [aT, aH, cG, aA, seval, EA]
   refine eN aN bF bE rfl rfl (fC (aH _) (bZ _)) (dR _) i1 (by simp only [aF, aS, a7]; omega) (by simp only [aF, aS, a7]; omega) (fun b' hb' => ?_)
   rw [show acc.map Tm.av ++ [(Tm.mk 3 0 ⟨#[116, 114, 117, 101]⟩ []).av] = (acc ++ [Tm.mk 3 0 ⟨#[116, 114, 117, 101]⟩ []]).map Tm.av by simp] at hb' ⊢
   simp -implicitDefEqProofs only [aA, seval]
   exact ⟨(b', acc ++ [Tm.mk 3 0 ⟨#[116, 114, 117, 101]⟩ []]), by simp only [dQ, aS, a7]; omega, ⟨hb', by simp only [dQ, aS, a7]; omega⟩, aP.mk (by simp -implicitDefEqProofs only [aA, seval])⟩
 · skip
   simp -implicitDefEqProofs only [aA, seval]
   exact jP _ _ _ (by omega) (by omega) (by omega) k4
abbrev aZY := zi tI_3 (zi zI_3 (zi aX (zi tI_51 (zi zI_51 (zi dV (zi fS (zi fV (zi gA (zi tI_90 zI_90)))))))))
theorem aQH (bs : List Bt) (c p : Nat) (st : aB) (hp : p + 10 ≤ 1099511627776) (hR : dL st c bs p) : aD prog 61 [.ptr c 0] st (Dr bs c p 10 st (fun r => ∃ n : Int, r = .int .i64 n)) := by
 refine wF [1000000] 1 func61 ntmps61 rfl rfl ?_
 intro _
 simp -implicitDefEqProofs only [aA, seval, aZY]
 refine (xF [20, 3, 1, 5, 0, 21, -1] (by simp) (by simp) bs c p (by omega) _ hR).mono ?_
 rintro _ _ ⟨x, hx, rfl, rfl⟩
 simp -implicitDefEqProofs only [aA, seval]
 exact ⟨p + 1, by omega, by omega, rfl, x, rfl⟩
abbrev aVO := zi tI_3 (zi zI_3 (zi aX (zi tI_51 (zi zI_51 (zi dV (zi fS (zi fV (zi gA (zi tI_90 zI_90)))))))))
theorem aQ2 (bs : List Bt) (c p : Nat) (st : aB) (hp : p + 10 ≤ 1099511627776) (hR : dL st c bs p) : aD prog 64 [.ptr c 0] st (Dr bs c p 10 st (fun r => ∃ n : Int, -1 ≤ n ∧ n ≤ 301 ∧ r = .int .i64 n)) := by
 refine wF [1000000] 1 func64 ntmps64 rfl rfl ?_
 intro _
 simp -implicitDefEqProofs only [aA, seval, aVO]
 refine (xF [100, 60, 200, 10, 300, 0, 301, -1] (by simp) (by simp) bs c p (by omega) _ hR).mono ?_
 rintro _ _ ⟨x, hx, rfl, rfl⟩
 simp -implicitDefEqProofs only [aA, seval]
 refine ⟨p + 1, by omega, by omega, rfl, x, ?_, ?_, rfl⟩ <;> (simp only [cY, dP, d4] at hx; omega)
abbrev aN7 := zi tI_125 (zi zI_125 (zi iV (zi lO (zi lJ mO))))
theorem aR6 (st : aB) : aD prog 88 [] st (fun r st' => r = .slice (KS.map AV.str) ∧ st' = st) := by
 refine aD.done ?_
 refine wF [1000000] 0 func88 ntmps88 rfl rfl ?_
 intro _
 simp -implicitDefEqProofs only [aA, seval, aN7]
 exact ⟨rfl, aL.refl _⟩
abbrev aYU := zi tI_125 (zi zI_125 (zi iV (zi lO (zi lJ mO))))
theorem aYD (st : aB) : aD prog 125 [] st (fun r st' => r = .slice (PX.map AV.str) ∧ st' = st) := by
 refine aD.done ?_
 refine wF [1000000] 0 func125 ntmps125 rfl rfl ?_
 intro _
 simp -implicitDefEqProofs only [aA, seval, aYU]
 exact ⟨rfl, aL.refl _⟩
theorem aKT {α : Type} {P : Program} {t : TypeId} {ag : Bool} {w : Nat} {av : α → AV} {l : List α} {i : Nat} {x : α} (hI : eI P t = some (ag, w)) (h : l[i]? = some x) (hw : (av x).width = w) : dJ P t (.fslice (l.map av)) (.int .i64 (i : Int)) = some (.pptr (av x)) := by
 simp only [dJ, hI, lY, oT, h, qX, hw]
 simp
theorem aZR {P : Program} {φ : AF} {st : aB} {t u v w : Tmp} {K : AV → aB → Prop} : mK P [.tmp t, .tmp u, .tmp v, .tmp w] K φ st = (kB [φ t, φ u, φ v, φ w] = true ∧ K (.tup [φ t, φ u, φ v, φ w]) st) := rfl
def XZ (l : List ByteArray) : AV := .fslice (l.map AV.str)
abbrev PO (q : List Tm) : Prop := q.length ≤ 6 ∧ ∀ t ∈ q, Dn t
theorem aBV (s : ByteArray) : ∃ q : List Tm, PO q ∧ ∃ f, F8 (mF (sb s)) = .tup [.slice (q.map Tm.av), .bool f] := by
 cases h : mF (sb s) with
 | none => exact ⟨[], ⟨by simp, by simp⟩, false, rfl⟩
 | some q =>
  obtain ⟨h1, h2⟩ := aMT h
  exact ⟨q, ⟨(I8 h1).1, h2⟩, true, rfl⟩
theorem aNK {s : ByteArray} (h : O6 s = true) : s.size ≤ 200 ∧ ∃ l : List Cl, z0 (sb s) = some l ∧ 2 ≤ l.length ∧ l.length ≤ 20 ∧ ∀ c ∈ l, uJ c := by
 unfold O6 at h
 rw [cM, bJ] at h
 refine ⟨h.1, ?_⟩
 have h2 := h.2
 cases hp : z0 (sb s) with
 | none => rw [hp] at h2; simp at h2
 | some l =>
  rw [hp] at h2
  simp only [cM, bJ] at h2
  refine ⟨l, rfl, h2.1, h2.2, fun c hc => ?_⟩
  unfold z0 at hp
  simp only at hp
  split at hp
  · cases hp
  · exact ((aC0 _ [] l (by simp) hp).1 c hc).1
abbrev aA6 := zi tI_3 (zi zI_3 (zi aX (zi tI_9 (zi zI_9 (zi cH (zi tI_31 (zi zI_31 (zi aN (zi bF (zi bE (zi b9 (zi tI_90 (zi zI_90 (zi tI_125 (zi zI_125 (zi iV (zi lO (zi lJ mO))))))))))))))))))
theorem aR0 (bs : List Bt) (c p : Nat) (st : aB) (hp : p + 10 ≤ 1099511627776) (hR : dL st c bs p) : aD prog 91 [.ptr c 0] st (Dr bs c p 10 st (fun r => ∃ q : List Tm, PO q ∧ r = .slice (q.map Tm.av))) := by
 refine wF [1000000] 1 func91 ntmps91 rfl rfl ?_
 intro _
 simp -implicitDefEqProofs only [aA, seval]
 refine (aYD _).to ?_
 simp -implicitDefEqProofs only [aF, aA, seval, aA6]
 refine (nA bs c p (by omega) PX.length (by decide) (by decide) _ hR).mono ?_
 rintro _ _ ⟨k, hk, rfl, rfl⟩
 obtain ⟨x, hx⟩ : ∃ x, PX[k]? = some x := ⟨_, fG hk⟩
 have hat := bL (av := AV.str) iV hx rfl
 simp -implicitDefEqProofs only [hat, aA, seval, aA6]
 refine (X9 x _).to ?_
 obtain ⟨q, hq, f, hf⟩ := aBV x
 rw [hf]
 simp -implicitDefEqProofs only [aA, seval]
 exact ⟨p + 1, by omega, by omega, rfl, q, hq, rfl⟩
abbrev DH := zi tI_3 (zi zI_3 (zi aX (zi tI_5 (zi zI_5 (zi kN (zi tI_9 (zi zI_9 (zi cH (zi tI_29 (zi zI_29 (zi gZ (zi j8 (zi j6 (zi kU (zi tI_31 (zi zI_31 (zi aN (zi bF (zi bE (zi b9 (zi tI_90 (zi zI_90 (zi tI_125 (zi zI_125 (zi iV (zi lO (zi lJ (zi mO (zi tI_130 (zi zI_130 (zi ZV (zi aM8 (zi a0L aYP)))))))))))))))))))))))))))))))))
set_option maxHeartbeats 1000000 in
theorem aS6 (bs : List Bt) (c p : Nat) (st : aB) (hp : p + 100 ≤ 1099511627776) (hR : dL st c bs p) :
 aD prog 60 [.ptr c 0] st (Dr bs c p 100 st (fun r => ∃ (l : List Cl) (q : List Tm), (2 ≤ l.length ∧ l.length ≤ 20 ∧ ∀ x ∈ l, uJ x) ∧ PO q ∧ r = .tup [.slice (l.map b7), .slice (q.map Tm.av)])) := by
 refine wF [1000000] 1 func60 ntmps60 rfl rfl ?_
 intro _
 simp -implicitDefEqProofs only [aA, seval]
 refine (aR6 _).to ?_
 simp -implicitDefEqProofs only [aF, aA, seval, DH]
 refine (nA bs c p (by omega) KS.length (by decide) (by decide) _ hR).mono ?_
 rintro _ _ ⟨k, hk, rfl, rfl⟩
 obtain ⟨x, hx⟩ : ∃ x, KS[k]? = some x := ⟨_, fG hk⟩
 have hat := bL (av := AV.str) iV hx rfl
 have hk2 : k < BT.length := hk
 obtain ⟨y, hy⟩ : ∃ y, BT[k]? = some y := ⟨_, fG hk2⟩
 obtain ⟨hxs, l, hl1, hl2, hl3, hl4⟩ := aNK (eW.1 aTG x (cW hx))
 have hyo := eW.1 aQD y (cW hy)
 simp only [cM, bJ] at hyo
 have aAE := aKT (P := prog) (av := XZ) ZV hy rfl
 simp only [BT, XZ, bA, aW] at aAE
 have hpp := fun st => aT5 x (by omega) st
 rw [hl1] at hpp
 simp -implicitDefEqProofs only [hat, aA, seval, DH]
 refine (hpp _).mono ?_
 rintro _ _ ⟨rfl, rfl⟩
 simp -implicitDefEqProofs only [aAE, aA, seval, DH]
 refine (nA bs c (p + 1) (by omega) 5 (by omega) (by omega) _ dL.new).mono ?_
 rintro _ _ ⟨j, hj, rfl, rfl⟩
 rw [dE]
 simp -implicitDefEqProofs only [aA, seval]
 refine aQ (fun h0 => ?_) (fun h0 => ?_)
 · simp -implicitDefEqProofs only [aA, seval]
   refine (aR0 bs c (p + 1 + 1) _ (by omega) dL.new).mono ?_
   rintro _ _ ⟨p2, r1, r2, rfl, q, hq, rfl⟩
   rw [dE]
   simp -implicitDefEqProofs only [aA, seval]
   exact ⟨p2, by omega, by omega, rfl, l, q, ⟨hl2, hl3, hl4⟩, hq, rfl⟩
 simp -implicitDefEqProofs only [aF, aA, seval, DH]
 refine (nA bs c (p + 1 + 1) (by omega) y.length (by omega) (by have := aWV y (cW hy); omega) _ dL.new).mono ?_
 rintro _ _ ⟨i, hi, rfl, rfl⟩
 rw [dE]
 obtain ⟨z, hz⟩ : ∃ z, y[i]? = some z := ⟨_, fG hi⟩
 have AK := aKT (P := prog) (av := AV.str) iV hz rfl
 simp -implicitDefEqProofs only [AK, aA, seval, DH]
 refine (X9 z _).to ?_
 obtain ⟨q, hq, f, hf⟩ := aBV z
 rw [hf]
 simp -implicitDefEqProofs only [aA, seval]
 exact ⟨p + 1 + 1 + 1, by omega, by omega, rfl, l, q, ⟨hl2, hl3, hl4⟩, hq, rfl⟩
theorem aRV (code : List Bt) (st : aB) : aD prog 35 [.slice (code.map iR)] st (fun r st' => (∃ (p : List Cl) (q : List Tm) (most fuel : Int), (q.length ≤ 41 ∧ -1 ≤ fuel ∧ fuel ≤ 301) ∧ r = .tup [.slice (p.map b7), .slice (q.map Tm.av), .int .i64 most, .int .i64 fuel]) ∧ st' = st) := by
 refine aD.drop ?_
 refine wF [1000000] 1 func35 ntmps35 rfl rfl ?_
 intro _
 simp -implicitDefEqProofs only [aA, seval]
 refine (aOF code _).mono ?_
 rintro _ _ ⟨c, bs, rfl, hc, rfl⟩
 have hD : ∀ o, aL (st.aC c o) st := fun o => (aL.refl _).aC hc
 simp -implicitDefEqProofs only [aA, seval]
 refine (aS6 bs c 0 _ (by omega) dL.new).mono ?_
 rintro _ _ ⟨p1, r1, r2, rfl, l, q, ⟨l1, l2, l3⟩, ⟨q1, q2⟩, rfl⟩
 rw [dE]
 simp -implicitDefEqProofs only [aA, seval]
 refine (aQH bs c p1 _ (by omega) dL.new).mono ?_
 rintro _ _ ⟨p2, s1, s2, rfl, n, rfl⟩
 rw [dE]
 simp -implicitDefEqProofs only [aA, seval]
 refine (aRC bs c p2 l l3 l1 (by omega) _ (by omega) dL.new).mono ?_
 rintro _ _ ⟨p3, t1, t2, rfl, l', rfl⟩
 rw [dE]
 simp -implicitDefEqProofs only [aA, seval]
 refine (aW9 bs c p3 q q2 (by omega) _ (by omega) dL.new).mono ?_
 rintro _ _ ⟨p4, u1, u2, rfl, q', u3, rfl⟩
 rw [dE]
 simp -implicitDefEqProofs only [aA, seval]
 refine (aQ2 bs c p4 _ (by omega) dL.new).mono ?_
 rintro _ _ ⟨p5, v1, v2, rfl, m, w1, w2, rfl⟩
 rw [dE]
 simp -implicitDefEqProofs only [aZR, aA, seval]
 exact ⟨hD _, l', q', n, m, ⟨u3, w1, w2⟩, rfl⟩
end Go.AW
namespace Go.AW
theorem aD.aUF {P : Program} {g : FuncId} {args args' : List AV} {st : aB} {xs : List AV} (x : ∀ s, aD P g args s (zB s xs)) (hv : nQ st dY args' args) : aD P g args' st (zB st xs) := by
 refine aD.frame (aL.dY st) ((x dY).mono ?_) hv
 rintro r s1 ⟨os, bs, hr, h1, _, h3, h4⟩ hfr
 have hso := cE.g7 _ _ _ h3
 have hbs : ∀ b ∈ bs, st b = none := fun b hb => hfr b rfl (by
  obtain ⟨cs, e, _⟩ := hso.2 b hb
  rw [e]; simp)
 have hfb : ∀ b ∈ bs, (st.frame dY s1) b = s1 b := fun b hb => by simp only [aB.frame, hbs b hb]; split <;> simp_all
 refine ⟨by rw [hr]; unfold AV.g7; exact hso.1.1, fun b o e => ?_, os, bs, hr, h1, hbs, cE.a8 _ _ _ hfb h3, fun b hb => ?_⟩
 · by_cases hb : b ∈ bs
   · obtain ⟨cs, e2, hs⟩ := hso.2 b hb
     rw [e] at e2; cases e2; exact hs
   · rw [h4 b hb] at e; cases e
 · have := h4 b hb
   simp only [aB.frame, dY] at this ⊢
   cases hst : st b with
   | none => exact this
   | some o => rfl
theorem nQ.mono {st s0 : aB} (D : aL st s0) : ∀ (us : List AV), nQ st s0 us us
 | [] => nQ.nil
 | a :: us => nQ.cons (fun hp v S y => y.mono (D.step hp)) (nQ.mono D us)
theorem aNN {st s0 : aB} (D : aL st s0) {b w : Nat} {L : List AV} (hb : st b = some (.cells (L.flatMap AV.cells))) (hb0 : s0 b = none) (hj : ∀ e ∈ L, e.cB = false) (hw : ∀ e ∈ L, e.width = w) :
 ∀ h v, cQ h st → aR h st (.mslice b 0 L.length w) v → aR h s0 (.slice (j9 L)) v := fun h v S y => by
 obtain ⟨f1, f2⟩ := frozen S hb hj
 have D2 : aL (st.erase b) s0 := fun x => by
  unfold aB.erase
  by_cases hx : x = b
  · subst hx; rw [aG rfl]; exact ⟨fun _ => hb0, fun o e => by rw [hb0] at e; cases e⟩
  · rw [aE hx]; exact D x
 have hE := cX.deep L b 0 (cX.mono (D2.step h) b rfl _ _ f2)
 obtain ⟨cap, hv, l1, l2, _⟩ := y.xY
 subst hv
 refine ⟨rfl, ?_⟩
 unfold VC
 exact .inr ⟨b, 0, cap, by rw [xL]; try rfl, by rw [xL]; exact l1, l2, hb0, f1, PT ⟨w, hw⟩, hE⟩
theorem aWO {P : Program} {t : TypeId} {ag : Bool} {w bytes : Nat} {zs : List AV} {st : aB} {E : AV} {L : List AV} {K : AV → aB → Prop} (hI : eI P t = some (ag, w)) (hB : eB P t = some bytes) (hZ : eZ P t = some zs) (hz : zs.length = w)
 (hx : tE w L) (hE : E.width = w) (hEj : E.cB = false) (hw : ∀ e ∈ L, e.width = w) (hj : ∀ e ∈ L, e.cB = false) (hl : (1 + L.length) * bytes ≤ 140737488355328) (hl2 : 1 + L.length ≤ 9223372036854775807)
 (hK : ∀ f st', aL st' st → (f.isAgg = false ∧ f.cB = false ∧ f.width = 1 ∧ f.cells = [f] ∧ f.storable = true) → (∀ s0, aL st s0 → ∀ h v, cQ h st' → aR h st' f v → aR h s0 (.slice (j9 (E :: L))) v) → K f st') :
 jI P t st (.fslice [E]) (.slice L) K := by
 unfold jI
 simp only [hI, hB, hZ, wI]
 refine ⟨hz, hx, by simpa using hl, by simpa using hl2, by simpa using hE, fun h0 => ?_, fun h0 b hb => ?_⟩
 · subst h0
   exact hK _ _ (aL.refl _) ⟨rfl, rfl, rfl, rfl, rfl⟩ fun s0 D h v S y => by
    have := (y.mono (D.step h)).deep
    exact this
 · have hle : ([E] : List AV).length + L.length = (E :: L).length := by simp; omega
   rw [hle]
   refine hK _ _ ((aL.refl _).aC hb) ⟨rfl, rfl, rfl, rfl, rfl⟩ fun s0 D h v S y => ?_
   exact aNN ((((aL.refl st).aC hb)).trans D) (L := E :: L) (by rw [aB.aO]; try rfl) ((D b).1 hb) (by intro e he; rcases cY.1 he with rfl | he; exact hEj; exact hj e he) (by intro e he; rcases cY.1 he with rfl | he; exact hE; exact hw e he) h v S y
end Go.AW
namespace Go.AW
open Go.Proofs.Tryz
abbrev a21 := zi tI_3 (zi zI_3 (zi aX (zi tI_4 (zi zI_4 (zi cF (zi tI_26 (zi zI_26 (zi qR (zi tP (zi sO (zi vO (zi tI_29 (zi zI_29 (zi gZ (zi j8 (zi j6 (zi kU (zi tI_31 (zi zI_31 (zi aN (zi bF (zi bE (zi b9 (zi tI_57 (zi zI_57 (zi tL (zi B1 (zi AP yX))))))))))))))))))))))))))))
abbrev ZF := zi tI_3 (zi zI_3 (zi aX (zi tI_4 (zi zI_4 (zi cF (zi tI_26 (zi zI_26 (zi qR (zi tP (zi sO (zi vO (zi tI_29 (zi zI_29 (zi gZ (zi j8 (zi j6 (zi kU (zi tI_31 (zi zI_31 (zi aN (zi bF (zi bE (zi b9 (zi tI_57 (zi zI_57 (zi tL (zi B1 (zi AP (zi yX (zi tI_63 (zi zI_63 (zi bS (zi bR (zi bP (zi bQ (zi bT (zi tI_101 (zi zI_101 (zi rR (zi wS (zi vR AL)))))))))))))))))))))))))))))))))))))))))
theorem aVR (s : ByteArray) (q : List Tm) : j9 (AV.agg [.int .i64 3, .int .i64 0, .str s, .fslice []] :: q.map Tm.av) = (Tm.mk 3 0 s [] :: q).map Tm.av := by
 simp only [j9, AV.deep, P3, bA, aV, aW]
theorem aMY {st s2 : aB} {s : ByteArray} {q : List Tm} {f : AV} (hf : ∀ s0, aL st s0 → ∀ h v, cQ h s2 → aR h s2 f v → aR h s0 (.slice (j9 (AV.agg [.int .i64 3, .int .i64 0, .str s, .fslice []] :: q.map Tm.av))) v) (D : aL s2 st) (s0 : aB) (D0 : aL st s0) (a b c : AV) :
 nQ s2 s0 [a, f, b, c] [a, .slice ((Tm.mk 3 0 s [] :: q).map Tm.av), b, c] :=
 have D2 := D.trans D0
 nQ.cons (fun hp v S y => y.mono (D2.step hp)) (nQ.cons (fun h v S y => by have := hf s0 D0 h v S y; rw [aVR] at this; exact this) (nQ.mono D2 [b, c]))
set_option maxHeartbeats 2000000 in
theorem aOZ (code : List Bt) (st : aB) : aD prog 8 [.slice (code.map iR)] st (fun r _ => r = .bool true) := by
 refine wF [1000000] 1 func8 ntmps8 rfl rfl ?_
 intro _
 simp -implicitDefEqProofs only [aF, aA, seval, ZF]
 refine aQ (fun h1 => ?_) (fun h1 => ?_)
 · simp -implicitDefEqProofs only [aA, seval]
 simp -implicitDefEqProofs only [aA, seval]
 refine (aRV code _).mono ?_
 rintro _ s1 ⟨⟨p, q, most, fuel, ⟨hql, hf1, hf2⟩, rfl⟩, rfl⟩
 have hS1 := fun st => (aFA p q most fuel st).XB
 have hS2 := aY7 p q most fuel
 have hP := fun h h' => aOL (p := p) (cnd := fun _ l => l) (q := q) (most := most) (fuel := fuel) h h'
 have h9 := aHL (p := p) (cnd := fun _ l => l) (q := q) (most := most) (fuel := fuel)
 have h9' := aHL (p := p) (cnd := fun _ l => l) (q := tG :: q) (most := most) (fuel := fuel + 1)
 have hS3 := aFA p (tG :: q) most (fuel + 1)
 generalize iJ p (fun _ l => l) q most fuel = T at *
 generalize iJ p (fun _ l => l) (tG :: q) most (fuel + 1) = T2 at *
 obtain ⟨L, e⟩ := T
 obtain ⟨L2, e2⟩ := T2
 simp only at hS1 hS2 hP h9 h9' hS3
 have hw := bK (n := fuel + 1)
 simp -implicitDefEqProofs only [aA, seval]
 refine (hS1 _).to ?_
 simp -implicitDefEqProofs only [aA, seval]
 refine (hS2 _).to ?_
 simp -implicitDefEqProofs only [aA, seval, ZF]
 refine aWO aN bF bE rfl (by intro e he; simp only [cU] at he; obtain ⟨t, _, rfl⟩ := he; exact ⟨aH _, bZ _⟩) rfl rfl (dR _) (hH _) (by rw [aF]; omega) (by rw [aF]; omega) (fun f s2 D hf0 hf => ?_)
 obtain ⟨hfa, hfj, hfw, hfc, hfs⟩ := hf0
 simp -implicitDefEqProofs only [hw, aA, seval]
 refine ((aD.aUF hS3 (aMY hf D dY (aL.dY _) _ _ _)).XB).to ?_
 simp -implicitDefEqProofs only [bM, iM, aA, seval]
 refine (KK L _).to ?_
 simp -implicitDefEqProofs only [iM, aA, seval]
 refine cS (fun h4 => ?_) (fun h4 => ?_)
 case refine_2 =>
  simp -implicitDefEqProofs only [h4, bM, iM, aA, seval]
  refine (KK L _).to ?_
  simp -implicitDefEqProofs only [aA, seval]
 simp -implicitDefEqProofs only [h4, iM, aA, seval]
 refine aQ (fun he => ?_) (fun he => ?_)
 · simp -implicitDefEqProofs only [bM, iM, aA, seval]
   refine (KK L _).to ?_
   simp -implicitDefEqProofs only [aA, seval]
 have hok : iF p q most fuel = true := by
  cases hk : iF p q most fuel with
  | true => rfl
  | false => have := h9.2 hk; subst this; simp at he
 have aO1 : iF p (tG :: q) most (fuel + 1) = true := by
  cases hk : iF p (tG :: q) most (fuel + 1) with
  | true => rfl
  | false => have := h9'.2 hk; subst this; simp at h4
 have := hP hok aO1
 simp only [Prod.mk.injEq] at this
 obtain ⟨rfl, rfl⟩ := this
 simp -implicitDefEqProofs only [bM, iM, aA, seval]
 refine (KK L2 _).to ?_
 simp -implicitDefEqProofs only [aA, seval]
end Go.AW
namespace Go.AW
open Go.ChangeShapes Go.WideShapes Go.ChangeAt Go.RowKit
abbrev rH : aB := fun _ => none
section
variable {H : Type} {enc : TypeId × Value → H} {P : Program} {w : World}
def Reads (enc : TypeId × Value → H) (P : Program) (w : World) (t n : Nat) {α : Type} (av : α → AV) : Prop :=
 ∀ cs x, DataW.trod enc P w 0 (fun _ => true) true n t cs = some x → ∃ a : α, VC w.heap rH (av a) cs
theorem aGC {h : bH} {st : aB} {b k : Nat} : ∀ {es : List AV} {off : Nat}, (∀ e ∈ es, e.width = k) → (∀ (i : Nat) e, es[i]? = some e → VE h st b (off + i * k) e) → cX h st b off es
 | [], _, _, _ => by simp [cX]
 | e :: es, off, hw, h => by
  simp only [cX]
  refine ⟨by simpa [VE] using h 0 e rfl, aGC (fun x hx => hw x (by simp [hx])) fun i x hx => ?_⟩
  have := h (i + 1) x (by simpa using hx)
  rw [hw e (by simp), C6, ← Nat.aTQ k i] 
  exact this
where Nat.aTQ (k i : Nat) : (i + 1) * k = k + i * k := by rw [qU]; omega
theorem VU {a : Addr} {v : Value} (h : w.cell? a = some v) : a.spot = none ∧ a.block < w.heap.size ∧ cellAt w.heap a.block a.off = some v := by
 unfold World.cell? at h
 split at h
 · rename_i c t fr hb
   split at h
   · cases h
   · rename_i hs
     refine ⟨by simpa using hs, (RA.1 hb).1, by simp [cellAt, hb, h]⟩
 · cases h
theorem aZN {a : Addr} {n : Nat} {cs : List Value} (hs : a.spot = none) (h : w.cells? 0 a n = some cs) : eY w.heap a.block a.off cs ∧ cs.length = n := by
 obtain ⟨_, hl, hc⟩ := World.cells?_some h
 refine ⟨?_, hl⟩
 have : ∀ (l : List Value) (k : Nat), (∀ i, i < l.length → w.cell? (a.add (k + i)) = l[i]?) → eY w.heap a.block (a.off + k) l := by
  intro l
  induction l with
  | nil => intro _ _; trivial
  | cons v l ih =>
   intro k hk
   refine ⟨?_, ?_⟩
   · have := (VU (hk 0 (by simp))).2.2
     obtain ⟨b, off, sp⟩ := a
     simp only at hs
     subst hs
     simpa [Addr.oB] using this
   · have := ih (k + 1) (fun i hi => by have := hk (i + 1) (by simp; omega); rw [show k + 1 + i = k + (i + 1) by omega]; simpa using this)
     simpa [C6] using this
 simpa using this cs 0 (fun i hi => by simpa using hc i (by omega))
theorem aQF {t e n k : Nat} {α : Type} {av : α → AV} (ht : P.underlying t = some (.slice e)) (hk : P.cellsOf e = k) (A8 : 0 < k) (hw : ∀ a, (av a).width = k) (hr : ∀ m, m < n → Reads enc P w e m av) :
 Reads enc P w t n (fun l : List α => .slice (l.map av)) := by
 intro cs x h
 rcases DataW.trod_slice ht h with ⟨rfl, _⟩ | ⟨a, len, cap, elems, rest, m, hm, rfl, rfl, _, hl, CD, hlen, hel, hsp, _⟩
 · exact ⟨[], by simp only [aW]; unfold VC; exact .inl ⟨⟨_, rfl⟩, rfl⟩⟩
 obtain ⟨hrl, BV⟩ := hsp rfl
 rw [hk] at hel BV
 have get : ∀ i, i < cap → ∃ ds y, w.cells? 0 (a.add (i * k)) k = some ds ∧ DataW.trod enc P w 0 (fun _ => true) true m e ds = some y := by
  intro i hi
  have hb : ∃ y, (w.cells? 0 (a.add (i * k)) k).bind (DataW.trod enc P w 0 (fun _ => true) true m e) = some y := by
   by_cases hi' : i < len
   · exact ⟨elems[i]'(by omega), by rw [hel i hi']; simp [show i < elems.length by omega]⟩
   · have := BV (i - len) (by omega)
     rw [show len + (i - len) = i by omega] at this
     exact ⟨rest[i - len]'(by omega), by rw [this]; simp [show i - len < rest.length by omega]⟩
  obtain ⟨y, hy⟩ := hb
  obtain ⟨ds, h1, h2⟩ := Option.bind_eq_some_iff.1 hy
  exact ⟨ds, y, h1, h2⟩
 by_cases hc0 : cap = 0
 · subst hc0
   obtain rfl : len = 0 := by omega
   exact ⟨[], by simp only [aW]; unfold VC; exact .inl ⟨⟨_, rfl⟩, rfl⟩⟩
 obtain ⟨ds0, _, hd0, _⟩ := get 0 (by omega)
 have aL1 : a.spot = none ∧ a.block < w.heap.size := by
  obtain ⟨_, hl0, hc⟩ := World.cells?_some hd0
  have := hc 0 A8
  have h0 : ds0[0]? = some (ds0[0]'(by omega)) := by simp [hl0, A8]
  rw [h0] at this
  have := VU this
  obtain ⟨b, off, sp⟩ := a
  simp only [Nat.zero_mul] at this
  cases sp with
  | none => exact ⟨rfl, by simpa [Addr.oB] using this.2.1⟩
  | some s => exact absurd this.1 (by simp [Addr.add])
 obtain ⟨b, off, sp⟩ := a
 simp only at aL1
 obtain ⟨rfl, hbl⟩ := aL1
 have val : ∀ i, i < len → ∃ v : α, VE w.heap rH b (off + i * k) (av v) := by
  intro i hi
  obtain ⟨ds, y, h1, h2⟩ := get i (by omega)
  obtain ⟨v, hv⟩ := hr m (by omega) ds y h2
  obtain ⟨c1, c2⟩ := aZN (a := (⟨b, off, none⟩ : Addr).add (i * k)) (by simp [Addr.oB]) h1
  exact ⟨v, ds, by simpa [Addr.oB] using c1, by rw [hw]; exact c2, hv⟩
 have build : ∀ j, j ≤ len → ∃ l : List α, l.length = j ∧ ∀ (i : Nat) v, l[i]? = some v → VE w.heap rH b (off + i * k) (av v) := by
  intro j
  induction j with
  | zero => intro _; exact ⟨[], rfl, by simp⟩
  | succ j ih =>
   intro hj
   obtain ⟨l, h1, h2⟩ := ih (by omega)
   obtain ⟨v, hv⟩ := val j (by omega)
   refine ⟨l ++ [v], by simp [h1], fun i u hi => ?_⟩
   rw [List.getElem?_append] at hi
   split at hi
   · exact h2 i u hi
   · rename_i hge
     have : i = j := by
      have := (gQ.1 hi).1
      simp at this
      omega
     subst this
     simp [h1] at hi
     subst hi
     exact hv
 obtain ⟨l, h1, h2⟩ := build len (c7 _)
 refine ⟨l, ?_⟩
 unfold VC
 refine .inr ⟨b, off, cap, by simp [h1], by simp [h1]; exact hl, CD, rfl, hbl, aNQ hw l, aGC (k := k) (by intro e he; simp only [cU] at he; obtain ⟨v, _, rfl⟩ := he; exact hw v) fun i e he => ?_⟩
 rw [oT] at he
 obtain ⟨v, hv, rfl⟩ := Option.map_eq_some_iff.1 he
 exact h2 i v hv
theorem aZL {t : TypeId} {α : Type} {av : α → AV} {v : Value} {d : DataW H} {ps : List MemPlace} (hr : ∀ n, Reads enc P w t n av) (hag : ∀ a, (av a).isAgg = kS v) (h : DataW.Trod enc P w 0 (fun _ => true) true t v d ps) :
 ∃ a : α, aR w.heap rH (av a) v := by
 obtain ⟨n, hn⟩ := h
 obtain ⟨a, ha⟩ := hr n _ _ hn
 refine ⟨a, ?_⟩
 have := hag a
 cases hq : av a <;> rw [hq] at ha this <;> first | trivial | exact ⟨this, ha⟩
theorem ZI (hl : laidOutB P = true) {W W' : World} {sp : Nat → Bool} : ∀ {ts : List TypeId} {vs : List Value} {ds : List (DataW H)} {ps : List MemPlace}, (ts.all fun t => P.readableRec t && decide (t < P.types.size)) = true →
 DataW.TrodAll enc P W 0 (fun _ => true) true ts vs ds ps → (∀ x ∈ ps, W.sameAt W' x) → (∀ x ∈ ps, sp x.block = true) → DataW.TrodAll enc P W' 0 sp true ts vs ds ps
 | [], vs, ds, ps, _, h, _, _ => by
  cases vs <;> cases ds <;> simp [DataW.TrodAll] at h ⊢
  exact h
 | t :: ts, vs, ds, ps, ht, h, h1, h2 => by
  obtain ⟨v, vs', d, ds', p, q, rfl, rfl, rfl, hd, BV⟩ := trodAll_cons h
  simp only [kE, cM, bJ] at ht
  refine ⟨p, q, Go.WideElems.Trod_stays hl ht.1.1 ht.1.2 hd (fun x hx => h1 x (by simp [hx])) (fun x hx => h2 x (by simp [hx])), ZI hl ht.2 BV (fun x hx => h1 x (by simp [hx])) (fun x hx => h2 x (by simp [hx])), rfl⟩
theorem aX4 {W W' : World} {st' : aB} (T : cC W.heap rH W'.heap st') (s : fQ W W') : Below W.heap.size W W' :=
 ⟨s.1, s.2.1, s.2.2, T.size, fun k hk => (T.a8 k hk rfl).1⟩
theorem aUN {f : Func} {g : FuncId} {s : ChangeSpec} {W : World} {args : Array Value} {ds : List (DataW H)} {before : List MemPlace} {avs : List AV} {tb : TypeId}
 (hl : laidOutB P = true) (hts : (f.params.toList.all fun t => P.readableRec t && decide (t < P.types.size)) = true) (hrt : f.resultTypes = #[tb]) (htb : P.underlying tb = some .bool) (hsv : s.vars = [])
 (hW : DataW.Whole enc P f.params.toList [] false W args.toList ds [] before) (hfn : s.fn H ds = { results := [.lit (.bool true)], args := ds }) (aRM : cZ W.heap rH avs args.toList)
 (hc : aD P g avs rH (fun r _ => r = .bool true)) :
 Calls P g args W fun e W' => ∃ v, e = .returned v ∧ s.post enc P f false true false false W args v W' := by
 have hS : cQ W.heap rH := fun b o h => by cases h
 have := hc.2 W args.toList hS aRM
 simp only [xN] at this
 refine this.mono ?_
 rintro e W' ⟨v, r, st', rfl, hv, _, T, sm, rfl⟩
 refine ⟨v, rfl, ?_⟩
 have hB := aX4 T sm
 rw [hv.yP]
 have hW' : DataW.Whole enc P f.params.toList s.vars false W args.toList ds [] before := by rw [hsv]; exact hW
 obtain ⟨p, q, hA, hV, rfl, hz, _⟩ := hW
 obtain ⟨_, rfl⟩ := trodVars_none hV
 have hlt : ∀ x ∈ p, x.block < W.heap.size := fun x hx => hW'.lt x (by simp [hx])
 have zU : ∀ (b : Nat) (sp : Nat → Bool) (hd : Bool), DataW.TrodAll enc P W' b sp hd f.resultTypes.toList ((Value.bool true).resultList f.resultTypes.size) (s.fn H (ds ++ [])).results [] := fun _ _ _ => by
  rw [iA, hfn, hrt]
  exact trodAll_mk1 (shut_bool htb true)
 have qF : ∀ sp : Nat → Bool, (∀ x ∈ p, sp x.block = true) → DataW.TrodAll enc P W' 0 sp true f.params.toList args.toList (s.fn H (ds ++ [])).args p := fun sp hsp => by
  rw [iA, hfn]
  exact ZI hl hts hA (fun x hx => hB.same (hlt x hx)) hsp
 have aL8 : ∀ sp : Nat → Bool, DataW.TrodVars enc P W' sp s.vars (s.fn H (ds ++ [])).vars [] := fun sp => by
  rw [iA, hfn, hsv]
  exact rfl
 refine ⟨ds, [], p ++ [], [], p, [], hW', zU _ _ _, qF _ (fun x hx => by simpa using hlt x hx), aL8 _, World.keptBut_mono (fun x hx => ⟨hx, by simpa using hx⟩) (hB.frame (· ∈ p ++ [])), fun _ => ?_⟩
 refine ⟨ok_one hrt rfl (okWide_bool_mk htb true), _, _, ([] ++ p) ++ [], ⟨[] ++ p, [], trodAll_append (qF _ (fun _ _ => rfl)) (zU _ _ _), aL8 _, rfl, ?_, ?_⟩, ?_⟩
 · intro b off hp
   have hp' : MemPlace.cell b off ∈ p := by simpa using hp
   rw [hB.frozen (p := ⟨b, off, none⟩) (hlt _ hp')]
   exact hz b off (by simpa using hp')
 · intro ha; cases ha
 · intro x hx _
   simpa using hx
end
end Go.AW

namespace Go.AW
open Go.Proofs.Tryz
section
variable {H : Type} {enc : TypeId × Value → H} {w : World}
theorem aNH : prog.cellsOf 5 = 1 := by kernel_rfl
theorem aP3 (n : Nat) : Reads enc prog w 5 n iR := by
 intro cs x h
 obtain ⟨k, rfl, _, hw⟩ := DataW.trod_int kN h
 simp only [Lit.wf, IntKind.min, IntKind.max, IntKind.signed, IntKind.bits, cM, bJ] at hw
 refine ⟨⟨k.toNat, ?_⟩, ?_⟩
 · simp at hw; omega
 · have : (((k.toNat : Nat)) : Int) = k := by simp at hw; omega
   simp only [iR, this, VC]
theorem aX2 (n : Nat) : Reads enc prog w 57 n (fun l : List Bt => .slice (l.map iR)) :=
 aQF yX aNH (by omega) J2 fun m _ => aP3 m
end
section
variable {H : Type} {enc : TypeId × Value → H} {w : World}
theorem aSE {r : Reach} {b0 : Nat} {t e : TypeId} {v : Value} (ht : prog.underlying t = some (.slice e)) (h : Value.okWide prog w r b0 t v) : kS v = false := by
 cases v <;> first | rfl | (simp [Value.okWide, ht, Cell.okWide, Cell.ok] at h)
end
end Go.AW
