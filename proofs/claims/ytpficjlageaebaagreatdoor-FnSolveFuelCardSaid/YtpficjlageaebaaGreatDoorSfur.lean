import Derived.Test.YtpficjlageaebaaGreatDoorSfuq
import Derived.Test.YtpficjlageaebaaGreatDoorSfuf
import Derived.Test.YtpficjlageaebaaGreatDoorSfup
import Derived.Test.YtpficjlageaebaaGreatDoorSfun
import Derived.ProofKit
import Derived.Test.YtpficjlageaebaaGreatDoorSfuk
import Derived.Test.YtpficjlageaebaaGreatDoorSfuh
set_option linter.unusedSimpArgs false
set_option linter.unusedVariables false
set_option maxRecDepth 100000
namespace Go.AW
open Go.Proofs.Tryz
def kR (p : List UInt8) : AV := .str (ba p)
theorem ZZ (l : List (List UInt8)) : ∀ e ∈ l.map kR, e.width = 1 := by intro e h; simp only [cV] at h; obtain ⟨t, _, rfl⟩ := h; rfl
theorem aXW (l : List (List UInt8)) : ∀ e ∈ l.map kR, e.cC = false := by intro e h; simp only [cV] at h; obtain ⟨t, _, rfl⟩ := h; rfl
abbrev F8 := zi tI_3 (zi zI_3 (zi aX (zi tI_5 (zi zI_5 (zi kF (zi tI_9 (zi zI_9 (zi cG (zi tI_125 (zi zI_125 (zi iP (zi lL (zi lK mC)))))))))))))
set_option maxHeartbeats 1000000 in
theorem aSB (s : ByteArray) (c : Nat) (hs : s.size ≤ 1048576) (st : aB) : aD prog 123 [.str s, .int .u8 (c : Int)] st (fun r st' => r = .slice ((mY c (sb s) []).map kR) ∧ st' = st) := by
 generalize hT : mY c (sb s) [] = T
 refine aD.pC (aD.fin ?_)
 refine wF [1000000] 2 func123 ntmps123 rfl rfl ?_
 intro _
 simp -implicitDefEqProofs only [aA, seval, F8]
 refine gX (σ := List (List UInt8) × Nat × Nat × Nat) [1000000] [0, 1, 4] (fun x => ((x.2.2.1 ≤ s.size ∧ x.2.1 ≤ x.2.2.1 ∧ x.1 ++ mY c ((sb s).drop x.2.2.1) (((sb s).drop x.2.1).take (x.2.2.1 - x.2.1)) = T) ∨ (x.2.2.1 = s.size + 1 ∧ x.2.1 ≤ s.size + 1 ∧ x.1 = T)) ∧ x.1.length ≤ x.2.2.1 ∧ (x.1.map kR ≠ [] → st x.2.2.2 = none)) (fun x => [(5, a9 1 x.2.2.2 (x.1.map kR)), (6, .int .i64 (x.2.1 : Int)), (7, .int .i64 (x.2.2.1 : Int))]) (fun x => aY st x.2.2.2 (x.1.map kR)) (fun x => s.size + 1 - x.2.2.1) (by decide +kernel) ⟨([], 0, 0, 0), ⟨Or.inl ⟨jC _, cY _, hT⟩, jC _, by simp⟩, aO.mk (by simp -implicitDefEqProofs only [aW, jF, aA, ↓aU, seval])⟩ ?_
 rintro ⟨out, f, i, b⟩ ⟨ht, hlen, hb⟩
 simp only at ht hlen hb ⊢
 by_cases hi : i ≤ s.size
 case neg =>
  obtain ⟨h1, h2, rfl⟩ : i = s.size + 1 ∧ f ≤ s.size + 1 ∧ out = T := by
   rcases ht with h | h
   · exact absurd h.1 hi
   · exact h
  have hi' : ((i : Int) ≤ (s.size : Int)) = False := cH (by omega)
  simp -implicitDefEqProofs only [hi', bX, aA, seval, F8]
  exact ⟨b, _, st, rfl, hb, aXW _, ⟨1, ZZ _⟩, by rw [iD], aM.refl _⟩
 obtain ⟨-, hfi, ht⟩ : i ≤ s.size ∧ f ≤ i ∧ out ++ mY c ((sb s).drop i) (((sb s).drop f).take (i - f)) = T := by
  rcases ht with h | h
  · exact h
  · omega
 have hi' : ((i : Int) ≤ (s.size : Int)) = True := c7 (by omega)
 have hw := bK (n := (i : Int) + 1)
 have hsl := fun (φ : AF) (y z : Operand) (h : φ.eval y = .int .i64 (f : Int)) (h' : φ.eval z = .int .i64 (i : Int)) => FG (s := s) h h' hfi hi
 rw [EA] at hsl
 generalize hp : ((sb s).drop f).take (i - f) = p at *
 have HV : ∀ (K : AV → aB → Prop), (∀ b', ((out ++ [p]).map kR ≠ [] → st b' = none) → K (a9 1 b' ((out ++ [p]).map kR)) (aY st b' ((out ++ [p]).map kR))) → j3 prog 125 (aY st b (out.map kR)) (a9 1 b (out.map kR)) (.fslice [.str (ba p)]) K := by
  intro K hK
  refine eN iP lL lK rfl rfl (eY rfl rfl) (ZZ _) hb (by simp only [aF, aS, aZ]; omega) (by simp only [aF, aS, aZ]; omega) (fun b' hb' => ?_)
  rw [show out.map kR ++ [AV.str (ba p)] = (out ++ [p]).map kR by simp [kR]] at hb' ⊢
  exact hK b' hb'
 by_cases hie : i = s.size
 case pos =>
  have KS : ((i : Int) = (s.size : Int)) = True := c7 (by omega)
  rw [GO (by rw [cJ]; omega)] at ht
  simp only [mY] at ht
  simp -implicitDefEqProofs only [hi', KS, hsl, bM, aA, seval, F8]
  refine HV _ fun b' hb' => ?_
  simp -implicitDefEqProofs only [hw, aA, seval]
  refine ⟨(out ++ [p], i + 1, i + 1, b'), by simp only; omega, ⟨Or.inr ⟨by simp only; omega, by simp only; omega, ht⟩, by simp only [dP, aS, aZ]; omega, hb'⟩, aO.mk (by simp -implicitDefEqProofs only [aA, seval] <;> exact ⟨rfl, rfl⟩)⟩
 have KS : ((i : Int) = (s.size : Int)) = False := cH (by omega)
 obtain ⟨x, hx⟩ := uM (s := s) (n := i) (by omega)
 have hix := rW (P := prog) (t := 9) cG hx
 obtain ⟨hx1, hx2⟩ := gQ.1 hx
 rw [qV hx1, hx2] at ht
 unfold mY at ht
 by_cases hxc : x.toNat = c
 · rw [aG hxc] at ht
   have OJ : ((x.toNat : Int) = (c : Int)) = True := c7 (by omega)
   simp -implicitDefEqProofs only [hi', KS, hsl, hix, OJ, bM, bX, aA, seval, F8]
   refine HV _ fun b' hb' => ?_
   simp -implicitDefEqProofs only [hw, aA, seval]
   refine ⟨(out ++ [p], i + 1, i + 1, b'), by simp only; omega, ⟨Or.inl ⟨by simp only; omega, cY _, by rw [← ht]; simp⟩, by simp only [dP, aS, aZ]; omega, hb'⟩, aO.mk (by simp -implicitDefEqProofs only [aA, seval] <;> exact ⟨rfl, rfl⟩)⟩
 · rw [aE hxc] at ht
   have OJ : ((x.toNat : Int) = (c : Int)) = False := cH (by omega)
   have hp' : ((sb s).drop f).take (i + 1 - f) = p ++ [x] := by
    rw [show i + 1 - f = (i - f) + 1 by omega, fM, hp, Q6, show f + (i - f) = i by omega, hx]; try rfl
   simp -implicitDefEqProofs only [hi', KS, hw, hix, OJ, bM, bX, aA, seval, F8]
   refine ⟨(out, f, i + 1, b), by simp only; omega, ⟨Or.inl ⟨by simp only; omega, by simp only; omega, by simp only; rw [hp']; exact ht⟩, by simp only; omega, hb⟩, aO.mk (by simp -implicitDefEqProofs only [aA, seval] <;> rfl)⟩
def F7 (o : Option (List Cl)) (r : AV) : Prop := match o with | some l => r = .tup [.slice (l.map bY), .bool true] | none => r = .tup [.slice [], .bool false]
theorem VW : ∀ (ls : List (List UInt8)) (acc r : List Cl), (∀ c ∈ acc, tV c ∧ k8 c = true) → yI ls acc = some r → (∀ c ∈ r, tV c ∧ k8 c = true) ∧ r.length = acc.length + ls.length
 | [], acc, r, h, h1 => by cases h1; exact ⟨h, rfl⟩
 | l :: ls, acc, r, h, h1 => by
  unfold yI at h1
  split at h1
  · cases h1
  rename_i c h2
  have := VW ls (acc ++ [c]) r (by intro x hx; rw [fS, K1] at hx; rcases hx with hx | rfl; exact h x hx; exact UL h2) h1
  refine ⟨this.1, ?_⟩
  rw [this.2]
  simp only [dP, aS, aZ]
  omega
abbrev wA := zi tI_3 (zi zI_3 (zi aX (zi tI_4 (zi zI_4 (zi cE (zi tI_5 (zi zI_5 (zi kF (zi tI_8 (zi zI_8 (zi vR (zi vQ (zi vU (zi vL (zi wC (zi tI_9 (zi zI_9 (zi cG (zi tI_10 (zi zI_10 (zi aPU (zi tI_29 (zi zI_29 (zi g8 (zi j8 (zi kA (zi k6 (zi tI_76 (zi zI_76 (zi lN (zi lR (zi lP (zi tI_125 (zi zI_125 (zi iP (zi lL (zi lK mC)))))))))))))))))))))))))))))))))))))
set_option maxHeartbeats 1000000 in
theorem aWV (s : ByteArray) (hs : s.size ≤ 100000) (st : aB) : aD prog 90 [.str s] st (fun r st' => F7 (zP (sb s)) r ∧ st' = st) := by
 generalize hP : zP (sb s) = T
 unfold zP at hP
 simp only at hP
 have wK := fun st => aSB s 10 (by omega) st
 rw [show ((10 : Nat) : Int) = 10 from rfl] at wK
 have hne := VL 10 (sb s) []
 have hcl := MN 10 (sb s) []
 rw [cJ] at hcl
 generalize mY 10 (sb s) [] = L at *
 obtain ⟨m, hm⟩ : ∃ m, L.length = m + 1 := ⟨L.length - 1, by have := List.length_pos_iff.2 hne; omega⟩
 obtain ⟨y, hy⟩ : ∃ y, L[m]? = some y := ⟨_, fG (by omega)⟩
 have hgl : L.getLast? = some y := by rw [aL3, hm]; exact hy
 rw [hgl] at hP
 refine aD.drop (Q := F7 T) (aD.fin ?_)
 have tJ : T = none → ∀ (b : Nat) (l : List Cl) (s0 : aB), (l.map bY ≠ [] → s0 b = none) → aM s0 st → ∃ b2 l2 s1, aY s0 b (l.map bY) = aY s1 b2 l2 ∧ (l2 ≠ [] → s1 b2 = none) ∧ (∀ e ∈ l2, e.cC = false) ∧ g9 l2 ∧ aM s1 st ∧ F7 T ((AV.tup [.fslice [], .bool false]).fin b2 l2) := by
  rintro rfl b l s0 hb hD
  exact ⟨b, _, s0, rfl, hb, H1 _, ⟨5, yK _⟩, hD, by simp only [F7, jG, pD, oK, bA, aW]⟩
 refine wF [1000000] 1 func90 ntmps90 rfl rfl ?_
 intro _
 simp -implicitDefEqProofs only [aA, seval, wA]
 refine (wK _).to ?_
 have hat := bL (av := kR) iP hy rfl
 have hw0 := nA (x := (L.length : Int) - 1) (m := m) (by omega) (by omega)
 by_cases h21 : 21 < L.length
 case pos =>
  rw [aG (Or.inl h21)] at hP
  have KU : ((21 : Int) < (L.length : Int)) = True := c7 (by omega)
  simp -implicitDefEqProofs only [aF, KU, bM, aA, seval, wA]
  exact tJ hP.symm 0 [] st (by simp) (aM.refl _)
 have KU : ((21 : Int) < (L.length : Int)) = False := cH (by omega)
 by_cases hye : y = []
 case neg =>
  rw [aG (Or.inr (by simpa using hye))] at hP
  have QN : (ba y = ⟨#[]⟩) = False := cH fun h => hye (by have := nX sb h; exact this)
  simp -implicitDefEqProofs only [aF, KU, hw0, hat, kR, QN, bX, aA, seval, wA]
  exact tJ hP.symm 0 [] st (by simp) (aM.refl _)
 rw [aE (by rintro (h | h); exact h21 h; exact h (by rw [hye]))] at hP
 have QN : (ba y = ⟨#[]⟩) = True := c7 (by rw [hye])
 simp -implicitDefEqProofs only [aF, KU, hw0, hat, kR, QN, bM, bX, aA, seval, wA]
 refine gX (σ := Nat × List Cl × Nat) [1000000] [5] (fun x => x.1 ≤ m ∧ yI (L.dropLast.drop x.1) x.2.1 = T ∧ x.2.1.length = x.1 ∧ (∀ c ∈ x.2.1, tV c) ∧ (x.2.1.map bY ≠ [] → st x.2.2 = none)) (fun x => [(2, .fslice []), (3, .bool false), (4, a9 5 x.2.2 (x.2.1.map bY)), (6, .int .i64 (x.1 : Int))]) (fun x => aY st x.2.2 (x.2.1.map bY)) (fun x => m - x.1) (by decide +kernel) ⟨(0, [], 0), ⟨jC _, hP, rfl, by simp, by simp⟩, aO.mk (by simp -implicitDefEqProofs only [aW, jF, aA, ↓aU, seval])⟩ ?_
 rintro ⟨i, acc, b⟩ ⟨hi, ht, hlen, hdn, hb⟩
 simp only at hi ht hlen hdn hb ⊢
 have hdl : L.dropLast.length = m := by rw [List.length_dropLast, hm]; try rfl
 have hw1 := bK (n := (i : Int) + 1)
 by_cases him : i < m
 case neg =>
  have MP : ((i : Int) + 1 < (L.length : Int)) = False := cH (by omega)
  rw [GO (by omega)] at ht
  simp only [yI] at ht
  simp -implicitDefEqProofs only [aF, MP, hw1, mR, nW, sH, bX, aA, seval, wA]
  exact ⟨b, _, st, rfl, hb, H1 _, ⟨5, yK _⟩, aM.refl _, by rw [← ht]; simp only [F7, jG, pD, lT, bA, aW]⟩
 have MP : ((i : Int) + 1 < (L.length : Int)) = True := c7 (by omega)
 obtain ⟨z, hz⟩ : ∃ z, L[i]? = some z := ⟨_, fG (by omega)⟩
 have hz2 : L.dropLast[i]? = some z := by rw [List.getElem?_dropLast, aG (by omega)]; exact hz
 obtain ⟨hz3, hz4⟩ := gQ.1 hz2
 rw [qV hz3, hz4] at ht
 unfold yI at ht
 have aNY := bL (av := kR) iP hz rfl
 have hpc := aRE (ba z)
 rw [show sb (ba z) = z from rfl] at hpc
 simp -implicitDefEqProofs only [aF, MP, hw1, aNY, kR, bM, aA, seval, wA]
 refine (hpc _).to ?_
 cases hc : nS z with
 | none =>
  rw [hc] at ht
  simp -implicitDefEqProofs only [xX, gG, aA, ↓aU, seval, wA]
  exact tJ ht.symm b acc st hb (aM.refl _)
 | some c =>
  rw [hc] at ht
  simp only at ht
  have hcd := (UL hc).1
  have hca := AU c
  have hcw := oH c
  have hcj := IQ c
  have hcs := aFU c
  have hcc := RU c
  simp -implicitDefEqProofs only [xX, hca, hcw, hcj, hcs, aA, ↓aU, seval, wA]
  refine eN g8 j8 kA rfl rfl (eY hcw hcs) (yK _) hb (by simp only [aF, aS, aZ]; omega) (by simp only [aF, aS, aZ]; omega) (fun b' hb' => ?_)
  rw [show acc.map bY ++ [bY c] = (acc ++ [c]).map bY by simp] at hb' ⊢
  simp -implicitDefEqProofs only [hw1, aA, seval]
  refine ⟨(i + 1, acc ++ [c], b'), by simp only; omega, ⟨by simp only; omega, ht, by simp only [dP, aS, aZ]; omega, ?_, hb'⟩, aO.mk (by simp -implicitDefEqProofs only [aA, seval] <;> rfl)⟩
  intro x hx
  rw [fS, K1] at hx
  rcases hx with hx | rfl
  · exact hdn x hx
  · exact hcd
def FQ (o : Option (List Tm)) : AV := match o with | some l => .tup [.slice (l.map Tm.av), .bool true] | none => .tup [.slice [], .bool false]
theorem aMR {l : List UInt8} {q : List Tm} (h : lZ l = some q) : lG q = true ∧ ∀ t ∈ q, Dn t := by
 unfold lZ at h
 split at h
 · cases h
 rename_i g e h1
 split at h
 · rename_i h2
   cases h
   exact ⟨h2.2.2, (HS h2.1 7 0 [] _ _ (jC _) (by simp) h1).2.2.1⟩
 · cases h
abbrev sM := zi tI_3 (zi zI_3 (zi aX (zi tI_4 (zi zI_4 (zi cE (zi tI_9 (zi zI_9 (zi cG (zi tI_31 (zi zI_31 (zi aN (zi bE (zi bF (zi cA (zi tI_63 (zi zI_63 (zi bR (zi bQ (zi bP (zi bT bU))))))))))))))))))))
set_option maxHeartbeats 1000000 in
theorem SY (s : ByteArray) (st : aB) : aD prog 92 [.str s] st (fun r st' => r = FQ (lZ (sb s)) ∧ st' = st) := by
 refine aD.pC (aD.fin ?_)
 have tJ : lZ (sb s) = none → ∃ b l s0, st = aY s0 b l ∧ (l ≠ [] → s0 b = none) ∧ (∀ e ∈ l, e.cC = false) ∧ g9 l ∧ (AV.tup [.fslice [], .bool false]).fin b l = FQ (lZ (sb s)) ∧ aM s0 st := fun h => by
  rw [h]
  exact ⟨0, [], st, rfl, by simp, by simp, ⟨4, by simp⟩, by simp only [FQ, jG, pD, oK, bA, aW], aM.refl _⟩
 refine wF [1000000] 1 func92 ntmps92 rfl rfl ?_
 intro _
 by_cases hs : s.size ≤ 1000
 case neg =>
  have hs' : ((1000 : Int) < (s.size : Int)) = True := c7 (by omega)
  have hP : lZ (sb s) = none := by
   unfold lZ
   split
   · rfl
   · rw [aE fun h => hs (by rw [← cJ]; exact h.1)]
  simp -implicitDefEqProofs only [hs', bM, aA, seval, sM]
  exact tJ hP
 have hs' : ((1000 : Int) < (s.size : Int)) = False := cH (by omega)
 have h0 := fun st => aCB hs 0 (jC _) st
 rw [show ((0 : Nat) : Int) = 0 from rfl] at h0
 simp -implicitDefEqProofs only [hs', bX, aA, seval, sM]
 refine (h0 _).mono ?_
 rintro r st ⟨hr, rfl⟩
 cases hG : rK (sb s) 7 0 [] with
 | none =>
  have hP : lZ (sb s) = none := by unfold lZ; rw [hG]
  rw [hG] at hr
  simp only [rN] at hr
  subst hr
  have he : ((-1 : Int) = (s.size : Int)) = False := cH (by omega)
  simp -implicitDefEqProofs only [he, bX, aA, seval, sM]
  exact tJ hP
 | some p =>
  obtain ⟨g, e⟩ := p
  rw [hG] at hr
  simp only [rN] at hr
  subst hr
  have hg := HS (by rw [cJ]; exact hs) 7 0 [] _ _ (jC _) (by simp) hG
  rw [cJ] at hg
  simp -implicitDefEqProofs only [aA, seval, sM]
  by_cases he : e = s.size
  case neg =>
   have hP : lZ (sb s) = none := by
    unfold lZ
    rw [hG]
    simp only
    rw [aE fun h => he (by rw [← cJ]; exact h.2.1)]
   have he' : ((e : Int) = (s.size : Int)) = False := cH (by omega)
   simp -implicitDefEqProofs only [he', bX, aA, seval, sM]
   exact tJ hP
  have he' : ((e : Int) = (s.size : Int)) = True := c7 (by omega)
  simp -implicitDefEqProofs only [he', bM, aA, seval]
  refine (ZX g _).to ?_
  cases hq : lG g with
  | false =>
   have hP : lZ (sb s) = none := by
    unfold lZ
    rw [hG]
    simp only
    rw [aE fun h => by rw [hq] at h; exact absurd h.2.2 (by decide)]
   simp -implicitDefEqProofs only [aA, seval, sM]
   exact tJ hP
  | true =>
   have hP : lZ (sb s) = some g := by
    unfold lZ
    rw [hG]
    simp only
    rw [aG ⟨by rw [cJ]; exact hs, by rw [cJ]; exact he, hq⟩]
   have hg6 : g.length ≤ 6 := by
    simp only [lG, cM, bJ] at hq
    exact hq.1
   simp -implicitDefEqProofs only [aA, seval, sM]
   refine eH (σ := Nat) [1000000] [2, 3, 4] g (fun i b => ((g.take i).map Tm.av ≠ [] → st b = none)) (fun i b => [(6, a9 4 b ((g.take i).map Tm.av)), (7, .int .i64 i)]) (fun i b => aY st b ((g.take i).map Tm.av)) (by decide +kernel) ⟨0, fun h => absurd rfl h, aO.mk (by simp -implicitDefEqProofs only [jF, aA, ↓aU, seval])⟩ (fun i x b hx hlt bS hdr hinv => ?_) (fun b hge hinv => ?_)
   case refine_1 =>
    have hw := bK (n := (i : Int) + 1)
    have cT : ((g.take i).map Tm.av).length = i := by simp only [aF, d5]; omega
    have htk : (g.take i).map Tm.av ++ [x.av] = (g.take (i + 1)).map Tm.av := by rw [fM, hx]; simp
    have hat := bL (av := Tm.av) aN hx (aH x)
    simp -implicitDefEqProofs only [bS, aF, hat, aT, aH, aA, seval, sM]
    refine (yA x _ (hg.2.2.1 x (cU hx)).2).to ?_
    simp -implicitDefEqProofs only [aT, aH, cF, aA, seval, sM]
    refine eN aN bE bF rfl rfl (eY (aH _) (b7 _)) (dT _) hinv (by simp only [cT, aS, aZ]; omega) (by simp only [cT, aS, aZ]; omega) (fun b' hb' => ?_)
    rw [htk] at hb' ⊢
    simp -implicitDefEqProofs only [hw, aA, seval]
    exact ⟨b', hb', aO.mk (by simp -implicitDefEqProofs only [aA, seval])⟩
   rw [eS] at hinv ⊢
   simp -implicitDefEqProofs only [aF, hge, mR, nW, sH, aA, seval, sM]
   rw [hP]
   exact ⟨b, _, st, rfl, hinv, iF _, ⟨4, dT _⟩, by simp only [FQ, jG, pD, lT, bA, aW], aM.refl _⟩
end Go.AW
namespace Go.AW

theorem qL.fin {s0 : aB} {b : Nat} {l : List AV} {r : AV} (h0 : l ≠ [] → s0 b = none) (h2 : ∀ e ∈ l, e.cC = false) (h3 : g9 l) : yL (aY s0 b l) s0 ∧ qL (aY s0 b l) r s0 (r.fin b l) := by
 cases l with
 | nil => exact ⟨(aM.refl _).sO, fun h v S y => y.soft⟩
 | cons e l =>
  have hb := h0 (by simp)
  have h1 : aY s0 b (e :: l) b = some (.cells ((e :: l).flatMap AV.cells)) := by simp only [aY, aB.aQ]
  have e1 : (aY s0 b (e :: l)).erase b = s0 := by simp only [aY]; exact aB.wR _ _ _ hb
  refine ⟨?_, fun h v S y => ?_⟩
  · have := (jI (aY s0 b (e :: l)) b).sO
    rwa [e1] at this
  · have := y.fz S h1 h2 h3
    rw [e1] at this
    exact this.soft
theorem qL.tail {s0 : aB} {b k w : Nat} {l : List AV} (hb : s0 b = none) (hk : k < l.length) (h2 : ∀ e ∈ l, e.cC = false) (hw : ∀ e ∈ l, e.width = w) : yL (aY s0 b l) s0 ∧ qL (aY s0 b l) (.mslice b (k * w) (l.length - k) w) s0 (.slice (l.drop k)) := by
 have hl : l ≠ [] := by rintro rfl; simp at hk
 have h1 : aY s0 b l b = some (.cells (l.flatMap AV.cells)) := by rw [jH hl, aB.aQ]
 have e1 : (aY s0 b l).erase b = s0 := by rw [jH hl]; exact aB.wR _ _ _ hb
 refine ⟨?_, fun h v S y => ?_⟩
 · have := (jI (aY s0 b l) b).sO
   rwa [e1] at this
 · obtain ⟨f1, f2⟩ := frozen S h1 h2
   rw [e1] at f2
   obtain ⟨cap, hv, l1, l2, _⟩ := y.B7
   have hE := dH.drop k hw f2
   rw [gV] at hE
   subst hv
   refine ⟨rfl, ?_⟩
   unfold VC
   exact .inr ⟨b, k * w, cap, by rw [nD]; try rfl, by rw [nD]; exact l1, l2, hb, f1, ⟨w, fun e he => hw e (List.mem_of_mem_drop he)⟩, hE⟩
theorem aD.aLI {P : Program} {g : FuncId} {args : List AV} {st : aB} {Q : AV → aB → Prop} (x : aD P g args st (fun r st' => ∃ r2 s2, (yL st' s2 ∧ qL st' r s2 r2) ∧ Q r2 s2)) : aD P g args st Q :=
 x.mW fun r st' ⟨r2, s2, ⟨h1, h2⟩, h3⟩ => ⟨r2, s2, h1, h2, h3⟩
end Go.AW
namespace Go.AW
open Go.Proofs.Tryz
theorem aZZ {P : Program} {t : TypeId} {ag : Bool} {w b n : Nat} (hI : eI P t = some (ag, w)) (h1 : 1 < n) (φ : AF) : gW P φ t (.mslice b 0 n w) (some (.const (.int .i64 1))) none none = some (.mslice b (0 + 1 * w) (n - 1) w) := by
 have h2 : dR φ none n n = some n := rfl
 have h3 : dR φ (some (.const (.int .i64 1))) 0 n = some 1 := by
  show (if ((0 : Nat) : Int) ≤ 1 ∧ (1 : Int) ≤ (n : Int) then some (Int.toNat 1) else none) = some 1
  rw [aG ⟨by omega, by omega⟩]
  try rfl
 unfold gW oL
 rw [aE (by simp [qK])]
 simp only [hI, h2, h3]
 rw [aG trivial, aE (by decide), aG h1]
def zG : Cl := (.mk 3 0 ⟨#[122]⟩ [], [])
abbrev EB := zi tI_3 (zi zI_3 (zi aX (zi tI_9 (zi zI_9 (zi cG (zi tI_29 (zi zI_29 (zi g8 (zi j8 (zi kA (zi k6 (zi tI_31 (zi zI_31 (zi aN (zi bE (zi bF (zi cA (zi tI_76 (zi zI_76 (zi lN (zi lR (zi lP (zi tI_90 zI_90)))))))))))))))))))))))
set_option maxHeartbeats 2000000 in
theorem aR5 (bs : List Bt) (c p : Nat) (l : List Cl) (hl : ∀ x ∈ l, tV x) (h1 : 2 ≤ l.length) (h2 : l.length ≤ 40) (st : aB) (hp : p + 1000000 ≤ 1099511627776) (hR : dK st c bs p) :
 aD prog 62 [.ptr c 0, .slice (l.map bY)] st (Dr bs c p 1000000 st (fun r => ∃ l' : List Cl, r = .slice (l'.map bY))) := by
 refine aD.aLI ?_
 have QE : st.aC c (b9 bs p) = st := PR hR
 have jQ : ∀ (q b : Nat) (acc : List Cl), p ≤ q → q ≤ p + 1000000 → (acc.map bY ≠ [] → (st.aC c (b9 bs q)) b = none) → ∃ r2 s2, (yL (aY (st.aC c (b9 bs q)) b (acc.map bY)) s2 ∧ qL (aY (st.aC c (b9 bs q)) b (acc.map bY)) (a9 5 b (acc.map bY)) s2 r2) ∧ Dr bs c p 1000000 st (fun r => ∃ l' : List Cl, r = .slice (l'.map bY)) r2 s2 := fun q b acc g1 g2 hb => by
  have := qL.fin (r := a9 5 b (acc.map bY)) hb (H1 _) ⟨5, yK _⟩
  rw [iD] at this
  exact ⟨_, _, this, q, g1, g2, rfl, acc, rfl⟩
 have hRq : ∀ (q b : Nat) (L : List AV), (L ≠ [] → (st.aC c (b9 bs q)) b = none) → dK (aY (st.aC c (b9 bs q)) b L) c bs q ∧ ∀ o, (aY (st.aC c (b9 bs q)) b L).aC c o = aY (st.aC c o) b L ∧ (L ≠ [] → (st.aC c o) b = none) := fun q b L hb => by
  have hne : L ≠ [] → c ≠ b := fun h e => by have := hb h; rw [← e, aB.aQ] at this; cases this
  refine ⟨?_, fun o => ⟨?_, fun h => ?_⟩⟩
  · unfold dK
    by_cases h : L = []
    · rw [h, xG, aB.aQ]; try rfl
    · rw [oZ (hne h), aB.aQ]; try rfl
  · rw [n7 hne, dD]
  · have := hb h
    rw [aB.aL _ _ (dA (hne h))] at this ⊢
    exact this
 refine wF [1000000] 2 func62 ntmps62 rfl rfl ?_
 simp only [eD, AV.fits, eM, aF]
 intro _
 simp -implicitDefEqProofs only [aA, seval, EB]
 refine eH (σ := Nat × Nat × List Cl) [1000000] [0, 1, 4] l (fun i x => p ≤ x.1 ∧ x.1 ≤ p + 6000 * i ∧ x.2.2.length = i ∧ (x.2.2.map bY ≠ [] → (st.aC c (b9 bs x.1)) x.2.1 = none)) (fun i x => [(5, a9 5 x.2.1 (x.2.2.map bY)), (6, .int .i64 i)]) (fun i x => aY (st.aC c (b9 bs x.1)) x.2.1 (x.2.2.map bY)) (by decide +kernel) ⟨(p, 0, []), ⟨cY _, by simp only; omega, rfl, fun h => absurd rfl h⟩, by
  simp only [aW, xG, QE]
  exact aO.mk (by simp -implicitDefEqProofs only [jF, aA, ↓aU, seval])⟩ (fun i x s hx hlt bS hdr hinv => ?_) (fun s hge hinv => ?_)
 case refine_1 =>
  obtain ⟨q, b, acc⟩ := s
  obtain ⟨g1, g2, g3, g4⟩ := hinv
  simp only at g1 g2 g3 g4
  have hw := bK (n := (i : Int) + 1)
  have hat := bL (av := bY) g8 hx (oH x)
  have hcw := oH x
  have hca := AU x
  obtain ⟨k1, k2⟩ := hRq _ _ _ g4
  simp -implicitDefEqProofs only [bS, aF, hat, hcw, hca, aA, seval, EB]
  refine (aUW bs c q x (hl x (cU hx)) _ (by omega) k1).mono ?_
  rintro _ _ ⟨q2, r1, r2, rfl, y, rfl⟩
  obtain ⟨k3, k4⟩ := k2 (b9 bs q2)
  rw [k3]
  have hya := AU y
  have hyw := oH y
  have hyj := IQ y
  have hys := aFU y
  have hyc := RU y
  simp -implicitDefEqProofs only [hya, hyw, hyj, aA, seval, EB]
  refine eN g8 j8 kA rfl rfl (eY hyw hys) (yK _) k4 (by simp only [aF, aS, aZ]; omega) (by simp only [aF, aS, aZ]; omega) (fun b' hb' => ?_)
  rw [show acc.map bY ++ [bY y] = (acc ++ [y]).map bY by simp] at hb' ⊢
  simp -implicitDefEqProofs only [hw, aA, seval]
  exact ⟨(q2, b', acc ++ [y]), ⟨by simp only; omega, by simp only; omega, by simp only [dP, aS, aZ]; omega, hb'⟩, aO.mk (by simp -implicitDefEqProofs only [aA, seval])⟩
 obtain ⟨q, b, acc⟩ := s
 obtain ⟨g1, g2, g3, g4⟩ := hinv
 simp only at g1 g2 g3 g4
 obtain ⟨k1, k2⟩ := hRq _ _ _ g4
 simp -implicitDefEqProofs only [aF, hge, aA, seval, EB]
 refine (mT bs c q (by omega) 30 (by omega) (by omega) _ k1).mono ?_
 rintro _ _ ⟨j, hj, rfl, rfl⟩
 obtain ⟨k3, k4⟩ := k2 (b9 bs (q + 1))
 rw [k3]
 have PK : prog.underlying 29 = some (.slice 76) := by kernel_rfl
 simp -implicitDefEqProofs only [aA, seval]
 refine aP (fun h0 => ?_) (fun h0 => ?_)
 · simp -implicitDefEqProofs only [aA, seval]
   refine gX (σ := Nat × List Cl) [1000000] [4, 24] (fun x => (x.2.map bY ≠ [] → (st.aC c (b9 bs (q + 1))) x.1 = none) ∧ x.2.length ≤ 41) (fun x => [(5, a9 5 x.1 (x.2.map bY))]) (fun x => aY (st.aC c (b9 bs (q + 1))) x.1 (x.2.map bY)) (fun x => 41 - x.2.length) (by decide +kernel) ⟨(b, acc), ⟨k4, by simp only; omega⟩, aO.mk (by simp -implicitDefEqProofs only [aA, seval])⟩ ?_
   rintro ⟨b, acc⟩ ⟨i1, i2⟩
   simp only at i1 i2
   have haL := sU (w := 5) (b := b) (l := acc.map bY) PK
   rw [aF] at haL
   simp -implicitDefEqProofs only [haL, aA, seval]
   refine aP (fun h1 => ?_) (fun h1 => ?_)
   case refine_2 =>
    simp -implicitDefEqProofs only [aA, seval]
    exact jQ _ _ _ (by omega) (by omega) i1
   simp only [bJ] at h1
   simp -implicitDefEqProofs only [aA, seval]
   refine (rE ⟨#[122]⟩ [] (by simp) _).to ?_
   simp -implicitDefEqProofs only [aV, aW, aA, seval, EB]
   refine eN (xs := [.agg [.int .i64 3, .int .i64 0, .str ⟨#[122]⟩, .slice [], .fslice []]]) g8 j8 kA rfl rfl (eY rfl rfl) (yK _) i1 (by simp only [aF, aS, aZ]; omega) (by simp only [aF, aS, aZ]; omega) (fun b' hb' => ?_)
   have hb2 : (acc ++ [zG]).map bY ≠ [] → (st.aC c (b9 bs (q + 1))) b' = none := fun _ => hb' (by simp)
   have iC : aY (st.aC c (b9 bs (q + 1))) b' (acc.map bY ++ [.agg [.int .i64 3, .int .i64 0, .str ⟨#[122]⟩, .slice [], .fslice []]]) b' = some (.cells (((acc.map bY).flatMap AV.cells ++ [.int .i64 3, .int .i64 0, .str ⟨#[122]⟩, .slice []]) ++ .fslice [] :: [])) := by
    rw [jH (by simp), aB.aQ]
    simp [AV.cells]
   have aEW := fun φ => fK.aY0 (φ := φ) iC
   have aZ6 : (aY (st.aC c (b9 bs (q + 1))) b' (acc.map bY ++ [.agg [.int .i64 3, .int .i64 0, .str ⟨#[122]⟩, .slice [], .fslice []]])).aC b' (.cells (((acc.map bY).flatMap AV.cells ++ [.int .i64 3, .int .i64 0, .str ⟨#[122]⟩, .slice []]) ++ (AV.fslice []).soft :: [])) = aY (st.aC c (b9 bs (q + 1))) b' ((acc ++ [zG]).map bY) := by
    rw [jH (by simp), dD, jH (by simp)]
    congr 2
    simp [AV.cells, AV.soft, zG, gG]
   rw [aZ6] at aEW
   have hV : a9 5 b' (acc.map bY ++ [.agg [.int .i64 3, .int .i64 0, .str ⟨#[122]⟩, .slice [], .fslice []]]) = a9 5 b' ((acc ++ [zG]).map bY) := by
    rw [oP (by simp), oP (by simp)]
    simp
   rw [hV]
   simp -implicitDefEqProofs only [aA, seval]
   refine ⟨(b', acc ++ [zG]), by simp only [dP, aS, aZ]; omega, ⟨hb2, by simp only [dP, aS, aZ]; omega⟩, (aEW _).trans (aO.mk (by simp -implicitDefEqProofs only [aA, seval]))⟩
 simp -implicitDefEqProofs only [aA, seval]
 refine aP (fun h1 => ?_) (fun h1 => ?_)
 · have hne : acc.map bY ≠ [] := fun h => by have := nX List.length h; simp at this; subst this; simp at g3; omega
   have hlen : (acc.map bY).length = acc.length := aF _
   have hsl := aZZ (P := prog) (b := b) g8 (show 1 < acc.length by omega)
   have hb0 := k4 hne
   simp -implicitDefEqProofs only [oP hne, hlen, hsl, aA, seval]
   have hT := qL.tail (k := 1) (w := 5) hb0 (by rw [hlen]; omega) (H1 acc) (yK acc)
   rw [hlen] at hT
   simp only [Nat.one_mul] at hT ⊢
   exact ⟨_, _, hT, q + 1, by omega, by omega, rfl, acc.drop 1, by rw [List.map_drop]⟩
 · skip
   simp -implicitDefEqProofs only [aA, seval]
   exact jQ _ _ _ (by omega) (by omega) k4
abbrev DZ := zi tI_3 (zi zI_3 (zi aX (zi tI_9 (zi zI_9 (zi cG (zi tI_31 (zi zI_31 (zi aN (zi bE (zi bF (zi cA (zi tI_63 (zi zI_63 (zi bR (zi bQ (zi bP (zi bT (zi bU (zi tI_90 (zi zI_90 (zi tI_101 (zi zI_101 (zi tB (zi xS (zi zQ DV)))))))))))))))))))))))))
set_option maxHeartbeats 2000000 in
theorem aXR (bs : List Bt) (c p : Nat) (l : List Tm) (hl : ∀ x ∈ l, Dn x) (h2 : l.length ≤ 40) (st : aB) (hp : p + 1000000 ≤ 1099511627776) (hR : dK st c bs p) :
 aD prog 63 [.ptr c 0, .slice (l.map Tm.av)] st (Dr bs c p 1000000 st (fun r => ∃ l' : List Tm, l'.length ≤ 41 ∧ r = .slice (l'.map Tm.av))) := by
 refine aD.aLI ?_
 have QE : st.aC c (b9 bs p) = st := PR hR
 have jQ : ∀ (q b : Nat) (acc : List Tm), acc.length ≤ 41 → p ≤ q → q ≤ p + 1000000 → (acc.map Tm.av ≠ [] → (st.aC c (b9 bs q)) b = none) → ∃ r2 s2, (yL (aY (st.aC c (b9 bs q)) b (acc.map Tm.av)) s2 ∧ qL (aY (st.aC c (b9 bs q)) b (acc.map Tm.av)) (a9 4 b (acc.map Tm.av)) s2 r2) ∧ Dr bs c p 1000000 st (fun r => ∃ l' : List Tm, l'.length ≤ 41 ∧ r = .slice (l'.map Tm.av)) r2 s2 := fun q b acc g0 g1 g2 hb => by
  have := qL.fin (r := a9 4 b (acc.map Tm.av)) hb (iF _) ⟨4, dT _⟩
  rw [iD] at this
  exact ⟨_, _, this, q, g1, g2, rfl, acc, g0, rfl⟩
 have hRq : ∀ (q b : Nat) (L : List AV), (L ≠ [] → (st.aC c (b9 bs q)) b = none) → dK (aY (st.aC c (b9 bs q)) b L) c bs q ∧ ∀ o, (aY (st.aC c (b9 bs q)) b L).aC c o = aY (st.aC c o) b L ∧ (L ≠ [] → (st.aC c o) b = none) := fun q b L hb => by
  have hne : L ≠ [] → c ≠ b := fun h e => by have := hb h; rw [← e, aB.aQ] at this; cases this
  refine ⟨?_, fun o => ⟨?_, fun h => ?_⟩⟩
  · unfold dK
    by_cases h : L = []
    · rw [h, xG, aB.aQ]; try rfl
    · rw [oZ (hne h), aB.aQ]; try rfl
  · rw [n7 hne, dD]
  · have := hb h
    rw [aB.aL _ _ (dA (hne h))] at this ⊢
    exact this
 refine wF [1000000] 2 func63 ntmps63 rfl rfl ?_
 simp only [eD, AV.fits, eM, aF]
 intro _
 simp -implicitDefEqProofs only [aA, seval, DZ]
 refine eH (σ := Nat × Nat × List Tm) [1000000] [0, 1, 4] l (fun i x => p ≤ x.1 ∧ x.1 ≤ p + 10 * i ∧ x.2.2.length = i ∧ (x.2.2.map Tm.av ≠ [] → (st.aC c (b9 bs x.1)) x.2.1 = none)) (fun i x => [(5, a9 4 x.2.1 (x.2.2.map Tm.av)), (6, .int .i64 i)]) (fun i x => aY (st.aC c (b9 bs x.1)) x.2.1 (x.2.2.map Tm.av)) (by decide +kernel) ⟨(p, 0, []), ⟨cY _, by simp only; omega, rfl, fun h => absurd rfl h⟩, by
  simp only [aW, xG, QE]
  exact aO.mk (by simp -implicitDefEqProofs only [jF, aA, ↓aU, seval])⟩ (fun i x s hx hlt bS hdr hinv => ?_) (fun s hge hinv => ?_)
 case refine_1 =>
  obtain ⟨q, b, acc⟩ := s
  obtain ⟨g1, g2, g3, g4⟩ := hinv
  simp only at g1 g2 g3 g4
  have hw := bK (n := (i : Int) + 1)
  have hat := bL (av := Tm.av) aN hx (aH x)
  obtain ⟨k1, k2⟩ := hRq _ _ _ g4
  simp -implicitDefEqProofs only [bS, aF, hat, aH, aT, aA, seval, DZ]
  refine (QI bs c q x (hl x (cU hx)).2 _ (by omega) k1).mono ?_
  rintro _ _ ⟨q2, r1, r2, rfl, y, rfl⟩
  obtain ⟨k3, k4⟩ := k2 (b9 bs q2)
  rw [k3]
  simp -implicitDefEqProofs only [aH, aT, cF, aA, seval, DZ]
  refine eN aN bE bF rfl rfl (eY (aH _) (b7 _)) (dT _) k4 (by simp only [aF, aS, aZ]; omega) (by simp only [aF, aS, aZ]; omega) (fun b' hb' => ?_)
  rw [show acc.map Tm.av ++ [y.av] = (acc ++ [y]).map Tm.av by simp] at hb' ⊢
  simp -implicitDefEqProofs only [hw, aA, seval]
  exact ⟨(q2, b', acc ++ [y]), ⟨by simp only; omega, by simp only; omega, by simp only [dP, aS, aZ]; omega, hb'⟩, aO.mk (by simp -implicitDefEqProofs only [aA, seval])⟩
 obtain ⟨q, b, acc⟩ := s
 obtain ⟨g1, g2, g3, g4⟩ := hinv
 simp only at g1 g2 g3 g4
 obtain ⟨k1, k2⟩ := hRq _ _ _ g4
 simp -implicitDefEqProofs only [aF, hge, aA, seval, DZ]
 refine (mT bs c q (by omega) 30 (by omega) (by omega) _ k1).mono ?_
 rintro _ _ ⟨j, hj, rfl, rfl⟩
 obtain ⟨k3, k4⟩ := k2 (b9 bs (q + 1))
 rw [k3]
 have PK : prog.underlying 31 = some (.slice 63) := by kernel_rfl
 simp -implicitDefEqProofs only [aA, seval]
 refine aP (fun h0 => ?_) (fun h0 => ?_)
 · simp -implicitDefEqProofs only [aA, seval]
   refine gX (σ := Nat × List Tm) [1000000] [4] (fun x => (x.2.map Tm.av ≠ [] → (st.aC c (b9 bs (q + 1))) x.1 = none) ∧ x.2.length ≤ 41) (fun x => [(5, a9 4 x.1 (x.2.map Tm.av))]) (fun x => aY (st.aC c (b9 bs (q + 1))) x.1 (x.2.map Tm.av)) (fun x => 41 - x.2.length) (by decide +kernel) ⟨(b, acc), ⟨k4, by simp only; omega⟩, aO.mk (by simp -implicitDefEqProofs only [aA, seval])⟩ ?_
   rintro ⟨b, acc⟩ ⟨i1, i2⟩
   simp only at i1 i2
   have haL := sU (w := 4) (b := b) (l := acc.map Tm.av) PK
   rw [aF] at haL
   simp -implicitDefEqProofs only [haL, aA, seval]
   refine aP (fun h1 => ?_) (fun h1 => ?_)
   case refine_2 =>
    simp -implicitDefEqProofs only [aA, seval]
    exact jQ _ _ _ i2 (by omega) (by omega) i1
   simp only [bJ] at h1
   simp -implicitDefEqProofs only [aA, seval]
   refine (rE ⟨#[116, 114, 117, 101]⟩ [] (by simp) _).to ?_
   simp -implicitDefEqProofs only [aT, aH, cF, aA, seval, DZ]
   refine eN aN bE bF rfl rfl (eY (aH _) (b7 _)) (dT _) i1 (by simp only [aF, aS, aZ]; omega) (by simp only [aF, aS, aZ]; omega) (fun b' hb' => ?_)
   rw [show acc.map Tm.av ++ [(Tm.mk 3 0 ⟨#[116, 114, 117, 101]⟩ []).av] = (acc ++ [Tm.mk 3 0 ⟨#[116, 114, 117, 101]⟩ []]).map Tm.av by simp] at hb' ⊢
   simp -implicitDefEqProofs only [aA, seval]
   exact ⟨(b', acc ++ [Tm.mk 3 0 ⟨#[116, 114, 117, 101]⟩ []]), by simp only [dP, aS, aZ]; omega, ⟨hb', by simp only [dP, aS, aZ]; omega⟩, aO.mk (by simp -implicitDefEqProofs only [aA, seval])⟩
 · skip
   simp -implicitDefEqProofs only [aA, seval]
   exact jQ _ _ _ (by omega) (by omega) (by omega) k4
abbrev aTC := zi tI_3 (zi zI_3 (zi aX (zi tI_51 (zi zI_51 (zi dV (zi fV (zi fW (zi fZ (zi tI_90 zI_90)))))))))
theorem aT5 (bs : List Bt) (c p : Nat) (st : aB) (hp : p + 10 ≤ 1099511627776) (hR : dK st c bs p) : aD prog 61 [.ptr c 0] st (Dr bs c p 10 st (fun r => ∃ n : Int, r = .int .i64 n)) := by
 refine wF [1000000] 1 func61 ntmps61 rfl rfl ?_
 intro _
 simp -implicitDefEqProofs only [aA, seval, aTC]
 refine (vM [20, 3, 1, 5, 0, 21, -1] (by simp) (by simp) bs c p (by omega) _ hR).mono ?_
 rintro _ _ ⟨x, hx, rfl, rfl⟩
 simp -implicitDefEqProofs only [aA, seval]
 exact ⟨p + 1, by omega, by omega, rfl, x, rfl⟩
abbrev aQ0 := zi tI_3 (zi zI_3 (zi aX (zi tI_51 (zi zI_51 (zi dV (zi fV (zi fW (zi fZ (zi tI_90 zI_90)))))))))
theorem aNW (bs : List Bt) (c p : Nat) (st : aB) (hp : p + 10 ≤ 1099511627776) (hR : dK st c bs p) : aD prog 64 [.ptr c 0] st (Dr bs c p 10 st (fun r => ∃ n : Int, -1 ≤ n ∧ n ≤ 301 ∧ r = .int .i64 n)) := by
 refine wF [1000000] 1 func64 ntmps64 rfl rfl ?_
 intro _
 simp -implicitDefEqProofs only [aA, seval, aQ0]
 refine (vM [100, 60, 200, 10, 300, 0, 301, -1] (by simp) (by simp) bs c p (by omega) _ hR).mono ?_
 rintro _ _ ⟨x, hx, rfl, rfl⟩
 simp -implicitDefEqProofs only [aA, seval]
 refine ⟨p + 1, by omega, by omega, rfl, x, ?_, ?_, rfl⟩ <;> (simp only [cZ, dQ, dY] at hx; omega)
abbrev aYO := zi tI_125 (zi zI_125 (zi iP (zi lL (zi lK mC))))
theorem aNK (st : aB) : aD prog 88 [] st (fun r st' => r = .slice (JT.map AV.str) ∧ st' = st) := by
 refine aD.done ?_
 refine wF [1000000] 0 func88 ntmps88 rfl rfl ?_
 intro _
 simp -implicitDefEqProofs only [aA, seval, aYO]
 exact ⟨rfl, aM.refl _⟩
abbrev aRB := zi tI_125 (zi zI_125 (zi iP (zi lL (zi lK mC))))
theorem aL7 (st : aB) : aD prog 125 [] st (fun r st' => r = .slice (QL.map AV.str) ∧ st' = st) := by
 refine aD.done ?_
 refine wF [1000000] 0 func125 ntmps125 rfl rfl ?_
 intro _
 simp -implicitDefEqProofs only [aA, seval, aRB]
 exact ⟨rfl, aM.refl _⟩
theorem R8 {α : Type} {P : Program} {t : TypeId} {ag : Bool} {w : Nat} {av : α → AV} {l : List α} {i : Nat} {x : α} (hI : eI P t = some (ag, w)) (h : l[i]? = some x) (hw : (av x).width = w) : dJ P t (.fslice (l.map av)) (.int .i64 (i : Int)) = some (.pptr (av x)) := by
 simp only [dJ, hI, lC, oR, h, qW, hw]
 simp
theorem aT1 {P : Program} {φ : AF} {st : aB} {t u v w : Tmp} {K : AV → aB → Prop} : l7 P [.tmp t, .tmp u, .tmp v, .tmp w] K φ st = (j5 [φ t, φ u, φ v, φ w] = true ∧ K (.tup [φ t, φ u, φ v, φ w]) st) := rfl
def aCU (l : List ByteArray) : AV := .fslice (l.map AV.str)
abbrev NP (q : List Tm) : Prop := q.length ≤ 6 ∧ ∀ t ∈ q, Dn t
theorem aA3 (s : ByteArray) : ∃ q : List Tm, NP q ∧ ∃ f, FQ (lZ (sb s)) = .tup [.slice (q.map Tm.av), .bool f] := by
 cases h : lZ (sb s) with
 | none => exact ⟨[], ⟨by simp, by simp⟩, false, rfl⟩
 | some q =>
  obtain ⟨h1, h2⟩ := aMR h
  exact ⟨q, ⟨(J5 h1).1, h2⟩, true, rfl⟩
theorem aMU {s : ByteArray} (h : NT s = true) : s.size ≤ 200 ∧ ∃ l : List Cl, zP (sb s) = some l ∧ 2 ≤ l.length ∧ l.length ≤ 20 ∧ ∀ c ∈ l, tV c := by
 unfold NT at h
 rw [cM, bJ] at h
 refine ⟨h.1, ?_⟩
 have h2 := h.2
 cases hp : zP (sb s) with
 | none => rw [hp] at h2; simp at h2
 | some l =>
  rw [hp] at h2
  simp only [cM, bJ] at h2
  refine ⟨l, rfl, h2.1, h2.2, fun c hc => ?_⟩
  unfold zP at hp
  simp only at hp
  split at hp
  · cases hp
  · exact ((VW _ [] l (by simp) hp).1 c hc).1
abbrev RK := zi tI_3 (zi zI_3 (zi aX (zi tI_9 (zi zI_9 (zi cG (zi tI_31 (zi zI_31 (zi aN (zi bE (zi bF (zi cA (zi tI_90 (zi zI_90 (zi tI_125 (zi zI_125 (zi iP (zi lL (zi lK mC))))))))))))))))))
theorem aSY (bs : List Bt) (c p : Nat) (st : aB) (hp : p + 10 ≤ 1099511627776) (hR : dK st c bs p) : aD prog 91 [.ptr c 0] st (Dr bs c p 10 st (fun r => ∃ q : List Tm, NP q ∧ r = .slice (q.map Tm.av))) := by
 refine wF [1000000] 1 func91 ntmps91 rfl rfl ?_
 intro _
 simp -implicitDefEqProofs only [aA, seval]
 refine (aL7 _).to ?_
 simp -implicitDefEqProofs only [aF, aA, seval, RK]
 refine (mT bs c p (by omega) QL.length (by decide) (by decide) _ hR).mono ?_
 rintro _ _ ⟨k, hk, rfl, rfl⟩
 obtain ⟨x, hx⟩ : ∃ x, QL[k]? = some x := ⟨_, fG hk⟩
 have hat := bL (av := AV.str) iP hx rfl
 simp -implicitDefEqProofs only [hat, aA, seval, RK]
 refine (SY x _).to ?_
 obtain ⟨q, hq, f, hf⟩ := aA3 x
 rw [hf]
 simp -implicitDefEqProofs only [aA, seval]
 exact ⟨p + 1, by omega, by omega, rfl, q, hq, rfl⟩
abbrev EH := zi tI_3 (zi zI_3 (zi aX (zi tI_5 (zi zI_5 (zi kF (zi tI_9 (zi zI_9 (zi cG (zi tI_29 (zi zI_29 (zi g8 (zi j8 (zi kA (zi k6 (zi tI_31 (zi zI_31 (zi aN (zi bE (zi bF (zi cA (zi tI_90 (zi zI_90 (zi tI_125 (zi zI_125 (zi iP (zi lL (zi lK (zi mC (zi tI_130 (zi zI_130 (zi aDJ (zi aOS (zi aWB aSZ)))))))))))))))))))))))))))))))))
set_option maxHeartbeats 1000000 in
theorem aXN (bs : List Bt) (c p : Nat) (st : aB) (hp : p + 100 ≤ 1099511627776) (hR : dK st c bs p) :
 aD prog 60 [.ptr c 0] st (Dr bs c p 100 st (fun r => ∃ (l : List Cl) (q : List Tm), (2 ≤ l.length ∧ l.length ≤ 20 ∧ ∀ x ∈ l, tV x) ∧ NP q ∧ r = .tup [.slice (l.map bY), .slice (q.map Tm.av)])) := by
 refine wF [1000000] 1 func60 ntmps60 rfl rfl ?_
 intro _
 simp -implicitDefEqProofs only [aA, seval]
 refine (aNK _).to ?_
 simp -implicitDefEqProofs only [aF, aA, seval, EH]
 refine (mT bs c p (by omega) JT.length (by decide) (by decide) _ hR).mono ?_
 rintro _ _ ⟨k, hk, rfl, rfl⟩
 obtain ⟨x, hx⟩ : ∃ x, JT[k]? = some x := ⟨_, fG hk⟩
 have hat := bL (av := AV.str) iP hx rfl
 have hk2 : k < CU.length := hk
 obtain ⟨y, hy⟩ : ∃ y, CU[k]? = some y := ⟨_, fG hk2⟩
 obtain ⟨hxs, l, hl1, hl2, hl3, hl4⟩ := aMU (eW.1 aN8 x (cU hx))
 have hyo := eW.1 aUE y (cU hy)
 simp only [cM, bJ] at hyo
 have VY := R8 (P := prog) (av := aCU) aDJ hy rfl
 simp only [CU, aCU, bA, aW] at VY
 have hpp := fun st => aWV x (by omega) st
 rw [hl1] at hpp
 simp -implicitDefEqProofs only [hat, aA, seval, EH]
 refine (hpp _).mono ?_
 rintro _ _ ⟨rfl, rfl⟩
 simp -implicitDefEqProofs only [VY, aA, seval, EH]
 refine (mT bs c (p + 1) (by omega) 5 (by omega) (by omega) _ dK.new).mono ?_
 rintro _ _ ⟨j, hj, rfl, rfl⟩
 rw [dD]
 simp -implicitDefEqProofs only [aA, seval]
 refine aP (fun h0 => ?_) (fun h0 => ?_)
 · simp -implicitDefEqProofs only [aA, seval]
   refine (aSY bs c (p + 1 + 1) _ (by omega) dK.new).mono ?_
   rintro _ _ ⟨p2, r1, r2, rfl, q, hq, rfl⟩
   rw [dD]
   simp -implicitDefEqProofs only [aA, seval]
   exact ⟨p2, by omega, by omega, rfl, l, q, ⟨hl2, hl3, hl4⟩, hq, rfl⟩
 simp -implicitDefEqProofs only [aF, aA, seval, EH]
 refine (mT bs c (p + 1 + 1) (by omega) y.length (by omega) (by have := aZ2 y (cU hy); omega) _ dK.new).mono ?_
 rintro _ _ ⟨i, hi, rfl, rfl⟩
 rw [dD]
 obtain ⟨z, hz⟩ : ∃ z, y[i]? = some z := ⟨_, fG hi⟩
 have BZ := R8 (P := prog) (av := AV.str) iP hz rfl
 simp -implicitDefEqProofs only [BZ, aA, seval, EH]
 refine (SY z _).to ?_
 obtain ⟨q, hq, f, hf⟩ := aA3 z
 rw [hf]
 simp -implicitDefEqProofs only [aA, seval]
 exact ⟨p + 1 + 1 + 1, by omega, by omega, rfl, l, q, ⟨hl2, hl3, hl4⟩, hq, rfl⟩
theorem aQB (code : List Bt) (st : aB) : aD prog 35 [.slice (code.map iM)] st (fun r st' => (∃ (p : List Cl) (q : List Tm) (most fuel : Int), (q.length ≤ 41 ∧ -1 ≤ fuel ∧ fuel ≤ 301) ∧ r = .tup [.slice (p.map bY), .slice (q.map Tm.av), .int .i64 most, .int .i64 fuel]) ∧ st' = st) := by
 refine aD.drop ?_
 refine wF [1000000] 1 func35 ntmps35 rfl rfl ?_
 intro _
 simp -implicitDefEqProofs only [aA, seval]
 refine (aZH code _).mono ?_
 rintro _ _ ⟨c, bs, rfl, hc, rfl⟩
 have hD : ∀ o, aM (st.aC c o) st := fun o => (aM.refl _).aC hc
 simp -implicitDefEqProofs only [aA, seval]
 refine (aXN bs c 0 _ (by omega) dK.new).mono ?_
 rintro _ _ ⟨p1, r1, r2, rfl, l, q, ⟨l1, l2, l3⟩, ⟨q1, q2⟩, rfl⟩
 rw [dD]
 simp -implicitDefEqProofs only [aA, seval]
 refine (aT5 bs c p1 _ (by omega) dK.new).mono ?_
 rintro _ _ ⟨p2, s1, s2, rfl, n, rfl⟩
 rw [dD]
 simp -implicitDefEqProofs only [aA, seval]
 refine (aR5 bs c p2 l l3 l1 (by omega) _ (by omega) dK.new).mono ?_
 rintro _ _ ⟨p3, t1, t2, rfl, l', rfl⟩
 rw [dD]
 simp -implicitDefEqProofs only [aA, seval]
 refine (aXR bs c p3 q q2 (by omega) _ (by omega) dK.new).mono ?_
 rintro _ _ ⟨p4, u1, u2, rfl, q', u3, rfl⟩
 rw [dD]
 simp -implicitDefEqProofs only [aA, seval]
 refine (aNW bs c p4 _ (by omega) dK.new).mono ?_
 rintro _ _ ⟨p5, v1, v2, rfl, m, w1, w2, rfl⟩
 rw [dD]
 simp -implicitDefEqProofs only [aT1, aA, seval]
 exact ⟨hD _, l', q', n, m, ⟨u3, w1, w2⟩, rfl⟩
end Go.AW
namespace Go.AW

end Go.AW
namespace Go.AW
open Go.Proofs.Tryz
theorem aZ5 {P : Program} {t : TypeId} {ag : Bool} {w : Nat} {φ : AF} {y : Operand} {L : List AV} {n : Nat} (hI : eI P t = some (ag, w)) (hn : n ≤ L.length) (h : φ.eval y = .int .i64 (n : Int)) : gW P φ t (.slice L) none (some y) none = some (.slice (L.take n)) := by
 have h1 : dR φ none L.length L.length = some L.length := rfl
 have h2 : dR φ (some y) L.length L.length = some n := by
  simp only [dR, h]
  rw [aG ⟨by omega, by omega⟩]
  rw [lC]
 have h3 : dR φ none 0 n = some 0 := rfl
 unfold gW oL
 rw [aE (by simp [qK])]
 simp only [hI, h1, h2, h3]
 simp
abbrev a0M := zi tI_3 (zi zI_3 (zi aX (zi tI_4 (zi zI_4 (zi cE (zi tI_26 (zi zI_26 (zi o7 (zi s9 (zi sR (zi w8 (zi tI_29 (zi zI_29 (zi g8 (zi j8 (zi kA (zi k6 (zi tI_31 (zi zI_31 (zi aN (zi bE (zi bF (zi cA (zi tI_57 (zi zI_57 (zi sL (zi z7 (zi BT xO))))))))))))))))))))))))))))
abbrev aD0 := zi tI_3 (zi zI_3 (zi aX (zi tI_4 (zi zI_4 (zi cE (zi tI_26 (zi zI_26 (zi o7 (zi s9 (zi sR (zi w8 (zi tI_29 (zi zI_29 (zi g8 (zi j8 (zi kA (zi k6 (zi tI_31 (zi zI_31 (zi aN (zi bE (zi bF (zi cA (zi tI_57 (zi zI_57 (zi sL (zi z7 (zi BT xO))))))))))))))))))))))))))))
set_option maxHeartbeats 2000000 in
theorem aU8 (code : List Bt) (st : aB) : aD prog 7 [.slice (code.map iM)] st (fun r _ => r = .bool true) := by
 refine wF [1000000] 1 func7 ntmps7 rfl rfl ?_
 intro _
 simp -implicitDefEqProofs only [aF, aA, seval, aD0]
 refine aP (fun h1 => ?_) (fun h1 => ?_)
 · simp -implicitDefEqProofs only [aA, seval]
 simp -implicitDefEqProofs only [aA, seval]
 refine (aQB code _).mono ?_
 rintro _ s1 ⟨⟨p, q, most, fuel, ⟨_, hf1, hf2⟩, rfl⟩, rfl⟩
 have hS1 := fun st => (VH p q most fuel st).aEX
 have hS2 := aNE p q most fuel
 have hP := fun h => aXJ (p := p) (cnd := fun _ l => l) (q := q) (most := most) (fuel := fuel) (fuel' := 300) h
 have h9 := aN4 (p := p) (cnd := fun _ l => l) (q := q) (most := most) (fuel := fuel)
 have hS3 := fun st => (VH p q most 300 st).aEX
 generalize gT p (fun _ l => l) q most fuel = T at *
 generalize gT p (fun _ l => l) q most 300 = T2 at *
 obtain ⟨L, e⟩ := T
 obtain ⟨L2, e2⟩ := T2
 simp only at hS1 hS2 hP h9 hS3
 simp -implicitDefEqProofs only [aA, seval]
 refine (hS1 _).to ?_
 simp -implicitDefEqProofs only [aA, seval]
 refine (hS2 _).to ?_
 simp -implicitDefEqProofs only [bM, jD, aA, seval]
 refine (IF L _).to ?_
 simp -implicitDefEqProofs only [jD, aA, seval]
 refine aP (fun he => ?_) (fun he => ?_)
 · simp -implicitDefEqProofs only [bM, jD, aA, seval]
   refine (IF L _).to ?_
   simp -implicitDefEqProofs only [aA, seval]
 have hok : iX p q most fuel = true := by
  cases hk : iX p q most fuel with
  | true => rfl
  | false => have := h9.2 hk; subst this; simp at he
 obtain ⟨_, _, _, _, _, hf3⟩ := QW.1 hok
 obtain ⟨hP1, hP2⟩ := hP hok hf3 (Int.le_refl _)
 simp -implicitDefEqProofs only [aA, seval]
 refine (hS3 _).to ?_
 simp -implicitDefEqProofs only [aA, seval]
 refine aP (fun h2 => ?_) (fun h2 => ?_)
 · have h2' : e ≠ 2 := by simpa using h2
   have := hP1 h2'
   simp only [Prod.mk.injEq] at this
   obtain ⟨rfl, rfl⟩ := this
   simp -implicitDefEqProofs only [bM, jD, aA, seval]
   refine (IF L2 _).to ?_
   simp -implicitDefEqProofs only [aA, seval]
 obtain ⟨M, hM⟩ := hP2
 have hle : L.length ≤ L2.length := by rw [← hM, dP]; omega
 have hge : ((L.length : Int) ≤ (L2.length : Int)) = True := c7 (by omega)
 have htk : L2.take L.length = L := by rw [← hM, DA]
 have hsl := fun (φ : AF) (y : Operand) (h : φ.eval y = .int .i64 (L.length : Int)) => aZ5 (P := prog) (t := 26) (L := L2.map cX) o7 (by rw [aF]; exact hle) h
 rw [← GU, htk] at hsl
 simp -implicitDefEqProofs only [aF, hge, hsl, bM, aA, seval, aD0]
 refine (IF L _).to ?_
 simp -implicitDefEqProofs only [aA, seval]
end Go.AW
namespace Go.AW
open Go.ChangeShapes Go.WideShapes Go.ChangeAt Go.RowKit
abbrev sB : aB := fun _ => none
section
variable {H : Type} {enc : TypeId × Value → H} {P : Program} {w : World}
def Reads (enc : TypeId × Value → H) (P : Program) (w : World) (t n : Nat) {α : Type} (av : α → AV) : Prop :=
 ∀ cs x, DataW.trod enc P w 0 (fun _ => true) true n t cs = some x → ∃ a : α, VC w.heap sB (av a) cs
theorem U6 {h : bH} {st : aB} {b k : Nat} : ∀ {es : List AV} {off : Nat}, (∀ e ∈ es, e.width = k) → (∀ (i : Nat) e, es[i]? = some e → VE h st b (off + i * k) e) → dH h st b off es
 | [], _, _, _ => by simp [dH]
 | e :: es, off, hw, h => by
  simp only [dH]
  refine ⟨by simpa [VE] using h 0 e rfl, U6 (fun x hx => hw x (by simp [hx])) fun i x hx => ?_⟩
  have := h (i + 1) x (by simpa using hx)
  rw [hw e (by simp), CZ, ← Nat.aUF k i] 
  exact this
where Nat.aUF (k i : Nat) : (i + 1) * k = k + i * k := by rw [qT]; omega
theorem Y8 {a : Addr} {v : Value} (h : w.cell? a = some v) : a.spot = none ∧ a.block < w.heap.size ∧ cellAt w.heap a.block a.off = some v := by
 unfold World.cell? at h
 split at h
 · rename_i c t fr hb
   split at h
   · cases h
   · rename_i hs
     refine ⟨by simpa using hs, (Q4.1 hb).1, by simp [cellAt, hb, h]⟩
 · cases h
theorem aNZ {a : Addr} {n : Nat} {cs : List Value} (hs : a.spot = none) (h : w.cells? 0 a n = some cs) : fB w.heap a.block a.off cs ∧ cs.length = n := by
 obtain ⟨_, hl, hc⟩ := World.cells?_some h
 refine ⟨?_, hl⟩
 have : ∀ (l : List Value) (k : Nat), (∀ i, i < l.length → w.cell? (a.add (k + i)) = l[i]?) → fB w.heap a.block (a.off + k) l := by
  intro l
  induction l with
  | nil => intro _ _; trivial
  | cons v l ih =>
   intro k hk
   refine ⟨?_, ?_⟩
   · have := (Y8 (hk 0 (by simp))).2.2
     obtain ⟨b, off, sp⟩ := a
     simp only at hs
     subst hs
     simpa [Addr.oA] using this
   · have := ih (k + 1) (fun i hi => by have := hk (i + 1) (by simp; omega); rw [show k + 1 + i = k + (i + 1) by omega]; simpa using this)
     simpa [CZ] using this
 simpa using this cs 0 (fun i hi => by simpa using hc i (by omega))
theorem aRA {t e n k : Nat} {α : Type} {av : α → AV} (ht : P.underlying t = some (.slice e)) (hk : P.cellsOf e = k) (BV : 0 < k) (hw : ∀ a, (av a).width = k) (hr : ∀ m, m < n → Reads enc P w e m av) :
 Reads enc P w t n (fun l : List α => .slice (l.map av)) := by
 intro cs x h
 rcases DataW.trod_slice ht h with ⟨rfl, _⟩ | ⟨a, len, cap, elems, rest, m, hm, rfl, rfl, _, hl, CF, hlen, hel, hsp, _⟩
 · exact ⟨[], by simp only [aW]; unfold VC; exact .inl ⟨⟨_, rfl⟩, rfl⟩⟩
 obtain ⟨hrl, CV⟩ := hsp rfl
 rw [hk] at hel CV
 have get : ∀ i, i < cap → ∃ ds y, w.cells? 0 (a.add (i * k)) k = some ds ∧ DataW.trod enc P w 0 (fun _ => true) true m e ds = some y := by
  intro i hi
  have hb : ∃ y, (w.cells? 0 (a.add (i * k)) k).bind (DataW.trod enc P w 0 (fun _ => true) true m e) = some y := by
   by_cases hi' : i < len
   · exact ⟨elems[i]'(by omega), by rw [hel i hi']; simp [show i < elems.length by omega]⟩
   · have := CV (i - len) (by omega)
     rw [show len + (i - len) = i by omega] at this
     exact ⟨rest[i - len]'(by omega), by rw [this]; simp [show i - len < rest.length by omega]⟩
  obtain ⟨y, hy⟩ := hb
  obtain ⟨ds, h1, h2⟩ := Option.bind_eq_some_iff.1 hy
  exact ⟨ds, y, h1, h2⟩
 by_cases hc0 : cap = 0
 · subst hc0
   obtain rfl : len = 0 := by omega
   exact ⟨[], by simp only [aW]; unfold VC; exact .inl ⟨⟨_, rfl⟩, rfl⟩⟩
 obtain ⟨ds0, _, hd0, _⟩ := get 0 (by omega)
 have T0 : a.spot = none ∧ a.block < w.heap.size := by
  obtain ⟨_, hl0, hc⟩ := World.cells?_some hd0
  have := hc 0 BV
  have h0 : ds0[0]? = some (ds0[0]'(by omega)) := by simp [hl0, BV]
  rw [h0] at this
  have := Y8 this
  obtain ⟨b, off, sp⟩ := a
  simp only [Nat.zero_mul] at this
  cases sp with
  | none => exact ⟨rfl, by simpa [Addr.oA] using this.2.1⟩
  | some s => exact absurd this.1 (by simp [Addr.add])
 obtain ⟨b, off, sp⟩ := a
 simp only at T0
 obtain ⟨rfl, hbl⟩ := T0
 have val : ∀ i, i < len → ∃ v : α, VE w.heap sB b (off + i * k) (av v) := by
  intro i hi
  obtain ⟨ds, y, h1, h2⟩ := get i (by omega)
  obtain ⟨v, hv⟩ := hr m (by omega) ds y h2
  obtain ⟨c1, c2⟩ := aNZ (a := (⟨b, off, none⟩ : Addr).add (i * k)) (by simp [Addr.oA]) h1
  exact ⟨v, ds, by simpa [Addr.oA] using c1, by rw [hw]; exact c2, hv⟩
 have build : ∀ j, j ≤ len → ∃ l : List α, l.length = j ∧ ∀ (i : Nat) v, l[i]? = some v → VE w.heap sB b (off + i * k) (av v) := by
  intro j
  induction j with
  | zero => intro _; exact ⟨[], rfl, by simp⟩
  | succ j ih =>
   intro hj
   obtain ⟨l, h1, h2⟩ := ih (by omega)
   obtain ⟨v, hv⟩ := val j (by omega)
   refine ⟨l ++ [v], by simp [h1], fun i u hi => ?_⟩
   rw [List.getElem?_append] at hi
   split at hi
   · exact h2 i u hi
   · rename_i hge
     have : i = j := by
      have := (gQ.1 hi).1
      simp at this
      omega
     subst this
     simp [h1] at hi
     subst hi
     exact hv
 obtain ⟨l, h1, h2⟩ := build len (cY _)
 refine ⟨l, ?_⟩
 unfold VC
 refine .inr ⟨b, off, cap, by simp [h1], by simp [h1]; exact hl, CF, rfl, hbl, aNH hw l, U6 (k := k) (by intro e he; simp only [cV] at he; obtain ⟨v, _, rfl⟩ := he; exact hw v) fun i e he => ?_⟩
 rw [oR] at he
 obtain ⟨v, hv, rfl⟩ := Option.map_eq_some_iff.1 he
 exact h2 i v hv
theorem aOH {t : TypeId} {α : Type} {av : α → AV} {v : Value} {d : DataW H} {ps : List MemPlace} (hr : ∀ n, Reads enc P w t n av) (hag : ∀ a, (av a).isAgg = k7 v) (h : DataW.Trod enc P w 0 (fun _ => true) true t v d ps) :
 ∃ a : α, aR w.heap sB (av a) v := by
 obtain ⟨n, hn⟩ := h
 obtain ⟨a, ha⟩ := hr n _ _ hn
 refine ⟨a, ?_⟩
 have := hag a
 cases hq : av a <;> rw [hq] at ha this <;> first | trivial | exact ⟨this, ha⟩
theorem aHS (hl : laidOutB P = true) {W W' : World} {sp : Nat → Bool} : ∀ {ts : List TypeId} {vs : List Value} {ds : List (DataW H)} {ps : List MemPlace}, (ts.all fun t => P.readableRec t && decide (t < P.types.size)) = true →
 DataW.TrodAll enc P W 0 (fun _ => true) true ts vs ds ps → (∀ x ∈ ps, W.sameAt W' x) → (∀ x ∈ ps, sp x.block = true) → DataW.TrodAll enc P W' 0 sp true ts vs ds ps
 | [], vs, ds, ps, _, h, _, _ => by
  cases vs <;> cases ds <;> simp [DataW.TrodAll] at h ⊢
  exact h
 | t :: ts, vs, ds, ps, ht, h, h1, h2 => by
  obtain ⟨v, vs', d, ds', p, q, rfl, rfl, rfl, hd, CV⟩ := trodAll_cons h
  simp only [kD, cM, bJ] at ht
  refine ⟨p, q, Go.WideElems.Trod_stays hl ht.1.1 ht.1.2 hd (fun x hx => h1 x (by simp [hx])) (fun x hx => h2 x (by simp [hx])), aHS hl ht.2 CV (fun x hx => h1 x (by simp [hx])) (fun x hx => h2 x (by simp [hx])), rfl⟩
theorem aMC {W W' : World} {st' : aB} (T : cB W.heap sB W'.heap st') (s : fQ W W') : Below W.heap.size W W' :=
 ⟨s.1, s.2.1, s.2.2, T.size, fun k hk => (T.a8 k hk rfl).1⟩
theorem aO5 {f : Func} {g : FuncId} {s : ChangeSpec} {W : World} {args : Array Value} {ds : List (DataW H)} {before : List MemPlace} {avs : List AV} {tb : TypeId}
 (hl : laidOutB P = true) (hts : (f.params.toList.all fun t => P.readableRec t && decide (t < P.types.size)) = true) (hrt : f.resultTypes = #[tb]) (htb : P.underlying tb = some .bool) (hsv : s.vars = [])
 (hW : DataW.Whole enc P f.params.toList [] false W args.toList ds [] before) (hfn : s.fn H ds = { results := [.lit (.bool true)], args := ds }) (aTJ : c8 W.heap sB avs args.toList)
 (hc : aD P g avs sB (fun r _ => r = .bool true)) :
 Calls P g args W fun e W' => ∃ v, e = .returned v ∧ s.post enc P f false true false false W args v W' := by
 have hS : cW W.heap sB := fun b o h => by cases h
 have := hc.2 W args.toList hS aTJ
 simp only [xI] at this
 refine this.mono ?_
 rintro e W' ⟨v, r, st', rfl, hv, _, T, sm, rfl⟩
 refine ⟨v, rfl, ?_⟩
 have hB := aMC T sm
 rw [hv.zE]
 have hW' : DataW.Whole enc P f.params.toList s.vars false W args.toList ds [] before := by rw [hsv]; exact hW
 obtain ⟨p, q, hA, hV, rfl, hz, _⟩ := hW
 obtain ⟨_, rfl⟩ := trodVars_none hV
 have hlt : ∀ x ∈ p, x.block < W.heap.size := fun x hx => hW'.lt x (by simp [hx])
 have yF : ∀ (b : Nat) (sp : Nat → Bool) (hd : Bool), DataW.TrodAll enc P W' b sp hd f.resultTypes.toList ((Value.bool true).resultList f.resultTypes.size) (s.fn H (ds ++ [])).results [] := fun _ _ _ => by
  rw [iA, hfn, hrt]
  exact trodAll_mk1 (shut_bool htb true)
 have qB : ∀ sp : Nat → Bool, (∀ x ∈ p, sp x.block = true) → DataW.TrodAll enc P W' 0 sp true f.params.toList args.toList (s.fn H (ds ++ [])).args p := fun sp hsp => by
  rw [iA, hfn]
  exact aHS hl hts hA (fun x hx => hB.same (hlt x hx)) hsp
 have aJG : ∀ sp : Nat → Bool, DataW.TrodVars enc P W' sp s.vars (s.fn H (ds ++ [])).vars [] := fun sp => by
  rw [iA, hfn, hsv]
  exact rfl
 refine ⟨ds, [], p ++ [], [], p, [], hW', yF _ _ _, qB _ (fun x hx => by simpa using hlt x hx), aJG _, World.keptBut_mono (fun x hx => ⟨hx, by simpa using hx⟩) (hB.frame (· ∈ p ++ [])), fun _ => ?_⟩
 refine ⟨ok_one hrt rfl (okWide_bool_mk htb true), _, _, ([] ++ p) ++ [], ⟨[] ++ p, [], trodAll_append (qB _ (fun _ _ => rfl)) (yF _ _ _), aJG _, rfl, ?_, ?_⟩, ?_⟩
 · intro b off hp
   have hp' : MemPlace.cell b off ∈ p := by simpa using hp
   rw [hB.frozen (p := ⟨b, off, none⟩) (hlt _ hp')]
   exact hz b off (by simpa using hp')
 · intro ha; cases ha
 · intro x hx _
   simpa using hx
end
end Go.AW

namespace Go.AW
open Go.Proofs.Tryz
section
variable {H : Type} {enc : TypeId × Value → H} {w : World}
theorem aR9 : prog.cellsOf 5 = 1 := by kernel_rfl
theorem aNB (n : Nat) : Reads enc prog w 5 n iM := by
 intro cs x h
 obtain ⟨k, rfl, _, hw⟩ := DataW.trod_int kF h
 simp only [Lit.wf, IntKind.min, IntKind.max, IntKind.signed, IntKind.bits, cM, bJ] at hw
 refine ⟨⟨k.toNat, ?_⟩, ?_⟩
 · simp at hw; omega
 · have : (((k.toNat : Nat)) : Int) = k := by simp at hw; omega
   simp only [iM, this, VC]
theorem aXS (n : Nat) : Reads enc prog w 57 n (fun l : List Bt => .slice (l.map iM)) :=
 aRA xO aR9 (by omega) JZ fun m _ => aNB m
end
section
variable {H : Type} {enc : TypeId × Value → H} {w : World}
theorem aYF {r : Reach} {b0 : Nat} {t e : TypeId} {v : Value} (ht : prog.underlying t = some (.slice e)) (h : Value.okWide prog w r b0 t v) : k7 v = false := by
 cases v <;> first | rfl | (simp [Value.okWide, ht, Cell.okWide, Cell.ok] at h)
end
end Go.AW
