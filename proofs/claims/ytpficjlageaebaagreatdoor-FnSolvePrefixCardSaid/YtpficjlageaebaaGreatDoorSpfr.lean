import Derived.Test.YtpficjlageaebaaGreatDoorSpfq
import Derived.Test.YtpficjlageaebaaGreatDoorSpff
import Derived.Test.YtpficjlageaebaaGreatDoorSpfp
import Derived.Test.YtpficjlageaebaaGreatDoorSpfn
import Derived.ProofKit
import Derived.Test.YtpficjlageaebaaGreatDoorSpfk
import Derived.Test.YtpficjlageaebaaGreatDoorSpfh
set_option linter.unusedSimpArgs false
set_option linter.unusedVariables false
set_option maxRecDepth 100000
namespace Go.AW
open Go.Proofs.Tryz
def k7 (p : List UInt8) : AV := .str (ba p)
theorem aHP (l : List (List UInt8)) : ∀ e ∈ l.map k7, e.width = 1 := by intro e h; simp only [cV] at h; obtain ⟨t, _, rfl⟩ := h; rfl
theorem aNY (l : List (List UInt8)) : ∀ e ∈ l.map k7, e.cC = false := by intro e h; simp only [cV] at h; obtain ⟨t, _, rfl⟩ := h; rfl
abbrev C8 := zi tI_3 (zi zI_3 (zi aX (zi tI_5 (zi zI_5 (zi kK (zi tI_9 (zi zI_9 (zi cH (zi tI_125 (zi zI_125 (zi iU (zi lL (zi lJ mH)))))))))))))
set_option maxHeartbeats 1000000 in
theorem aZU (s : ByteArray) (c : Nat) (hs : s.size ≤ 1048576) (st : aB) : aD prog 123 [.str s, .int .u8 (c : Int)] st (fun r st' => r = .slice ((mU c (sb s) []).map k7) ∧ st' = st) := by
 generalize hT : mU c (sb s) [] = T
 refine aD.oX (aD.fin ?_)
 refine wF [1000000] 2 func123 ntmps123 rfl rfl ?_
 intro _
 simp -implicitDefEqProofs only [aA, seval, C8]
 refine gY (σ := List (List UInt8) × Nat × Nat × Nat) [1000000] [0, 1, 4] (fun x => ((x.2.2.1 ≤ s.size ∧ x.2.1 ≤ x.2.2.1 ∧ x.1 ++ mU c ((sb s).drop x.2.2.1) (((sb s).drop x.2.1).take (x.2.2.1 - x.2.1)) = T) ∨ (x.2.2.1 = s.size + 1 ∧ x.2.1 ≤ s.size + 1 ∧ x.1 = T)) ∧ x.1.length ≤ x.2.2.1 ∧ (x.1.map k7 ≠ [] → st x.2.2.2 = none)) (fun x => [(5, a9 1 x.2.2.2 (x.1.map k7)), (6, .int .i64 (x.2.1 : Int)), (7, .int .i64 (x.2.2.1 : Int))]) (fun x => aY st x.2.2.2 (x.1.map k7)) (fun x => s.size + 1 - x.2.2.1) (by decide +kernel) ⟨([], 0, 0, 0), ⟨Or.inl ⟨jD _, cY _, hT⟩, jD _, by simp⟩, aO.mk (by simp -implicitDefEqProofs only [aW, jH, aA, ↓aU, seval])⟩ ?_
 rintro ⟨out, f, i, b⟩ ⟨ht, hlen, hb⟩
 simp only at ht hlen hb ⊢
 by_cases hi : i ≤ s.size
 case neg =>
  obtain ⟨h1, h2, rfl⟩ : i = s.size + 1 ∧ f ≤ s.size + 1 ∧ out = T := by
   rcases ht with h | h
   · exact absurd h.1 hi
   · exact h
  have hi' : ((i : Int) ≤ (s.size : Int)) = False := cF (by omega)
  simp -implicitDefEqProofs only [hi', bX, aA, seval, C8]
  exact ⟨b, _, st, rfl, hb, aNY _, ⟨1, aHP _⟩, by rw [iJ], aM.refl _⟩
 obtain ⟨-, hfi, ht⟩ : i ≤ s.size ∧ f ≤ i ∧ out ++ mU c ((sb s).drop i) (((sb s).drop f).take (i - f)) = T := by
  rcases ht with h | h
  · exact h
  · omega
 have hi' : ((i : Int) ≤ (s.size : Int)) = True := cW (by omega)
 have hw := bK (n := (i : Int) + 1)
 have hsl := fun (φ : AF) (y z : Operand) (h : φ.eval y = .int .i64 (f : Int)) (h' : φ.eval z = .int .i64 (i : Int)) => FH (s := s) h h' hfi hi
 rw [DD] at hsl
 generalize hp : ((sb s).drop f).take (i - f) = p at *
 have KP : ∀ (K : AV → aB → Prop), (∀ b', ((out ++ [p]).map k7 ≠ [] → st b' = none) → K (a9 1 b' ((out ++ [p]).map k7)) (aY st b' ((out ++ [p]).map k7))) → jX prog 125 (aY st b (out.map k7)) (a9 1 b (out.map k7)) (.fslice [.str (ba p)]) K := by
  intro K hK
  refine eO iU lL lJ rfl rfl (fA rfl rfl) (aHP _) hb (by simp only [aF, aS, aZ]; omega) (by simp only [aF, aS, aZ]; omega) (fun b' hb' => ?_)
  rw [show out.map k7 ++ [AV.str (ba p)] = (out ++ [p]).map k7 by simp [k7]] at hb' ⊢
  exact hK b' hb'
 by_cases hie : i = s.size
 case pos =>
  have G7 : ((i : Int) = (s.size : Int)) = True := cW (by omega)
  rw [GO (by rw [cI]; omega)] at ht
  simp only [mU] at ht
  simp -implicitDefEqProofs only [hi', G7, hsl, bL, aA, seval, C8]
  refine KP _ fun b' hb' => ?_
  simp -implicitDefEqProofs only [hw, aA, seval]
  refine ⟨(out ++ [p], i + 1, i + 1, b'), by simp only; omega, ⟨Or.inr ⟨by simp only; omega, by simp only; omega, ht⟩, by simp only [dR, aS, aZ]; omega, hb'⟩, aO.mk (by simp -implicitDefEqProofs only [aA, seval] <;> exact ⟨rfl, rfl⟩)⟩
 have G7 : ((i : Int) = (s.size : Int)) = False := cF (by omega)
 obtain ⟨x, hx⟩ := u9 (s := s) (n := i) (by omega)
 have hix := rK (P := prog) (t := 9) cH hx
 obtain ⟨hx1, hx2⟩ := gR.1 hx
 rw [qV hx1, hx2] at ht
 unfold mU at ht
 by_cases hxc : x.toNat = c
 · rw [aG hxc] at ht
   have PI : ((x.toNat : Int) = (c : Int)) = True := cW (by omega)
   simp -implicitDefEqProofs only [hi', G7, hsl, hix, PI, bL, bX, aA, seval, C8]
   refine KP _ fun b' hb' => ?_
   simp -implicitDefEqProofs only [hw, aA, seval]
   refine ⟨(out ++ [p], i + 1, i + 1, b'), by simp only; omega, ⟨Or.inl ⟨by simp only; omega, cY _, by rw [← ht]; simp⟩, by simp only [dR, aS, aZ]; omega, hb'⟩, aO.mk (by simp -implicitDefEqProofs only [aA, seval] <;> exact ⟨rfl, rfl⟩)⟩
 · rw [aE hxc] at ht
   have PI : ((x.toNat : Int) = (c : Int)) = False := cF (by omega)
   have hp' : ((sb s).drop f).take (i + 1 - f) = p ++ [x] := by
    rw [show i + 1 - f = (i - f) + 1 by omega, fM, hp, Q7, show f + (i - f) = i by omega, hx]; try rfl
   simp -implicitDefEqProofs only [hi', G7, hw, hix, PI, bL, bX, aA, seval, C8]
   refine ⟨(out, f, i + 1, b), by simp only; omega, ⟨Or.inl ⟨by simp only; omega, by simp only; omega, by simp only; rw [hp']; exact ht⟩, by simp only; omega, hb⟩, aO.mk (by simp -implicitDefEqProofs only [aA, seval] <;> rfl)⟩
def E2 (o : Option (List Cl)) (r : AV) : Prop := match o with | some l => r = .tup [.slice (l.map bZ), .bool true] | none => r = .tup [.slice [], .bool false]
theorem aED : ∀ (ls : List (List UInt8)) (acc r : List Cl), (∀ c ∈ acc, uU c ∧ k6 c = true) → zW ls acc = some r → (∀ c ∈ r, uU c ∧ k6 c = true) ∧ r.length = acc.length + ls.length
 | [], acc, r, h, h1 => by cases h1; exact ⟨h, rfl⟩
 | l :: ls, acc, r, h, h1 => by
  unfold zW at h1
  split at h1
  · cases h1
  rename_i c h2
  have := aED ls (acc ++ [c]) r (by intro x hx; rw [fS, K4] at hx; rcases hx with hx | rfl; exact h x hx; exact ZA h2) h1
  refine ⟨this.1, ?_⟩
  rw [this.2]
  simp only [dR, aS, aZ]
  omega
abbrev vV := zi tI_3 (zi zI_3 (zi aX (zi tI_4 (zi zI_4 (zi cG (zi tI_5 (zi zI_5 (zi kK (zi tI_8 (zi zI_8 (zi wV (zi wQ (zi v6 (zi wD (zi wR (zi tI_9 (zi zI_9 (zi cH (zi tI_10 (zi zI_10 (zi aN9 (zi tI_29 (zi zI_29 (zi iA (zi j9 (zi kA (zi lS (zi tI_76 (zi zI_76 (zi lM (zi lF (zi lV (zi tI_125 (zi zI_125 (zi iU (zi lL (zi lJ mH)))))))))))))))))))))))))))))))))))))
set_option maxHeartbeats 1000000 in
theorem aP1 (s : ByteArray) (hs : s.size ≤ 100000) (st : aB) : aD prog 90 [.str s] st (fun r st' => E2 (yZ (sb s)) r ∧ st' = st) := by
 generalize hP : yZ (sb s) = T
 unfold yZ at hP
 simp only at hP
 have vL := fun st => aZU s 10 (by omega) st
 rw [show ((10 : Nat) : Int) = 10 from rfl] at vL
 have hne := T9 10 (sb s) []
 have hcl := OF 10 (sb s) []
 rw [cI] at hcl
 generalize mU 10 (sb s) [] = L at *
 obtain ⟨m, hm⟩ : ∃ m, L.length = m + 1 := ⟨L.length - 1, by have := List.length_pos_iff.2 hne; omega⟩
 obtain ⟨y, hy⟩ : ∃ y, L[m]? = some y := ⟨_, fG (by omega)⟩
 have hgl : L.getLast? = some y := by rw [aL8, hm]; exact hy
 rw [hgl] at hP
 refine aD.drop (Q := E2 T) (aD.fin ?_)
 have sU : T = none → ∀ (b : Nat) (l : List Cl) (s0 : aB), (l.map bZ ≠ [] → s0 b = none) → aM s0 st → ∃ b2 l2 s1, aY s0 b (l.map bZ) = aY s1 b2 l2 ∧ (l2 ≠ [] → s1 b2 = none) ∧ (∀ e ∈ l2, e.cC = false) ∧ hH l2 ∧ aM s1 st ∧ E2 T ((AV.tup [.fslice [], .bool false]).fin b2 l2) := by
  rintro rfl b l s0 hb hD
  exact ⟨b, _, s0, rfl, hb, IE _, ⟨5, yS _⟩, hD, by simp only [E2, jG, pS, oD, bA, aW]⟩
 refine wF [1000000] 1 func90 ntmps90 rfl rfl ?_
 intro _
 simp -implicitDefEqProofs only [aA, seval, vV]
 refine (vL _).to ?_
 have hat := bM (av := k7) iU hy rfl
 have hw0 := mY (x := (L.length : Int) - 1) (m := m) (by omega) (by omega)
 by_cases h21 : 21 < L.length
 case pos =>
  rw [aG (Or.inl h21)] at hP
  have H2 : ((21 : Int) < (L.length : Int)) = True := cW (by omega)
  simp -implicitDefEqProofs only [aF, H2, bL, aA, seval, vV]
  exact sU hP.symm 0 [] st (by simp) (aM.refl _)
 have H2 : ((21 : Int) < (L.length : Int)) = False := cF (by omega)
 by_cases hye : y = []
 case neg =>
  rw [aG (Or.inr (by simpa using hye))] at hP
  have N9 : (ba y = ⟨#[]⟩) = False := cF fun h => hye (by have := nX sb h; exact this)
  simp -implicitDefEqProofs only [aF, H2, hw0, hat, k7, N9, bX, aA, seval, vV]
  exact sU hP.symm 0 [] st (by simp) (aM.refl _)
 rw [aE (by rintro (h | h); exact h21 h; exact h (by rw [hye]))] at hP
 have N9 : (ba y = ⟨#[]⟩) = True := cW (by rw [hye])
 simp -implicitDefEqProofs only [aF, H2, hw0, hat, k7, N9, bL, bX, aA, seval, vV]
 refine gY (σ := Nat × List Cl × Nat) [1000000] [5] (fun x => x.1 ≤ m ∧ zW (L.dropLast.drop x.1) x.2.1 = T ∧ x.2.1.length = x.1 ∧ (∀ c ∈ x.2.1, uU c) ∧ (x.2.1.map bZ ≠ [] → st x.2.2 = none)) (fun x => [(2, .fslice []), (3, .bool false), (4, a9 5 x.2.2 (x.2.1.map bZ)), (6, .int .i64 (x.1 : Int))]) (fun x => aY st x.2.2 (x.2.1.map bZ)) (fun x => m - x.1) (by decide +kernel) ⟨(0, [], 0), ⟨jD _, hP, rfl, by simp, by simp⟩, aO.mk (by simp -implicitDefEqProofs only [aW, jH, aA, ↓aU, seval])⟩ ?_
 rintro ⟨i, acc, b⟩ ⟨hi, ht, hlen, hdn, hb⟩
 simp only at hi ht hlen hdn hb ⊢
 have hdl : L.dropLast.length = m := by rw [List.length_dropLast, hm]; try rfl
 have hw1 := bK (n := (i : Int) + 1)
 by_cases him : i < m
 case neg =>
  have LS : ((i : Int) + 1 < (L.length : Int)) = False := cF (by omega)
  rw [GO (by omega)] at ht
  simp only [zW] at ht
  simp -implicitDefEqProofs only [aF, LS, hw1, m8, nW, sH, bX, aA, seval, vV]
  exact ⟨b, _, st, rfl, hb, IE _, ⟨5, yS _⟩, aM.refl _, by rw [← ht]; simp only [E2, jG, pS, lO, bA, aW]⟩
 have LS : ((i : Int) + 1 < (L.length : Int)) = True := cW (by omega)
 obtain ⟨z, hz⟩ : ∃ z, L[i]? = some z := ⟨_, fG (by omega)⟩
 have hz2 : L.dropLast[i]? = some z := by rw [List.getElem?_dropLast, aG (by omega)]; exact hz
 obtain ⟨hz3, hz4⟩ := gR.1 hz2
 rw [qV hz3, hz4] at ht
 unfold zW at ht
 have aNB := bM (av := k7) iU hz rfl
 have hpc := aQ1 (ba z)
 rw [show sb (ba z) = z from rfl] at hpc
 simp -implicitDefEqProofs only [aF, LS, hw1, aNB, k7, bL, aA, seval, vV]
 refine (hpc _).to ?_
 cases hc : nG z with
 | none =>
  rw [hc] at ht
  simp -implicitDefEqProofs only [yI, gB, aA, ↓aU, seval, vV]
  exact sU ht.symm b acc st hb (aM.refl _)
 | some c =>
  rw [hc] at ht
  simp only at ht
  have hcd := (ZA hc).1
  have hca := AP c
  have hcw := oF c
  have hcj := JJ c
  have hcs := U8 c
  have hcc := aHL c
  simp -implicitDefEqProofs only [yI, hca, hcw, hcj, hcs, aA, ↓aU, seval, vV]
  refine eO iA j9 kA rfl rfl (fA hcw hcs) (yS _) hb (by simp only [aF, aS, aZ]; omega) (by simp only [aF, aS, aZ]; omega) (fun b' hb' => ?_)
  rw [show acc.map bZ ++ [bZ c] = (acc ++ [c]).map bZ by simp] at hb' ⊢
  simp -implicitDefEqProofs only [hw1, aA, seval]
  refine ⟨(i + 1, acc ++ [c], b'), by simp only; omega, ⟨by simp only; omega, ht, by simp only [dR, aS, aZ]; omega, ?_, hb'⟩, aO.mk (by simp -implicitDefEqProofs only [aA, seval] <;> rfl)⟩
  intro x hx
  rw [fS, K4] at hx
  rcases hx with hx | rfl
  · exact hdn x hx
  · exact hcd
def FP (o : Option (List Tm)) : AV := match o with | some l => .tup [.slice (l.map Tm.av), .bool true] | none => .tup [.slice [], .bool false]
theorem aQH {l : List UInt8} {q : List Tm} (h : mG l = some q) : lN q = true ∧ ∀ t ∈ q, Dn t := by
 unfold mG at h
 split at h
 · cases h
 rename_i g e h1
 split at h
 · rename_i h2
   cases h
   exact ⟨h2.2.2, (KH h2.1 7 0 [] _ _ (jD _) (by simp) h1).2.2.1⟩
 · cases h
abbrev sR := zi tI_3 (zi zI_3 (zi aX (zi tI_4 (zi zI_4 (zi cG (zi tI_9 (zi zI_9 (zi cH (zi tI_31 (zi zI_31 (zi aN (zi bF (zi bE (zi cA (zi tI_63 (zi zI_63 (zi bT (zi bP (zi bS (zi bQ bU))))))))))))))))))))
set_option maxHeartbeats 1000000 in
theorem SH (s : ByteArray) (st : aB) : aD prog 92 [.str s] st (fun r st' => r = FP (mG (sb s)) ∧ st' = st) := by
 refine aD.oX (aD.fin ?_)
 have sU : mG (sb s) = none → ∃ b l s0, st = aY s0 b l ∧ (l ≠ [] → s0 b = none) ∧ (∀ e ∈ l, e.cC = false) ∧ hH l ∧ (AV.tup [.fslice [], .bool false]).fin b l = FP (mG (sb s)) ∧ aM s0 st := fun h => by
  rw [h]
  exact ⟨0, [], st, rfl, by simp, by simp, ⟨4, by simp⟩, by simp only [FP, jG, pS, oD, bA, aW], aM.refl _⟩
 refine wF [1000000] 1 func92 ntmps92 rfl rfl ?_
 intro _
 by_cases hs : s.size ≤ 1000
 case neg =>
  have hs' : ((1000 : Int) < (s.size : Int)) = True := cW (by omega)
  have hP : mG (sb s) = none := by
   unfold mG
   split
   · rfl
   · rw [aE fun h => hs (by rw [← cI]; exact h.1)]
  simp -implicitDefEqProofs only [hs', bL, aA, seval, sR]
  exact sU hP
 have hs' : ((1000 : Int) < (s.size : Int)) = False := cF (by omega)
 have h0 := fun st => aI7 hs 0 (jD _) st
 rw [show ((0 : Nat) : Int) = 0 from rfl] at h0
 simp -implicitDefEqProofs only [hs', bX, aA, seval, sR]
 refine (h0 _).mono ?_
 rintro r st ⟨hr, rfl⟩
 cases hG : sA (sb s) 7 0 [] with
 | none =>
  have hP : mG (sb s) = none := by unfold mG; rw [hG]
  rw [hG] at hr
  simp only [rL] at hr
  subst hr
  have he : ((-1 : Int) = (s.size : Int)) = False := cF (by omega)
  simp -implicitDefEqProofs only [he, bX, aA, seval, sR]
  exact sU hP
 | some p =>
  obtain ⟨g, e⟩ := p
  rw [hG] at hr
  simp only [rL] at hr
  subst hr
  have hg := KH (by rw [cI]; exact hs) 7 0 [] _ _ (jD _) (by simp) hG
  rw [cI] at hg
  simp -implicitDefEqProofs only [aA, seval, sR]
  by_cases he : e = s.size
  case neg =>
   have hP : mG (sb s) = none := by
    unfold mG
    rw [hG]
    simp only
    rw [aE fun h => he (by rw [← cI]; exact h.2.1)]
   have he' : ((e : Int) = (s.size : Int)) = False := cF (by omega)
   simp -implicitDefEqProofs only [he', bX, aA, seval, sR]
   exact sU hP
  have he' : ((e : Int) = (s.size : Int)) = True := cW (by omega)
  simp -implicitDefEqProofs only [he', bL, aA, seval]
  refine (aGQ g _).to ?_
  cases hq : lN g with
  | false =>
   have hP : mG (sb s) = none := by
    unfold mG
    rw [hG]
    simp only
    rw [aE fun h => by rw [hq] at h; exact absurd h.2.2 (by decide)]
   simp -implicitDefEqProofs only [aA, seval, sR]
   exact sU hP
  | true =>
   have hP : mG (sb s) = some g := by
    unfold mG
    rw [hG]
    simp only
    rw [aG ⟨by rw [cI]; exact hs, by rw [cI]; exact he, hq⟩]
   have hg6 : g.length ≤ 6 := by
    simp only [lN, cM, bJ] at hq
    exact hq.1
   simp -implicitDefEqProofs only [aA, seval, sR]
   refine eM (σ := Nat) [1000000] [2, 3, 4] g (fun i b => ((g.take i).map Tm.av ≠ [] → st b = none)) (fun i b => [(6, a9 4 b ((g.take i).map Tm.av)), (7, .int .i64 i)]) (fun i b => aY st b ((g.take i).map Tm.av)) (by decide +kernel) ⟨0, fun h => absurd rfl h, aO.mk (by simp -implicitDefEqProofs only [jH, aA, ↓aU, seval])⟩ (fun i x b hx hlt bR hdr hinv => ?_) (fun b hge hinv => ?_)
   case refine_1 =>
    have hw := bK (n := (i : Int) + 1)
    have cT : ((g.take i).map Tm.av).length = i := by simp only [aF, d5]; omega
    have htk : (g.take i).map Tm.av ++ [x.av] = (g.take (i + 1)).map Tm.av := by rw [fM, hx]; simp
    have hat := bM (av := Tm.av) aN hx (aH x)
    simp -implicitDefEqProofs only [bR, aF, hat, aT, aH, aA, seval, sR]
    refine (zO x _ (hg.2.2.1 x (cU hx)).2).to ?_
    simp -implicitDefEqProofs only [aT, aH, cE, aA, seval, sR]
    refine eO aN bF bE rfl rfl (fA (aH _) (b7 _)) (dT _) hinv (by simp only [cT, aS, aZ]; omega) (by simp only [cT, aS, aZ]; omega) (fun b' hb' => ?_)
    rw [htk] at hb' ⊢
    simp -implicitDefEqProofs only [hw, aA, seval]
    exact ⟨b', hb', aO.mk (by simp -implicitDefEqProofs only [aA, seval])⟩
   rw [eS] at hinv ⊢
   simp -implicitDefEqProofs only [aF, hge, m8, nW, sH, aA, seval, sR]
   rw [hP]
   exact ⟨b, _, st, rfl, hinv, iF _, ⟨4, dT _⟩, by simp only [FP, jG, pS, lO, bA, aW], aM.refl _⟩
end Go.AW
namespace Go.AW

theorem pX.fin {s0 : aB} {b : Nat} {l : List AV} {r : AV} (h0 : l ≠ [] → s0 b = none) (h2 : ∀ e ∈ l, e.cC = false) (h3 : hH l) : y8 (aY s0 b l) s0 ∧ pX (aY s0 b l) r s0 (r.fin b l) := by
 cases l with
 | nil => exact ⟨(aM.refl _).sO, fun h v S y => y.soft⟩
 | cons e l =>
  have hb := h0 (by simp)
  have h1 : aY s0 b (e :: l) b = some (.cells ((e :: l).flatMap AV.cells)) := by simp only [aY, aB.aP]
  have e1 : (aY s0 b (e :: l)).erase b = s0 := by simp only [aY]; exact aB.v4 _ _ _ hb
  refine ⟨?_, fun h v S y => ?_⟩
  · have := (jE (aY s0 b (e :: l)) b).sO
    rwa [e1] at this
  · have := y.fz S h1 h2 h3
    rw [e1] at this
    exact this.soft
theorem pX.tail {s0 : aB} {b k w : Nat} {l : List AV} (hb : s0 b = none) (hk : k < l.length) (h2 : ∀ e ∈ l, e.cC = false) (hw : ∀ e ∈ l, e.width = w) : y8 (aY s0 b l) s0 ∧ pX (aY s0 b l) (.mslice b (k * w) (l.length - k) w) s0 (.slice (l.drop k)) := by
 have hl : l ≠ [] := by rintro rfl; simp at hk
 have h1 : aY s0 b l b = some (.cells (l.flatMap AV.cells)) := by rw [jF hl, aB.aP]
 have e1 : (aY s0 b l).erase b = s0 := by rw [jF hl]; exact aB.v4 _ _ _ hb
 refine ⟨?_, fun h v S y => ?_⟩
 · have := (jE (aY s0 b l) b).sO
   rwa [e1] at this
 · obtain ⟨f1, f2⟩ := frozen S h1 h2
   rw [e1] at f2
   obtain ⟨cap, hv, l1, l2, _⟩ := y.CO
   have hE := dH.drop k hw f2
   rw [gV] at hE
   subst hv
   refine ⟨rfl, ?_⟩
   unfold VC
   exact .inr ⟨b, k * w, cap, by rw [nD]; try rfl, by rw [nD]; exact l1, l2, hb, f1, ⟨w, fun e he => hw e (List.mem_of_mem_drop he)⟩, hE⟩
theorem aD.X4 {P : Program} {g : FuncId} {args : List AV} {st : aB} {Q : AV → aB → Prop} (x : aD P g args st (fun r st' => ∃ r2 s2, (y8 st' s2 ∧ pX st' r s2 r2) ∧ Q r2 s2)) : aD P g args st Q :=
 x.mX fun r st' ⟨r2, s2, ⟨h1, h2⟩, h3⟩ => ⟨r2, s2, h1, h2, h3⟩
end Go.AW
namespace Go.AW
open Go.Proofs.Tryz
theorem aV6 {P : Program} {t : TypeId} {ag : Bool} {w b n : Nat} (hI : eI P t = some (ag, w)) (h1 : 1 < n) (φ : AF) : gW P φ t (.mslice b 0 n w) (some (.const (.int .i64 1))) none none = some (.mslice b (0 + 1 * w) (n - 1) w) := by
 have h2 : dQ φ none n n = some n := rfl
 have h3 : dQ φ (some (.const (.int .i64 1))) 0 n = some 1 := by
  show (if ((0 : Nat) : Int) ≤ 1 ∧ (1 : Int) ≤ (n : Int) then some (Int.toNat 1) else none) = some 1
  rw [aG ⟨by omega, by omega⟩]
  try rfl
 unfold gW oG
 rw [aE (by simp [qJ])]
 simp only [hI, h2, h3]
 rw [aG trivial, aE (by decide), aG h1]
def zG : Cl := (.mk 3 0 ⟨#[122]⟩ [], [])
abbrev D7 := zi tI_3 (zi zI_3 (zi aX (zi tI_9 (zi zI_9 (zi cH (zi tI_29 (zi zI_29 (zi iA (zi j9 (zi kA (zi lS (zi tI_31 (zi zI_31 (zi aN (zi bF (zi bE (zi cA (zi tI_76 (zi zI_76 (zi lM (zi lF (zi lV (zi tI_90 zI_90)))))))))))))))))))))))
set_option maxHeartbeats 2000000 in
theorem aUK (bs : List Bt) (c p : Nat) (l : List Cl) (hl : ∀ x ∈ l, uU x) (h1 : 2 ≤ l.length) (h2 : l.length ≤ 40) (st : aB) (hp : p + 1000000 ≤ 1099511627776) (hR : dL st c bs p) :
 aD prog 62 [.ptr c 0, .slice (l.map bZ)] st (Dr bs c p 1000000 st (fun r => ∃ l' : List Cl, r = .slice (l'.map bZ))) := by
 refine aD.X4 ?_
 have MV : st.aC c (b9 bs p) = st := NE hR
 have jV : ∀ (q b : Nat) (acc : List Cl), p ≤ q → q ≤ p + 1000000 → (acc.map bZ ≠ [] → (st.aC c (b9 bs q)) b = none) → ∃ r2 s2, (y8 (aY (st.aC c (b9 bs q)) b (acc.map bZ)) s2 ∧ pX (aY (st.aC c (b9 bs q)) b (acc.map bZ)) (a9 5 b (acc.map bZ)) s2 r2) ∧ Dr bs c p 1000000 st (fun r => ∃ l' : List Cl, r = .slice (l'.map bZ)) r2 s2 := fun q b acc g1 g2 hb => by
  have := pX.fin (r := a9 5 b (acc.map bZ)) hb (IE _) ⟨5, yS _⟩
  rw [iJ] at this
  exact ⟨_, _, this, q, g1, g2, rfl, acc, rfl⟩
 have hRq : ∀ (q b : Nat) (L : List AV), (L ≠ [] → (st.aC c (b9 bs q)) b = none) → dL (aY (st.aC c (b9 bs q)) b L) c bs q ∧ ∀ o, (aY (st.aC c (b9 bs q)) b L).aC c o = aY (st.aC c o) b L ∧ (L ≠ [] → (st.aC c o) b = none) := fun q b L hb => by
  have hne : L ≠ [] → c ≠ b := fun h e => by have := hb h; rw [← e, aB.aP] at this; cases this
  refine ⟨?_, fun o => ⟨?_, fun h => ?_⟩⟩
  · unfold dL
    by_cases h : L = []
    · rw [h, w5, aB.aP]; try rfl
    · rw [pN (hne h), aB.aP]; try rfl
  · rw [oM hne, dD]
  · have := hb h
    rw [aB.aL _ _ (dA (hne h))] at this ⊢
    exact this
 refine wF [1000000] 2 func62 ntmps62 rfl rfl ?_
 simp only [eA, AV.fits, eG, aF]
 intro _
 simp -implicitDefEqProofs only [aA, seval, D7]
 refine eM (σ := Nat × Nat × List Cl) [1000000] [0, 1, 4] l (fun i x => p ≤ x.1 ∧ x.1 ≤ p + 6000 * i ∧ x.2.2.length = i ∧ (x.2.2.map bZ ≠ [] → (st.aC c (b9 bs x.1)) x.2.1 = none)) (fun i x => [(5, a9 5 x.2.1 (x.2.2.map bZ)), (6, .int .i64 i)]) (fun i x => aY (st.aC c (b9 bs x.1)) x.2.1 (x.2.2.map bZ)) (by decide +kernel) ⟨(p, 0, []), ⟨cY _, by simp only; omega, rfl, fun h => absurd rfl h⟩, by
  simp only [aW, w5, MV]
  exact aO.mk (by simp -implicitDefEqProofs only [jH, aA, ↓aU, seval])⟩ (fun i x s hx hlt bR hdr hinv => ?_) (fun s hge hinv => ?_)
 case refine_1 =>
  obtain ⟨q, b, acc⟩ := s
  obtain ⟨g1, g2, g3, g4⟩ := hinv
  simp only at g1 g2 g3 g4
  have hw := bK (n := (i : Int) + 1)
  have hat := bM (av := bZ) iA hx (oF x)
  have hcw := oF x
  have hca := AP x
  obtain ⟨k1, k2⟩ := hRq _ _ _ g4
  simp -implicitDefEqProofs only [bR, aF, hat, hcw, hca, aA, seval, D7]
  refine (aRY bs c q x (hl x (cU hx)) _ (by omega) k1).mono ?_
  rintro _ _ ⟨q2, r1, r2, rfl, y, rfl⟩
  obtain ⟨k3, k4⟩ := k2 (b9 bs q2)
  rw [k3]
  have hya := AP y
  have hyw := oF y
  have hyj := JJ y
  have hys := U8 y
  have hyc := aHL y
  simp -implicitDefEqProofs only [hya, hyw, hyj, aA, seval, D7]
  refine eO iA j9 kA rfl rfl (fA hyw hys) (yS _) k4 (by simp only [aF, aS, aZ]; omega) (by simp only [aF, aS, aZ]; omega) (fun b' hb' => ?_)
  rw [show acc.map bZ ++ [bZ y] = (acc ++ [y]).map bZ by simp] at hb' ⊢
  simp -implicitDefEqProofs only [hw, aA, seval]
  exact ⟨(q2, b', acc ++ [y]), ⟨by simp only; omega, by simp only; omega, by simp only [dR, aS, aZ]; omega, hb'⟩, aO.mk (by simp -implicitDefEqProofs only [aA, seval])⟩
 obtain ⟨q, b, acc⟩ := s
 obtain ⟨g1, g2, g3, g4⟩ := hinv
 simp only at g1 g2 g3 g4
 obtain ⟨k1, k2⟩ := hRq _ _ _ g4
 simp -implicitDefEqProofs only [aF, hge, aA, seval, D7]
 refine (mZ bs c q (by omega) 30 (by omega) (by omega) _ k1).mono ?_
 rintro _ _ ⟨j, hj, rfl, rfl⟩
 obtain ⟨k3, k4⟩ := k2 (b9 bs (q + 1))
 rw [k3]
 have MF : prog.underlying 29 = some (.slice 76) := by kernel_rfl
 simp -implicitDefEqProofs only [aA, seval]
 refine aQ (fun h0 => ?_) (fun h0 => ?_)
 · simp -implicitDefEqProofs only [aA, seval]
   refine gY (σ := Nat × List Cl) [1000000] [4, 24] (fun x => (x.2.map bZ ≠ [] → (st.aC c (b9 bs (q + 1))) x.1 = none) ∧ x.2.length ≤ 41) (fun x => [(5, a9 5 x.1 (x.2.map bZ))]) (fun x => aY (st.aC c (b9 bs (q + 1))) x.1 (x.2.map bZ)) (fun x => 41 - x.2.length) (by decide +kernel) ⟨(b, acc), ⟨k4, by simp only; omega⟩, aO.mk (by simp -implicitDefEqProofs only [aA, seval])⟩ ?_
   rintro ⟨b, acc⟩ ⟨i1, i2⟩
   simp only at i1 i2
   have haL := sK (w := 5) (b := b) (l := acc.map bZ) MF
   rw [aF] at haL
   simp -implicitDefEqProofs only [haL, aA, seval]
   refine aQ (fun h1 => ?_) (fun h1 => ?_)
   case refine_2 =>
    simp -implicitDefEqProofs only [aA, seval]
    exact jV _ _ _ (by omega) (by omega) i1
   simp only [bJ] at h1
   simp -implicitDefEqProofs only [aA, seval]
   refine (sD ⟨#[122]⟩ [] (by simp) _).to ?_
   simp -implicitDefEqProofs only [aV, aW, aA, seval, D7]
   refine eO (xs := [.agg [.int .i64 3, .int .i64 0, .str ⟨#[122]⟩, .slice [], .fslice []]]) iA j9 kA rfl rfl (fA rfl rfl) (yS _) i1 (by simp only [aF, aS, aZ]; omega) (by simp only [aF, aS, aZ]; omega) (fun b' hb' => ?_)
   have hb2 : (acc ++ [zG]).map bZ ≠ [] → (st.aC c (b9 bs (q + 1))) b' = none := fun _ => hb' (by simp)
   have iL : aY (st.aC c (b9 bs (q + 1))) b' (acc.map bZ ++ [.agg [.int .i64 3, .int .i64 0, .str ⟨#[122]⟩, .slice [], .fslice []]]) b' = some (.cells (((acc.map bZ).flatMap AV.cells ++ [.int .i64 3, .int .i64 0, .str ⟨#[122]⟩, .slice []]) ++ .fslice [] :: [])) := by
    rw [jF (by simp), aB.aP]
    simp [AV.cells]
   have aF4 := fun φ => fJ.aU8 (φ := φ) iL
   have aVI : (aY (st.aC c (b9 bs (q + 1))) b' (acc.map bZ ++ [.agg [.int .i64 3, .int .i64 0, .str ⟨#[122]⟩, .slice [], .fslice []]])).aC b' (.cells (((acc.map bZ).flatMap AV.cells ++ [.int .i64 3, .int .i64 0, .str ⟨#[122]⟩, .slice []]) ++ (AV.fslice []).soft :: [])) = aY (st.aC c (b9 bs (q + 1))) b' ((acc ++ [zG]).map bZ) := by
    rw [jF (by simp), dD, jF (by simp)]
    congr 2
    simp [AV.cells, AV.soft, zG, gB]
   rw [aVI] at aF4
   have hV : a9 5 b' (acc.map bZ ++ [.agg [.int .i64 3, .int .i64 0, .str ⟨#[122]⟩, .slice [], .fslice []]]) = a9 5 b' ((acc ++ [zG]).map bZ) := by
    rw [oH (by simp), oH (by simp)]
    simp
   rw [hV]
   simp -implicitDefEqProofs only [aA, seval]
   refine ⟨(b', acc ++ [zG]), by simp only [dR, aS, aZ]; omega, ⟨hb2, by simp only [dR, aS, aZ]; omega⟩, (aF4 _).trans (aO.mk (by simp -implicitDefEqProofs only [aA, seval]))⟩
 simp -implicitDefEqProofs only [aA, seval]
 refine aQ (fun h1 => ?_) (fun h1 => ?_)
 · have hne : acc.map bZ ≠ [] := fun h => by have := nX List.length h; simp at this; subst this; simp at g3; omega
   have hlen : (acc.map bZ).length = acc.length := aF _
   have hsl := aV6 (P := prog) (b := b) iA (show 1 < acc.length by omega)
   have hb0 := k4 hne
   simp -implicitDefEqProofs only [oH hne, hlen, hsl, aA, seval]
   have hT := pX.tail (k := 1) (w := 5) hb0 (by rw [hlen]; omega) (IE acc) (yS acc)
   rw [hlen] at hT
   simp only [Nat.one_mul] at hT ⊢
   exact ⟨_, _, hT, q + 1, by omega, by omega, rfl, acc.drop 1, by rw [List.map_drop]⟩
 · skip
   simp -implicitDefEqProofs only [aA, seval]
   exact jV _ _ _ (by omega) (by omega) k4
abbrev GA := zi tI_3 (zi zI_3 (zi aX (zi tI_9 (zi zI_9 (zi cH (zi tI_31 (zi zI_31 (zi aN (zi bF (zi bE (zi cA (zi tI_63 (zi zI_63 (zi bT (zi bP (zi bS (zi bQ (zi bU (zi tI_90 (zi zI_90 (zi tI_101 (zi zI_101 (zi tF (zi zQ (zi xS EZ)))))))))))))))))))))))))
set_option maxHeartbeats 2000000 in
theorem aVD (bs : List Bt) (c p : Nat) (l : List Tm) (hl : ∀ x ∈ l, Dn x) (h2 : l.length ≤ 40) (st : aB) (hp : p + 1000000 ≤ 1099511627776) (hR : dL st c bs p) :
 aD prog 63 [.ptr c 0, .slice (l.map Tm.av)] st (Dr bs c p 1000000 st (fun r => ∃ l' : List Tm, l'.length ≤ 41 ∧ r = .slice (l'.map Tm.av))) := by
 refine aD.X4 ?_
 have MV : st.aC c (b9 bs p) = st := NE hR
 have jV : ∀ (q b : Nat) (acc : List Tm), acc.length ≤ 41 → p ≤ q → q ≤ p + 1000000 → (acc.map Tm.av ≠ [] → (st.aC c (b9 bs q)) b = none) → ∃ r2 s2, (y8 (aY (st.aC c (b9 bs q)) b (acc.map Tm.av)) s2 ∧ pX (aY (st.aC c (b9 bs q)) b (acc.map Tm.av)) (a9 4 b (acc.map Tm.av)) s2 r2) ∧ Dr bs c p 1000000 st (fun r => ∃ l' : List Tm, l'.length ≤ 41 ∧ r = .slice (l'.map Tm.av)) r2 s2 := fun q b acc g0 g1 g2 hb => by
  have := pX.fin (r := a9 4 b (acc.map Tm.av)) hb (iF _) ⟨4, dT _⟩
  rw [iJ] at this
  exact ⟨_, _, this, q, g1, g2, rfl, acc, g0, rfl⟩
 have hRq : ∀ (q b : Nat) (L : List AV), (L ≠ [] → (st.aC c (b9 bs q)) b = none) → dL (aY (st.aC c (b9 bs q)) b L) c bs q ∧ ∀ o, (aY (st.aC c (b9 bs q)) b L).aC c o = aY (st.aC c o) b L ∧ (L ≠ [] → (st.aC c o) b = none) := fun q b L hb => by
  have hne : L ≠ [] → c ≠ b := fun h e => by have := hb h; rw [← e, aB.aP] at this; cases this
  refine ⟨?_, fun o => ⟨?_, fun h => ?_⟩⟩
  · unfold dL
    by_cases h : L = []
    · rw [h, w5, aB.aP]; try rfl
    · rw [pN (hne h), aB.aP]; try rfl
  · rw [oM hne, dD]
  · have := hb h
    rw [aB.aL _ _ (dA (hne h))] at this ⊢
    exact this
 refine wF [1000000] 2 func63 ntmps63 rfl rfl ?_
 simp only [eA, AV.fits, eG, aF]
 intro _
 simp -implicitDefEqProofs only [aA, seval, GA]
 refine eM (σ := Nat × Nat × List Tm) [1000000] [0, 1, 4] l (fun i x => p ≤ x.1 ∧ x.1 ≤ p + 10 * i ∧ x.2.2.length = i ∧ (x.2.2.map Tm.av ≠ [] → (st.aC c (b9 bs x.1)) x.2.1 = none)) (fun i x => [(5, a9 4 x.2.1 (x.2.2.map Tm.av)), (6, .int .i64 i)]) (fun i x => aY (st.aC c (b9 bs x.1)) x.2.1 (x.2.2.map Tm.av)) (by decide +kernel) ⟨(p, 0, []), ⟨cY _, by simp only; omega, rfl, fun h => absurd rfl h⟩, by
  simp only [aW, w5, MV]
  exact aO.mk (by simp -implicitDefEqProofs only [jH, aA, ↓aU, seval])⟩ (fun i x s hx hlt bR hdr hinv => ?_) (fun s hge hinv => ?_)
 case refine_1 =>
  obtain ⟨q, b, acc⟩ := s
  obtain ⟨g1, g2, g3, g4⟩ := hinv
  simp only at g1 g2 g3 g4
  have hw := bK (n := (i : Int) + 1)
  have hat := bM (av := Tm.av) aN hx (aH x)
  obtain ⟨k1, k2⟩ := hRq _ _ _ g4
  simp -implicitDefEqProofs only [bR, aF, hat, aH, aT, aA, seval, GA]
  refine (NV bs c q x (hl x (cU hx)).2 _ (by omega) k1).mono ?_
  rintro _ _ ⟨q2, r1, r2, rfl, y, rfl⟩
  obtain ⟨k3, k4⟩ := k2 (b9 bs q2)
  rw [k3]
  simp -implicitDefEqProofs only [aH, aT, cE, aA, seval, GA]
  refine eO aN bF bE rfl rfl (fA (aH _) (b7 _)) (dT _) k4 (by simp only [aF, aS, aZ]; omega) (by simp only [aF, aS, aZ]; omega) (fun b' hb' => ?_)
  rw [show acc.map Tm.av ++ [y.av] = (acc ++ [y]).map Tm.av by simp] at hb' ⊢
  simp -implicitDefEqProofs only [hw, aA, seval]
  exact ⟨(q2, b', acc ++ [y]), ⟨by simp only; omega, by simp only; omega, by simp only [dR, aS, aZ]; omega, hb'⟩, aO.mk (by simp -implicitDefEqProofs only [aA, seval])⟩
 obtain ⟨q, b, acc⟩ := s
 obtain ⟨g1, g2, g3, g4⟩ := hinv
 simp only at g1 g2 g3 g4
 obtain ⟨k1, k2⟩ := hRq _ _ _ g4
 simp -implicitDefEqProofs only [aF, hge, aA, seval, GA]
 refine (mZ bs c q (by omega) 30 (by omega) (by omega) _ k1).mono ?_
 rintro _ _ ⟨j, hj, rfl, rfl⟩
 obtain ⟨k3, k4⟩ := k2 (b9 bs (q + 1))
 rw [k3]
 have MF : prog.underlying 31 = some (.slice 63) := by kernel_rfl
 simp -implicitDefEqProofs only [aA, seval]
 refine aQ (fun h0 => ?_) (fun h0 => ?_)
 · simp -implicitDefEqProofs only [aA, seval]
   refine gY (σ := Nat × List Tm) [1000000] [4] (fun x => (x.2.map Tm.av ≠ [] → (st.aC c (b9 bs (q + 1))) x.1 = none) ∧ x.2.length ≤ 41) (fun x => [(5, a9 4 x.1 (x.2.map Tm.av))]) (fun x => aY (st.aC c (b9 bs (q + 1))) x.1 (x.2.map Tm.av)) (fun x => 41 - x.2.length) (by decide +kernel) ⟨(b, acc), ⟨k4, by simp only; omega⟩, aO.mk (by simp -implicitDefEqProofs only [aA, seval])⟩ ?_
   rintro ⟨b, acc⟩ ⟨i1, i2⟩
   simp only at i1 i2
   have haL := sK (w := 4) (b := b) (l := acc.map Tm.av) MF
   rw [aF] at haL
   simp -implicitDefEqProofs only [haL, aA, seval]
   refine aQ (fun h1 => ?_) (fun h1 => ?_)
   case refine_2 =>
    simp -implicitDefEqProofs only [aA, seval]
    exact jV _ _ _ i2 (by omega) (by omega) i1
   simp only [bJ] at h1
   simp -implicitDefEqProofs only [aA, seval]
   refine (sD ⟨#[116, 114, 117, 101]⟩ [] (by simp) _).to ?_
   simp -implicitDefEqProofs only [aT, aH, cE, aA, seval, GA]
   refine eO aN bF bE rfl rfl (fA (aH _) (b7 _)) (dT _) i1 (by simp only [aF, aS, aZ]; omega) (by simp only [aF, aS, aZ]; omega) (fun b' hb' => ?_)
   rw [show acc.map Tm.av ++ [(Tm.mk 3 0 ⟨#[116, 114, 117, 101]⟩ []).av] = (acc ++ [Tm.mk 3 0 ⟨#[116, 114, 117, 101]⟩ []]).map Tm.av by simp] at hb' ⊢
   simp -implicitDefEqProofs only [aA, seval]
   exact ⟨(b', acc ++ [Tm.mk 3 0 ⟨#[116, 114, 117, 101]⟩ []]), by simp only [dR, aS, aZ]; omega, ⟨hb', by simp only [dR, aS, aZ]; omega⟩, aO.mk (by simp -implicitDefEqProofs only [aA, seval])⟩
 · skip
   simp -implicitDefEqProofs only [aA, seval]
   exact jV _ _ _ (by omega) (by omega) (by omega) k4
abbrev aWR := zi tI_3 (zi zI_3 (zi aX (zi tI_51 (zi zI_51 (zi dW (zi fT (zi fX (zi f0 (zi tI_90 zI_90)))))))))
theorem aX5 (bs : List Bt) (c p : Nat) (st : aB) (hp : p + 10 ≤ 1099511627776) (hR : dL st c bs p) : aD prog 61 [.ptr c 0] st (Dr bs c p 10 st (fun r => ∃ n : Int, r = .int .i64 n)) := by
 refine wF [1000000] 1 func61 ntmps61 rfl rfl ?_
 intro _
 simp -implicitDefEqProofs only [aA, seval, aWR]
 refine (w7 [20, 3, 1, 5, 0, 21, -1] (by simp) (by simp) bs c p (by omega) _ hR).mono ?_
 rintro _ _ ⟨x, hx, rfl, rfl⟩
 simp -implicitDefEqProofs only [aA, seval]
 exact ⟨p + 1, by omega, by omega, rfl, x, rfl⟩
abbrev aSG := zi tI_3 (zi zI_3 (zi aX (zi tI_51 (zi zI_51 (zi dW (zi fT (zi fX (zi f0 (zi tI_90 zI_90)))))))))
theorem aND (bs : List Bt) (c p : Nat) (st : aB) (hp : p + 10 ≤ 1099511627776) (hR : dL st c bs p) : aD prog 64 [.ptr c 0] st (Dr bs c p 10 st (fun r => ∃ n : Int, -1 ≤ n ∧ n ≤ 301 ∧ r = .int .i64 n)) := by
 refine wF [1000000] 1 func64 ntmps64 rfl rfl ?_
 intro _
 simp -implicitDefEqProofs only [aA, seval, aSG]
 refine (w7 [100, 60, 200, 10, 300, 0, 301, -1] (by simp) (by simp) bs c p (by omega) _ hR).mono ?_
 rintro _ _ ⟨x, hx, rfl, rfl⟩
 simp -implicitDefEqProofs only [aA, seval]
 refine ⟨p + 1, by omega, by omega, rfl, x, ?_, ?_, rfl⟩ <;> (simp only [c7, dP, dY] at hx; omega)
abbrev a0B := zi tI_125 (zi zI_125 (zi iU (zi lL (zi lJ mH))))
theorem aYB (st : aB) : aD prog 88 [] st (fun r st' => r = .slice (KG.map AV.str) ∧ st' = st) := by
 refine aD.done ?_
 refine wF [1000000] 0 func88 ntmps88 rfl rfl ?_
 intro _
 simp -implicitDefEqProofs only [aA, seval, a0B]
 exact ⟨rfl, aM.refl _⟩
abbrev aQO := zi tI_125 (zi zI_125 (zi iU (zi lL (zi lJ mH))))
theorem aUJ (st : aB) : aD prog 125 [] st (fun r st' => r = .slice (LR.map AV.str) ∧ st' = st) := by
 refine aD.done ?_
 refine wF [1000000] 0 func125 ntmps125 rfl rfl ?_
 intro _
 simp -implicitDefEqProofs only [aA, seval, aQO]
 exact ⟨rfl, aM.refl _⟩
theorem aLB {α : Type} {P : Program} {t : TypeId} {ag : Bool} {w : Nat} {av : α → AV} {l : List α} {i : Nat} {x : α} (hI : eI P t = some (ag, w)) (h : l[i]? = some x) (hw : (av x).width = w) : dJ P t (.fslice (l.map av)) (.int .i64 (i : Int)) = some (.pptr (av x)) := by
 simp only [dJ, hI, kQ, oR, h, qW, hw]
 simp
theorem aVM {P : Program} {φ : AF} {st : aB} {t u v w : Tmp} {K : AV → aB → Prop} : l8 P [.tmp t, .tmp u, .tmp v, .tmp w] K φ st = (j8 [φ t, φ u, φ v, φ w] = true ∧ K (.tup [φ t, φ u, φ v, φ w]) st) := rfl
def aEF (l : List ByteArray) : AV := .fslice (l.map AV.str)
abbrev N3 (q : List Tm) : Prop := q.length ≤ 6 ∧ ∀ t ∈ q, Dn t
theorem aBO (s : ByteArray) : ∃ q : List Tm, N3 q ∧ ∃ f, FP (mG (sb s)) = .tup [.slice (q.map Tm.av), .bool f] := by
 cases h : mG (sb s) with
 | none => exact ⟨[], ⟨by simp, by simp⟩, false, rfl⟩
 | some q =>
  obtain ⟨h1, h2⟩ := aQH h
  exact ⟨q, ⟨(HA h1).1, h2⟩, true, rfl⟩
theorem aZR {s : ByteArray} (h : QL s = true) : s.size ≤ 200 ∧ ∃ l : List Cl, yZ (sb s) = some l ∧ 2 ≤ l.length ∧ l.length ≤ 20 ∧ ∀ c ∈ l, uU c := by
 unfold QL at h
 rw [cM, bJ] at h
 refine ⟨h.1, ?_⟩
 have h2 := h.2
 cases hp : yZ (sb s) with
 | none => rw [hp] at h2; simp at h2
 | some l =>
  rw [hp] at h2
  simp only [cM, bJ] at h2
  refine ⟨l, rfl, h2.1, h2.2, fun c hc => ?_⟩
  unfold yZ at hp
  simp only at hp
  split at hp
  · cases hp
  · exact ((aED _ [] l (by simp) hp).1 c hc).1
abbrev WC := zi tI_3 (zi zI_3 (zi aX (zi tI_9 (zi zI_9 (zi cH (zi tI_31 (zi zI_31 (zi aN (zi bF (zi bE (zi cA (zi tI_90 (zi zI_90 (zi tI_125 (zi zI_125 (zi iU (zi lL (zi lJ mH))))))))))))))))))
theorem aU1 (bs : List Bt) (c p : Nat) (st : aB) (hp : p + 10 ≤ 1099511627776) (hR : dL st c bs p) : aD prog 91 [.ptr c 0] st (Dr bs c p 10 st (fun r => ∃ q : List Tm, N3 q ∧ r = .slice (q.map Tm.av))) := by
 refine wF [1000000] 1 func91 ntmps91 rfl rfl ?_
 intro _
 simp -implicitDefEqProofs only [aA, seval]
 refine (aUJ _).to ?_
 simp -implicitDefEqProofs only [aF, aA, seval, WC]
 refine (mZ bs c p (by omega) LR.length (by decide) (by decide) _ hR).mono ?_
 rintro _ _ ⟨k, hk, rfl, rfl⟩
 obtain ⟨x, hx⟩ : ∃ x, LR[k]? = some x := ⟨_, fG hk⟩
 have hat := bM (av := AV.str) iU hx rfl
 simp -implicitDefEqProofs only [hat, aA, seval, WC]
 refine (SH x _).to ?_
 obtain ⟨q, hq, f, hf⟩ := aBO x
 rw [hf]
 simp -implicitDefEqProofs only [aA, seval]
 exact ⟨p + 1, by omega, by omega, rfl, q, hq, rfl⟩
abbrev DW := zi tI_3 (zi zI_3 (zi aX (zi tI_5 (zi zI_5 (zi kK (zi tI_9 (zi zI_9 (zi cH (zi tI_29 (zi zI_29 (zi iA (zi j9 (zi kA (zi lS (zi tI_31 (zi zI_31 (zi aN (zi bF (zi bE (zi cA (zi tI_90 (zi zI_90 (zi tI_125 (zi zI_125 (zi iU (zi lL (zi lJ (zi mH (zi tI_130 (zi zI_130 (zi ZF (zi aMP (zi aX3 aWJ)))))))))))))))))))))))))))))))))
set_option maxHeartbeats 1000000 in
theorem aX2 (bs : List Bt) (c p : Nat) (st : aB) (hp : p + 100 ≤ 1099511627776) (hR : dL st c bs p) :
 aD prog 60 [.ptr c 0] st (Dr bs c p 100 st (fun r => ∃ (l : List Cl) (q : List Tm), (2 ≤ l.length ∧ l.length ≤ 20 ∧ ∀ x ∈ l, uU x) ∧ N3 q ∧ r = .tup [.slice (l.map bZ), .slice (q.map Tm.av)])) := by
 refine wF [1000000] 1 func60 ntmps60 rfl rfl ?_
 intro _
 simp -implicitDefEqProofs only [aA, seval]
 refine (aYB _).to ?_
 simp -implicitDefEqProofs only [aF, aA, seval, DW]
 refine (mZ bs c p (by omega) KG.length (by decide) (by decide) _ hR).mono ?_
 rintro _ _ ⟨k, hk, rfl, rfl⟩
 obtain ⟨x, hx⟩ : ∃ x, KG[k]? = some x := ⟨_, fG hk⟩
 have hat := bM (av := AV.str) iU hx rfl
 have hk2 : k < AB.length := hk
 obtain ⟨y, hy⟩ : ∃ y, AB[k]? = some y := ⟨_, fG hk2⟩
 obtain ⟨hxs, l, hl1, hl2, hl3, hl4⟩ := aZR (eW.1 aO7 x (cU hx))
 have hyo := eW.1 aSU y (cU hy)
 simp only [cM, bJ] at hyo
 have aB3 := aLB (P := prog) (av := aEF) ZF hy rfl
 simp only [AB, aEF, bA, aW] at aB3
 have hpp := fun st => aP1 x (by omega) st
 rw [hl1] at hpp
 simp -implicitDefEqProofs only [hat, aA, seval, DW]
 refine (hpp _).mono ?_
 rintro _ _ ⟨rfl, rfl⟩
 simp -implicitDefEqProofs only [aB3, aA, seval, DW]
 refine (mZ bs c (p + 1) (by omega) 5 (by omega) (by omega) _ dL.new).mono ?_
 rintro _ _ ⟨j, hj, rfl, rfl⟩
 rw [dD]
 simp -implicitDefEqProofs only [aA, seval]
 refine aQ (fun h0 => ?_) (fun h0 => ?_)
 · simp -implicitDefEqProofs only [aA, seval]
   refine (aU1 bs c (p + 1 + 1) _ (by omega) dL.new).mono ?_
   rintro _ _ ⟨p2, r1, r2, rfl, q, hq, rfl⟩
   rw [dD]
   simp -implicitDefEqProofs only [aA, seval]
   exact ⟨p2, by omega, by omega, rfl, l, q, ⟨hl2, hl3, hl4⟩, hq, rfl⟩
 simp -implicitDefEqProofs only [aF, aA, seval, DW]
 refine (mZ bs c (p + 1 + 1) (by omega) y.length (by omega) (by have := aVX y (cU hy); omega) _ dL.new).mono ?_
 rintro _ _ ⟨i, hi, rfl, rfl⟩
 rw [dD]
 obtain ⟨z, hz⟩ : ∃ z, y[i]? = some z := ⟨_, fG hi⟩
 have CI := aLB (P := prog) (av := AV.str) iU hz rfl
 simp -implicitDefEqProofs only [CI, aA, seval, DW]
 refine (SH z _).to ?_
 obtain ⟨q, hq, f, hf⟩ := aBO z
 rw [hf]
 simp -implicitDefEqProofs only [aA, seval]
 exact ⟨p + 1 + 1 + 1, by omega, by omega, rfl, l, q, ⟨hl2, hl3, hl4⟩, hq, rfl⟩
theorem aTF (code : List Bt) (st : aB) : aD prog 35 [.slice (code.map iE)] st (fun r st' => (∃ (p : List Cl) (q : List Tm) (most fuel : Int), (q.length ≤ 41 ∧ -1 ≤ fuel ∧ fuel ≤ 301) ∧ r = .tup [.slice (p.map bZ), .slice (q.map Tm.av), .int .i64 most, .int .i64 fuel]) ∧ st' = st) := by
 refine aD.drop ?_
 refine wF [1000000] 1 func35 ntmps35 rfl rfl ?_
 intro _
 simp -implicitDefEqProofs only [aA, seval]
 refine (aSD code _).mono ?_
 rintro _ _ ⟨c, bs, rfl, hc, rfl⟩
 have hD : ∀ o, aM (st.aC c o) st := fun o => (aM.refl _).aC hc
 simp -implicitDefEqProofs only [aA, seval]
 refine (aX2 bs c 0 _ (by omega) dL.new).mono ?_
 rintro _ _ ⟨p1, r1, r2, rfl, l, q, ⟨l1, l2, l3⟩, ⟨q1, q2⟩, rfl⟩
 rw [dD]
 simp -implicitDefEqProofs only [aA, seval]
 refine (aX5 bs c p1 _ (by omega) dL.new).mono ?_
 rintro _ _ ⟨p2, s1, s2, rfl, n, rfl⟩
 rw [dD]
 simp -implicitDefEqProofs only [aA, seval]
 refine (aUK bs c p2 l l3 l1 (by omega) _ (by omega) dL.new).mono ?_
 rintro _ _ ⟨p3, t1, t2, rfl, l', rfl⟩
 rw [dD]
 simp -implicitDefEqProofs only [aA, seval]
 refine (aVD bs c p3 q q2 (by omega) _ (by omega) dL.new).mono ?_
 rintro _ _ ⟨p4, u1, u2, rfl, q', u3, rfl⟩
 rw [dD]
 simp -implicitDefEqProofs only [aA, seval]
 refine (aND bs c p4 _ (by omega) dL.new).mono ?_
 rintro _ _ ⟨p5, v1, v2, rfl, m, w1, w2, rfl⟩
 rw [dD]
 simp -implicitDefEqProofs only [aVM, aA, seval]
 exact ⟨hD _, l', q', n, m, ⟨u3, w1, w2⟩, rfl⟩
end Go.AW
namespace Go.AW

end Go.AW
namespace Go.AW
open Go.Proofs.Tryz
theorem aZN {P : Program} {t : TypeId} {ag : Bool} {w : Nat} {φ : AF} {y : Operand} {L : List AV} {n : Nat} (hI : eI P t = some (ag, w)) (hn : n ≤ L.length) (h : φ.eval y = .int .i64 (n : Int)) : gW P φ t (.slice L) none (some y) none = some (.slice (L.take n)) := by
 have h1 : dQ φ none L.length L.length = some L.length := rfl
 have h2 : dQ φ (some y) L.length L.length = some n := by
  simp only [dQ, h]
  rw [aG ⟨by omega, by omega⟩]
  rw [kQ]
 have h3 : dQ φ none 0 n = some 0 := rfl
 unfold gW oG
 rw [aE (by simp [qJ])]
 simp only [hI, h1, h2, h3]
 simp
abbrev FU := zi tI_3 (zi zI_3 (zi aX (zi tI_4 (zi zI_4 (zi cG (zi tI_26 (zi zI_26 (zi pU (zi uO (zi tV (zi xU (zi tI_29 (zi zI_29 (zi iA (zi j9 (zi kA (zi lS (zi tI_31 (zi zI_31 (zi aN (zi bF (zi bE (zi cA (zi tI_57 (zi zI_57 (zi tT (zi D0 (zi FG z9))))))))))))))))))))))))))))
set_option maxHeartbeats 2000000 in
theorem aVT (code more : List Bt) (st : aB) : aD prog 6 [.slice (code.map iE), .slice (more.map iE)] st (fun r _ => r = .bool true) := by
 refine wF [1000000] 2 func6 ntmps6 rfl rfl ?_
 simp only [eA, AV.fits, eG, aF]
 intro ⟨_, hml, _⟩
 simp -implicitDefEqProofs only [aF, aA, seval, FU]
 refine cQ (fun h0 => ?_) (fun h0 => ?_)
 case refine_2 =>
  simp -implicitDefEqProofs only [h0, aA, seval]
 simp -implicitDefEqProofs only [h0, aF, aA, seval, FU]
 refine aQ (fun h1 => ?_) (fun h1 => ?_)
 · simp -implicitDefEqProofs only [aA, seval]
 simp -implicitDefEqProofs only [aA, seval]
 refine (aTF code _).mono ?_
 rintro _ s1 ⟨⟨p, q, most, fuel, ⟨_, hf1, hf2⟩, rfl⟩, rfl⟩
 have hS1 := fun st => (YI p q most fuel st).R8
 have hS2 := aY3 p q most fuel
 have hP := fun h n hn => aRC (p := p) (cnd := fun _ l => l) (q := q) (most := most) (fuel := fuel) h n hn
 have hL := fun h => RP (p := p) (cnd := fun _ l => l) (q := q) (most := most) (fuel := fuel) h
 have h9 := aZX (p := p) (cnd := fun _ l => l) (q := q) (most := most) (fuel := fuel)
 generalize gI p (fun _ l => l) q most fuel = T at *
 obtain ⟨L, e⟩ := T
 simp only at hS1 hS2 hP hL h9
 simp -implicitDefEqProofs only [aA, seval]
 refine (hS1 _).to ?_
 simp -implicitDefEqProofs only [aA, seval]
 refine (hS2 _).to ?_
 simp -implicitDefEqProofs only [bL, iC, aA, seval]
 refine (MH L _).to ?_
 simp -implicitDefEqProofs only [iC, aA, seval]
 refine aQ (fun he => ?_) (fun he => ?_)
 · simp -implicitDefEqProofs only [bL, iC, aA, seval]
   refine (MH L _).to ?_
   simp -implicitDefEqProofs only [aA, seval]
 have hok : iP p q most fuel = true := by
  cases hk : iP p q most fuel with
  | true => rfl
  | false => have := h9.2 hk; subst this; simp at he
 have hlen := hL hok
 obtain ⟨_, _, hm0, hm1, _, _⟩ := KD.1 hok
 obtain ⟨n, hn⟩ : ∃ n, n = more.length % (L.length + 1) := ⟨_, rfl⟩
 have hnl : n ≤ L.length := by have := Nat.mod_lt more.length (show 0 < L.length + 1 by omega); omega
 have hw := bK (n := (L.length : Int) + 1)
 have hr : ((more.length : Int)).tmod ((L.length : Int) + 1) = (n : Int) := by rw [hn, show ((L.length : Int) + 1) = ((L.length + 1 : Nat) : Int) by omega, ID]
 have hz : ((L.length : Int) + 1 = 0) = False := cF (by omega)
 obtain ⟨hP1, hP2⟩ := hP hok n hnl
 have hS3 := fun st => (YI p q (n : Int) fuel st).R8
 generalize gI p (fun _ l => l) q (n : Int) fuel = T2 at *
 obtain ⟨L2, e2⟩ := T2
 simp only at hP1 hP2 hS3
 subst hP1
 simp -implicitDefEqProofs only [aF, hw, hr, hz, aA, seval, FU]
 refine (hS3 _).to ?_
 have hle : ((L.length : Int) ≤ most) = True := cW hlen
 have hsl := fun (φ : AF) (y : Operand) (h : φ.eval y = .int .i64 (n : Int)) => aZN (P := prog) (t := 26) (L := L.map cZ) pU (by rw [aF]; exact hnl) h
 rw [← GV] at hsl
 simp -implicitDefEqProofs only [aF, hle, hsl, bL, aA, seval, FU]
 refine (MH (L.take n) _).to ?_
 simp -implicitDefEqProofs only [iC, aA, seval]
 rcases hP2 with h | ⟨h, h'⟩
 · have h2 : (e2 = 1) = True := cW h
   simp -implicitDefEqProofs only [h2, iC, bL, bL, aA, seval]
 · have h2 : ((n : Int) = (L.length : Int)) = True := cW (by omega)
   have h3 : (e2 = e) = True := cW h'
   refine cQ (fun h4 => ?_) (fun h4 => ?_)
   case refine_2 =>
    simp -implicitDefEqProofs only [h4, iC, aA, seval]
   simp -implicitDefEqProofs only [h2, h3, h4, iC, bL, aF, bL, aA, seval, FU]
end Go.AW
namespace Go.AW
open Go.ChangeShapes Go.WideShapes Go.ChangeAt Go.RowKit
abbrev q7 : aB := fun _ => none
section
variable {H : Type} {enc : TypeId × Value → H} {P : Program} {w : World}
def Reads (enc : TypeId × Value → H) (P : Program) (w : World) (t n : Nat) {α : Type} (av : α → AV) : Prop :=
 ∀ cs x, DataW.trod enc P w 0 (fun _ => true) true n t cs = some x → ∃ a : α, VC w.heap q7 (av a) cs
theorem UB {h : bH} {st : aB} {b k : Nat} : ∀ {es : List AV} {off : Nat}, (∀ e ∈ es, e.width = k) → (∀ (i : Nat) e, es[i]? = some e → VE h st b (off + i * k) e) → dH h st b off es
 | [], _, _, _ => by simp [dH]
 | e :: es, off, hw, h => by
  simp only [dH]
  refine ⟨by simpa [VE] using h 0 e rfl, UB (fun x hx => hw x (by simp [hx])) fun i x hx => ?_⟩
  have := h (i + 1) x (by simpa using hx)
  rw [hw e (by simp), CX, ← Nat.aX1 k i] 
  exact this
where Nat.aX1 (k i : Nat) : (i + 1) * k = k + i * k := by rw [qT]; omega
theorem VX {a : Addr} {v : Value} (h : w.cell? a = some v) : a.spot = none ∧ a.block < w.heap.size ∧ cellAt w.heap a.block a.off = some v := by
 unfold World.cell? at h
 split at h
 · rename_i c t fr hb
   split at h
   · cases h
   · rename_i hs
     refine ⟨by simpa using hs, (Q5.1 hb).1, by simp [cellAt, hb, h]⟩
 · cases h
theorem aRM {a : Addr} {n : Nat} {cs : List Value} (hs : a.spot = none) (h : w.cells? 0 a n = some cs) : eY w.heap a.block a.off cs ∧ cs.length = n := by
 obtain ⟨_, hl, hc⟩ := World.cells?_some h
 refine ⟨?_, hl⟩
 have : ∀ (l : List Value) (k : Nat), (∀ i, i < l.length → w.cell? (a.add (k + i)) = l[i]?) → eY w.heap a.block (a.off + k) l := by
  intro l
  induction l with
  | nil => intro _ _; trivial
  | cons v l ih =>
   intro k hk
   refine ⟨?_, ?_⟩
   · have := (VX (hk 0 (by simp))).2.2
     obtain ⟨b, off, sp⟩ := a
     simp only at hs
     subst hs
     simpa [Addr.nY] using this
   · have := ih (k + 1) (fun i hi => by have := hk (i + 1) (by simp; omega); rw [show k + 1 + i = k + (i + 1) by omega]; simpa using this)
     simpa [CX] using this
 simpa using this cs 0 (fun i hi => by simpa using hc i (by omega))
theorem aN5 {t e n k : Nat} {α : Type} {av : α → AV} (ht : P.underlying t = some (.slice e)) (hk : P.cellsOf e = k) (B4 : 0 < k) (hw : ∀ a, (av a).width = k) (hr : ∀ m, m < n → Reads enc P w e m av) :
 Reads enc P w t n (fun l : List α => .slice (l.map av)) := by
 intro cs x h
 rcases DataW.trod_slice ht h with ⟨rfl, _⟩ | ⟨a, len, cap, elems, rest, m, hm, rfl, rfl, _, hl, A7, hlen, hel, hsp, _⟩
 · exact ⟨[], by simp only [aW]; unfold VC; exact .inl ⟨⟨_, rfl⟩, rfl⟩⟩
 obtain ⟨hrl, A6⟩ := hsp rfl
 rw [hk] at hel A6
 have get : ∀ i, i < cap → ∃ ds y, w.cells? 0 (a.add (i * k)) k = some ds ∧ DataW.trod enc P w 0 (fun _ => true) true m e ds = some y := by
  intro i hi
  have hb : ∃ y, (w.cells? 0 (a.add (i * k)) k).bind (DataW.trod enc P w 0 (fun _ => true) true m e) = some y := by
   by_cases hi' : i < len
   · exact ⟨elems[i]'(by omega), by rw [hel i hi']; simp [show i < elems.length by omega]⟩
   · have := A6 (i - len) (by omega)
     rw [show len + (i - len) = i by omega] at this
     exact ⟨rest[i - len]'(by omega), by rw [this]; simp [show i - len < rest.length by omega]⟩
  obtain ⟨y, hy⟩ := hb
  obtain ⟨ds, h1, h2⟩ := Option.bind_eq_some_iff.1 hy
  exact ⟨ds, y, h1, h2⟩
 by_cases hc0 : cap = 0
 · subst hc0
   obtain rfl : len = 0 := by omega
   exact ⟨[], by simp only [aW]; unfold VC; exact .inl ⟨⟨_, rfl⟩, rfl⟩⟩
 obtain ⟨ds0, _, hd0, _⟩ := get 0 (by omega)
 have aH5 : a.spot = none ∧ a.block < w.heap.size := by
  obtain ⟨_, hl0, hc⟩ := World.cells?_some hd0
  have := hc 0 B4
  have h0 : ds0[0]? = some (ds0[0]'(by omega)) := by simp [hl0, B4]
  rw [h0] at this
  have := VX this
  obtain ⟨b, off, sp⟩ := a
  simp only [Nat.zero_mul] at this
  cases sp with
  | none => exact ⟨rfl, by simpa [Addr.nY] using this.2.1⟩
  | some s => exact absurd this.1 (by simp [Addr.add])
 obtain ⟨b, off, sp⟩ := a
 simp only at aH5
 obtain ⟨rfl, hbl⟩ := aH5
 have val : ∀ i, i < len → ∃ v : α, VE w.heap q7 b (off + i * k) (av v) := by
  intro i hi
  obtain ⟨ds, y, h1, h2⟩ := get i (by omega)
  obtain ⟨v, hv⟩ := hr m (by omega) ds y h2
  obtain ⟨c1, c2⟩ := aRM (a := (⟨b, off, none⟩ : Addr).add (i * k)) (by simp [Addr.nY]) h1
  exact ⟨v, ds, by simpa [Addr.nY] using c1, by rw [hw]; exact c2, hv⟩
 have build : ∀ j, j ≤ len → ∃ l : List α, l.length = j ∧ ∀ (i : Nat) v, l[i]? = some v → VE w.heap q7 b (off + i * k) (av v) := by
  intro j
  induction j with
  | zero => intro _; exact ⟨[], rfl, by simp⟩
  | succ j ih =>
   intro hj
   obtain ⟨l, h1, h2⟩ := ih (by omega)
   obtain ⟨v, hv⟩ := val j (by omega)
   refine ⟨l ++ [v], by simp [h1], fun i u hi => ?_⟩
   rw [List.getElem?_append] at hi
   split at hi
   · exact h2 i u hi
   · rename_i hge
     have : i = j := by
      have := (gR.1 hi).1
      simp at this
      omega
     subst this
     simp [h1] at hi
     subst hi
     exact hv
 obtain ⟨l, h1, h2⟩ := build len (cY _)
 refine ⟨l, ?_⟩
 unfold VC
 refine .inr ⟨b, off, cap, by simp [h1], by simp [h1]; exact hl, A7, rfl, hbl, aUG hw l, UB (k := k) (by intro e he; simp only [cV] at he; obtain ⟨v, _, rfl⟩ := he; exact hw v) fun i e he => ?_⟩
 rw [oR] at he
 obtain ⟨v, hv, rfl⟩ := Option.map_eq_some_iff.1 he
 exact h2 i v hv
theorem TF {t : TypeId} {α : Type} {av : α → AV} {v : Value} {d : DataW H} {ps : List MemPlace} (hr : ∀ n, Reads enc P w t n av) (hag : ∀ a, (av a).isAgg = kW v) (h : DataW.Trod enc P w 0 (fun _ => true) true t v d ps) :
 ∃ a : α, aR w.heap q7 (av a) v := by
 obtain ⟨n, hn⟩ := h
 obtain ⟨a, ha⟩ := hr n _ _ hn
 refine ⟨a, ?_⟩
 have := hag a
 cases hq : av a <;> rw [hq] at ha this <;> first | trivial | exact ⟨this, ha⟩
theorem WG (hl : laidOutB P = true) {W W' : World} {sp : Nat → Bool} : ∀ {ts : List TypeId} {vs : List Value} {ds : List (DataW H)} {ps : List MemPlace}, (ts.all fun t => P.readableRec t && decide (t < P.types.size)) = true →
 DataW.TrodAll enc P W 0 (fun _ => true) true ts vs ds ps → (∀ x ∈ ps, W.sameAt W' x) → (∀ x ∈ ps, sp x.block = true) → DataW.TrodAll enc P W' 0 sp true ts vs ds ps
 | [], vs, ds, ps, _, h, _, _ => by
  cases vs <;> cases ds <;> simp [DataW.TrodAll] at h ⊢
  exact h
 | t :: ts, vs, ds, ps, ht, h, h1, h2 => by
  obtain ⟨v, vs', d, ds', p, q, rfl, rfl, rfl, hd, A6⟩ := trodAll_cons h
  simp only [kD, cM, bJ] at ht
  refine ⟨p, q, Go.WideElems.Trod_stays hl ht.1.1 ht.1.2 hd (fun x hx => h1 x (by simp [hx])) (fun x hx => h2 x (by simp [hx])), WG hl ht.2 A6 (fun x hx => h1 x (by simp [hx])) (fun x hx => h2 x (by simp [hx])), rfl⟩
theorem aUC {W W' : World} {st' : aB} (T : cB W.heap q7 W'.heap st') (s : fQ W W') : Below W.heap.size W W' :=
 ⟨s.1, s.2.1, s.2.2, T.size, fun k hk => (T.a8 k hk rfl).1⟩
theorem aVE {f : Func} {g : FuncId} {s : ChangeSpec} {W : World} {args : Array Value} {ds : List (DataW H)} {before : List MemPlace} {avs : List AV} {tb : TypeId}
 (hl : laidOutB P = true) (hts : (f.params.toList.all fun t => P.readableRec t && decide (t < P.types.size)) = true) (hrt : f.resultTypes = #[tb]) (htb : P.underlying tb = some .bool) (hsv : s.vars = [])
 (hW : DataW.Whole enc P f.params.toList [] false W args.toList ds [] before) (hfn : s.fn H ds = { results := [.lit (.bool true)], args := ds }) (aXY : c8 W.heap q7 avs args.toList)
 (hc : aD P g avs q7 (fun r _ => r = .bool true)) :
 Calls P g args W fun e W' => ∃ v, e = .returned v ∧ s.post enc P f false true false false W args v W' := by
 have hS : cX W.heap q7 := fun b o h => by cases h
 have := hc.2 W args.toList hS aXY
 simp only [xH] at this
 refine this.mono ?_
 rintro e W' ⟨v, r, st', rfl, hv, _, T, sm, rfl⟩
 refine ⟨v, rfl, ?_⟩
 have hB := aUC T sm
 rw [hv.xX]
 have hW' : DataW.Whole enc P f.params.toList s.vars false W args.toList ds [] before := by rw [hsv]; exact hW
 obtain ⟨p, q, hA, hV, rfl, hz, _⟩ := hW
 obtain ⟨_, rfl⟩ := trodVars_none hV
 have hlt : ∀ x ∈ p, x.block < W.heap.size := fun x hx => hW'.lt x (by simp [hx])
 have zH : ∀ (b : Nat) (sp : Nat → Bool) (hd : Bool), DataW.TrodAll enc P W' b sp hd f.resultTypes.toList ((Value.bool true).resultList f.resultTypes.size) (s.fn H (ds ++ [])).results [] := fun _ _ _ => by
  rw [iB, hfn, hrt]
  exact trodAll_mk1 (shut_bool htb true)
 have qM : ∀ sp : Nat → Bool, (∀ x ∈ p, sp x.block = true) → DataW.TrodAll enc P W' 0 sp true f.params.toList args.toList (s.fn H (ds ++ [])).args p := fun sp hsp => by
  rw [iB, hfn]
  exact WG hl hts hA (fun x hx => hB.same (hlt x hx)) hsp
 have aGE : ∀ sp : Nat → Bool, DataW.TrodVars enc P W' sp s.vars (s.fn H (ds ++ [])).vars [] := fun sp => by
  rw [iB, hfn, hsv]
  exact rfl
 refine ⟨ds, [], p ++ [], [], p, [], hW', zH _ _ _, qM _ (fun x hx => by simpa using hlt x hx), aGE _, World.keptBut_mono (fun x hx => ⟨hx, by simpa using hx⟩) (hB.frame (· ∈ p ++ [])), fun _ => ?_⟩
 refine ⟨ok_one hrt rfl (okWide_bool_mk htb true), _, _, ([] ++ p) ++ [], ⟨[] ++ p, [], trodAll_append (qM _ (fun _ _ => rfl)) (zH _ _ _), aGE _, rfl, ?_, ?_⟩, ?_⟩
 · intro b off hp
   have hp' : MemPlace.cell b off ∈ p := by simpa using hp
   rw [hB.frozen (p := ⟨b, off, none⟩) (hlt _ hp')]
   exact hz b off (by simpa using hp')
 · intro ha; cases ha
 · intro x hx _
   simpa using hx
end
end Go.AW

namespace Go.AW
open Go.Proofs.Tryz
section
variable {H : Type} {enc : TypeId × Value → H} {w : World}
theorem aYO : prog.cellsOf 5 = 1 := by kernel_rfl
theorem aQ4 (n : Nat) : Reads enc prog w 5 n iE := by
 intro cs x h
 obtain ⟨k, rfl, _, hw⟩ := DataW.trod_int kK h
 simp only [Lit.wf, IntKind.min, IntKind.max, IntKind.signed, IntKind.bits, cM, bJ] at hw
 refine ⟨⟨k.toNat, ?_⟩, ?_⟩
 · simp at hw; omega
 · have : (((k.toNat : Nat)) : Int) = k := by simp at hw; omega
   simp only [iE, this, VC]
theorem YB (n : Nat) : Reads enc prog w 57 n (fun l : List Bt => .slice (l.map iE)) :=
 aN5 z9 aYO (by omega) KF fun m _ => aQ4 m
end
section
variable {H : Type} {enc : TypeId × Value → H} {w : World}
theorem aKU {r : Reach} {b0 : Nat} {t e : TypeId} {v : Value} (ht : prog.underlying t = some (.slice e)) (h : Value.okWide prog w r b0 t v) : kW v = false := by
 cases v <;> first | rfl | (simp [Value.okWide, ht, Cell.okWide, Cell.ok] at h)
end
end Go.AW
