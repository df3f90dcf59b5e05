import Derived.Test.YtpficjlageaebaaGreatDoorSfak
import Derived.Test.YtpficjlageaebaaGreatDoorSfal
import Derived.Test.YtpficjlageaebaaGreatDoorSfai
import Derived.Test.YtpficjlageaebaaGreatDoorSfaf
import Derived.Lib.SliceRun
set_option linter.unusedSimpArgs false
set_option linter.unusedVariables false
set_option maxRecDepth 100000
namespace Go.AW
open Go.Proofs.Tryz
abbrev R8 := zi tI_3 (zi zI_3 (zi aX (zi tI_51 (zi zI_51 (zi dW (zi fW (zi fU (zi gA (zi tI_63 (zi zI_63 (zi bP (zi bQ (zi bT (zi bS (zi bR (zi tI_90 zI_90))))))))))))))))
theorem aBW (bs : List Bt) (c p : Nat) (st : aB) (hp : p + 5000 ≤ 1099511627776) (hR : dK st c bs p) : aD prog 127 [.ptr c 0] st (Dr bs c p 5000 st OP) := by
 refine aD.lH ?_
 refine wF [1000000] 1 func127 ntmps127 rfl rfl ?_
 intro _
 simp -implicitDefEqProofs only [aA, seval, R8]
 intro b hb
 have hbc := hR.ne hb
 refine (wT [3, 2, 4, 1] (by simp) (by simp) bs c p (by omega) _ (hR.aC hbc)).mono ?_
 rintro _ _ ⟨y, hy, rfl, rfl⟩
 obtain ⟨n, rfl, hn⟩ : ∃ n : Nat, y = n ∧ n ≤ 4 := by
  simp only [cY, dP, d4] at hy
  rcases hy with rfl | rfl | rfl | rfl
  · exact ⟨3, rfl, by omega⟩
  · exact ⟨2, rfl, by omega⟩
  · exact ⟨4, rfl, by omega⟩
  · exact ⟨1, rfl, by omega⟩
 have hpw : 4 ^ (n + 2) ≤ 4096 := by
  have := RJ (n := 4) (by omega) (show n + 2 ≤ 6 by omega)
  simpa using this
 simp -implicitDefEqProofs only [aA, seval]
 refine (US bs c n (p + 1) _ (by omega) (by omega) dK.new).mono ?_
 rintro _ _ ⟨p1, hp1, aS0, rfl, t1, ht1, rfl⟩
 rw [dE]
 simp -implicitDefEqProofs only [bO, bZ, d9 (bO _), d8 (aT _), aK, hbc, aA, seval, R8]
 refine ⟨st.aC c (cA bs p1), ?_, p1, by omega, by omega, rfl, t1, ht1, rfl⟩
 intro x
 by_cases e4 : x = b <;> by_cases ec : x = c <;> simp_all [aB.aC]
mutual
def Tm.sh (m : Int) : Tm → Tm
 | .mk k n s ts => .mk k (if k = 1 then IntKind.i64.wrap (n + m) else n) s (JD m ts)
def JD (m : Int) : List Tm → List Tm
 | [] => []
 | t :: ts => t.sh m :: JD m ts
end
theorem aJU (m : Int) : ∀ ts : List Tm, JD m ts = ts.map (Tm.sh m)
 | [] => rfl
 | t :: ts => by simp only [JD, bA, aJU m ts]
theorem Tm.LT (m k n : Int) (s : ByteArray) (ts : List Tm) : (Tm.mk k n s ts).sh m = .mk k (if k = 1 then IntKind.i64.wrap (n + m) else n) s (ts.map (Tm.sh m)) := by simp only [Tm.sh, aJU]
abbrev oN := zi tI_3 (zi zI_3 (zi aX (zi tI_9 (zi zI_9 (zi cH (zi tI_31 (zi zI_31 (zi aN (zi bE (zi bF (zi b9 (zi tI_63 (zi zI_63 (zi bP (zi bQ (zi bT (zi bS bR)))))))))))))))))
theorem OL (m : Int) : ∀ (t : Tm) (st : aB), t.small = true → aD prog 139 [t.av, .int .i64 m] st (fun r st' => r = (t.sh m).av ∧ st' = st)
 | .mk k n s ts, st, hsm => by
  obtain ⟨hlen, oK⟩ := Tm.oE hsm
  have IH := fun (x : Tm) (hx : x ∈ ts) st => OL m x st (oK x hx)
  refine aD.pO (aD.fin ?_)
  simp only [aV]
  refine wF [1000000, 5] 2 func139 ntmps139 rfl rfl ?_
  simp only [eG, AV.fits, eM, aF]
  intro ⟨_, _, _, hl, _⟩
  simp -implicitDefEqProofs only [aK, aA, ↓aU, seval, oN]
  intro b2 hb2 c hc
  have hne : c ≠ b2 := by rintro rfl; rw [aB.aP] at hc; cases hc
  have hn2 : st c = none := by rw [aB.aM st _ hne] at hc; exact hc
  have nA : b2 ≠ c := dB hne
  have hS : (st.aC b2 (.cells [AV.int .i64 0, AV.int .i64 0, AV.str ⟨#[]⟩, AV.fslice []])) b2 ≠ none := by rw [aB.aP]; simp
  refine aQ (fun h => ?_) (fun h => ?_)
  · simp only [bJ] at h
    simp -implicitDefEqProofs only [aK, dE, aA, seval, oN]
    refine eL (σ := Nat) [1000000] [1, 2, 4, 5] ts (fun i b => (((ts.take i).map (Tm.sh m)).map Tm.av ≠ [] → (aB.aC (st.aC b2 (.cells [AV.int .i64 0, AV.int .i64 0, AV.str ⟨#[]⟩, AV.fslice []])) c (.cells ([AV.int .i64 k, AV.int .i64 (IntKind.i64.wrap (n + m)), AV.str s] ++ [a9 4 b (((ts.take i).map (Tm.sh m)).map Tm.av)]))) b = none)) (fun i b => [(6, .int .i64 i)]) (fun i b => eU (st.aC b2 (.cells [AV.int .i64 0, AV.int .i64 0, AV.str ⟨#[]⟩, AV.fslice []])) c b [AV.int .i64 k, AV.int .i64 (IntKind.i64.wrap (n + m)), AV.str s] (((ts.take i).map (Tm.sh m)).map Tm.av)) (by decide +kernel)
     ⟨0, fun h => absurd rfl h, aO.mk (by simp -implicitDefEqProofs only [aA, ↓aU, seval])⟩ (fun i x b hx hlt bU hdr hinv => ?_) (fun b hge hinv => ?_)
    case refine_1 =>
     have hw := bK (n := (i : Int) + 1)
     have cV : (((ts.take i).map (Tm.sh m)).map Tm.av).length = i := by simp only [aF, d7]; omega
     have htk : (ts.take (i + 1)).map (Tm.sh m) = (ts.take i).map (Tm.sh m) ++ [(Tm.sh m) x] := by rw [fN, hx]; simp
     have hbo := eD hinv
     simp -implicitDefEqProofs only [aF, bU, aA, seval, oN]
     refine wP [(0, 1), (2, 1), (4, 1), (7, 1), (1, 2), (3, 2), (5, 1), (6, 2), (8, 2), (9, 1), (10, 0), (11, 1), (12, 0)] [0, 2, 4, 7, 1, 3, 5, 6, 8, 9, 11] mixed ?_
     simp -implicitDefEqProofs only [bL (av := Tm.av) aN hx (aH x), aT, aH, hbo, mK, gY, aA, seval, oN]
     refine jC (IH x (cW hx) _) ?_
     simp -implicitDefEqProofs only [aT, aH, cG, gY, aA, seval, oN]
     refine eO aN bE bF rfl rfl (fB (aH _) (bZ _)) (dR _) hinv (by simp only [cV, aS, a7]; omega) (by simp only [cV, aS, a7]; omega) (fun b' hb' => ?_)
     rw [show (((ts.take i).map (Tm.sh m)).map Tm.av) ++ [((Tm.sh m) x).av] = ((ts.take (i + 1)).map (Tm.sh m)).map Tm.av by rw [htk]; simp] at hb' ⊢
     obtain ⟨g1, g2, g3⟩ := nO hb'
     simp only [fF, eR] at g1 g3
     simp -implicitDefEqProofs only [g3, mB, eV, aK, g1, hw, aK, aA, seval, oN]
     exact ⟨b', g2, aO.mk (by simp -implicitDefEqProofs only [aA, seval])⟩
    have hbo := eD hinv
    rw [eS] at hinv hbo ⊢
    simp -implicitDefEqProofs only [aF, hge, aA, seval, oN]
    simp -implicitDefEqProofs only [hbo, aK, aA, seval, oN]
    have h1 := gF hinv hS nA
    rw [aB.aP] at h1
    simp -implicitDefEqProofs only [h1, eV, aA, seval]
    obtain ⟨h2, h3⟩ := j8 (o := .cells [AV.int .i64 k, AV.int .i64 (IntKind.i64.wrap (n + m)), AV.str s, a9 4 b ((ts.map (Tm.sh m)).map Tm.av)]) hinv hS nA
    refine ⟨b, _, _, h2, h3, iB _, ⟨4, dR _⟩, ?_, (((aL.refl _).aC hb2).aC hn2).aC hb2⟩
    simp only [fM, bA, aW, eC, iP, iD, ← aV]
    rw [Tm.LT, aG h]
  · simp only [dH] at h
    simp -implicitDefEqProofs only [aA, seval]
    refine eL (σ := Nat) [1000000] [1, 2, 4, 5] ts (fun i b => (((ts.take i).map (Tm.sh m)).map Tm.av ≠ [] → (aB.aC (st.aC b2 (.cells [AV.int .i64 0, AV.int .i64 0, AV.str ⟨#[]⟩, AV.fslice []])) c (.cells ([AV.int .i64 k, AV.int .i64 (n), AV.str s] ++ [a9 4 b (((ts.take i).map (Tm.sh m)).map Tm.av)]))) b = none)) (fun i b => [(6, .int .i64 i)]) (fun i b => eU (st.aC b2 (.cells [AV.int .i64 0, AV.int .i64 0, AV.str ⟨#[]⟩, AV.fslice []])) c b [AV.int .i64 k, AV.int .i64 (n), AV.str s] (((ts.take i).map (Tm.sh m)).map Tm.av)) (by decide +kernel)
     ⟨0, fun h => absurd rfl h, aO.mk (by simp -implicitDefEqProofs only [aA, ↓aU, seval])⟩ (fun i x b hx hlt bU hdr hinv => ?_) (fun b hge hinv => ?_)
    case refine_1 =>
     have hw := bK (n := (i : Int) + 1)
     have cV : (((ts.take i).map (Tm.sh m)).map Tm.av).length = i := by simp only [aF, d7]; omega
     have htk : (ts.take (i + 1)).map (Tm.sh m) = (ts.take i).map (Tm.sh m) ++ [(Tm.sh m) x] := by rw [fN, hx]; simp
     have hbo := eD hinv
     simp -implicitDefEqProofs only [aF, bU, aA, seval, oN]
     refine wP [(0, 1), (2, 1), (4, 1), (7, 1), (1, 2), (3, 2), (5, 1), (6, 2), (8, 2), (9, 1), (10, 0), (11, 1), (12, 0)] [0, 2, 4, 7, 1, 3, 5, 6, 8, 9, 11] mixed ?_
     simp -implicitDefEqProofs only [bL (av := Tm.av) aN hx (aH x), aT, aH, hbo, mK, gY, aA, seval, oN]
     refine jC (IH x (cW hx) _) ?_
     simp -implicitDefEqProofs only [aT, aH, cG, gY, aA, seval, oN]
     refine eO aN bE bF rfl rfl (fB (aH _) (bZ _)) (dR _) hinv (by simp only [cV, aS, a7]; omega) (by simp only [cV, aS, a7]; omega) (fun b' hb' => ?_)
     rw [show (((ts.take i).map (Tm.sh m)).map Tm.av) ++ [((Tm.sh m) x).av] = ((ts.take (i + 1)).map (Tm.sh m)).map Tm.av by rw [htk]; simp] at hb' ⊢
     obtain ⟨g1, g2, g3⟩ := nO hb'
     simp only [fF, eR] at g1 g3
     simp -implicitDefEqProofs only [g3, mB, eV, aK, g1, hw, aK, aA, seval, oN]
     exact ⟨b', g2, aO.mk (by simp -implicitDefEqProofs only [aA, seval])⟩
    have hbo := eD hinv
    rw [eS] at hinv hbo ⊢
    simp -implicitDefEqProofs only [aF, hge, aA, seval, oN]
    simp -implicitDefEqProofs only [hbo, aK, aA, seval, oN]
    have h1 := gF hinv hS nA
    rw [aB.aP] at h1
    simp -implicitDefEqProofs only [h1, eV, aA, seval]
    obtain ⟨h2, h3⟩ := j8 (o := .cells [AV.int .i64 k, AV.int .i64 (n), AV.str s, a9 4 b ((ts.map (Tm.sh m)).map Tm.av)]) hinv hS nA
    refine ⟨b, _, _, h2, h3, iB _, ⟨4, dR _⟩, ?_, (((aL.refl _).aC hb2).aC hn2).aC hb2⟩
    simp only [fM, bA, aW, eC, iP, iD, ← aV]
    rw [Tm.LT, aE h]
termination_by t => SizeOf.sizeOf t
decreasing_by have := List.sizeOf_lt_of_mem hx; simp only [Tm.mk.sizeOf_spec]; omega
abbrev zE := zi tI_3 (zi zI_3 (zi aX (zi tI_9 (zi zI_9 (zi cH (zi tI_31 (zi zI_31 (zi aN (zi bE (zi bF (zi b9 (zi tI_63 (zi zI_63 (zi bP (zi bQ (zi bT (zi bS bR)))))))))))))))))
theorem aQC (k n : Int) (s : ByteArray) (ts : List Tm) (st : aB) (hsm : (Tm.mk k n s ts).small = true) : aD prog 81 [(Tm.mk k n s ts).av] st (fun r st' => ∃ b, r = .agg [.int .i64 k, .int .i64 n, .str s, a9 4 b (ts.map Tm.av)] ∧ st' = aZ st b (ts.map Tm.av) ∧ (ts.map Tm.av ≠ [] → st b = none)) := by
 obtain ⟨hlen, oK⟩ := Tm.oE hsm
 have IH := fun (x : Tm) (hx : x ∈ ts) st => yR x st (oK x hx)
 refine aD.lH ?_
 simp only [aV]
 refine wF [] 1 func81 ntmps81 rfl rfl ?_
 simp only [eG, AV.fits, eM, aF]
 intro ⟨_, _, _, hl, _⟩
 simp -implicitDefEqProofs only [aA, seval, zE]
 intro b2 hb2 c hc
 have hne : c ≠ b2 := by rintro rfl; rw [aB.aP] at hc; cases hc
 have hn2 : st c = none := by rw [aB.aM st _ hne] at hc; exact hc
 simp -implicitDefEqProofs only [aK, aA, seval]
 refine eL (σ := Nat) [] [1, 2, 3] ts (fun i b => (((ts.take i).map (fun y => y)).map Tm.av ≠ [] → (aB.aC (st.aC b2 (.cells [AV.int .i64 0, AV.int .i64 0, AV.str ⟨#[]⟩, AV.fslice []])) c (.cells ([AV.int .i64 k, AV.int .i64 n, AV.str s] ++ [a9 4 b (((ts.take i).map (fun y => y)).map Tm.av)]))) b = none)) (fun i b => [(4, .int .i64 i)]) (fun i b => eU (st.aC b2 (.cells [AV.int .i64 0, AV.int .i64 0, AV.str ⟨#[]⟩, AV.fslice []])) c b [AV.int .i64 k, AV.int .i64 n, AV.str s] (((ts.take i).map (fun y => y)).map Tm.av)) (by decide +kernel)
  ⟨0, fun h => absurd rfl h, aO.mk (by simp -implicitDefEqProofs only [aA, ↓aU, seval])⟩ (fun i x b hx hlt bU hdr hinv => ?_) (fun b hge hinv => ?_)
 case refine_1 =>
  have hw := bK (n := (i : Int) + 1)
  have cV : (((ts.take i).map (fun y => y)).map Tm.av).length = i := by simp only [aF, d7]; omega
  have htk : (ts.take (i + 1)).map (fun y => y) = (ts.take i).map (fun y => y) ++ [(fun y => y) x] := by rw [fN, hx]; simp
  have hbo := eD hinv
  simp -implicitDefEqProofs only [aF, bU, aA, seval, zE]
  refine wP [(0, 1), (2, 1), (4, 1), (1, 2), (3, 2), (5, 1), (6, 2), (7, 2), (8, 1), (9, 0), (10, 1), (11, 0)] [0, 2, 4, 1, 3, 5, 6, 7, 8, 10] mixed ?_
  simp -implicitDefEqProofs only [bL (av := Tm.av) aN hx (aH x), aT, aH, hbo, mK, gY, aA, seval, zE]
  refine jC (IH x (cW hx) _) ?_
  simp -implicitDefEqProofs only [aT, aH, cG, gY, aA, seval, zE]
  refine eO aN bE bF rfl rfl (fB (aH _) (bZ _)) (dR _) hinv (by simp only [cV, aS, a7]; omega) (by simp only [cV, aS, a7]; omega) (fun b' hb' => ?_)
  rw [show (((ts.take i).map (fun y => y)).map Tm.av) ++ [((fun y => y) x).av] = ((ts.take (i + 1)).map (fun y => y)).map Tm.av by rw [htk]; simp] at hb' ⊢
  obtain ⟨g1, g2, g3⟩ := nO hb'
  simp only [fF, eR] at g1 g3
  simp -implicitDefEqProofs only [g3, mB, eV, aK, g1, hw, aA, seval, zE]
  exact ⟨b', g2, aO.mk (by simp -implicitDefEqProofs only [aA, seval])⟩
 have hbo := eD hinv
 rw [eS] at hinv hbo ⊢
 simp -implicitDefEqProofs only [aF, hge, aA, seval, zE]
 simp -implicitDefEqProofs only [hbo, aA, seval, zE]
 have nA : b2 ≠ c := dB hne
 have hS : (st.aC b2 (.cells [AV.int .i64 0, AV.int .i64 0, AV.str ⟨#[]⟩, AV.fslice []])) b2 ≠ none := by rw [aB.aP]; simp
 have h1 := gF hinv hS nA
 rw [aB.aP] at h1
 simp -implicitDefEqProofs only [h1, eV, aK, aA, seval]
 obtain ⟨h2, h3⟩ := j8 (o := .cells [AV.int .i64 k, AV.int .i64 n, AV.str s, a9 4 b ((ts.map fun y => y).map Tm.av)]) hinv hS nA
 simp only [fF, eR] at h2 h3
 rw [h2]
 have D : ∀ o o' o'', aL (((st.aC b2 o).aC c o').aC b2 o'') st := fun o o' o'' => (((aL.refl _).aC hb2).aC hn2).aC hb2
 simp only [List.map_id'] at h3 ⊢
 exact ⟨_, QE (D _ _ _), b, rfl, rfl, fun h => (D _ _ _ b).1 (h3 h)⟩
abbrev lN := zi tI_3 (zi zI_3 (zi aX (zi tI_9 (zi zI_9 (zi cH (zi tI_31 (zi zI_31 (zi aN (zi bE (zi bF (zi b9 (zi tI_51 (zi zI_51 (zi dW (zi fW (zi fU (zi gA (zi tI_63 (zi zI_63 (zi bP (zi bQ (zi bT (zi bS (zi bR (zi tI_90 (zi zI_90 (zi tI_125 (zi zI_125 (zi iS (zi lR (zi lQ mF)))))))))))))))))))))))))))))))
theorem N6 (bs : List Bt) (c p : Nat) (t : Tm) (hsm : t.small = true) (st : aB) (hp : p + 10 ≤ 1099511627776) (hR : dK st c bs p) :
 aD prog 96 [.ptr c 0, t.av] st (Dr bs c p 10 st (fun r => ∃ t : Tm, r = t.av)) := by
 obtain ⟨k, n, s, ts⟩ := t
 refine aD.lH (aD.fin ?_)
 refine wF [1000000, 5] 2 func96 ntmps96 rfl rfl ?_
 intro _
 simp -implicitDefEqProofs only [aA, seval, lN]
 intro b4 h4
 have h4c := hR.ne h4
 have hR' := fun o => hR.aC (o := o) h4c
 refine (aQC k n s ts _ hsm).mono ?_
 rintro _ _ ⟨b, rfl, rfl, hb⟩
 simp -implicitDefEqProofs only [eV, aK, aA, ↓aU, seval, lN]
 intro b5 h5
 obtain ⟨hn5, hb5⟩ := A3 h5
 have h54 : b5 ≠ b4 := by rintro rfl; rw [aB.aP] at hn5; cases hn5
 have QN : st b5 = none := by rw [aB.aM _ _ h54] at hn5; exact hn5
 have h5c : b5 ≠ c := hR.ne QN
 have hW4 : ∀ q, ((st.aC b4 (.cells [.int .i64 0, .int .i64 0, .str ⟨#[]⟩, .fslice []])).aC c (cA bs q)) b4 = some (.cells [.int .i64 0, .int .i64 0, .str ⟨#[]⟩, .fslice []]) := fun q => by rw [aB.aM _ _ h4c, aB.aP]
 have hdr : ∀ q Z Y, aL ((((st.aC b4 (.cells [.int .i64 0, .int .i64 0, .str ⟨#[]⟩, .fslice []])).aC c (cA bs q)).aC b5 Z).aC b4 Y) (st.aC c (cA bs q)) := fun q Z Y x => by
  by_cases e4 : x = b4 <;> by_cases ec : x = c <;> by_cases e5 : x = b5 <;> simp_all [aB.aC]
 have e0 : (aZ (st.aC b4 (.cells [.int .i64 0, .int .i64 0, .str ⟨#[]⟩, .fslice []])) b (ts.map Tm.av)).aC b5 (.cells [.int .i64 k, .int .i64 n, .str s, a9 4 b (ts.map Tm.av)]) = eU (st.aC b4 (.cells [.int .i64 0, .int .i64 0, .str ⟨#[]⟩, .fslice []])) b5 b [.int .i64 k, .int .i64 n, .str s] (ts.map Tm.av) := by
  rw [oJ hb5]; try rfl
 have i0 : ts.map Tm.av ≠ [] → ((st.aC b4 (.cells [.int .i64 0, .int .i64 0, .str ⟨#[]⟩, .fslice []])).aC b5 (.cells ([.int .i64 k, .int .i64 n, .str s] ++ [a9 4 b (ts.map Tm.av)]))) b = none := fun h => by
  rw [aB.aM _ _ (dB (hb5 h))]; exact hb h
 have hUc : (st.aC b4 (.cells [.int .i64 0, .int .i64 0, .str ⟨#[]⟩, .fslice []])) c ≠ none := by rw [hR' _]; simp
 rw [e0]
 have hRk : dK (eU (st.aC b4 (.cells [.int .i64 0, .int .i64 0, .str ⟨#[]⟩, .fslice []])) b5 b [.int .i64 k, .int .i64 n, .str s] (ts.map Tm.av)) c bs p := by
  unfold dK
  rw [gF i0 hUc h5c.symm]
  exact hR' _
 refine (mY bs c p (by omega) 50 (by omega) (by omega) _ hRk).mono ?_
 rintro _ _ ⟨j, hj, rfl, rfl⟩
 obtain ⟨e1, i1⟩ := pU (o := cA bs (p + 1)) i0 hUc h5c.symm
 rw [e1]
 have hWc : ∀ q, ((st.aC b4 (.cells [.int .i64 0, .int .i64 0, .str ⟨#[]⟩, .fslice []])).aC c (cA bs q)) c ≠ none := fun q => by rw [aB.aP]; simp
 have hRq : ∀ q (hd l : List AV), (l ≠ [] → (((st.aC b4 (.cells [.int .i64 0, .int .i64 0, .str ⟨#[]⟩, .fslice []])).aC c (cA bs q)).aC b5 (.cells (hd ++ [a9 4 b l]))) b = none) → dK (eU ((st.aC b4 (.cells [.int .i64 0, .int .i64 0, .str ⟨#[]⟩, .fslice []])).aC c (cA bs q)) b5 b hd l) c bs q := fun q hd l hi => by
  unfold dK
  rw [gF hi (hWc q) h5c.symm, aB.aP]
  try rfl
 clear e0 i0 hRk e1
 simp -implicitDefEqProofs only [aA, seval]
 refine aQ (fun h0 => ?_) (fun h0 => ?_)
 · simp -implicitDefEqProofs only [aA, seval, lN]
   refine (wT [0, 4, 1, 2, 3] (by simp) (by simp) bs c (p + 1) (by omega) _ (hRq _ _ _ i1)).mono ?_
   rintro _ _ ⟨y, _, rfl, rfl⟩
   obtain ⟨e1, i1⟩ := pU (o := cA bs (p + 1 + 1)) i1 (hWc _) h5c.symm
   rw [dE] at e1 i1
   rw [e1]
   have hbo := eD i1
   obtain ⟨e2, i1⟩ := DI (hd' := [.int .i64 y, .int .i64 n, .str s]) i1
   simp only [fF, eR] at e2
   simp -implicitDefEqProofs only [aK, hbo, aA, seval, lN]
   rw [e2]
   have hbo := eD i1
   have h4o := gF i1 (x := b4) (by rw [hW4]; simp) h54.symm
   rw [hW4] at h4o
   simp -implicitDefEqProofs only [h4o, eV, aA, seval]
   obtain ⟨g5, g6⟩ := j8 (o := .cells [.int .i64 (y), .int .i64 (n), .str (s), a9 4 b ((ts).map Tm.av)]) i1 (show ((st.aC b4 (.cells [.int .i64 0, .int .i64 0, .str ⟨#[]⟩, .fslice []])).aC c (cA bs (p + 1 + 1))) b4 ≠ none by rw [hW4]; simp) h54.symm
   refine ⟨b, _, _, g5, g6, iB _, ⟨4, dR _⟩, st.aC c (cA bs (p + 1 + 1)), hdr _ _ _, p + 1 + 1, by omega, by omega, rfl, .mk (y) (n) (s) (ts), ?_⟩
   simp only [fM, bA, aW, eC, iP, iD, aV]
 simp -implicitDefEqProofs only [aA, seval]
 refine aQ (fun h0 => ?_) (fun h0 => ?_)
 · simp -implicitDefEqProofs only [aA, seval, lN]
   refine (wT [26, 1000, -1000, -1, 1] (by simp) (by simp) bs c (p + 1) (by omega) _ (hRq _ _ _ i1)).mono ?_
   rintro _ _ ⟨y, _, rfl, rfl⟩
   obtain ⟨e1, i1⟩ := pU (o := cA bs (p + 1 + 1)) i1 (hWc _) h5c.symm
   rw [dE] at e1 i1
   rw [e1]
   have hbo := eD i1
   obtain ⟨e2, i1⟩ := DI (hd' := [.int .i64 k, .int .i64 y, .str s]) i1
   simp only [fF, eR] at e2
   simp -implicitDefEqProofs only [aK, hbo, aA, seval, lN]
   rw [e2]
   have hbo := eD i1
   have h4o := gF i1 (x := b4) (by rw [hW4]; simp) h54.symm
   rw [hW4] at h4o
   simp -implicitDefEqProofs only [h4o, eV, aA, seval]
   obtain ⟨g5, g6⟩ := j8 (o := .cells [.int .i64 (k), .int .i64 (y), .str (s), a9 4 b ((ts).map Tm.av)]) i1 (show ((st.aC b4 (.cells [.int .i64 0, .int .i64 0, .str ⟨#[]⟩, .fslice []])).aC c (cA bs (p + 1 + 1))) b4 ≠ none by rw [hW4]; simp) h54.symm
   refine ⟨b, _, _, g5, g6, iB _, ⟨4, dR _⟩, st.aC c (cA bs (p + 1 + 1)), hdr _ _ _, p + 1 + 1, by omega, by omega, rfl, .mk (k) (y) (s) (ts), ?_⟩
   simp only [fM, bA, aW, eC, iP, iD, aV]
 simp -implicitDefEqProofs only [aA, seval]
 refine aQ (fun h0 => ?_) (fun h0 => ?_)
 · simp -implicitDefEqProofs only [aA, seval, lN]
   refine (D5 [⟨#[]⟩, ⟨#[88]⟩, ⟨#[116, 111, 111, 108, 111, 110, 103]⟩, ⟨#[195, 169]⟩, ⟨#[97]⟩] (by simp) (by simp) bs c (p + 1) (by omega) _ (hRq _ _ _ i1)).mono ?_
   rintro _ _ ⟨y, _, rfl, rfl⟩
   obtain ⟨e1, i1⟩ := pU (o := cA bs (p + 1 + 1)) i1 (hWc _) h5c.symm
   rw [dE] at e1 i1
   rw [e1]
   have hbo := eD i1
   obtain ⟨e2, i1⟩ := DI (hd' := [.int .i64 k, .int .i64 n, .str y]) i1
   simp only [fF, eR] at e2
   simp -implicitDefEqProofs only [aK, hbo, aA, seval, lN]
   rw [e2]
   have hbo := eD i1
   have h4o := gF i1 (x := b4) (by rw [hW4]; simp) h54.symm
   rw [hW4] at h4o
   simp -implicitDefEqProofs only [h4o, eV, aA, seval]
   obtain ⟨g5, g6⟩ := j8 (o := .cells [.int .i64 (k), .int .i64 (n), .str (y), a9 4 b ((ts).map Tm.av)]) i1 (show ((st.aC b4 (.cells [.int .i64 0, .int .i64 0, .str ⟨#[]⟩, .fslice []])).aC c (cA bs (p + 1 + 1))) b4 ≠ none by rw [hW4]; simp) h54.symm
   refine ⟨b, _, _, g5, g6, iB _, ⟨4, dR _⟩, st.aC c (cA bs (p + 1 + 1)), hdr _ _ _, p + 1 + 1, by omega, by omega, rfl, .mk (k) (n) (y) (ts), ?_⟩
   simp only [fM, bA, aW, eC, iP, iD, aV]
 simp -implicitDefEqProofs only [aA, seval]
 refine aQ (fun h0 => ?_) (fun h0 => ?_)
 · simp -implicitDefEqProofs only [aA, seval]
   refine gZ (σ := Nat × List Tm) [1000000, 5] [4, 5, 10] (fun x => (x.2.map Tm.av ≠ [] → (aB.aC ((st.aC b4 (.cells [.int .i64 0, .int .i64 0, .str ⟨#[]⟩, .fslice []])).aC c (cA bs (p + 1))) b5 (.cells ([.int .i64 k, .int .i64 n, .str s] ++ [a9 4 x.1 (x.2.map Tm.av)]))) x.1 = none)) (fun _ => []) (fun x => eU ((st.aC b4 (.cells [.int .i64 0, .int .i64 0, .str ⟨#[]⟩, .fslice []])).aC c (cA bs (p + 1))) b5 x.1 [.int .i64 k, .int .i64 n, .str s] (x.2.map Tm.av)) (fun x => 5 - x.2.length) (by decide +kernel) ⟨(b, ts), i1, aO.mk (by simp -implicitDefEqProofs only [aA, seval])⟩ ?_
   rintro ⟨b, acc⟩ i1
   simp only at i1
   have hbo := eD i1
   have haL := sW (w := 4) (b := b) (l := acc.map Tm.av) b9
   simp -implicitDefEqProofs only [hbo, mK, haL, aF, aA, seval, lN]
   refine aQ (fun h1 => ?_) (fun h1 => ?_)
   · simp only [bJ] at h1
     have cV : (acc.map Tm.av).length ≤ 4 := by rw [aF]; omega
     simp -implicitDefEqProofs only [aA, seval]
     refine CJ [(0, 1), (1, 1), (2, 0), (3, 1), (4, 0), (5, 1), (6, 2)] [0, 1, 3, 5] (dX.aC b5 (.cells [.int .i64 k, .int .i64 n, .str s, a9 4 b (acc.map Tm.av)])) mixed (by decide +kernel) (by decide +kernel) (by decide +kernel) rfl (iA hbo) ?_
     simp -implicitDefEqProofs only [mK, aA, seval, lN]
     refine (BJ 1 _).to ?_
     simp -implicitDefEqProofs only [aT, aH, cG, aA, seval, lN]
     refine ⟨iA hbo, ?_⟩
     refine eO aN bE bF rfl rfl (fB (aH _) (bZ _)) (dR _) i1 (by simp only [aS, a7]; omega) (by simp only [aS, a7]; omega) (fun b' hb' => ?_)
     rw [show acc.map Tm.av ++ [(Tm.mk 2 1 ⟨#[]⟩ []).av] = (acc ++ [Tm.mk 2 1 ⟨#[]⟩ []]).map Tm.av by simp] at hb' ⊢
     obtain ⟨g1, g2, g3⟩ := nO hb'
     simp only [fF, eR] at g1 g3
     simp -implicitDefEqProofs only [aK, eV, mB, aA, seval, lN]
     refine ⟨iA g3, ?_⟩
     simp -implicitDefEqProofs only [g3, g1, aA, seval]
     refine ⟨(b', acc ++ [Tm.mk 2 1 ⟨#[]⟩ []]), by simp only [dQ, aS, a7]; omega, g2, aO.mk (by simp -implicitDefEqProofs only [aA, seval])⟩
   · simp -implicitDefEqProofs only [aK, hbo, eV, aA, seval, lN]
     have hbo := eD i1
     have h4o := gF i1 (x := b4) (by rw [hW4]; simp) h54.symm
     rw [hW4] at h4o
     simp -implicitDefEqProofs only [h4o, aA, seval]
     obtain ⟨g5, g6⟩ := j8 (o := .cells [.int .i64 (k), .int .i64 (n), .str (s), a9 4 b ((acc).map Tm.av)]) i1 (show ((st.aC b4 (.cells [.int .i64 0, .int .i64 0, .str ⟨#[]⟩, .fslice []])).aC c (cA bs (p + 1))) b4 ≠ none by rw [hW4]; simp) h54.symm
     refine ⟨b, _, _, g5, g6, iB _, ⟨4, dR _⟩, st.aC c (cA bs (p + 1)), hdr _ _ _, p + 1, by omega, by omega, rfl, .mk (k) (n) (s) (acc), ?_⟩
     simp only [fM, bA, aW, eC, iP, iD, aV]
 simp -implicitDefEqProofs only [aA, seval]
 refine aQ (fun h0 => ?_) (fun h0 => ?_)
 · simp -implicitDefEqProofs only [aA, seval]
   have hW5 : ∀ Z, ((st.aC b4 (.cells [.int .i64 0, .int .i64 0, .str ⟨#[]⟩, .fslice []])).aC c (cA bs (p + 1))).aC b5 Z b4 = some (.cells [.int .i64 0, .int .i64 0, .str ⟨#[]⟩, .fslice []]) := fun Z => by rw [aB.aM _ _ h54.symm, hW4]
   refine eL (σ := Tm) [1000000, 5] [4, 5] (List.range 30) (fun _ _ => True) (fun i _ => [(6, .int .i64 i)]) (fun _ u => ((st.aC b4 (.cells [.int .i64 0, .int .i64 0, .str ⟨#[]⟩, .fslice []])).aC c (cA bs (p + 1))).aC b5 (.cells u.av.cells)) (by decide +kernel)
    ⟨.mk k n s ts, trivial, ?_⟩ (fun i x u hx hlt bU yW _ => ?_) (fun u hge _ => ?_)
   · rw [aV]
     exact (aR7 i1 (iB _) ⟨4, dR _⟩).trans (fL.j7 (by simp -implicitDefEqProofs only [aA, ↓aU, seval]))
   · rw [K8] at hlt
     have aOL : decide ((i : Int) < 30) = true := by simp; omega
     have hw := bK (n := (i : Int) + 1)
     simp -implicitDefEqProofs only [aOL, bO, aT, aH, cG, d9 (bO _), d8 (aT _), aA, seval, lN]
     refine (rH ⟨#[115]⟩ [u] (by simp) _).to ?_
     simp -implicitDefEqProofs only [dE, aK, hw, bO, bZ, aA, seval, lN]
     exact ⟨.mk 3 0 ⟨#[115]⟩ [u], aO.mk (by simp -implicitDefEqProofs only [aA, seval])⟩
   · have aMZ : decide ((29 : Int) + 1 < 30) = false := rfl
     have h4o := hW5 (.cells u.av.cells)
     simp -implicitDefEqProofs only [K8, aK, h4o, bO, bZ, d9 (bO _), d8 (aT _), aA, ↓aU, seval, lN]
     exact ⟨0, [], _, rfl, by simp, by simp, ⟨4, by simp⟩, st.aC c (cA bs (p + 1)), hdr _ _ _, p + 1, by omega, by omega, rfl, u, Tm.u9 u 0⟩
 · simp -implicitDefEqProofs only [aA, seval, lN]
   have hbo := eD i1
   have h4o := gF i1 (x := b4) (by rw [hW4]; simp) h54.symm
   rw [hW4] at h4o
   simp -implicitDefEqProofs only [aK, hbo, h4o, eV, aA, seval, lN]
   obtain ⟨g5, g6⟩ := j8 (o := .cells [.int .i64 (k), .int .i64 (n), .str (s), a9 4 b ((ts).map Tm.av)]) i1 (show ((st.aC b4 (.cells [.int .i64 0, .int .i64 0, .str ⟨#[]⟩, .fslice []])).aC c (cA bs (p + 1))) b4 ≠ none by rw [hW4]; simp) h54.symm
   refine ⟨b, _, _, g5, g6, iB _, ⟨4, dR _⟩, st.aC c (cA bs (p + 1)), hdr _ _ _, p + 1, by omega, by omega, rfl, .mk (k) (n) (s) (ts), ?_⟩
   simp only [fM, bA, aW, eC, iP, iD, aV]
abbrev aEP := zi tI_3 (zi zI_3 (zi aX (zi tI_29 (zi zI_29 (zi gT (zi j0 (zi jZ (zi kM (zi tI_76 (zi zI_76 (zi lO (zi lU lM))))))))))))
theorem aN6 (l : List Cl) (g : FuncId) (dS : List AV) (p : Cl → Bool) (st : aB) (hc : ∀ x ∈ l, aD prog g ([bY x] ++ dS) st (fun r st' => r = .bool (p x) ∧ st' = st)) :
 aD prog 159 [.slice (l.map bY), .func g dS] st (fun r st' => ∃ j : Int, r = .int .i64 j ∧ decide (0 ≤ j) = l.any p ∧ st' = st) := by
 refine wF [] 2 func159 ntmps159 rfl rfl ?_
 simp only [eG, AV.fits, eM, aF]
 intro ⟨hl, _⟩
 simp -implicitDefEqProofs only [aF, aA, seval, aEP]
 refine eL (σ := Unit) [] [0, 1, 7] l (fun i _ => (l.drop i).any p = l.any p) (fun i _ => [(8, .int .i64 i)]) (fun _ _ => st) (by decide +kernel) ⟨(), rfl, aO.mk (by simp -implicitDefEqProofs only [aA, ↓aU, seval])⟩ (fun i x _ hx hlt bU hdr hinv => ?_) (fun _ hge hinv => ?_)
 case refine_2 =>
  simp -implicitDefEqProofs only [hge, aA, seval]
  rw [kH] at hinv
  exact ⟨-1, rfl, by rw [← hinv]; try rfl⟩
 rw [hdr, DE] at hinv
 have hw := bK (n := (i : Int) + 1)
 simp -implicitDefEqProofs only [bU, bL (av := bY) gT hx (n9 x), A5, n9, aA, seval, aEP]
 refine (hc x (cW hx)).to ?_
 simp -implicitDefEqProofs only [aA, seval]
 refine aQ (fun h => ?_) (fun h => ?_)
 · simp -implicitDefEqProofs only [aA, seval]
   exact ⟨i, rfl, by rw [← hinv, h]; simp⟩
 · rw [h, qX] at hinv
   simp -implicitDefEqProofs only [aA, seval]
   exact ⟨(), hinv, aO.mk (by simp -implicitDefEqProofs only [hw, aA, seval])⟩
theorem aN1 (l : List Cl) (g : FuncId) (dS : List AV) (p : Cl → Bool) (st : aB) (hc : ∀ x ∈ l, aD prog g ([bY x] ++ dS) st (fun r st' => r = .bool (p x) ∧ st' = st)) :
 aD prog 118 [.slice (l.map bY), .func g dS] st (fun r st' => r = .bool (l.any p) ∧ st' = st) := by
 refine wF [] 2 func118 ntmps118 rfl rfl ?_
 intro _
 simp -implicitDefEqProofs only [aA, seval]
 refine (aN6 l g dS p st hc).mono ?_
 rintro _ _ ⟨j, rfl, hj, rfl⟩
 simp -implicitDefEqProofs only [hj, aA, seval]
abbrev PH := zi tI_4 (zi zI_4 (zi cD (zi tI_31 (zi zI_31 (zi aN (zi bE (zi bF (zi b9 (zi tI_63 (zi zI_63 (zi bP (zi bQ (zi bT (zi bS (zi bR (zi tI_76 (zi zI_76 (zi lO (zi lU lM)))))))))))))))))))
theorem aT4 (c : Cl) (st : aB) : aD prog 120 [bY c] st (fun r st' => r = .bool (kV c) ∧ st' = st) := by
 obtain ⟨⟨k, n, s, ts⟩, b⟩ := c
 have hv := fun st => W7 (.mk k n s ts) st
 have hp := fun st => aLM k n s ts st
 simp only [aV] at hv hp
 have hg := fun st => aKG b st
 simp only [gG, kV, N8]
 simp only [lW] at hg
 generalize (Tm.mk k n s ts).valid = v at *
 refine wF [1000000] 1 func120 ntmps120 rfl rfl ?_
 intro _
 simp -implicitDefEqProofs only [aA, seval, PH]
 refine (hv _).to ?_
 cases v with
 | false => simp -implicitDefEqProofs only [gN, aA, seval]
 | true =>
  simp -implicitDefEqProofs only [iV, eT, aA, seval, PH]
  refine (hp _).to ?_
  cases hpl : pS k s (ts.length : Int) with
  | false => simp -implicitDefEqProofs only [gN, aA, seval]
  | true =>
   simp -implicitDefEqProofs only [iV, eT, aA, seval, PH]
   refine (hg _).to ?_
   simp -implicitDefEqProofs only [aA, seval]
abbrev aON := zi tI_4 (zi zI_4 (zi cD (zi tI_76 (zi zI_76 (zi lO (zi lU lM))))))
theorem aNG (c : Cl) (st : aB) : aD prog 119 [bY c] st (fun r st' => r = .bool (!kV c) ∧ st' = st) := by
 refine wF [1000000] 1 func119 ntmps119 rfl rfl ?_
 intro _
 simp -implicitDefEqProofs only [H9, A5, n9, aA, seval, aON]
 refine (aT4 c st).to ?_
 simp -implicitDefEqProofs only [aA, seval]
abbrev aUW := zi tI_3 (zi zI_3 (zi aX (zi tI_4 (zi zI_4 (zi cD (zi tI_29 (zi zI_29 (zi gT (zi j0 (zi jZ kM))))))))))
theorem aM2 (p : List Cl) (st : aB) : aD prog 82 [.slice (p.map bY)] st (fun r st' => r = .bool (qE p) ∧ st' = st) := by
 refine wF [1000000] 1 func82 ntmps82 rfl rfl ?_
 simp only [eG, AV.fits, eM, aF]
 intro _
 unfold qE
 simp -implicitDefEqProofs only [aF, aA, seval, aUW]
 refine cT (fun h => ?_) (fun h => ?_)
 · simp only [bJ] at h
   rw [show decide (p.length ≤ 20) = true by simp; omega]
   simp -implicitDefEqProofs only [h, aA, seval]
   refine (aN1 p _ [] (fun t => !kV t) st fun x _ => aNG x st).to ?_
   simp -implicitDefEqProofs only [OB, aA, seval]
 · simp only [oW, dH] at h
   rw [show decide (p.length ≤ 20) = false by simp; omega]
   simp -implicitDefEqProofs only [h, aA, seval]
   rfl
abbrev B5 := zi tI_3 (zi zI_3 (zi aX (zi tI_4 (zi zI_4 (zi cD (zi tI_31 (zi zI_31 (zi aN (zi bE (zi bF (zi b9 (zi tI_63 (zi zI_63 (zi bP (zi bQ (zi bT (zi bS (zi bR (zi tI_76 (zi zI_76 (zi lO (zi lU lM))))))))))))))))))))))
theorem RN (c : Cl) (st : aB) : aD prog 67 [bY c] st (fun r st' => r = .bool (kV c) ∧ st' = st) := by
 obtain ⟨⟨k, n, s, ts⟩, l⟩ := c
 have hv := fun st => LX (.mk k n s ts) st
 have hp := fun st => aB7 k n s ts st
 simp only [aV] at hv hp
 simp only [gG, kV, N8]
 generalize (Tm.mk k n s ts).valid = v at *
 refine wF [1000000] 1 func67 ntmps67 rfl rfl ?_
 simp only [eG, AV.fits, eM, aF]
 intro ⟨_, _, _, _, hl, _⟩
 have jV : l.all Tm.goal = true ∨ l.length > 6 → (decide ((l.length : Int) ≤ 6) && v && pS k s (ts.length : Int)) = (v && pS k s (ts.length : Int) && (decide (l.length ≤ 6) && l.all Tm.goal)) := fun h => by
  by_cases h6 : l.length ≤ 6
  · have hg : l.all Tm.goal = true := h.resolve_right (by omega)
    rw [hg, show decide ((l.length : Int) ≤ 6) = true from gD (by omega), show decide (l.length ≤ 6) = true from gD h6]
    simp
  · rw [show decide ((l.length : Int) ≤ 6) = false from fJ (by omega), show decide (l.length ≤ 6) = false from fJ h6]
    simp
 simp -implicitDefEqProofs only [aA, seval, B5]
 refine eL (σ := Unit) [1000000] [1] l (fun i _ => i ≤ 7 ∧ (l.take i).all Tm.goal = true) (fun i _ => [(2, .bool false), (3, .int .i64 i)]) (fun _ _ => st) (by decide +kernel) ⟨(), ⟨by omega, by simp⟩, aO.mk (by simp -implicitDefEqProofs only [aA, ↓aU, seval])⟩ (fun i x _ hx hlt bU hdr hinv => ?_) (fun _ hge hinv => ?_)
 · obtain ⟨i1, i2⟩ := hinv
   have hw := bK (n := (i : Int) + 1)
   by_cases h7 : i ≤ 6
   · have h7' : decide ((i : Int) ≤ 6) = true := gD (by omega)
     have hat := bL (av := Tm.av) aN hx (aH x)
     simp -implicitDefEqProofs only [bU, bM, iV, aF, h7', hat, aT, aH, aA, seval, B5]
     refine (aHW x st).to ?_
     simp -implicitDefEqProofs only [aA, seval]
     refine aQ (fun h2 => ?_) (fun h2 => ?_)
     · simp only [lZ] at h2
       simp -implicitDefEqProofs only [aA, seval]
       have : l.all Tm.goal = false := t7 hx h2
       rw [this]; simp
     · simp only [tX] at h2
       simp -implicitDefEqProofs only [aA, seval]
       refine ⟨(), ⟨by omega, ?_⟩, aO.mk (by simp -implicitDefEqProofs only [hw, aA, seval])⟩
       rw [fN, hx, DF, i2]
       simp [h2]
   · have h7' : decide ((i : Int) ≤ 6) = false := fJ (by omega)
     have h8 : decide ((l.length : Int) ≤ 6) = false := fJ (by omega)
     rw [← jV (.inr (by omega)), h8]
     simp -implicitDefEqProofs only [bU, bM, iV, h8, gN, aF, h7', aA, seval, B5]
 · obtain ⟨i1, i2⟩ := hinv
   rw [eS] at i2
   rw [← jV (.inl i2)]
   cases h8 : decide ((l.length : Int) ≤ 6) with
   | false =>
    simp -implicitDefEqProofs only [hge, aF, h8, gN, aA, seval, B5]
   | true =>
    simp -implicitDefEqProofs only [hge, iV, aF, h8, eT, aA, seval, B5]
    refine (hv _).to ?_
    cases v with
    | false => simp -implicitDefEqProofs only [gN, aA, seval]
    | true =>
     simp -implicitDefEqProofs only [iV, eT, aA, seval, B5]
     refine (hp _).to ?_
     simp -implicitDefEqProofs only [aA, seval]
abbrev QR := zi tI_3 (zi zI_3 (zi aX (zi tI_4 (zi zI_4 (zi cD (zi tI_29 (zi zI_29 (zi gT (zi j0 (zi jZ (zi kM (zi tI_76 (zi zI_76 (zi lO (zi lU lM)))))))))))))))
theorem aS7 (l : List Cl) (st : aB) : aD prog 41 [.slice (l.map bY)] st (fun r st' => r = .bool (qE l) ∧ st' = st) := by
 refine wF [1000000] 1 func41 ntmps41 rfl rfl ?_
 simp only [eG, AV.fits, eM, aF]
 intro ⟨hl, _⟩
 simp -implicitDefEqProofs only [aA, seval]
 refine eL (σ := Unit) [1000000] [0] l (fun i _ => i ≤ 21 ∧ (l.take i).all kV = true) (fun i _ => [(2, .bool false), (3, .int .i64 i)]) (fun _ _ => st) (by decide +kernel) ⟨(), ⟨by omega, by simp⟩, aO.mk (by simp -implicitDefEqProofs only [aA, ↓aU, seval])⟩ (fun i x _ hx hlt bU hdr hinv => ?_) (fun _ hge hinv => ?_)
 · obtain ⟨i1, i2⟩ := hinv
   have hw := bK (n := (i : Int) + 1)
   by_cases h7 : i ≤ 20
   · have h7' : decide ((i : Int) ≤ 20) = true := gD (by omega)
     have hat := bL (av := bY) gT hx (n9 x)
     simp -implicitDefEqProofs only [bU, bM, iV, aF, h7', hat, A5, n9, aA, seval, QR]
     refine (RN x st).to ?_
     simp -implicitDefEqProofs only [aA, seval]
     refine aQ (fun h2 => ?_) (fun h2 => ?_)
     · simp only [lZ] at h2
       simp -implicitDefEqProofs only [aA, seval]
       have : l.all kV = false := t7 hx h2
       simp only [qE, this, tW]
     · simp only [tX] at h2
       simp -implicitDefEqProofs only [aA, seval]
       refine ⟨(), ⟨by omega, ?_⟩, aO.mk (by simp -implicitDefEqProofs only [hw, aA, seval])⟩
       rw [fN, hx, DF, i2]
       simp [h2]
   · have h7' : decide ((i : Int) ≤ 20) = false := fJ (by omega)
     have h8 : decide ((l.length : Int) ≤ 20) = false := fJ (by omega)
     have h9 : decide (l.length ≤ 20) = false := fJ (by omega)
     simp -implicitDefEqProofs only [bU, bM, iV, aF, h7', h8, qE, h9, gN, aA, seval, QR]
 · obtain ⟨i1, i2⟩ := hinv
   rw [eS] at i2
   simp -implicitDefEqProofs only [hge, aF, aA, seval, QR]
   simp only [qE, i2, DD, AV.bool.injEq, AE]
   omega
end Go.AW
namespace Go.AW

def dM : AV → List Nat
 | .mslice b _ _ _ => [b]
 | _ => []
def i8 (st : aB) (w : Nat) (q : AV) (l : List AV) : Prop :=
 (q = .fslice [] ∧ l = []) ∨ ∃ b cs, q = .mslice b 0 l.length w ∧ st b = Option.some (.cells cs) ∧ cs.take (l.length * w) = l.flatMap AV.cells ∧ l.length * w ≤ cs.length
theorem i8.shape {st : aB} {w : Nat} {q : AV} {l : List AV} (h : i8 st w q l) : q.isAgg = false ∧ q.width = 1 ∧ q.cB = false ∧ q.cells = [q] ∧ q.storable = true := by
 rcases h with ⟨rfl, _⟩ | ⟨b', cs, rfl, _⟩ <;> exact ⟨rfl, rfl, rfl, rfl, rfl⟩
theorem i8.a8 {st st' : aB} {w : Nat} {q : AV} {l : List AV} (h : i8 st w q l) (hk : ∀ b ∈ dM q, st' b = st b) : i8 st' w q l := by
 rcases h with h | ⟨b, cs, rfl, hb, h2⟩
 · exact .inl h
 · exact .inr ⟨b, cs, rfl, by rw [hk b (by simp [dM])]; exact hb, h2⟩
theorem i8.some {st : aB} {w : Nat} {q : AV} {l : List AV} (h : i8 st w q l) : ∀ b ∈ dM q, ∃ cs, st b = Option.some (.cells cs) := by
 intro b hb
 rcases h with ⟨rfl, _⟩ | ⟨b', cs, rfl, hb', _⟩
 · simp [dM] at hb
 · simp only [dM, cY, dP, d4] at hb; subst hb; exact ⟨cs, hb'⟩
theorem i8.len {P : Program} {t e : TypeId} {st : aB} {w : Nat} {q : AV} {l : List AV} (h : i8 st w q l) (hu : P.underlying t = Option.some (.slice e)) : nS P t q = Option.some (.int .i64 (l.length : Int)) := by
 rcases h with ⟨rfl, rfl⟩ | ⟨b, cs, rfl, _⟩ <;> simp only [nS, hu, a7]
theorem i8.append {P : Program} {t : TypeId} {ag : Bool} {bytes w : Nat} {zs : List AV} {st : aB} {q : AV} {l : List AV} {x : AV} {K : AV → aB → Prop} (hI : eI P t = Option.some (ag, w)) (hB : eB P t = Option.some bytes) (hZ : eZ P t = Option.some zs) (hz : zs.length = w) (hb8 : bytes ≤ 4096)
 (h : i8 st w q l) (hx : x.width = w) (hxs : x.cells.all AV.storable = true) (hl : l.length ≤ 1073741824)
 (hK : ∀ q' st', i8 st' w q' (l ++ [x]) → (∀ y, y ∉ dM q → y ∉ dM q' → st' y = st y) → (∀ y ∈ dM q', y ∈ dM q ∨ st y = none) → K q' st') : jO P t st q (.fslice [x]) K := by
 have fY : s8 w [x] := by intro e he; simp only [cY, dP, d4] at he; subst he; exact ⟨hx, hxs⟩
 have FX : (l.length + 1) * bytes ≤ 140737488355328 := by
  have := Nat.mul_le_mul (show l.length + 1 ≤ 1073741825 by omega) hb8
  omega
 have hxc : x.cells.length = w := by rw [vE, hx]
 unfold jO
 simp only [hI, hB, hZ, wH]
 refine ⟨hz, fY, ?_⟩
 rcases h with ⟨rfl, rfl⟩ | ⟨b, cs, rfl, hb, hcs, hcl⟩
 · simp only [a7, aS, gY] at FX ⊢
   refine ⟨by omega, by omega, by simp, fun h => by simp at h, fun _ b hb => ?_⟩
   refine hK _ _ (.inr ⟨b, x.cells, rfl, by rw [aB.aP]; simp, ?_, ?_⟩) (fun y _ hy => ?_) (fun y hy => ?_)
   · simp only [eR, aS, a7, gY, Nat.one_mul, tS, List.flatMap_nil, iC]
     rw [← hxc, eS]
   · simp only [eR, aS, a7, gY, Nat.one_mul]
     omega
   · simp only [dM, cY, dP, d4] at hy
     rw [aB.aM _ _ hy]
   · simp only [dM, cY, dP, d4] at hy
     subst hy; exact .inr hb
 · simp only [aS, a7, gY, hb]
   have lJ : cs.take (l.length * w) ++ [x].flatMap AV.cells = (l ++ [x]).flatMap AV.cells := by rw [hcs]; simp
   have hlen : ((l ++ [x]).flatMap AV.cells).length = (l ++ [x]).length * w := by
    rw [← lJ, dQ, d7, lE hcl]
    simp only [tS, List.flatMap_nil, iC, hxc, dQ, aS, a7]
    rw [xO]; omega
   refine ⟨trivial, FX, by omega, hcl, ?_, fun b' hb' => ?_⟩
   · rw [lJ]
     refine hK _ _ (.inr ⟨b, _, by simp, aB.aP _ _ _, by rw [mR (by rw [hlen]; exact c7 _)], by rw [hlen]; exact c7 _⟩) (fun y hy _ => ?_) (fun y hy => .inl hy)
     simp only [dM, cY, dP, d4] at hy
     rw [aB.aM _ _ hy]
   · rw [lJ]
     refine hK _ _ (.inr ⟨b', _, by simp, aB.aP _ _ _, by rw [mR (by rw [hlen]; exact c7 _)], by rw [hlen]; exact c7 _⟩) (fun y hy hy' => ?_) (fun y hy => ?_)
     · simp only [dM, cY, dP, d4] at hy hy'
       rw [aB.aM _ _ hy']
       simp [aB.erase, hy]
     · simp only [dM, cY, dP, d4] at hy
       subst hy; exact .inr hb'
def wS (k : Nat) : AV → AV
 | .mslice b o _ w => .mslice b o k w
 | a => a
theorem i8.take {st : aB} {w : Nat} {q : AV} {l : List AV} (h : i8 st w q l) {k : Nat} (hk : k ≤ l.length) (hw : ∀ e ∈ l, e.width = w) : i8 st w (wS k q) (l.take k) := by
 rcases h with ⟨rfl, rfl⟩ | ⟨b, cs, rfl, hb, hcs, hcl⟩
 · exact .inl ⟨rfl, by simp⟩
 · have hlk : (l.take k).length = k := by rw [d7]; omega
   have h1 : k * w ≤ l.length * w := sN w hk
   refine .inr ⟨b, cs, by rw [hlk]; try rfl, hb, ?_, by rw [hlk]; omega⟩
   rw [hlk]
   have h2 : cs.take (k * w) = (cs.take (l.length * w)).take (k * w) := by rw [xQ, lE h1]
   rw [h2, hcs]
   have h3 : l.flatMap AV.cells = (l.take k).flatMap AV.cells ++ (l.drop k).flatMap AV.cells := by rw [← AA, sO]
   have h4 : ((l.take k).flatMap AV.cells).length = k * w := by rw [oF (n := w) (es := l.take k) (fun e he => hw e (lY he)), hlk]
   rw [h3, List.take_left' h4]
theorem CH (k : Nat) (q : AV) : dM (wS k q) = dM q := by cases q <;> rfl
theorem i8.at {st : aB} {w : Nat} {q : AV} {l : List AV} (h : i8 st w q l) (hw : ∀ e ∈ l, e.width = w) {i : Nat} {e : AV} (he : l[i]? = .some e) :
 ∃ b cs, q = .mslice b 0 l.length w ∧ st b = .some (.cells cs) ∧ i * w + w ≤ cs.length ∧ (cs.drop (i * w)).take w = e.cells := by
 obtain ⟨hi, hei⟩ := gS.1 he
 rcases h with ⟨rfl, rfl⟩ | ⟨b, cs, rfl, hb, hcs, hcl⟩
 · simp at he
 · have h1 : (i + 1) * w ≤ l.length * w := sN w hi
   rw [xO, Nat.one_mul] at h1
   refine ⟨b, cs, rfl, hb, by omega, ?_⟩
   have h2 : l = l.take i ++ e :: l.drop (i + 1) := by rw [← hei, ← qY hi, sO]
   have hA : ((l.take i).flatMap AV.cells).length = i * w := by
    rw [oF (n := w) (es := l.take i) (fun e he => hw e (lY he)), d7, lE (by omega)]
   have hE : e.cells.length = w := by rw [vE]; exact hw e (cW he)
   have h3 : (cs.drop (i * w)).take w = ((cs.take (l.length * w)).drop (i * w)).take w := by
    rw [List.drop_take, xQ, lE (by omega)]
   rw [h3, hcs, h2]
   simp only [AA, tS]
   rw [List.drop_left' hA, List.take_left' hE]
theorem cZ.fz {h : bH} {st : aB} {b : Nat} {es : List AV} (S : cS h st) (hb : st b = some (.cells (es.flatMap AV.cells))) (hj : ∀ e ∈ es, e.cB = false) (hE : gX es) : ∀ {us : List AV} {vs : List Value}, cZ h st us vs → cZ h (st.erase b) (kL b es us) vs
 | [], vs, x => by simp only [cZ] at x; simp [kL, cZ, x]
 | a :: us, vs, x => by
  simp only [cZ] at x
  obtain ⟨v, r, rfl, x1, x2⟩ := x
  simp only [kL, cZ]
  exact ⟨v, r, rfl, x1.fz S hb hj hE, cZ.fz S hb hj hE x2⟩
theorem cC.unerase {h h' : bH} {st st' : aB} {b : Nat} (x : cC h (st.erase b) h' st') : cC h st h' st' :=
 ⟨x.size, fun c hc e => x.a8 c hc (aB.aOD st e), x.shape⟩
theorem aD.aTV {P : Program} {g : FuncId} {args : List AV} {st : aB} {Q : AV → aB → Prop} (b : Nat) (es : List AV) (hb : st b = some (.cells (es.flatMap AV.cells))) (hj : ∀ e ∈ es, e.cB = false) (hE : gX es) (x : aD P g (kL b es args) (st.erase b) Q) : aD P g args st Q :=
 ⟨x.1, fun w vs S V => (x.2 w vs ((jH st b).B1 S) (V.fz S hb hj hE)).mono fun _ _ ⟨v, r, st', e, a, b', c, d, q⟩ => ⟨v, r, st', e, a, b', c.unerase, d, q⟩⟩
def Lit (st : aB) (w : Nat) (l : List AV) (q : AV) (s : aB) : Prop := (q = .fslice l ∧ s = st) ∨ ∃ b, st b = none ∧ q = .mslice b 0 l.length w ∧ s = st.aC b (.cells (l.flatMap AV.cells))
theorem aV2 {P : Program} {t : TypeId} {ag : Bool} {w bytes : Nat} {zs : List AV} {st : aB} {es xs : List AV} {x : AV} {K : AV → aB → Prop} (hI : eI P t = some (ag, w)) (hB : eB P t = some bytes) (hZ : eZ P t = some zs) (hz : zs.length = w) (hx : x = .slice xs ∨ x = .fslice xs) (hes : ∀ e ∈ es, e.width = w) (fY : s8 w xs) (hl : (es.length + xs.length) * bytes ≤ 140737488355328) (hl2 : es.length + xs.length ≤ 9223372036854775807)
 (hK : ∀ q s, Lit st w (es ++ xs) q s → K q s) : jO P t st (.fslice es) x K := by
 unfold jO
 have he : wH x = some xs := by rcases hx with rfl | rfl <;> rfl
 simp only [hI, hB, hZ, he]
 refine ⟨hz, fY, hl, hl2, hes, fun h => ?_, fun _ b hb => ?_⟩
 · subst h
   exact hK _ _ (.inl ⟨by rw [iC], rfl⟩)
 · exact hK _ _ (.inr ⟨b, hb, by rw [dQ], rfl⟩)
theorem Lit.call {P : Program} {g : FuncId} {st s : aB} {w : Nat} {l : List AV} {q : AV} {post : List AV} {Q : AV → aB → Prop} (h : Lit st w l q s) (hj : ∀ e ∈ l, e.cB = false) (hw : ∀ e ∈ l, e.width = w) (hp : ∀ b, kL b l post = post) (x : aD P g (.slice l :: post) st Q) : aD P g (q :: post) s Q := by
 rcases h with ⟨rfl, rfl⟩ | ⟨b, hb, rfl, rfl⟩
 · refine aD.args x fun hp vs S V => ?_
   simp only [cZ] at V ⊢
   obtain ⟨v, r, rfl, V1, V2⟩ := V
   exact ⟨v, r, rfl, V1.FZ, V2⟩
 · refine aD.aTV b l (aB.aP _ _ _) hj ⟨w, hw⟩ ?_
   rw [aB.w9 st b _ hb]
   have : kL b l (.mslice b 0 l.length w :: post) = .slice l :: post := by
    show (AV.mslice b 0 l.length w).fz b l :: kL b l post = _
    rw [hp]
    simp [AV.fz]
   rw [this]
   exact x
end Go.AW
namespace Go.AW
open Go.Proofs.Tryz
def nv (i : Nat) : AV := .int .i64 (i : Int)
def eF : RG → AV
 | ⟨.mk k n s ts, a8⟩ => .agg [.int .i64 k, .int .i64 n, .str s, .slice (ts.map Tm.av), .int .i64 (a8 : Int)]
theorem E2 (k n : Int) (s : ByteArray) (ts : List Tm) (a8 : Nat) : eF ⟨.mk k n s ts, a8⟩ = .agg [.int .i64 k, .int .i64 n, .str s, .slice (ts.map Tm.av), .int .i64 (a8 : Int)] := rfl
theorem aYT (g : RG) : eF g = .agg (g.t.av.cells ++ [.int .i64 (g.a8 : Int)]) := by obtain ⟨⟨k, n, s, ts⟩, a8⟩ := g; rw [aV]; try rfl
theorem AT (g : RG) : (eF g).width = 5 := by obtain ⟨⟨k, n, s, ts⟩, a8⟩ := g; rfl
theorem aO6 (g : RG) : (eF g).cells.all AV.storable = true := by obtain ⟨⟨k, n, s, ts⟩, a8⟩ := g; rfl
theorem a0U (g : RG) : (eF g).cB = false := by obtain ⟨⟨k, n, s, ts⟩, a8⟩ := g; rfl
def fD : RC → AV
 | ⟨.mk k n s ts, rest, left, σ, N⟩ => .agg [.int .i64 k, .int .i64 n, .str s, .slice (ts.map Tm.av), .slice (rest.map eF), .slice (left.map nv), .slice (cQ N σ)]
theorem JC (g : RC) : (fD g).width = 7 := by obtain ⟨⟨k, n, s, ts⟩, _, _, _, _⟩ := g; rfl
theorem aUK (g : RC) : (fD g).cells.all AV.storable = true := by obtain ⟨⟨k, n, s, ts⟩, _, _, _, _⟩ := g; rfl
theorem aZS (g : RC) : (fD g).cB = false := by obtain ⟨⟨k, n, s, ts⟩, _, _, _, _⟩ := g; rfl
def r0 (s : RS) : AV := .agg [.slice (s.goals.map eF), .slice (cQ s.N s.σ), .slice (s.chs.map fD)]
abbrev MI := zi tI_3 (zi zI_3 (zi aX (zi tI_4 (zi zI_4 (zi cD (zi tI_31 (zi zI_31 (zi aN (zi bE (zi bF (zi b9 (zi tI_63 (zi zI_63 (zi bP (zi bQ (zi bT (zi bS bR)))))))))))))))))
theorem aJJ : ∀ (t : Tm) (d : Nat) (st : aB), d ≤ 1000 → t.small = true → aD prog 141 [t.av, .int .i64 (d : Int)] st (fun r st' => r = .bool (t.flat d) ∧ st' = st)
 | .mk k n s ts, d, st, hd, hsm => by
  obtain ⟨hlen, oK⟩ := Tm.oE hsm
  have IH := fun (x : Tm) (hx : x ∈ ts) d st h => aJJ x d st h (oK x hx)
  simp only [aV]
  refine wF [1000000] 2 func141 ntmps141 rfl rfl ?_
  intro _
  simp -implicitDefEqProofs only [aA, seval, MI]
  refine aQ (fun h => ?_) (fun h => ?_)
  · simp only [bJ] at h
    obtain rfl : d = 0 := by omega
    simp -implicitDefEqProofs only [aA, ↓aU, seval]
    rw [Tm.DH]
  simp only [dH] at h
  obtain ⟨e, rfl⟩ : ∃ e, d = e + 1 := ⟨d - 1, by omega⟩
  rw [Tm.uK]
  have hw1 : IntKind.i64.wrap ((e : Int) + 1 - 1) = (e : Int) := by rw [wrap64 (by omega) (by omega)]; omega
  simp -implicitDefEqProofs only [aA, seval]
  refine eL (σ := Unit) [1000000] [1, 2] ts (fun i _ => ((ts.drop i).all fun t => t.flat e) = (ts.all fun t => t.flat e)) (fun i _ => [(5, .int .i64 i)]) (fun _ _ => st) (by decide +kernel) ⟨(), rfl, aO.mk (by simp -implicitDefEqProofs only [aA, ↓aU, seval])⟩ (fun i x _ hx hlt bU hdr hinv => ?_) (fun _ hge hinv => ?_)
  case refine_2 =>
   simp -implicitDefEqProofs only [hge, aF, aA, seval, MI]
   rw [← hinv, kH]
   try rfl
  have hw := bK (n := (i : Int) + 1)
  rw [hdr, kG] at hinv
  simp -implicitDefEqProofs only [bU, aF, bL (av := Tm.av) aN hx (aH x), aT, aH, hw1, aA, seval, MI]
  refine (IH x (cW hx) e _ (by omega)).to ?_
  simp -implicitDefEqProofs only [aA, seval]
  refine aQ (fun h2 => ?_) (fun h2 => ?_)
  · simp -implicitDefEqProofs only [aA, seval]
    simp only [lZ] at h2
    rw [← hinv, h2]
    try rfl
  · simp only [tX] at h2
    rw [h2, eT] at hinv
    simp -implicitDefEqProofs only [aA, seval]
    exact ⟨(), hinv, aO.mk (by simp -implicitDefEqProofs only [hw, aA, seval])⟩
termination_by t => SizeOf.sizeOf t
decreasing_by have := List.sizeOf_lt_of_mem hx; simp only [Tm.mk.sizeOf_spec]; omega
abbrev F9 := zi tI_3 (zi zI_3 (zi aX (zi tI_4 (zi zI_4 (zi cD (zi tI_31 (zi zI_31 (zi aN (zi bE (zi bF (zi b9 (zi tI_63 (zi zI_63 (zi bP (zi bQ (zi bT (zi bS bR)))))))))))))))))
theorem W3 {N : Nat} {σ : Sub} (hg : cL σ) (ho : cP (bD N) σ) (t : Tm) (ht : bD N t) (st : aB) :
 aD prog 105 [t.av, .slice (cQ N σ)] st (fun r st' => st' = st ∧ ∃ x : Tm, r = .tup [x.av, .bool (eH (t.aJ (rs σ)))] ∧ (eH (t.aJ (rs σ)) = true → x = t.aJ (rs σ))) := by
 obtain ⟨rk, B, G⟩ := hg.rs
 have MD := fun st => aBR G ho 120 t st (c7 _) ht
 have hV := G.NL ho.k8 ht.1
 refine aD.lH (aD.soft ?_)
 refine wF [1000000] 2 func105 ntmps105 rfl rfl ?_
 intro _
 simp -implicitDefEqProofs only [aT, aH, cG, aA, seval, F9]
 intro b4 h4
 refine (MD _).mono ?_
 rintro _ _ ⟨rfl, x, left, rfl, h1, h2⟩
 simp -implicitDefEqProofs only [aH, bZ, cG, aA, ↓aU, seval, F9]
 refine wP [(1, 1), (2, 1), (3, 1), (4, 2), (0, 1), (5, 0), (6, 1), (7, 0), (8, 1)] [1, 2, 3, 4, 0, 6, 8] mixed ?_
 simp -implicitDefEqProofs only [aA, seval]
 refine cT (fun h => ?_) (fun h => ?_)
 · have h3 : 0 ≤ left := by simpa using h
   have h4 : (t.aJ (rs σ)).nodes ≤ 120 := C9 fun h5 => by rw [aE h5] at h2; omega
   rw [aG h4] at h2
   obtain ⟨rfl, _⟩ := h2
   have h5 : eH (t.aJ (rs σ)) = (t.aJ (rs σ)).flat 30 := by unfold eH; simp [h4]
   simp -implicitDefEqProofs only [h, aT, aH, aA, seval, F9]
   refine (aJJ _ 30 _ (by omega) hV.small).to ?_
   simp -implicitDefEqProofs only [aK, bZ, cG, bO, aA, seval, F9]
   refine ⟨st, (aL.refl _).aC ‹_›, rfl, _, by simp only [kF, rO, Tm.soft, bA, aW]; rw [h5], fun _ => rfl⟩
 · have hx0 := trivial
   have h3 : left < 0 := by simpa using h
   have h4 : ¬ (t.aJ (rs σ)).nodes ≤ 120 := fun h5 => by rw [aG h5] at h2; omega
   have h5 : eH (t.aJ (rs σ)) = false := by unfold eH; simp [h4]
   simp -implicitDefEqProofs only [h, aK, aT, aH, bZ, cG, bO, d9 (bO x), d8 (aT x), aA, seval, F9]
   refine ⟨st, (aL.refl _).aC ‹_›, rfl, x, by simp only [kF, rO, Tm.soft, bA, aW]; rw [h5], fun h6 => ?_⟩
   rw [h5] at h6; cases h6
theorem aW4 (c : Cl) : GN c = (b7 (c.1 :: c.2) []).foldl (fun n v => if n ≤ v then v + 1 else n) 0 := rfl
abbrev I5 := zi tI_3 (zi zI_3 (zi aX (zi tI_31 (zi zI_31 (zi aN (zi bE (zi bF (zi b9 (zi tI_51 (zi zI_51 (zi dW (zi fW (zi fU (zi gA (zi tI_63 (zi zI_63 (zi bP (zi bQ (zi bT (zi bS (zi bR (zi tI_76 (zi zI_76 (zi lO (zi lU lM)))))))))))))))))))))))))
theorem aQ9 (c : Cl) (hc : gJ c) (h6 : c.2.length ≤ 6) (st : aB) : aD prog 144 [bY c] st (fun r st' => r = .int .i64 (nK c : Int) ∧ st' = st) := by
 have hvr := fun v => hc.vars (v := v)
 have hok := hc.CS
 have hfr : (nK c : Int) = GN c := by
  have := (ZM (b7 (c.1 :: c.2) []) 0).1
  unfold nK GN
  omega
 rw [hfr, aW4]
 have hnd : bG Tm.nodes (c.1 :: c.2) ≤ 1099511627776 := by
  have : ∀ l : List Tm, (∀ t ∈ l, bD 26 t) → bG Tm.nodes l ≤ l.length * 120 := by
   intro l
   induction l with
   | nil => intro _; simp [bG]
   | cons x l ih => intro h; simp only [bG, aS]; have := ih fun y hy => h y (by simp [hy]); have := (h x (by simp)).2; omega
  have := this _ hok
  simp only [aS] at this
  omega
 have hvl := xK (c.1 :: c.2) []
 obtain ⟨⟨k, n, s, ts⟩, bd⟩ := c
 simp only at h6 hnd hvl hvr hok
 rw [gG]
 refine aD.done ?_
 refine wF [1000000] 1 func144 ntmps144 rfl rfl ?_
 intro _
 simp -implicitDefEqProofs only [aA, seval, I5]
 refine aV2 aN bE bF rfl (.inl rfl) (by intro e he; simp only [cY, dP, d4] at he; subst he; rfl) (fun e he => by simp only [cU] at he; obtain ⟨t, _, rfl⟩ := he; exact ⟨aH _, bZ _⟩) (by simp only [aS, a7, aF]; omega) (by simp only [aS, a7, aF]; omega) (fun q s2 hq => ?_)
 rw [← aV] at hq
 rw [show [(Tm.mk k n s ts).av] ++ bd.map Tm.av = ((Tm.mk k n s ts) :: bd).map Tm.av from rfl] at hq
 simp -implicitDefEqProofs only [aA, seval]
 refine Lit.call hq (iB _) (dR _) (fun _ => rfl) ?_
 refine (aEM _ _ (fun t ht => Tm.sS t (hok t ht).1.2.1) hnd).to ?_
 generalize b7 ((Tm.mk k n s ts) :: bd) [] = vs at *
 simp only [a7] at hvl
 simp -implicitDefEqProofs only [aA, seval]
 refine eL (σ := Int) [1000000] [2, 3] vs (fun i n => (vs.drop i).foldl (fun n v => if n ≤ v then v + 1 else n) n = vs.foldl (fun n v => if n ≤ v then v + 1 else n) 0) (fun i n => [(4, .int .i64 n), (5, .int .i64 i)]) (fun _ _ => st) (by decide +kernel) ⟨0, rfl, aO.mk (by simp -implicitDefEqProofs only [aA, ↓aU, seval])⟩ (fun i x n hx hlt bU hdr hinv => ?_) (fun n hge hinv => ?_)
 case refine_2 =>
  rw [kH] at hinv
  simp -implicitDefEqProofs only [aF, hge, aA, seval, I5]
  refine ⟨?_, aL.refl _⟩
  rw [← hinv]
  try rfl
 rw [hdr, z9] at hinv
 have hw := bK (n := (i : Int) + 1)
 obtain ⟨t, ht, hv⟩ := (hvr x).1 (cW hx)
 have a16 := (hok t ht).1.2.2 x hv
 have hw2 := bK (n := x + 1)
 have hat : dJ prog 51 (.slice (vs.map iv)) (.int .i64 (i : Int)) = some (.pptr (.int .i64 x)) := bL (av := iv) dW hx rfl
 simp -implicitDefEqProofs only [aF, bU, hat, aA, seval, I5]
 refine aQ (fun h => ?_) (fun h => ?_)
 · rw [aG (by simpa using h)] at hinv
   simp -implicitDefEqProofs only [hat, hw2, hw, aA, seval, I5]
   exact ⟨x + 1, hinv, aO.mk (by simp -implicitDefEqProofs only [aA, seval])⟩
 · rw [aE (by simpa using h)] at hinv
   simp -implicitDefEqProofs only [hw, aA, seval]
   exact ⟨n, hinv, aO.mk (by simp -implicitDefEqProofs only [aA, seval])⟩
theorem aII {M : Int} (m : Nat) (hm : M + m ≤ 1073741824) : ∀ t : Tm, cE M t → t.sh (m : Int) = dC m t := by
 intro t
 induction t using Tm.ind with
 | h k n s ts ih =>
  intro h
  rw [Tm.LT]
  by_cases hk : k = 1
  · subst hk
    obtain ⟨h0, h1, rfl, rfl⟩ := h.var
    unfold dC
    rw [aG rfl, w8 _ (t := .mk 1 n ⟨#[]⟩ []) rfl, wrap64 (by omega) (by omega)]
    try rfl
  · obtain ⟨_, h2⟩ := h.own hk
    unfold dC at ih ⊢
    rw [aE hk, uZ _ hk]
    congr 1
    exact q7 fun x hx => ih x hx (h2 x hx)
abbrev H8 := zi tI_3 (zi zI_3 (zi aX (zi tI_31 (zi zI_31 (zi aN (zi bE (zi bF (zi b9 (zi tI_63 (zi zI_63 (zi bP (zi bQ (zi bT (zi bS (zi bR (zi tI_100 (zi zI_100 (zi uN (zi y8 (zi yH (zi ES (zi tI_167 (zi zI_167 (zi aC5 (zi aLB XM)))))))))))))))))))))))))
theorem aL5 (bd : List Tm) (N a8 : Nat) (rest : List RG) (hb : ∀ t ∈ bd, bD 26 t) (h6 : bd.length ≤ 6) (hN : N ≤ 1048576) (hr : rest.length ≤ 1048576) (st : aB) :
 aD prog 104 [.slice (bd.map Tm.av), .int .i64 (N : Int), .int .i64 (a8 : Int), .slice (rest.map eF)] st (fun r st' => r = .slice ((bd.map (fun t => (⟨dC N t, a8⟩ : RG)) ++ rest).map eF) ∧ st' = st) := by
 refine aD.pO (aD.fin ?_)
 refine wF [1000000] 4 func104 ntmps104 rfl rfl ?_
 intro _
 simp -implicitDefEqProofs only [aA, seval, H8]
 refine eL (σ := Nat) [1000000] [0, 1, 2, 3, 8] bd (fun i b => ((bd.take i).map (fun t => (⟨dC N t, a8⟩ : RG))).map eF ≠ [] → st b = none) (fun i b => [(9, a9 5 b (((bd.take i).map (fun t => (⟨dC N t, a8⟩ : RG))).map eF)), (10, .int .i64 i)]) (fun i b => aZ st b (((bd.take i).map (fun t => (⟨dC N t, a8⟩ : RG))).map eF)) (by decide +kernel) ⟨0, fun h => absurd rfl h, aO.mk (by simp -implicitDefEqProofs only [kU, aW, jG, aA, ↓aU, seval])⟩ (fun i x b hx hlt bU hdr hinv => ?_) (fun b hge hinv => ?_)
 case refine_1 =>
  have hw := bK (n := (i : Int) + 1)
  have cV : (((bd.take i).map (fun t => (⟨dC N t, a8⟩ : RG))).map eF).length = i := by simp only [aF, d7]; omega
  have htk : (((bd.take i).map (fun t => (⟨dC N t, a8⟩ : RG))).map eF) ++ [eF ⟨dC N x, a8⟩] = (((bd.take (i + 1)).map (fun t => (⟨dC N t, a8⟩ : RG))).map eF) := by rw [fN, hx]; simp
  have hxo := hb x (cW hx)
  have hsh := aII N (by omega) x hxo.1
  have hcs := OL (N : Int) x
  rw [hsh] at hcs
  have hgo : eF ⟨dC N x, a8⟩ = .agg ((dC N x).av.cells ++ [.int .i64 (a8 : Int)]) := aYT _
  simp -implicitDefEqProofs only [bU, aF, bL (av := Tm.av) aN hx (aH x), aT, aH, aA, seval, H8]
  refine (hcs _ hxo.1.small).to ?_
  generalize dC N x = y at *
  obtain ⟨yk, yn, ys, yt⟩ := y
  simp only [aV, E2] at htk hgo ⊢
  simp -implicitDefEqProofs only [aA, seval, H8]
  refine eO uN y8 yH rfl rfl (fB rfl rfl) (by intro e he; simp only [cU] at he; obtain ⟨t, _, rfl⟩ := he; exact AT t) hinv (by simp only [cV, aS, a7]; omega) (by simp only [cV, aS, a7]; omega) (fun b' hb' => ?_)
  rw [htk] at hb' ⊢
  simp -implicitDefEqProofs only [hw, aA, seval]
  exact ⟨b', hb', aO.mk (by simp -implicitDefEqProofs only [aA, seval])⟩
 rw [eS] at hinv ⊢
 simp -implicitDefEqProofs only [aF, hge, aA, seval, H8]
 refine eO (xs := rest.map eF) uN y8 yH rfl rfl (by intro e he; simp only [cU] at he; obtain ⟨t, _, rfl⟩ := he; exact ⟨AT t, aO6 t⟩) (by intro e he; simp only [cU] at he; obtain ⟨t, _, rfl⟩ := he; exact AT t) hinv (by simp only [aF]; omega) (by simp only [aF]; omega) (fun b' hb' => ?_)
 rw [← vP] at hb' ⊢
 simp -implicitDefEqProofs only [aA, seval]
 exact ⟨b', _, st, rfl, hb', by intro e he; simp only [cU] at he; obtain ⟨t, _, rfl⟩ := he; exact a0U t, ⟨5, by intro e he; simp only [cU] at he; obtain ⟨t, _, rfl⟩ := he; exact AT t⟩, by rw [iD], aL.refl _⟩
def pY (p : List Cl) (t : Tm) (i : Nat) : Bool := match p[i]? with
 | some c => E3 c t
 | none => false
theorem K2 (p : List Cl) (t : Tm) : fE p t = (List.range p.length).filter (pY p t) := rfl
theorem SR (p : List Cl) (t : Tm) (i : Nat) : (List.range (i + 1)).filter (pY p t) = (List.range i).filter (pY p t) ++ (if pY p t i = true then [i] else []) := by
 rw [List.range_succ, List.filter_append]
 congr 1
 by_cases h : pY p t i = true <;> simp [h]
theorem IU (p : List Cl) (t : Tm) (i : Nat) : ((List.range i).filter (pY p t)).length ≤ i := by
 have := List.length_filter_le (pY p t) (List.range i)
 rw [K8] at this
 exact this
theorem aGW (l : List Nat) : ∀ e ∈ l.map nv, e.width = 1 := by intro e h; simp only [cU] at h; obtain ⟨t, _, rfl⟩ := h; rfl
abbrev AU := zi tI_3 (zi zI_3 (zi aX (zi tI_9 (zi zI_9 (zi cH (zi tI_29 (zi zI_29 (zi gT (zi j0 (zi jZ (zi kM (zi tI_31 (zi zI_31 (zi aN (zi bE (zi bF (zi b9 (zi tI_51 (zi zI_51 (zi dW (zi fW (zi fU (zi gA (zi tI_63 (zi zI_63 (zi bP (zi bQ (zi bT (zi bS (zi bR (zi tI_76 (zi zI_76 (zi lO (zi lU lM))))))))))))))))))))))))))))))))))
theorem aM6 (p : List Cl) (t : Tm) (hp : p.length ≤ 1048576) (st : aB) : aD prog 134 [.slice (p.map bY), t.av] st (fun r st' => r = .slice ((fE p t).map nv) ∧ st' = st) := by
 rw [K2]
 refine aD.done ?_
 obtain ⟨tk, tn, ts', tts⟩ := t
 simp only [aV]
 refine wF [1000000] 2 func134 ntmps134 rfl rfl ?_
 intro _
 simp -implicitDefEqProofs only [aA, seval, AU]
 refine rC (σ := Unit) [1000000] [0, 3, 4] p 1 5 (fun i _ => ((List.range i).filter (pY p (.mk tk tn ts' tts))).map nv) (fun _ _ => True) (fun i _ => [(6, .int .i64 i)]) (fun _ _ => st) (fun i _ _ e he => by simp only [cU] at he; obtain ⟨t, _, rfl⟩ := he; exact ⟨rfl, rfl⟩) (by decide +kernel) ⟨(), 0, trivial, fun h => absurd rfl h, aO.mk (by simp -implicitDefEqProofs only [jG, List.range_zero, List.filter_nil, aW, aA, ↓aU, seval])⟩ (fun i x s b hx hlt bU hdr hinv hb => ?_) (fun s b hge hinv => ?_)
 case refine_2 =>
  simp -implicitDefEqProofs only [hge, eC, iK, oC, AS, lI, aF, aA, seval, AU]
  exact ⟨rfl, aL.refl _⟩
 have hw := bK (n := (i : Int) + 1)
 have hst := SR p (.mk tk tn ts' tts) i
 have hln := IU p (.mk tk tn ts' tts) i
 have hat := bL (av := bY) (P := prog) gT hx (n9 x)
 obtain ⟨⟨k, n, s', ts⟩, bd⟩ := x
 rw [gG] at hat
 have hP : pY p (.mk tk tn ts' tts) i = (decide (s' = ts') && decide ((ts.length : Int) = (tts.length : Int))) := by unfold pY; rw [hx]; try rfl
 rw [hP] at hst
 simp -implicitDefEqProofs only [bU, aF, aA, seval, AU]
 refine wP [(0, 1), (1, 1), (2, 1), (3, 1), (4, 1), (6, 1), (5, 2), (7, 2), (8, 1), (9, 1), (10, 1), (11, 1), (12, 1), (13, 1), (14, 1), (17, 1), (15, 2), (16, 1), (18, 2), (19, 1), (20, 1), (21, 1)] [0, 1, 2, 3, 4, 6, 5, 7, 8, 9, 10, 11, 12, 13, 14, 17, 15, 16, 18, 19, 20, 21] mixed ?_
 simp -implicitDefEqProofs only [hat, aA, seval, AU]
 refine cT (fun h => ?_) (fun h => ?_)
 case refine_2 =>
  have h' : (decide (s' = ts') && decide ((ts.length : Int) = (tts.length : Int))) = false := by simp at h; simp [h]
  rw [h', aE (by simp), iC] at hst
  rw [← hst] at hb ⊢
  simp -implicitDefEqProofs only [h, hw, aA, seval]
  exact ⟨(), b, hb, aO.mk (by simp -implicitDefEqProofs only [aA, seval])⟩
 have h1 : decide (s' = ts') = true := by simpa using h
 rw [h1, eT] at hst
 simp -implicitDefEqProofs only [h, aF, hat, aA, seval, AU]
 refine aQ (fun h2 => ?_) (fun h2 => ?_)
 · rw [aG h2] at hst
   simp -implicitDefEqProofs only [aA, seval, AU]
   refine eO dW fW fU rfl rfl (fB rfl rfl) (aGW _) hb (by simp only [aF, aS, a7]; omega) (by simp only [aF, aS, a7]; omega) (fun b' hb' => ?_)
   rw [show ∀ l : List Nat, l.map nv ++ [AV.int .i64 (i : Int)] = (l ++ [i]).map nv from fun l => by simp [nv], ← hst] at hb' ⊢
   simp -implicitDefEqProofs only [hw, aA, seval]
   exact ⟨(), b', hb', aO.mk (by simp -implicitDefEqProofs only [aA, seval])⟩
 · rw [aE (by simp [h2]), iC] at hst
   rw [← hst] at hb ⊢
   simp -implicitDefEqProofs only [hw, aA, seval]
   exact ⟨(), b, hb, aO.mk (by simp -implicitDefEqProofs only [aA, seval])⟩
theorem O2 {n : Int} : ∀ {l : List Int}, l.Nodup → ∀ {i : Nat}, l[i]? = some n → ∀ j : Int, eN n l j = j + i
 | [], _, i, h, j => by simp at h
 | x :: l, hd, 0, h, j => by
  simp only [RD, Option.some.injEq] at h
  subst h
  simp [eN]
 | x :: l, hd, i + 1, h, j => by
  rw [List.nodup_cons] at hd
  rw [RE] at h
  have hm := cW h
  simp only [eN]
  rw [aE (fun e : n = x => hd.1 (e ▸ hm)), O2 hd.2 h (j + 1)]
  omega
abbrev mL := zi tI_3 (zi zI_3 (zi aX (zi tI_9 (zi zI_9 (zi cH (zi tI_31 (zi zI_31 (zi aN (zi bE (zi bF (zi b9 (zi tI_51 (zi zI_51 (zi dW (zi fW (zi fU (zi gA (zi tI_63 (zi zI_63 (zi bP (zi bQ (zi bT (zi bS bR)))))))))))))))))))))))
theorem aB0 (vars : List Int) (hnd : vars.Nodup) (hvl : vars.length ≤ 1048576) : ∀ (t : Tm) (st : aB), t.small = true → t.cv = true → (∀ v ∈ t.vl, v ∈ vars) → aD prog 142 [t.av, .slice (vars.map iv)] st (fun r st' => r = (t.aJ fun v => vr (eN v vars 0)).av ∧ st' = st)
 | .mk k n s ts, st, hsm, hcv, hin => by
  obtain ⟨hlen, oK⟩ := Tm.oE hsm
  obtain ⟨hc1, hcs⟩ := Tm.nW.1 hcv
  have IH := fun (x : Tm) (hx : x ∈ ts) st => aB0 vars hnd hvl x st (oK x hx) (hcs x hx) (fun v hv => by
   by_cases hk : k = 1
   · rw [(hc1 hk).2] at hx; cases hx
   · exact hin v ((Tm.kJ hk).2 ⟨x, hx, hv⟩))
  generalize hg : (Tm.aJ fun v => vr (eN v vars 0)) = g at IH
  refine aD.pO (aD.fin ?_)
  simp only [aV]
  refine wF [1000000, 5] 2 func142 ntmps142 rfl rfl ?_
  intro _
  simp -implicitDefEqProofs only [aK, aA, ↓aU, seval, mL]
  intro b4 h4 c hc
  have hne : c ≠ b4 := by rintro rfl; rw [aB.aP] at hc; cases hc
  have hnc : st c = none := by rw [aB.aM st _ hne] at hc; exact hc
  have zB : ∀ i : Nat, vars[i]? = some n → eN n vars 0 = (i : Int) := fun i hi => by
   have := O2 hnd hi 0
   omega
  generalize hW : st.aC b4 (.cells [AV.int .i64 0, AV.int .i64 0, AV.str ⟨#[]⟩, AV.fslice []]) = W
  have hWc : W c = none := by rw [← hW]; exact hc
  have hW4 : W b4 = some (.cells [AV.int .i64 0, AV.int .i64 0, AV.str ⟨#[]⟩, AV.fslice []]) := by rw [← hW]; exact aB.aP _ _ _
  have hS : W b4 ≠ none := by rw [hW4]; simp
  have I4 : b4 ≠ c := dB hne
  refine gZ (σ := Nat × Int) [1000000, 5] [1, 2, 4, 5] (fun p => p.1 ≤ vars.length ∧ (k ≠ 1 → p.2 = n) ∧ (k = 1 → (n ∈ vars.take p.1 → p.2 = eN n vars 0))) (fun p => [(6, .int .i64 p.1)]) (fun p => W.aC c (.cells [.int .i64 k, .int .i64 p.2, .str s, .fslice []])) (fun p => vars.length - p.1) (by decide +kernel) ⟨(0, n), ⟨jE _, fun _ => rfl, fun _ h => by simp at h⟩, aO.mk (by simp -implicitDefEqProofs only [aA, ↓aU, seval])⟩ ?_
  rintro ⟨i, n'⟩ ⟨h1, h2, h3⟩
  simp only at h1 h2 h3
  have rest : (k = 1 → n' = eN n vars 0) → True := fun _ => trivial
  simp -implicitDefEqProofs only [aF, aA, seval, mL]
  have fin : (k = 1 → n' = eN n vars 0) → g (.mk k n s ts) = .mk k n' s (ts.map g) := fun h4 => by
   rw [← hg]
   by_cases hk : k = 1
   · obtain ⟨rfl, rfl⟩ := hc1 hk
     rw [Tm.mM _ hk, h4 hk, hk]; try rfl
   · rw [Tm.lB _ hk, h2 hk]
  refine cT (fun h => ?_) (fun h => ?_)
  case refine_2 =>
   have h4 : (k = 1 → n' = eN n vars 0) := fun hk => h3 hk (by
    have : i = vars.length := by simp at h; omega
    rw [this, eS]
    exact hin n (by rw [Tm.mI hk]; simp))
   simp -implicitDefEqProofs only [h, aA, seval]
   refine eL (σ := Nat) [1000000, 5] [1, 2, 4, 5] ts (fun i b => (((ts.take i).map g).map Tm.av ≠ [] → (aB.aC W c (.cells ([AV.int .i64 k, AV.int .i64 (n'), AV.str s] ++ [a9 4 b (((ts.take i).map g).map Tm.av)]))) b = none)) (fun i b => [(7, .int .i64 i)]) (fun i b => eU W c b [AV.int .i64 k, AV.int .i64 (n'), AV.str s] (((ts.take i).map g).map Tm.av)) (by decide +kernel)
    ⟨0, fun h => absurd rfl h, aO.mk (by simp -implicitDefEqProofs only [aA, ↓aU, seval])⟩ (fun i x b hx hlt bU hdr hinv => ?_) (fun b hge hinv => ?_)
   case refine_1 =>
    have hw := bK (n := (i : Int) + 1)
    have cV : (((ts.take i).map g).map Tm.av).length = i := by simp only [aF, d7]; omega
    have htk : (ts.take (i + 1)).map g = (ts.take i).map g ++ [g x] := by rw [fN, hx]; simp
    have hbo := eD hinv
    simp -implicitDefEqProofs only [aF, bU, aF, aA, seval, mL]
    refine wP [(0, 1), (2, 1), (4, 1), (7, 1), (1, 2), (3, 2), (5, 1), (6, 2), (8, 2), (9, 1), (10, 0), (11, 1), (12, 0)] [0, 2, 4, 7, 1, 3, 5, 6, 8, 9, 11] mixed ?_
    simp -implicitDefEqProofs only [bL (av := Tm.av) aN hx (aH x), aT, aH, hbo, mK, aA, seval, mL]
    refine jC (IH x (cW hx) _) ?_
    simp -implicitDefEqProofs only [aT, aH, cG, aA, seval, mL]
    refine eO aN bE bF rfl rfl (fB (aH _) (bZ _)) (dR _) hinv (by simp only [cV, aS, a7]; omega) (by simp only [cV, aS, a7]; omega) (fun b' hb' => ?_)
    rw [show (((ts.take i).map g).map Tm.av) ++ [(g x).av] = ((ts.take (i + 1)).map g).map Tm.av by rw [htk]; simp] at hb' ⊢
    obtain ⟨g1, g2, g3⟩ := nO hb'
    simp only [fF, eR] at g1 g3
    simp -implicitDefEqProofs only [g3, mB, eV, aK, g1, hw, aK, aA, seval, mL]
    exact ⟨b', g2, aO.mk (by simp -implicitDefEqProofs only [aA, seval])⟩
   have hbo := eD hinv
   rw [eS] at hinv hbo ⊢
   simp -implicitDefEqProofs only [aF, hge, aF, aA, seval, mL]
   simp -implicitDefEqProofs only [hbo, aK, aA, seval, mL]
   have g1 := gF hinv hS I4
   rw [hW4] at g1
   simp -implicitDefEqProofs only [g1, eV, aA, seval]
   obtain ⟨g2, g3⟩ := j8 (o := .cells [AV.int .i64 k, AV.int .i64 (n'), AV.str s, a9 4 b ((ts.map g).map Tm.av)]) hinv hS I4
   refine ⟨b, _, _, g2, g3, iB _, ⟨4, dR _⟩, ?_, fun x => ?_⟩
   · simp only [fM, bA, aW, eC, iP, iD, ← aV]
     rw [fin h4]
   · subst hW
     by_cases e3 : x = b4 <;> by_cases e4 : x = c <;> simp_all [aB.aC]
  have hlt : i < vars.length := by simpa using h
  simp -implicitDefEqProofs only [h, aA, seval, mL]
  refine aQ (fun h5 => ?_) (fun h5 => ?_)
  case refine_2 =>
   have h5' : k ≠ 1 := by simpa using h5
   have h4 : (k = 1 → n' = eN n vars 0) := fun hk => absurd hk h5'
   simp -implicitDefEqProofs only [aA, seval]
   refine eL (σ := Nat) [1000000, 5] [1, 2, 4, 5] ts (fun i b => (((ts.take i).map g).map Tm.av ≠ [] → (aB.aC W c (.cells ([AV.int .i64 k, AV.int .i64 (n'), AV.str s] ++ [a9 4 b (((ts.take i).map g).map Tm.av)]))) b = none)) (fun i b => [(7, .int .i64 i)]) (fun i b => eU W c b [AV.int .i64 k, AV.int .i64 (n'), AV.str s] (((ts.take i).map g).map Tm.av)) (by decide +kernel)
    ⟨0, fun h => absurd rfl h, aO.mk (by simp -implicitDefEqProofs only [aA, ↓aU, seval])⟩ (fun i x b hx hlt bU hdr hinv => ?_) (fun b hge hinv => ?_)
   case refine_1 =>
    have hw := bK (n := (i : Int) + 1)
    have cV : (((ts.take i).map g).map Tm.av).length = i := by simp only [aF, d7]; omega
    have htk : (ts.take (i + 1)).map g = (ts.take i).map g ++ [g x] := by rw [fN, hx]; simp
    have hbo := eD hinv
    simp -implicitDefEqProofs only [aF, bU, aF, aA, seval, mL]
    refine wP [(0, 1), (2, 1), (4, 1), (7, 1), (1, 2), (3, 2), (5, 1), (6, 2), (8, 2), (9, 1), (10, 0), (11, 1), (12, 0)] [0, 2, 4, 7, 1, 3, 5, 6, 8, 9, 11] mixed ?_
    simp -implicitDefEqProofs only [bL (av := Tm.av) aN hx (aH x), aT, aH, hbo, mK, aA, seval, mL]
    refine jC (IH x (cW hx) _) ?_
    simp -implicitDefEqProofs only [aT, aH, cG, aA, seval, mL]
    refine eO aN bE bF rfl rfl (fB (aH _) (bZ _)) (dR _) hinv (by simp only [cV, aS, a7]; omega) (by simp only [cV, aS, a7]; omega) (fun b' hb' => ?_)
    rw [show (((ts.take i).map g).map Tm.av) ++ [(g x).av] = ((ts.take (i + 1)).map g).map Tm.av by rw [htk]; simp] at hb' ⊢
    obtain ⟨g1, g2, g3⟩ := nO hb'
    simp only [fF, eR] at g1 g3
    simp -implicitDefEqProofs only [g3, mB, eV, aK, g1, hw, aK, aA, seval, mL]
    exact ⟨b', g2, aO.mk (by simp -implicitDefEqProofs only [aA, seval])⟩
   have hbo := eD hinv
   rw [eS] at hinv hbo ⊢
   simp -implicitDefEqProofs only [aF, hge, aF, aA, seval, mL]
   simp -implicitDefEqProofs only [hbo, aK, aA, seval, mL]
   have g1 := gF hinv hS I4
   rw [hW4] at g1
   simp -implicitDefEqProofs only [g1, eV, aA, seval]
   obtain ⟨g2, g3⟩ := j8 (o := .cells [AV.int .i64 k, AV.int .i64 (n'), AV.str s, a9 4 b ((ts.map g).map Tm.av)]) hinv hS I4
   refine ⟨b, _, _, g2, g3, iB _, ⟨4, dR _⟩, ?_, fun x => ?_⟩
   · simp only [fM, bA, aW, eC, iP, iD, ← aV]
     rw [fin h4]
   · subst hW
     by_cases e3 : x = b4 <;> by_cases e4 : x = c <;> simp_all [aB.aC]
  have hk : k = 1 := by simpa using h5
  obtain ⟨x, hx⟩ : ∃ x, vars[i]? = some x := ⟨_, fH hlt⟩
  have hat : dJ prog 51 (.slice (vars.map iv)) (.int .i64 (i : Int)) = some (.pptr (.int .i64 x)) := bL (av := iv) dW hx rfl
  have hw := bK (n := (i : Int) + 1)
  have htk : vars.take (i + 1) = vars.take i ++ [x] := by rw [fN, hx]; try rfl
  simp -implicitDefEqProofs only [aA, seval]
  refine wP [(0, 1), (1, 1), (2, 1), (4, 1), (3, 2), (5, 2), (6, 1)] [0, 1, 2, 4, 3, 5, 6] mixed ?_
  simp -implicitDefEqProofs only [hat, aA, seval, mL]
  refine aQ (fun h6 => ?_) (fun h6 => ?_)
  · have h6' : x = n := by simpa using h6
    subst h6'
    simp -implicitDefEqProofs only [aK, hw, aA, seval, mL]
    refine ⟨(i + 1, (i : Int)), by simp only; omega, ⟨hlt, fun h => absurd hk h, fun _ _ => (zB i hx).symm⟩, aO.mk (by simp -implicitDefEqProofs only [aA, seval])⟩
  · have h6' : x ≠ n := by simpa using h6
    simp -implicitDefEqProofs only [hw, aA, seval]
    refine ⟨(i + 1, n'), by simp only; omega, ⟨hlt, h2, fun hk hm => h3 hk ?_⟩, aO.mk (by simp -implicitDefEqProofs only [aA, seval])⟩
    rw [htk, fS] at hm
    rcases hm with hm | hm
    · exact hm
    · simp only [cY, dP, d4] at hm
      exact absurd hm.symm h6'
termination_by t => SizeOf.sizeOf t
decreasing_by have := List.sizeOf_lt_of_mem hx; simp only [Tm.mk.sizeOf_spec]; omega
theorem KO : ∀ (ts : List Tm) (l : List Int), (∀ t ∈ ts, t.wf = true) → l.Nodup → (b7 ts l).Nodup
 | [], l, _, h => h
 | t :: ts, l, hw, h => KO ts _ (fun x hx => hw x (by simp [hx])) ((Q6 t (hw t (by simp)) l).2.1 h)
theorem A8 : ∀ l : List Tm, (∀ t ∈ l, t.nodes ≤ 120) → bG Tm.nodes l ≤ l.length * 120
 | [], _ => by simp [bG]
 | x :: l, h => by
  simp only [bG, aS]
  have := A8 l fun y hy => h y (by simp [hy])
  have := h x (by simp)
  omega
abbrev B6 := zi tI_3 (zi zI_3 (zi aX (zi tI_31 (zi zI_31 (zi aN (zi bE (zi bF (zi b9 (zi tI_51 (zi zI_51 (zi dW (zi fW (zi fU (zi gA (zi tI_63 (zi zI_63 (zi bP (zi bQ (zi bT (zi bS bR))))))))))))))))))))
theorem aOC {N : Int} (l : List Tm) (hok : ∀ t ∈ l, bD N t) (hl : l.length ≤ 1000) (st : aB) : aD prog 107 [.slice (l.map Tm.av)] st (fun r st' => r = .slice ((oS l).map Tm.av) ∧ st' = st) := by
 have hnd := A8 l fun t ht => (hok t ht).2
 have ME := KO l [] (fun t ht => Tm.sS t (hok t ht).1.2.1) pZ
 have gM := fun v => wE (v := v) l [] fun t ht => (hok t ht).1.2.1
 have hvl := xK l []
 simp only [a7] at hvl
 refine aD.done ?_
 refine wF [1000000] 1 func107 ntmps107 rfl rfl ?_
 intro _
 simp -implicitDefEqProofs only [aA, seval, B6]
 refine rC (σ := Unit) [1000000] [0, 2] l 1 3 (fun i _ => (b7 (l.take i) []).map iv) (fun _ _ => True) (fun i _ => [(4, .int .i64 i)]) (fun _ _ => st) (fun i _ _ e he => by simp only [cU] at he; obtain ⟨t, _, rfl⟩ := he; exact ⟨rfl, rfl⟩) (by decide +kernel) ⟨(), 0, trivial, fun h => absurd rfl h, aO.mk (by simp -implicitDefEqProofs only [jG, kU, b7, aW, aA, ↓aU, seval])⟩ (fun i x s b hx hlt bU hdr hinv hb => ?_) (fun s b hge hinv => ?_)
 case refine_1 =>
  have hw := bK (n := (i : Int) + 1)
  have hat := bL (av := Tm.av) aN hx (aH x)
  have hst := E5 Tm.nodes hx
  have hvl := xK (l.take i) []
  simp only [a7, gY] at hvl
  have htk : x.vars (b7 (l.take i) []) = b7 (l.take (i + 1)) [] := by
   rw [fN, hx, QK]
   try rfl
  simp -implicitDefEqProofs only [bU, aF, hat, aT, aH, aA, seval, B6]
  refine (GA x (b7 (l.take i) []) b st (Tm.sS x (hok x (cW hx)).1.2.1) hb (by omega)).mono ?_
  rintro _ _ ⟨b', rfl, rfl, hb'⟩
  rw [htk] at hb' ⊢
  simp -implicitDefEqProofs only [aA, seval]
  exact ⟨(), b', hb', aO.mk (by simp -implicitDefEqProofs only [hw, aA, seval])⟩
 simp -implicitDefEqProofs only [hge, eC, iK, oC, lI, eS, aF, aA, seval, B6]
 have hR : oS l = l.map fun t => t.aJ fun v => vr (eN v (b7 l []) 0) := rfl
 rw [hR]
 generalize b7 l [] = vars at *
 refine rC (σ := Unit) [1000000] [0, 2, 3] l 4 5 (fun i _ => ((l.take i).map fun t => t.aJ fun v => vr (eN v vars 0)).map Tm.av) (fun _ _ => True) (fun i _ => [(6, .int .i64 i)]) (fun _ _ => st) (fun i _ _ e he => by simp only [cU] at he; obtain ⟨t, _, rfl⟩ := he; exact ⟨cG _, aH _⟩) (by decide +kernel) ⟨(), 0, trivial, fun h => absurd rfl h, aO.mk (by simp -implicitDefEqProofs only [jG, kU, aW, aA, ↓aU, seval])⟩ (fun i x s b hx hlt bU hdr hinv hb => ?_) (fun s b hge hinv => ?_)
 case refine_2 =>
  simp -implicitDefEqProofs only [hge, eC, iK, lI, eS, aF, aA, seval, B6]
  exact ⟨rfl, aL.refl _⟩
 have hw := bK (n := (i : Int) + 1)
 have hat := bL (av := Tm.av) aN hx (aH x)
 have hxm := cW hx
 have cV : (((l.take i).map fun t => t.aJ fun v => vr (eN v vars 0)).map Tm.av).length = i := by simp only [aF, d7]; omega
 simp -implicitDefEqProofs only [bU, aF, hat, aT, aH, aA, seval, B6]
 refine (aB0 vars ME (by omega) x _ (hok x hxm).1.small (hok x hxm).1.2.1 (fun v hv => (gM v).2 (.inr ⟨x, hxm, hv⟩))).to ?_
 simp -implicitDefEqProofs only [aT, aH, cG, aA, seval, B6]
 refine eO aN bE bF rfl rfl (fB (aH _) (bZ _)) (dR _) hb (by simp only [cV, aS, a7]; omega) (by simp only [cV, aS, a7]; omega) (fun b' hb' => ?_)
 rw [show (((l.take i).map fun t => t.aJ fun v => vr (eN v vars 0)).map Tm.av) ++ [(x.aJ fun v => vr (eN v vars 0)).av] = ((l.take (i + 1)).map fun t => t.aJ fun v => vr (eN v vars 0)).map Tm.av by rw [fN, hx]; simp] at hb' ⊢
 simp -implicitDefEqProofs only [aA, seval]
 exact ⟨(), b', hb', aO.mk (by simp -implicitDefEqProofs only [hw, aA, seval])⟩
abbrev aJP := zi tI_3 (zi zI_3 (zi aX (zi tI_4 (zi zI_4 (zi cD (zi tI_31 (zi zI_31 (zi aN (zi bE (zi bF (zi b9 (zi tI_63 (zi zI_63 (zi bP (zi bQ (zi bT (zi bS bR)))))))))))))))))
theorem aWV (l : List Tm) (st : aB) : aD prog 108 [.slice (l.map Tm.av)] st (fun r st' => r = .bool (l.all Tm.valid) ∧ st' = st) := by
 refine wF [1000000] 1 func108 ntmps108 rfl rfl ?_
 simp only [eG, AV.fits, eM, aF]
 intro ⟨hl, _⟩
 simp -implicitDefEqProofs only [aA, seval]
 refine eL (σ := Unit) [1000000] [0] l (fun i _ => ((l.drop i).all Tm.valid) = (l.all Tm.valid)) (fun i _ => [(3, .int .i64 i)]) (fun _ _ => st) (by decide +kernel) ⟨(), rfl, aO.mk (by simp -implicitDefEqProofs only [aA, ↓aU, seval])⟩ (fun i x _ hx hlt bU hdr hinv => ?_) (fun _ hge hinv => ?_)
 case refine_2 =>
  simp -implicitDefEqProofs only [hge, aF, aA, seval, aJP]
  rw [← hinv, kH]
  try rfl
 have hw := bK (n := (i : Int) + 1)
 rw [hdr, kG] at hinv
 simp -implicitDefEqProofs only [bU, aF, bL (av := Tm.av) aN hx (aH x), aT, aH, aA, seval, aJP]
 refine (LX x _).to ?_
 simp -implicitDefEqProofs only [aA, seval]
 refine aQ (fun h2 => ?_) (fun h2 => ?_)
 · simp -implicitDefEqProofs only [aA, seval]
   simp only [lZ] at h2
   rw [← hinv, h2]
   try rfl
 · simp only [tX] at h2
   rw [h2, eT] at hinv
   simp -implicitDefEqProofs only [aA, seval]
   exact ⟨(), hinv, aO.mk (by simp -implicitDefEqProofs only [hw, aA, seval])⟩
theorem WT (v : Int) : ∀ (l : List Int) (i : Int), v ∈ l → i ≤ eN v l i ∧ eN v l i < i + l.length
 | [], i, h => by cases h
 | x :: l, i, h => by
  simp only [eN, aS]
  split
  · omega
  · rename_i e
    have h' : v ∈ l := by
     rcases cY.1 h with h | h
     · exact absurd h e
     · exact h
    have := WT v l (i + 1) h'
    omega
theorem aIH {N : Int} {l : List Tm} (hok : ∀ t ∈ l, bD N t) (hf : l.all eH = true) : (oS l).all Tm.valid = decide ((b7 l []).length ≤ 26) := by
 have gM := fun v => wE (v := v) l [] fun t ht => (hok t ht).1.2.1
 have ME := KO l [] (fun t ht => Tm.sS t (hok t ht).1.2.1) pZ
 have hro : ∀ t ∈ l, cE (b7 l []).length (t.aJ fun v => vr (eN v (b7 l []) 0)) := fun t ht =>
  (hok t ht).1.aJ fun v hv => by
   have := WT v (b7 l []) 0 ((gM v).2 (.inr ⟨t, ht, hv⟩))
   exact FU (by omega) (by omega)
 have fY : ∀ t ∈ l, eH (t.aJ fun v => vr (eN v (b7 l []) 0)) = true := fun t ht => by
  have := eW.1 hf t ht
  unfold eH at this ⊢
  rw [show (t.aJ fun v => vr (eN v (b7 l []) 0)) = bV (fun v => eN v (b7 l []) 0) t from rfl, MP _ (hok t ht).1.2.1, HG _ (hok t ht).1.2.1]
  exact this
 rw [vO, eW, bJ]
 constructor
 · intro h
   refine C9 fun hn => ?_
   obtain ⟨w, hw⟩ : ∃ w, (b7 l [])[26]? = some w := ⟨_, fH (by omega)⟩
   rcases (gM w).1 (cW hw) with h1 | ⟨t, ht, hv⟩
   · cases h1
   · have CM := h _ (cU.2 ⟨t, ht, rfl⟩)
     have hin := (Tm.EJ CM).2.2 26 ((xF t).2 ⟨w, hv, by rw [O2 ME hw 0, wG]; simp⟩)
     omega
 · intro h x hx
   obtain ⟨t, ht, rfl⟩ := cU.1 hx
   have h1 := aJ2.2 ((hro t ht).mono (show ((b7 l []).length : Int) ≤ 26 by omega))
   rw [Tm.aD4 h1]
   exact fY t ht
theorem aYP {N : Int} {l : List Tm} (hok : ∀ t ∈ l, bD N t) : (oS l).length = l.length := by unfold oS; rw [aF]
abbrev vF := zi tI_3 (zi zI_3 (zi aX (zi tI_4 (zi zI_4 (zi cD (zi tI_31 (zi zI_31 (zi aN (zi bE (zi bF (zi b9 (zi tI_51 (zi zI_51 (zi dW (zi fW (zi fU (zi gA (zi tI_63 (zi zI_63 (zi bP (zi bQ (zi bT (zi bS (zi bR (zi tI_82 (zi zI_82 (zi AI BZ)))))))))))))))))))))))))))
theorem aQG {N : Nat} {σ : Sub} (hg : cL σ) (ho : cP (bD N) σ) (vars : List Int) (hv : ∀ v ∈ vars, 0 ≤ v ∧ v < (N : Int)) (hl : vars.length ≤ 1000) (st : aB) :
 aD prog 71 [.slice (vars.map iv), .slice (cQ N σ)] st (fun r st' => st' = st ∧ ∃ a, r = .tup [c9 a, .bool (jI σ vars).isSome] ∧ ∀ x, jI σ vars = some x → a = x) := by
 obtain ⟨rk, B, G⟩ := hg.rs
 refine aD.lH (aD.soft ?_)
 refine wF [1000000] 2 func71 ntmps71 rfl rfl ?_
 intro _
 simp -implicitDefEqProofs only [aA, seval, vF]
 intro b4 h4
 refine rC (σ := Unit) [1000000] [0, 1, 4] vars 4 6 (fun i _ => ((vars.take i).map (rs σ)).map Tm.av) (fun i _ => ((vars.take i).map (rs σ)).all eH = true) (fun i _ => [(5, .bool false), (7, .int .i64 i)]) (fun _ _ => st.aC b4 (.cells [.fslice []])) (fun i _ _ e he => by simp only [cU] at he; obtain ⟨t, _, rfl⟩ := he; exact ⟨cG _, aH _⟩) (by decide +kernel) ⟨(), 0, rfl, fun h => absurd rfl h, aO.mk (by simp -implicitDefEqProofs only [jG, kU, aW, aA, ↓aU, seval])⟩ (fun i x s b hx hlt bU hdr hinv hb => ?_) (fun s b hge hinv => ?_)
 · have hw := bK (n := (i : Int) + 1)
   have hxm := cW hx
   obtain ⟨hx0, hx1⟩ := hv x hxm
   have hvr : bD N (vr x) := ⟨FU hx0 hx1, by rw [vr, Tm.gP]; simp [bG]⟩
   have hat : dJ prog 51 (.slice (vars.map iv)) (.int .i64 (i : Int)) = some (.pptr (.int .i64 x)) := bL (av := iv) dW hx rfl
   have cV : (((vars.take i).map (rs σ)).map Tm.av).length = i := by simp only [aF, d7]; omega
   have dV : ((vars.take (i + 1)).map (rs σ)).all eH = eH (rs σ x) := by
    rw [fN, hx]
    simp only [G1, vP, bA, aW, DF, hinv, kG, List.all_nil, DD, eT]
   simp -implicitDefEqProofs only [bU, aF, hat, aA, seval, vF]
   refine (JX x _).to ?_
   simp -implicitDefEqProofs only [aA, seval]
   refine (W3 hg ho (vr x) hvr _).mono ?_
   rintro _ _ ⟨rfl, y, rfl, hy⟩
   rw [t9] at hy ⊢
   simp -implicitDefEqProofs only [aH, bZ, cG, aA, ↓aU, seval, vF]
   refine aQ (fun h => ?_) (fun h => ?_)
   · have h' : eH (rs σ x) = false := by simpa using h
     have pN : jI σ vars = none := by
      unfold jI
      rw [aE]
      rintro ⟨h1, _⟩
      have := eW.1 h1 _ (cU.2 ⟨x, hxm, rfl⟩)
      rw [h'] at this; cases this
     have hbo : ∀ l, (l ≠ [] → st b = none) → (l ≠ [] → b ≠ b4) → (aZ (st.aC b4 (.cells [.fslice []])) b l) b4 = some (.cells [.fslice []]) := fun l _ h2 => by
      cases l with
      | nil => exact aB.aP _ _ _
      | cons e l => simp only [aZ]; rw [aB.aM _ _ (dB (h2 (by simp)))]; exact aB.aP _ _ _
     have hnb : ((vars.take i).map (rs σ)).map Tm.av ≠ [] → b ≠ b4 := fun h => by rintro rfl; have := hb h; rw [aB.aP] at this; cases this
     have aUT : ((vars.take i).map (rs σ)).map Tm.av ≠ [] → st b = none := fun h => by have := hb h; rw [aB.aM _ _ (hnb h)] at this; exact this
     have e1 := hbo _ aUT hnb
     simp -implicitDefEqProofs only [aK, e1, aA, seval, vF]
     rw [pN]
     refine ⟨st, ?_, rfl, [], rfl, fun x h => by cases h⟩
     intro z
     by_cases hz : z = b4
     · subst hz; simp [aB.aC, h4]
     · rw [aB.aM _ _ hz]
       exact ((aL.aZ (aL.refl _) hb).trans ((aL.refl st).aC h4)) z
   · have h' : eH (rs σ x) = true := by simpa using h
     obtain rfl := hy h'
     simp -implicitDefEqProofs only [aT, aH, cG, aA, seval, vF]
     refine eO aN bE bF rfl rfl (fB (aH _) (bZ _)) (dR _) hb (by simp only [cV, aS, a7]; omega) (by simp only [cV, aS, a7]; omega) (fun b' hb' => ?_)
     rw [show (((vars.take i).map (rs σ)).map Tm.av) ++ [(rs σ x).av] = ((vars.take (i + 1)).map (rs σ)).map Tm.av by rw [fN, hx]; simp] at hb' ⊢
     simp -implicitDefEqProofs only [hw, aA, seval]
     exact ⟨(), b', by rw [dV]; exact h', hb', aO.mk (by simp -implicitDefEqProofs only [aA, seval])⟩
 · rw [eS] at hinv
   have hok : ∀ t ∈ vars.map (rs σ), bD N t := fun t ht => by
    obtain ⟨v, h, rfl⟩ := cU.1 ht
    obtain ⟨h0, h1⟩ := hv v h
    have hf := eW.1 hinv _ ht
    unfold eH at hf
    simp only [cM, bJ] at hf
    exact ⟨G.k8 ho.k8 v h0 h1, hf.2⟩
   have CM := aIH hok hinv
   have pN : jI σ vars = if (b7 (vars.map (rs σ)) []).length ≤ 26 then some (oS (vars.map (rs σ))) else none := by
    unfold jI
    simp only [hinv, sP]
   have aNX := fun st => aOC _ hok (by rw [aF]; exact hl) st
   have dV := fun st => aWV (oS (vars.map (rs σ))) st
   rw [CM] at dV
   generalize oS (vars.map (rs σ)) = R at *
   generalize (b7 (vars.map (rs σ)) []).length = m at *
   simp -implicitDefEqProofs only [hge, eC, pQ, iK, E9, lI, eS, uB, aF, aA, seval, vF]
   refine (aNX _).to ?_
   simp -implicitDefEqProofs only [aA, ↓aU, seval, vF]
   refine wP [(1, 1), (0, 2), (2, 2), (3, 2), (4, 0), (5, 1)] [1, 0, 2, 3, 5] mixed ?_
   simp -implicitDefEqProofs only [aA, seval, vF]
   refine jC (dV _) ?_
   simp -implicitDefEqProofs only [aK, aA, seval, vF]
   refine ⟨st, (aL.refl _).aC h4, rfl, R, ?_, fun x h => ?_⟩
   · rw [pN]
     simp only [kA, kF, rO, p9, bA, aW]
     by_cases h : m ≤ 26
     · simp [h]
     · simp [h]
   · rw [pN] at h
     split at h
     · cases h; rfl
     · cases h
theorem QS (k n : Int) (s : ByteArray) (ts : List Tm) (rest : List RG) (left : List Nat) (σ : Sub) (N : Nat) : fD ⟨.mk k n s ts, rest, left, σ, N⟩ = .agg [.int .i64 k, .int .i64 n, .str s, .slice (ts.map Tm.av), .slice (rest.map eF), .slice (left.map nv), .slice (cQ N σ)] := rfl
structure wJ (p : List Cl) (c : RC) : Prop where
 gK : cL c.σ
 ok : cP (bD c.N) c.σ
 uG : ∀ n, ¬(0 ≤ n ∧ n < (c.N : Int)) → c.σ n = none
 goal : bD c.N c.goal
 rest : ∀ g ∈ c.rest, bD c.N g.t ∧ g.t.k = 3
 left : ∀ i ∈ c.left, i < p.length
 len : c.rest.length ≤ 524288
 aS2 : c.left.length ≤ 1048576
structure pK (p : List Cl) (B : Nat) (s : RS) : Prop where
 gK : cL s.σ
 ok : cP (bD s.N) s.σ
 uG : ∀ n, ¬(0 ≤ n ∧ n < (s.N : Int)) → s.σ n = none
 goals : ∀ g ∈ s.goals, bD s.N g.t ∧ g.t.k = 3
 pos : 0 < s.N
 hN : s.N ≤ B
 gl : s.goals.length ≤ B
 pG : s.chs.length ≤ B
 chs : ∀ c ∈ s.chs, wJ p c ∧ c.N + 26 ≤ B ∧ c.rest.length + 26 ≤ B ∧ 0 < c.N
theorem cP.upN {N M : Nat} {σ : Sub} (h : cP (bD N) σ) (hm : N ≤ M) : cP (bD M) σ := h.imp fun t ht => ht.mono (by omega)
theorem aSZ {N k : Nat} {σ : Sub} (hd : ∀ n, ¬(0 ≤ n ∧ n < (N : Int)) → σ n = none) : cQ N σ ++ List.replicate k zt = cQ (N + k) σ := by
 apply K4
 intro i
 have hl := sT N σ
 by_cases hi : i < N
 · rw [aL9 (by omega), yP N σ hi, yP (N + k) σ (by omega)]
 · rw [aL8 (by omega), hl]
   by_cases h2 : i < N + k
   · rw [yP (N + k) σ h2, hd (i : Int) (fun h => hi (by omega)), List.getElem?_replicate, aG (by omega)]
     try rfl
   · rw [xU (by simp; omega), xU (by rw [sT]; omega)]
theorem aZ3 {N k b : Nat} {σ : Sub} (hd : ∀ n, ¬(0 ≤ n ∧ n < (N : Int)) → σ n = none) (hN : N + k ≤ 1048576) {st : aB} {K : AV → aB → Prop} (hb : st b = none)
 (hK : ∀ b', st b' = none → K (.mslice b' 0 (N + k) 4) (st.aC b' (.cells ((cQ (N + k) σ).flatMap AV.cells)))) :
 sB prog 31 3 (st.aC b (.cells ((cQ N σ).flatMap AV.cells))) (.mslice b 0 N 4) (.int .i64 (k : Int)) K := by
 have hu : prog.underlying 3 = some (.int .i64) := by kernel_rfl
 have hl : ((cQ N σ).flatMap AV.cells).length = N * 4 := by rw [oF (fun e he => (aBH N σ e he).1), sT]
 have lJ : ((cQ N σ).flatMap AV.cells).take (N * 4) ++ lL [AV.int .i64 0, .int .i64 0, .str ⟨#[]⟩, .fslice []] k = (cQ (N + k) σ).flatMap AV.cells := by
  rw [← hl, eS, aBM _ (by simp), ← aSZ hd, AA, List.flatMap_replicate]
  try rfl
 unfold sB
 simp only [aN, bE, bF, hu, aB.aP, l7]
 refine ⟨rfl, by omega, rfl, by omega, trivial, by omega, by omega, by omega, ?_, fun b' hb' => ?_⟩
 · rw [lJ, dE]
   exact hK b hb
 · rw [lJ, aB.w9 st b _ hb]
   refine hK b' ?_
   by_cases h : b' = b
   · subst h; exact hb
   · rwa [aB.aM _ _ h] at hb'
theorem YZ {st s2 V : aB} {o' o6 : AO} {b6 b11 b13 b14 b : Nat} {L A : List AV} (hD : aL s2 st) (hA : s2 b11 = some (.cells (A.flatMap AV.cells))) (h11 : st b11 = none) (h6 : st b6 = none) (h62 : s2 b6 ≠ none) (aGD : b6 ≠ b11) (h13 : s2 b13 = none) (h14 : s2 b14 = none)
 (hV : ∀ q, q ≠ b13 → q ≠ b14 → V q = s2 q) (HD : V b13 ≠ none) (AL : V b14 ≠ none) (hb : L ≠ [] → V b = none) (hne : A ≠ []) :
 aL (((aZ V b L).aC b13 o').aC b6 o6) (aZ (aZ st b11 A) b L) ∧ (L ≠ [] → (aZ st b11 A) b = none) := by
 have aAU : b13 ≠ b11 := by rintro rfl; rw [h13] at hA; cases hA
 have aWA : b14 ≠ b11 := by rintro rfl; rw [h14] at hA; cases hA
 have HZ : b13 ≠ b6 := by rintro rfl; exact h62 h13
 have n13 : st b13 = none := (hD b13).1 h13
 have n14 : st b14 = none := (hD b14).1 h14
 rw [jF hne]
 have hbb : L ≠ [] → b ≠ b13 ∧ b ≠ b11 ∧ b ≠ b6 ∧ b ≠ b14 ∧ s2 b = none := fun h => by
  have h0 := hb h
  have e13 : b ≠ b13 := by rintro rfl; exact HD h0
  have e14 : b ≠ b14 := by rintro rfl; exact AL h0
  rw [hV b e13 e14] at h0
  exact ⟨e13, (by rintro rfl; rw [h0] at hA; cases hA), (by rintro rfl; exact h62 h0), e14, h0⟩
 refine ⟨fun q => ?_, fun h => ?_⟩
 · by_cases q6 : q = b6
   · subst q6
     have : aZ (st.aC b11 (.cells (A.flatMap AV.cells))) b L q = none := by
      by_cases hL : L = []
      · subst hL; simp only [aZ]; rw [aB.aM _ _ aGD, h6]
      · obtain ⟨_, _, e6, _⟩ := hbb hL
        rw [jF hL, aB.aM _ _ (dB e6), aB.aM _ _ aGD, h6]
     rw [this]; simp
   rw [aB.aM _ _ q6]
   by_cases q13 : q = b13
   · subst q13
     have : aZ (st.aC b11 (.cells (A.flatMap AV.cells))) b L q = none := by
      by_cases hL : L = []
      · subst hL; simp only [aZ]; rw [aB.aM _ _ aAU, n13]
      · obtain ⟨e13, _⟩ := hbb hL
        rw [jF hL, aB.aM _ _ (dB e13), aB.aM _ _ aAU, n13]
     rw [this]; simp
   rw [aB.aM _ _ q13]
   have rest : q ≠ b ∨ L = [] → (V q = none → st.aC b11 (.cells (A.flatMap AV.cells)) q = none) ∧ ∀ o, st.aC b11 (.cells (A.flatMap AV.cells)) q = some o → V q = some o := fun _ => by
    by_cases q14 : q = b14
    · subst q14
      rw [aB.aM _ _ aWA, n14]
      simp
    rw [hV q q13 q14]
    by_cases q11 : q = b11
    · subst q11; rw [aB.aP, hA]; simp
    rw [aB.aM _ _ q11]
    exact hD q
   by_cases hL : L = []
   · subst hL
     exact rest (.inr rfl)
   · rw [jF hL, jF hL]
     by_cases qb : q = b
     · subst qb; rw [aB.aP, aB.aP]; simp
     rw [aB.aM _ _ qb, aB.aM _ _ qb]
     exact rest (.inl qb)
 · obtain ⟨e13, e11, e6, e14, h0⟩ := hbb h
   rw [aB.aM _ _ e11]
   exact (hD b).1 h0
theorem BX {st : aB} {b q : Nat} {l : List AV} {o : AO} (hb : l ≠ [] → st b = none) (h : st q = some o) : aZ st b l q = some o := by
 cases l with
 | nil => exact h
 | cons x l =>
  rw [jF (by simp), aB.aM _ _ (by rintro rfl; rw [hb (by simp)] at h; cases h)]
  exact h
theorem aEC {b b' o n w : Nat} {l : List AV} (h : l ≠ [] → b' ≠ b) : (AV.mslice b' o n w).fin b l = .mslice b' o n w := by
 unfold AV.fin
 cases l with
 | nil => rfl
 | cons x l =>
  simp only [List.isEmpty_cons, jD, dZ]
  cases o with
  | zero => simp only [AV.fz]; rw [aE (fun e => h (by simp) e.1)]; try rfl
  | succ o => rfl
theorem JY {b N : Nat} {σ : Sub} (h0 : 0 < N) : (AV.mslice b 0 N 4).fin b (cQ N σ) = .slice (cQ N σ) := by
 have hl := sT N σ
 have h : cQ N σ ≠ [] := by intro e; rw [e] at hl; simp at hl; omega
 have : a9 4 b (cQ N σ) = .mslice b 0 N 4 := by rw [oB h, hl]
 rw [← this, iD]
theorem aRO (l : List RC) : ∀ e ∈ l.map fD, e.cB = false := by intro e he; simp only [cU] at he; obtain ⟨t, _, rfl⟩ := he; exact aZS t
theorem aXA (l : List RC) : ∀ e ∈ l.map fD, e.width = 7 := by intro e he; simp only [cU] at he; obtain ⟨t, _, rfl⟩ := he; exact JC t
theorem aCM {φ : AF} {d i : Nat} {l : List Nat} (hi : i + 1 < l.length) (h : φ d = .int .i64 ((i : Int) + 1)) : iG prog φ 51 (.slice (l.map nv)) (some (.tmp d)) none none = some (.slice ((l.drop (i + 1)).map nv)) := by
 have he : φ.eval (.tmp d) = .int .i64 ((i : Int) + 1) := h
 have hb : dY φ (some (.tmp d)) 0 l.length = some (i + 1) := by
  simp only [dY, he]
  rw [aG (by omega)]
  congr 1
 have hwo : zA (l.map nv) (i + 1) 1 = true := by
  unfold zA
  rw [oV, fH hi]
  try rfl
 unfold iG
 rw [aE (by simp [rP])]
 simp only [pM, dW]
 rw [aE (by simp)]
 simp only [dY] at hb ⊢
 have ht : List.take l.length (l.map nv) = l.map nv := mR (by simp)
 simp only [aF, hb, hwo, or_true, fZ, ht]
 simp [List.map_drop]
abbrev qM := zi tI_3 (zi zI_3 (zi aX (zi tI_4 (zi zI_4 (zi cD (zi tI_29 (zi zI_29 (zi gT (zi j0 (zi jZ (zi kM (zi tI_31 (zi zI_31 (zi aN (zi bE (zi bF (zi b9 (zi tI_51 (zi zI_51 (zi dW (zi fW (zi fU (zi gA (zi tI_63 (zi zI_63 (zi bP (zi bQ (zi bT (zi bS (zi bR (zi tI_76 (zi zI_76 (zi lO (zi lU (zi lM (zi tI_100 (zi zI_100 (zi uN (zi y8 (zi yH (zi ES (zi tI_101 (zi zI_101 (zi rG (zi v9 (zi xJ (zi CI (zi tI_103 (zi zI_103 (zi FV (zi FD (zi DX (zi F1 (zi tI_146 (zi zI_146 (zi OS (zi PZ (zi OQ (zi Q5 OR)))))))))))))))))))))))))))))))))))))))))))))))))))))))))))
theorem XV (p : List Cl) (hp : ∀ c ∈ p, gJ c ∧ c.2.length ≤ 6) (gs0 : List RG) (σ0 : List AV) (cs : List RC) (c : RC) (hc : wJ p c) (h0 : 0 < c.N) (hN : c.N ≤ 524288) (hcl : cs.length ≤ 524288) (st : aB) :
 aD prog 110 [.slice (p.map bY), .agg [.slice (gs0.map eF), .slice σ0, .slice (cs.map fD)], fD c] st (fun r st' => st' = st ∧ r = match iF p cs c.goal c.rest c.σ c.N c.left with
  | some s => .tup [r0 s, .bool true]
  | none => .tup [.agg [.slice (gs0.map eF), .slice σ0, .slice (cs.map fD)], .bool false]) := by
 obtain ⟨goal, rest, left, σ, N⟩ := c
 obtain ⟨hg, ho, hd, hgo, hr, hle, hrl, hll⟩ := hc
 simp only at hg ho hd hgo hr hle hrl hll h0 hN
 obtain ⟨gk, gn, gs', gts⟩ := goal
 rw [QS]
 refine aD.fin (aD.fin (aD.lH ?_))
 refine wF [1000000, 13] 3 func110 ntmps110 rfl rfl ?_
 intro _
 simp -implicitDefEqProofs only [aA, seval, qM]
 intro b6 h6
 generalize hW : st.aC b6 (.cells [.fslice [], .fslice [], .fslice []]) = W
 have hW6 : W b6 = some (.cells [.fslice [], .fslice [], .fslice []]) := by rw [← hW]; exact aB.aP _ _ _
 have hDW : aL W st := by rw [← hW]; exact (aL.refl _).aC h6
 refine eL (σ := Unit) [1000000] [0, 4, 5, 6] left (fun i _ => iF p cs (.mk gk gn gs' gts) rest σ N (left.drop i) = iF p cs (.mk gk gn gs' gts) rest σ N left) (fun i _ => [(7, .bool false), (8, .int .i64 i)]) (fun _ _ => W) (by decide +kernel) ⟨(), rfl, aO.mk (by simp -implicitDefEqProofs only [aA, ↓aU, seval])⟩ (fun i x _ hx hlt bU hdr hinv => ?_) (fun _ hge hinv => ?_)
 case refine_2 =>
  simp -implicitDefEqProofs only [hge, aK, hW6, aF, aA, seval, qM]
  refine ⟨st, ?_, 0, [], st, rfl, by simp, by simp, ⟨0, by simp⟩, 0, [], st, rfl, by simp, by simp, ⟨0, by simp⟩, rfl, ?_⟩
  · intro z
    have := hDW z
    by_cases hz : z = b6
    · subst hz; simp [aB.aC, h6]
    · rw [aB.aM _ _ hz]; exact this
  · rw [← hinv, kH]
    simp only [fM, jL, pQ, iK, bA, aW, iF]
 have hw := bK (n := (i : Int) + 1)
 have hxl := hle x (cW hx)
 obtain ⟨cl, hcx⟩ : ∃ cl, p[x]? = some cl := ⟨_, fH hxl⟩
 obtain ⟨rR, pE⟩ := hp cl (cW hcx)
 rw [hdr, iF.eq_def] at hinv
 simp only [hcx] at hinv
 have hat : dJ prog 51 (.slice (left.map nv)) (.int .i64 (i : Int)) = some (.pptr (.int .i64 (x : Int))) := bL (av := nv) dW hx rfl
 have y7 := bL (av := bY) (P := prog) gT hcx (n9 cl)
 have hcf := aQ9 cl rR pE
 obtain ⟨⟨k, n, s', ts⟩, bd⟩ := cl
 rw [gG] at y7 hcf
 simp only at hinv
 simp -implicitDefEqProofs only [bU, aF, sT, hat, y7, aA, ↓aU, seval, qM]
 refine wX [(0, 1), (1, 1), (2, 1), (4, 1), (3, 0), (5, 0), (6, 0), (7, 1)] [0, 1, 2, 4, 7] dX mixed rfl gB ?_
 simp -implicitDefEqProofs only [aA, seval, qM]
 have hfr := rR.fr.1
 have hHd := rR.dC N (.mk k n s' ts) (by simp)
 have hBd := fun t ht => (rR.CS t (List.mem_cons_of_mem _ ht))
 refine NY h0 (by omega) σ fun b hb hA0 => ?_
 simp -implicitDefEqProofs only [aA, seval]
 refine ⟨gB, ?_⟩
 refine (hcf _).to ?_
 simp -implicitDefEqProofs only [aA, seval]
 refine ⟨gB, ?_⟩
 refine aZ3 hd (by omega) hb fun b11 h11 => ?_
 simp -implicitDefEqProofs only [aA, seval]
 refine ⟨gB, ?_⟩
 have hA := (show eY (N + nK (.mk k n s' ts, bd)) (W.aC b11 (.cells ((cQ (N + nK (.mk k n s' ts, bd)) σ).flatMap AV.cells))) b11 σ from aB.aP _ _ _)
 have hDT : aL (W.aC b11 (.cells ((cQ (N + nK (.mk k n s' ts, bd)) σ).flatMap AV.cells))) W := (aL.refl _).aC h11
 have hh := rR.head
 generalize nK (.mk k n s' ts, bd) = fr at *
 generalize W.aC b11 (.cells ((cQ (N + fr) σ).flatMap AV.cells)) = T at *
 have hsh : Tm.sh (N : Int) (.mk k n s' ts) = dC N (.mk k n s' ts) := aII N (by omega) _ hh.1
 have hcs := OL (N : Int) (.mk k n s' ts)
 rw [hsh] at hcs
 have hun := GF (N := N + fr) (by omega) hg (ho.upN (by omega)) (.mk gk gn gs' gts) (dC N (.mk k n s' ts)) (hgo.mono (by omega)) hHd b11
 generalize dC N (.mk k n s' ts) = y at *
 obtain ⟨yk, yn, ys, yt⟩ := y
 refine wX [(0, 1), (1, 1), (2, 1), (3, 1), (4, 1), (6, 1), (5, 0), (7, 0), (8, 1)] [0, 1, 2, 3, 4, 6, 8] dX mixed rfl gB ?_
 simp -implicitDefEqProofs only [aA, seval, qM]
 have hsm := hh.1.small
 simp only [aV] at hun hcs ⊢
 refine (hcs _ hsm).to ?_
 simp -implicitDefEqProofs only [aA, seval]
 refine ⟨gB, ?_⟩
 refine (hun _ hA).mono ?_
 rintro _ s2 ⟨rfl, hA2, hk2⟩
 simp -implicitDefEqProofs only [aA, seval]
 refine ⟨gB, ?_⟩
 generalize iQ σ (.mk gk gn gs' gts) (.mk yk yn ys yt) = u at *
 obtain ⟨r, σ', tr⟩ := u
 simp only at hinv hA2 ⊢
 have JI : W b11 = none := h11
 have hDs : aL s2 W := by
  intro q
  have key : ∀ o, W q = some o → s2 q = some o := fun o h => hk2 q o ((hDT q).2 o h) (by rintro rfl; rw [JI] at h; cases h)
  refine ⟨fun h => ?_, key⟩
  cases hq : W q with
  | none => rfl
  | some o => rw [key o hq] at h; cases h
 refine aQ (fun h => ?_) (fun h => ?_)
 · have hr : r = false := by simpa using h
   rw [aE (by rw [hr]; simp)] at hinv
   simp -implicitDefEqProofs only [hw, aA, seval]
   exact ⟨(), hinv, aO.drop hDs (by simp -implicitDefEqProofs only [aA, seval])⟩
 have hr' : r = true := by simpa using h
 rw [aG hr'] at hinv
 have hg9 := aL5 bd N cs.length rest hBd pE (by omega) (by omega)
 generalize hgs : bd.map (fun t => (⟨dC N t, cs.length⟩ : RG)) ++ rest = gs2 at *
 simp -implicitDefEqProofs only [aF, aA, seval, qM]
 refine wP [(0, 1), (1, 1), (3, 1), (5, 1), (6, 1), (7, 1), (2, 2), (4, 2), (8, 2), (9, 1), (10, 1), (11, 0), (12, 0)] [0, 1, 3, 5, 6, 7, 2, 4, 8, 9, 10] mixed ?_
 simp -implicitDefEqProofs only [aA, seval, qM]
 refine MN hg9 ?_
 simp -implicitDefEqProofs only [aK, aF, hw, aA, seval, qM]
 intro b13 h13
 have aXN : b13 ≠ b11 := by rintro rfl; rw [eY, h13] at hA2; cases hA2
 have h62 : s2 b6 ≠ none := by rw [(hDs b6).2 _ hW6]; simp
 have HZ : b6 ≠ b13 := by rintro rfl; exact h62 h13
 have XA : b6 ≠ b11 := by rintro rfl; rw [hW6] at JI; cases JI
 have J1 : st b11 = none := (hDW b11).1 JI
 have aFU := (hDs b6).2 _ hW6
 have hNf : 0 < N + fr := by omega
 have nR : cQ (N + fr) σ' ≠ [] := by intro e; have := sT (N + fr) σ'; rw [e] at this; simp at this; omega
 refine aQ (fun h => ?_) (fun h => ?_)
 · have h' : i + 1 < left.length := by simp at h; omega
   have hsl := fun (φ : AF) (d : Nat) (h : φ d = .int .i64 ((i : Int) + 1)) => aCM h' h
   simp -implicitDefEqProofs only [aA, seval]
   refine wP [(0, 1), (2, 1), (4, 1), (6, 1), (7, 1), (9, 1), (1, 2), (3, 2), (5, 2), (8, 1), (10, 2), (11, 1), (12, 0), (13, 0)] [0, 2, 4, 6, 7, 9, 1, 3, 5, 8, 10, 11] mixed ?_
   simp -implicitDefEqProofs only [aK, hsl, hw, aA, seval, qM]
   intro b14 h14
   have aE3 : b14 ≠ b13 := by rintro rfl; rw [aB.aP] at h14; cases h14
   have P2 : s2 b14 = none := by rw [aB.aM _ _ aE3] at h14; exact h14
   have aYU : b6 ≠ b14 := by rintro rfl; exact h62 P2
   generalize hV : (s2.aC b13 (AO.cells [AV.slice (gs2.map eF), AV.mslice b11 0 (N + fr) 4, AV.slice (cs.map fD)])).aC b14 (.cells [.int .i64 gk, .int .i64 gn, .str gs', .slice (gts.map Tm.av), .slice (rest.map eF), .slice ((left.drop (i + 1)).map nv), .slice (cQ N σ)]) = V
   have AL : V b14 = some (.cells [.int .i64 gk, .int .i64 gn, .str gs', .slice (gts.map Tm.av), .slice (rest.map eF), .slice ((left.drop (i + 1)).map nv), .slice (cQ N σ)]) := by rw [← hV]; exact aB.aP _ _ _
   have HD : V b13 = some (AO.cells [AV.slice (gs2.map eF), AV.mslice b11 0 (N + fr) 4, AV.slice (cs.map fD)]) := by rw [← hV, aB.aM _ _ (dB aE3)]; exact aB.aP _ _ _
   have hV6 : V b6 = some (.cells [.fslice [], .fslice [], .fslice []]) := by rw [← hV, aB.aM _ _ aYU, aB.aM _ _ HZ]; exact aFU
   have hVq : ∀ q, q ≠ b13 → q ≠ b14 → V q = s2 q := fun q e1 e2 => by rw [← hV, aB.aM _ _ e2, aB.aM _ _ e1]
   refine wX [(0, 1), (1, 1), (2, 1), (4, 1), (5, 1), (3, 0), (6, 0), (7, 1), (8, 2)] [0, 1, 2, 4, 5, 7] (one b14 (.cells [.int .i64 gk, .int .i64 gn, .str gs', .slice (gts.map Tm.av), .slice (rest.map eF), .slice ((left.drop (i + 1)).map nv), .slice (cQ N σ)])) mixed rfl (iA AL) ?_
   simp -implicitDefEqProofs only [uC, aA, seval, qM]
   have hlc : (cs.map fD).length = cs.length := aF _
   refine eO (P := prog) (b := 0) (l := []) (xs := cs.map fD) rG v9 xJ rfl rfl (by intro e he; simp only [cU] at he; obtain ⟨t, _, rfl⟩ := he; exact ⟨JC t, aUK t⟩) (by simp) (by simp) (by simp only [a7, hlc]; omega) (by simp only [a7, hlc]; omega) (fun b15 h15 => ?_)
   rw [eR] at h15 ⊢
   simp -implicitDefEqProofs only [aA, seval]
   refine ⟨iA (BX h15 AL), ?_⟩
   refine eO (P := prog) (b := b15) (l := cs.map fD) (xs := [fD ⟨.mk gk gn gs' gts, rest, left.drop (i + 1), σ, N⟩]) rG v9 xJ rfl rfl (fB rfl rfl) (by intro e he; simp only [cU] at he; obtain ⟨t, _, rfl⟩ := he; exact JC t) h15 (by simp only [aS, a7, hlc]; omega) (by simp only [aS, a7, hlc]; omega) (fun b16 h16 => ?_)
   rw [show (cs.map fD) ++ [fD ⟨.mk gk gn gs' gts, rest, left.drop (i + 1), σ, N⟩] = (cs ++ [(⟨.mk gk gn gs' gts, rest, left.drop (i + 1), σ, N⟩ : RC)]).map fD by simp] at h16 ⊢
   have g13 := BX h16 HD
   have g14 := BX h16 AL
   have g6 := BX h16 hV6
   have hdn : left.drop (i + 1) ≠ [] := by intro e; have := n6 List.length e; simp at this; omega
   rw [aE hdn] at hinv
   generalize hLL : cs ++ [(⟨.mk gk gn gs' gts, rest, left.drop (i + 1), σ, N⟩ : RC)] = LL at *
   have E := YZ (o' := .cells [AV.slice (gs2.map eF), AV.mslice b11 0 (N + fr) 4, a9 7 b16 (LL.map fD)]) (o6 := .cells [AV.slice (gs2.map eF), AV.mslice b11 0 (N + fr) 4, a9 7 b16 (LL.map fD)]) (hDs.trans hDW) hA2 J1 h6 h62 XA h13 P2 hVq (by rw [HD]; simp) (by rw [AL]; simp) h16 nR
   simp -implicitDefEqProofs only [aK, HZ, g13, g6, eV, mB, aA, seval, qM]
   have hms : LL.map fD ≠ [] → b11 ≠ b16 := by rintro h rfl; have := h16 h; rw [hVq b11 (dB aXN) (by rintro rfl; rw [eY, P2] at hA2; cases hA2), hA2] at this; cases this
   refine ⟨iA g14, _, E.1, b16, LL.map fD, _, rfl, fun h => E.2 (by simpa using h), aRO LL, ⟨7, aXA LL⟩, b11, cQ (N + fr) σ', st, rfl, fun _ => J1, GO _ _, ⟨4, AZ _ _⟩, rfl, ?_⟩
   rw [← hinv]
   simp only [fM, jL, pQ, iK, lI, bA, aW, aEC hms, JY hNf]
   rfl
 · have h' : left.drop (i + 1) = [] := GU (by simp at h; omega)
   have E := YZ (o6 := .cells [AV.slice (gs2.map eF), AV.mslice b11 0 (N + fr) 4, AV.slice (cs.map fD)]) (o' := .cells [AV.slice (gs2.map eF), AV.mslice b11 0 (N + fr) 4, AV.slice (cs.map fD)]) (b := 0) (L := []) (hDs.trans hDW) hA2 J1 h6 h62 XA h13 h13 (fun q h _ => aB.aM s2 (.cells [AV.slice (gs2.map eF), AV.mslice b11 0 (N + fr) 4, AV.slice (cs.map fD)]) h) (by rw [aB.aP]; simp) (by rw [aB.aP]; simp) (by simp) nR
   simp -implicitDefEqProofs only [aK, HZ, aFU, aB.aP, aA, seval, qM]
   rw [aG h'] at hinv
   have E1 := E.1
   simp only [aZ, dE] at E1
   refine ⟨_, E1, 0, [], _, rfl, by simp, by simp, ⟨0, by simp⟩, b11, cQ (N + fr) σ', st, rfl, fun _ => J1, GO _ _, ⟨4, AZ _ _⟩, rfl, ?_⟩
   rw [← hinv]
   simp only [fM, jL, pQ, iK, bA, aW, aEC (l := []) (fun h => absurd rfl h), JY hNf]
   rfl
end Go.AW
