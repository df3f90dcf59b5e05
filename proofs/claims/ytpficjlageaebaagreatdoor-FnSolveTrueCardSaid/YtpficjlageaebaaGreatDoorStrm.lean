import Derived.Test.YtpficjlageaebaaGreatDoorStrk
import Derived.Test.YtpficjlageaebaaGreatDoorStrl
import Derived.Test.YtpficjlageaebaaGreatDoorStri
import Derived.Test.YtpficjlageaebaaGreatDoorStrf
import Derived.Lib.SliceRun
set_option linter.unusedSimpArgs false
set_option linter.unusedVariables false
set_option maxRecDepth 100000
namespace Go.AW
open Go.Proofs.Tryz
abbrev aJI := zi tI_3 (zi zI_3 (zi aX (zi tI_51 (zi zI_51 (zi dV (zi fS (zi fV (zi gA (zi tI_63 (zi zI_63 (zi bS (zi bR (zi bP (zi bQ (zi bT (zi tI_90 zI_90))))))))))))))))
theorem aIV (bs : List Bt) (c p : Nat) (st : aB) (hp : p + 5000 ≤ 1099511627776) (hR : dL st c bs p) : aD prog 127 [.ptr c 0] st (Dr bs c p 5000 st PF) := by
 refine aD.lK ?_
 refine wF [1000000] 1 func127 ntmps127 rfl rfl ?_
 intro _
 simp -implicitDefEqProofs only [aA, seval, aJI]
 intro b hb
 have hbc := hR.ne hb
 refine (xF [3, 2, 4, 1] (by simp) (by simp) bs c p (by omega) _ (hR.aC hbc)).mono ?_
 rintro _ _ ⟨y, hy, rfl, rfl⟩
 obtain ⟨n, rfl, hn⟩ : ∃ n : Nat, y = n ∧ n ≤ 4 := by
  simp only [cY, dP, d4] at hy
  rcases hy with rfl | rfl | rfl | rfl
  · exact ⟨3, rfl, by omega⟩
  · exact ⟨2, rfl, by omega⟩
  · exact ⟨4, rfl, by omega⟩
  · exact ⟨1, rfl, by omega⟩
 have hpw : 4 ^ (n + 2) ≤ 4096 := by
  have := RK (n := 4) (by omega) (show n + 2 ≤ 6 by omega)
  simpa using this
 simp -implicitDefEqProofs only [aA, seval]
 refine (aIO bs c n (p + 1) _ (by omega) (by omega) dL.new).mono ?_
 rintro _ _ ⟨p1, hp1, aMI, rfl, t1, ht1, rfl⟩
 rw [dE]
 simp -implicitDefEqProofs only [bO, bZ, d8 (bO _), eD (aT _), aK, hbc, aA, seval, aJI]
 refine ⟨st.aC c (cA bs p1), ?_, p1, by omega, by omega, rfl, t1, ht1, rfl⟩
 intro x
 by_cases e4 : x = b <;> by_cases ec : x = c <;> simp_all [aB.aC]
mutual
def Tm.sh (m : Int) : Tm → Tm
 | .mk k n s ts => .mk k (if k = 1 then IntKind.i64.wrap (n + m) else n) s (I0 m ts)
def I0 (m : Int) : List Tm → List Tm
 | [] => []
 | t :: ts => t.sh m :: I0 m ts
end
theorem aH6 (m : Int) : ∀ ts : List Tm, I0 m ts = ts.map (Tm.sh m)
 | [] => rfl
 | t :: ts => by simp only [I0, bA, aH6 m ts]
theorem Tm.NS (m k n : Int) (s : ByteArray) (ts : List Tm) : (Tm.mk k n s ts).sh m = .mk k (if k = 1 then IntKind.i64.wrap (n + m) else n) s (ts.map (Tm.sh m)) := by simp only [Tm.sh, aH6]
abbrev oQ := zi tI_3 (zi zI_3 (zi aX (zi tI_9 (zi zI_9 (zi cH (zi tI_31 (zi zI_31 (zi aN (zi bF (zi bE (zi b9 (zi tI_63 (zi zI_63 (zi bS (zi bR (zi bP (zi bQ bT)))))))))))))))))
theorem OY (m : Int) : ∀ (t : Tm) (st : aB), t.small = true → aD prog 139 [t.av, .int .i64 m] st (fun r st' => r = (t.sh m).av ∧ st' = st)
 | .mk k n s ts, st, hsm => by
  obtain ⟨hlen, oJ⟩ := Tm.oD hsm
  have IH := fun (x : Tm) (hx : x ∈ ts) st => OY m x st (oJ x hx)
  refine aD.pR (aD.fin ?_)
  simp only [aV]
  refine wF [1000000, 5] 2 func139 ntmps139 rfl rfl ?_
  simp only [eE, AV.fits, eM, aF]
  intro ⟨_, _, _, hl, _⟩
  simp -implicitDefEqProofs only [aK, aA, ↓aU, seval, oQ]
  intro b2 hb2 c hc
  have hne : c ≠ b2 := by rintro rfl; rw [aB.aO] at hc; cases hc
  have hn2 : st c = none := by rw [aB.aM st _ hne] at hc; exact hc
  have m7 : b2 ≠ c := dB hne
  have hS : (st.aC b2 (.cells [AV.int .i64 0, AV.int .i64 0, AV.str ⟨#[]⟩, AV.fslice []])) b2 ≠ none := by rw [aB.aO]; simp
  refine aQ (fun h => ?_) (fun h => ?_)
  · simp only [bJ] at h
    simp -implicitDefEqProofs only [aK, dE, aA, seval, oQ]
    refine eK (σ := Nat) [1000000] [1, 2, 4, 5] ts (fun i b => (((ts.take i).map (Tm.sh m)).map Tm.av ≠ [] → (aB.aC (st.aC b2 (.cells [AV.int .i64 0, AV.int .i64 0, AV.str ⟨#[]⟩, AV.fslice []])) c (.cells ([AV.int .i64 k, AV.int .i64 (IntKind.i64.wrap (n + m)), AV.str s] ++ [a9 4 b (((ts.take i).map (Tm.sh m)).map Tm.av)]))) b = none)) (fun i b => [(6, .int .i64 i)]) (fun i b => eV (st.aC b2 (.cells [AV.int .i64 0, AV.int .i64 0, AV.str ⟨#[]⟩, AV.fslice []])) c b [AV.int .i64 k, AV.int .i64 (IntKind.i64.wrap (n + m)), AV.str s] (((ts.take i).map (Tm.sh m)).map Tm.av)) (by decide +kernel)
     ⟨0, fun h => absurd rfl h, aP.mk (by simp -implicitDefEqProofs only [aA, ↓aU, seval])⟩ (fun i x b hx hlt bU hdr hinv => ?_) (fun b hge hinv => ?_)
    case refine_1 =>
     have hw := bK (n := (i : Int) + 1)
     have cV : (((ts.take i).map (Tm.sh m)).map Tm.av).length = i := by simp only [aF, d7]; omega
     have htk : (ts.take (i + 1)).map (Tm.sh m) = (ts.take i).map (Tm.sh m) ++ [(Tm.sh m) x] := by rw [fM, hx]; simp
     have hbo := eC hinv
     simp -implicitDefEqProofs only [aF, bU, aA, seval, oQ]
     refine wP [(0, 1), (2, 1), (4, 1), (7, 1), (1, 2), (3, 2), (5, 1), (6, 2), (8, 2), (9, 1), (10, 0), (11, 1), (12, 0)] [0, 2, 4, 7, 1, 3, 5, 6, 8, 9, 11] mixed ?_
     simp -implicitDefEqProofs only [bL (av := Tm.av) aN hx (aH x), aT, aH, hbo, mD, gV, aA, seval, oQ]
     refine i8 (IH x (cW hx) _) ?_
     simp -implicitDefEqProofs only [aT, aH, cG, gV, aA, seval, oQ]
     refine eN aN bF bE rfl rfl (fC (aH _) (bZ _)) (dR _) hinv (by simp only [cV, aS, a7]; omega) (by simp only [cV, aS, a7]; omega) (fun b' hb' => ?_)
     rw [show (((ts.take i).map (Tm.sh m)).map Tm.av) ++ [((Tm.sh m) x).av] = ((ts.take (i + 1)).map (Tm.sh m)).map Tm.av by rw [htk]; simp] at hb' ⊢
     obtain ⟨g1, g2, g3⟩ := nG hb'
     simp only [fF, eR] at g1 g3
     simp -implicitDefEqProofs only [g3, mB, eU, aK, g1, hw, aK, aA, seval, oQ]
     exact ⟨b', g2, aP.mk (by simp -implicitDefEqProofs only [aA, seval])⟩
    have hbo := eC hinv
    rw [eS] at hinv hbo ⊢
    simp -implicitDefEqProofs only [aF, hge, aA, seval, oQ]
    simp -implicitDefEqProofs only [hbo, aK, aA, seval, oQ]
    have h1 := gC hinv hS m7
    rw [aB.aO] at h1
    simp -implicitDefEqProofs only [h1, eU, aA, seval]
    obtain ⟨h2, h3⟩ := j0 (o := .cells [AV.int .i64 k, AV.int .i64 (IntKind.i64.wrap (n + m)), AV.str s, a9 4 b ((ts.map (Tm.sh m)).map Tm.av)]) hinv hS m7
    refine ⟨b, _, _, h2, h3, hH _, ⟨4, dR _⟩, ?_, (((aL.refl _).aC hb2).aC hn2).aC hb2⟩
    simp only [fL, bA, aW, d9, iO, iG, ← aV]
    rw [Tm.NS, aG h]
  · simp only [dH] at h
    simp -implicitDefEqProofs only [aA, seval]
    refine eK (σ := Nat) [1000000] [1, 2, 4, 5] ts (fun i b => (((ts.take i).map (Tm.sh m)).map Tm.av ≠ [] → (aB.aC (st.aC b2 (.cells [AV.int .i64 0, AV.int .i64 0, AV.str ⟨#[]⟩, AV.fslice []])) c (.cells ([AV.int .i64 k, AV.int .i64 (n), AV.str s] ++ [a9 4 b (((ts.take i).map (Tm.sh m)).map Tm.av)]))) b = none)) (fun i b => [(6, .int .i64 i)]) (fun i b => eV (st.aC b2 (.cells [AV.int .i64 0, AV.int .i64 0, AV.str ⟨#[]⟩, AV.fslice []])) c b [AV.int .i64 k, AV.int .i64 (n), AV.str s] (((ts.take i).map (Tm.sh m)).map Tm.av)) (by decide +kernel)
     ⟨0, fun h => absurd rfl h, aP.mk (by simp -implicitDefEqProofs only [aA, ↓aU, seval])⟩ (fun i x b hx hlt bU hdr hinv => ?_) (fun b hge hinv => ?_)
    case refine_1 =>
     have hw := bK (n := (i : Int) + 1)
     have cV : (((ts.take i).map (Tm.sh m)).map Tm.av).length = i := by simp only [aF, d7]; omega
     have htk : (ts.take (i + 1)).map (Tm.sh m) = (ts.take i).map (Tm.sh m) ++ [(Tm.sh m) x] := by rw [fM, hx]; simp
     have hbo := eC hinv
     simp -implicitDefEqProofs only [aF, bU, aA, seval, oQ]
     refine wP [(0, 1), (2, 1), (4, 1), (7, 1), (1, 2), (3, 2), (5, 1), (6, 2), (8, 2), (9, 1), (10, 0), (11, 1), (12, 0)] [0, 2, 4, 7, 1, 3, 5, 6, 8, 9, 11] mixed ?_
     simp -implicitDefEqProofs only [bL (av := Tm.av) aN hx (aH x), aT, aH, hbo, mD, gV, aA, seval, oQ]
     refine i8 (IH x (cW hx) _) ?_
     simp -implicitDefEqProofs only [aT, aH, cG, gV, aA, seval, oQ]
     refine eN aN bF bE rfl rfl (fC (aH _) (bZ _)) (dR _) hinv (by simp only [cV, aS, a7]; omega) (by simp only [cV, aS, a7]; omega) (fun b' hb' => ?_)
     rw [show (((ts.take i).map (Tm.sh m)).map Tm.av) ++ [((Tm.sh m) x).av] = ((ts.take (i + 1)).map (Tm.sh m)).map Tm.av by rw [htk]; simp] at hb' ⊢
     obtain ⟨g1, g2, g3⟩ := nG hb'
     simp only [fF, eR] at g1 g3
     simp -implicitDefEqProofs only [g3, mB, eU, aK, g1, hw, aK, aA, seval, oQ]
     exact ⟨b', g2, aP.mk (by simp -implicitDefEqProofs only [aA, seval])⟩
    have hbo := eC hinv
    rw [eS] at hinv hbo ⊢
    simp -implicitDefEqProofs only [aF, hge, aA, seval, oQ]
    simp -implicitDefEqProofs only [hbo, aK, aA, seval, oQ]
    have h1 := gC hinv hS m7
    rw [aB.aO] at h1
    simp -implicitDefEqProofs only [h1, eU, aA, seval]
    obtain ⟨h2, h3⟩ := j0 (o := .cells [AV.int .i64 k, AV.int .i64 (n), AV.str s, a9 4 b ((ts.map (Tm.sh m)).map Tm.av)]) hinv hS m7
    refine ⟨b, _, _, h2, h3, hH _, ⟨4, dR _⟩, ?_, (((aL.refl _).aC hb2).aC hn2).aC hb2⟩
    simp only [fL, bA, aW, d9, iO, iG, ← aV]
    rw [Tm.NS, aE h]
termination_by t => SizeOf.sizeOf t
decreasing_by have := List.sizeOf_lt_of_mem hx; simp only [Tm.mk.sizeOf_spec]; omega
abbrev x7 := zi tI_3 (zi zI_3 (zi aX (zi tI_9 (zi zI_9 (zi cH (zi tI_31 (zi zI_31 (zi aN (zi bF (zi bE (zi b9 (zi tI_63 (zi zI_63 (zi bS (zi bR (zi bP (zi bQ bT)))))))))))))))))
theorem aRY (k n : Int) (s : ByteArray) (ts : List Tm) (st : aB) (hsm : (Tm.mk k n s ts).small = true) : aD prog 81 [(Tm.mk k n s ts).av] st (fun r st' => ∃ b, r = .agg [.int .i64 k, .int .i64 n, .str s, a9 4 b (ts.map Tm.av)] ∧ st' = aZ st b (ts.map Tm.av) ∧ (ts.map Tm.av ≠ [] → st b = none)) := by
 obtain ⟨hlen, oJ⟩ := Tm.oD hsm
 have IH := fun (x : Tm) (hx : x ∈ ts) st => xT x st (oJ x hx)
 refine aD.lK ?_
 simp only [aV]
 refine wF [] 1 func81 ntmps81 rfl rfl ?_
 simp only [eE, AV.fits, eM, aF]
 intro ⟨_, _, _, hl, _⟩
 simp -implicitDefEqProofs only [aA, seval, x7]
 intro b2 hb2 c hc
 have hne : c ≠ b2 := by rintro rfl; rw [aB.aO] at hc; cases hc
 have hn2 : st c = none := by rw [aB.aM st _ hne] at hc; exact hc
 simp -implicitDefEqProofs only [aK, aA, seval]
 refine eK (σ := Nat) [] [1, 2, 3] ts (fun i b => (((ts.take i).map (fun y => y)).map Tm.av ≠ [] → (aB.aC (st.aC b2 (.cells [AV.int .i64 0, AV.int .i64 0, AV.str ⟨#[]⟩, AV.fslice []])) c (.cells ([AV.int .i64 k, AV.int .i64 n, AV.str s] ++ [a9 4 b (((ts.take i).map (fun y => y)).map Tm.av)]))) b = none)) (fun i b => [(4, .int .i64 i)]) (fun i b => eV (st.aC b2 (.cells [AV.int .i64 0, AV.int .i64 0, AV.str ⟨#[]⟩, AV.fslice []])) c b [AV.int .i64 k, AV.int .i64 n, AV.str s] (((ts.take i).map (fun y => y)).map Tm.av)) (by decide +kernel)
  ⟨0, fun h => absurd rfl h, aP.mk (by simp -implicitDefEqProofs only [aA, ↓aU, seval])⟩ (fun i x b hx hlt bU hdr hinv => ?_) (fun b hge hinv => ?_)
 case refine_1 =>
  have hw := bK (n := (i : Int) + 1)
  have cV : (((ts.take i).map (fun y => y)).map Tm.av).length = i := by simp only [aF, d7]; omega
  have htk : (ts.take (i + 1)).map (fun y => y) = (ts.take i).map (fun y => y) ++ [(fun y => y) x] := by rw [fM, hx]; simp
  have hbo := eC hinv
  simp -implicitDefEqProofs only [aF, bU, aA, seval, x7]
  refine wP [(0, 1), (2, 1), (4, 1), (1, 2), (3, 2), (5, 1), (6, 2), (7, 2), (8, 1), (9, 0), (10, 1), (11, 0)] [0, 2, 4, 1, 3, 5, 6, 7, 8, 10] mixed ?_
  simp -implicitDefEqProofs only [bL (av := Tm.av) aN hx (aH x), aT, aH, hbo, mD, gV, aA, seval, x7]
  refine i8 (IH x (cW hx) _) ?_
  simp -implicitDefEqProofs only [aT, aH, cG, gV, aA, seval, x7]
  refine eN aN bF bE rfl rfl (fC (aH _) (bZ _)) (dR _) hinv (by simp only [cV, aS, a7]; omega) (by simp only [cV, aS, a7]; omega) (fun b' hb' => ?_)
  rw [show (((ts.take i).map (fun y => y)).map Tm.av) ++ [((fun y => y) x).av] = ((ts.take (i + 1)).map (fun y => y)).map Tm.av by rw [htk]; simp] at hb' ⊢
  obtain ⟨g1, g2, g3⟩ := nG hb'
  simp only [fF, eR] at g1 g3
  simp -implicitDefEqProofs only [g3, mB, eU, aK, g1, hw, aA, seval, x7]
  exact ⟨b', g2, aP.mk (by simp -implicitDefEqProofs only [aA, seval])⟩
 have hbo := eC hinv
 rw [eS] at hinv hbo ⊢
 simp -implicitDefEqProofs only [aF, hge, aA, seval, x7]
 simp -implicitDefEqProofs only [hbo, aA, seval, x7]
 have m7 : b2 ≠ c := dB hne
 have hS : (st.aC b2 (.cells [AV.int .i64 0, AV.int .i64 0, AV.str ⟨#[]⟩, AV.fslice []])) b2 ≠ none := by rw [aB.aO]; simp
 have h1 := gC hinv hS m7
 rw [aB.aO] at h1
 simp -implicitDefEqProofs only [h1, eU, aK, aA, seval]
 obtain ⟨h2, h3⟩ := j0 (o := .cells [AV.int .i64 k, AV.int .i64 n, AV.str s, a9 4 b ((ts.map fun y => y).map Tm.av)]) hinv hS m7
 simp only [fF, eR] at h2 h3
 rw [h2]
 have D : ∀ o o' o'', aL (((st.aC b2 o).aC c o').aC b2 o'') st := fun o o' o'' => (((aL.refl _).aC hb2).aC hn2).aC hb2
 simp only [List.map_id'] at h3 ⊢
 exact ⟨_, LY (D _ _ _), b, rfl, rfl, fun h => (D _ _ _ b).1 (h3 h)⟩
abbrev lQ := zi tI_3 (zi zI_3 (zi aX (zi tI_9 (zi zI_9 (zi cH (zi tI_31 (zi zI_31 (zi aN (zi bF (zi bE (zi b9 (zi tI_51 (zi zI_51 (zi dV (zi fS (zi fV (zi gA (zi tI_63 (zi zI_63 (zi bS (zi bR (zi bP (zi bQ (zi bT (zi tI_90 (zi zI_90 (zi tI_125 (zi zI_125 (zi iV (zi lO (zi lJ mO)))))))))))))))))))))))))))))))
theorem PH (bs : List Bt) (c p : Nat) (t : Tm) (hsm : t.small = true) (st : aB) (hp : p + 10 ≤ 1099511627776) (hR : dL st c bs p) :
 aD prog 96 [.ptr c 0, t.av] st (Dr bs c p 10 st (fun r => ∃ t : Tm, r = t.av)) := by
 obtain ⟨k, n, s, ts⟩ := t
 refine aD.lK (aD.fin ?_)
 refine wF [1000000, 5] 2 func96 ntmps96 rfl rfl ?_
 intro _
 simp -implicitDefEqProofs only [aA, seval, lQ]
 intro b4 h4
 have h4c := hR.ne h4
 have hR' := fun o => hR.aC (o := o) h4c
 refine (aRY k n s ts _ hsm).mono ?_
 rintro _ _ ⟨b, rfl, rfl, hb⟩
 simp -implicitDefEqProofs only [eU, aK, aA, ↓aU, seval, lQ]
 intro b5 h5
 obtain ⟨hn5, hb5⟩ := CX h5
 have h54 : b5 ≠ b4 := by rintro rfl; rw [aB.aO] at hn5; cases hn5
 have ML : st b5 = none := by rw [aB.aM _ _ h54] at hn5; exact hn5
 have h5c : b5 ≠ c := hR.ne ML
 have hW4 : ∀ q, ((st.aC b4 (.cells [.int .i64 0, .int .i64 0, .str ⟨#[]⟩, .fslice []])).aC c (cA bs q)) b4 = some (.cells [.int .i64 0, .int .i64 0, .str ⟨#[]⟩, .fslice []]) := fun q => by rw [aB.aM _ _ h4c, aB.aO]
 have hdr : ∀ q Z Y, aL ((((st.aC b4 (.cells [.int .i64 0, .int .i64 0, .str ⟨#[]⟩, .fslice []])).aC c (cA bs q)).aC b5 Z).aC b4 Y) (st.aC c (cA bs q)) := fun q Z Y x => by
  by_cases e4 : x = b4 <;> by_cases ec : x = c <;> by_cases e5 : x = b5 <;> simp_all [aB.aC]
 have e0 : (aZ (st.aC b4 (.cells [.int .i64 0, .int .i64 0, .str ⟨#[]⟩, .fslice []])) b (ts.map Tm.av)).aC b5 (.cells [.int .i64 k, .int .i64 n, .str s, a9 4 b (ts.map Tm.av)]) = eV (st.aC b4 (.cells [.int .i64 0, .int .i64 0, .str ⟨#[]⟩, .fslice []])) b5 b [.int .i64 k, .int .i64 n, .str s] (ts.map Tm.av) := by
  rw [oM hb5]; try rfl
 have i0 : ts.map Tm.av ≠ [] → ((st.aC b4 (.cells [.int .i64 0, .int .i64 0, .str ⟨#[]⟩, .fslice []])).aC b5 (.cells ([.int .i64 k, .int .i64 n, .str s] ++ [a9 4 b (ts.map Tm.av)]))) b = none := fun h => by
  rw [aB.aM _ _ (dB (hb5 h))]; exact hb h
 have hUc : (st.aC b4 (.cells [.int .i64 0, .int .i64 0, .str ⟨#[]⟩, .fslice []])) c ≠ none := by rw [hR' _]; simp
 rw [e0]
 have hRk : dL (eV (st.aC b4 (.cells [.int .i64 0, .int .i64 0, .str ⟨#[]⟩, .fslice []])) b5 b [.int .i64 k, .int .i64 n, .str s] (ts.map Tm.av)) c bs p := by
  unfold dL
  rw [gC i0 hUc h5c.symm]
  exact hR' _
 refine (nA bs c p (by omega) 50 (by omega) (by omega) _ hRk).mono ?_
 rintro _ _ ⟨j, hj, rfl, rfl⟩
 obtain ⟨e1, i1⟩ := pL (o := cA bs (p + 1)) i0 hUc h5c.symm
 rw [e1]
 have hWc : ∀ q, ((st.aC b4 (.cells [.int .i64 0, .int .i64 0, .str ⟨#[]⟩, .fslice []])).aC c (cA bs q)) c ≠ none := fun q => by rw [aB.aO]; simp
 have hRq : ∀ q (hd l : List AV), (l ≠ [] → (((st.aC b4 (.cells [.int .i64 0, .int .i64 0, .str ⟨#[]⟩, .fslice []])).aC c (cA bs q)).aC b5 (.cells (hd ++ [a9 4 b l]))) b = none) → dL (eV ((st.aC b4 (.cells [.int .i64 0, .int .i64 0, .str ⟨#[]⟩, .fslice []])).aC c (cA bs q)) b5 b hd l) c bs q := fun q hd l hi => by
  unfold dL
  rw [gC hi (hWc q) h5c.symm, aB.aO]
  try rfl
 clear e0 i0 hRk e1
 simp -implicitDefEqProofs only [aA, seval]
 refine aQ (fun h0 => ?_) (fun h0 => ?_)
 · simp -implicitDefEqProofs only [aA, seval, lQ]
   refine (xF [0, 4, 1, 2, 3] (by simp) (by simp) bs c (p + 1) (by omega) _ (hRq _ _ _ i1)).mono ?_
   rintro _ _ ⟨y, _, rfl, rfl⟩
   obtain ⟨e1, i1⟩ := pL (o := cA bs (p + 1 + 1)) i1 (hWc _) h5c.symm
   rw [dE] at e1 i1
   rw [e1]
   have hbo := eC i1
   obtain ⟨e2, i1⟩ := GE (hd' := [.int .i64 y, .int .i64 n, .str s]) i1
   simp only [fF, eR] at e2
   simp -implicitDefEqProofs only [aK, hbo, aA, seval, lQ]
   rw [e2]
   have hbo := eC i1
   have h4o := gC i1 (x := b4) (by rw [hW4]; simp) h54.symm
   rw [hW4] at h4o
   simp -implicitDefEqProofs only [h4o, eU, aA, seval]
   obtain ⟨g5, g6⟩ := j0 (o := .cells [.int .i64 (y), .int .i64 (n), .str (s), a9 4 b ((ts).map Tm.av)]) i1 (show ((st.aC b4 (.cells [.int .i64 0, .int .i64 0, .str ⟨#[]⟩, .fslice []])).aC c (cA bs (p + 1 + 1))) b4 ≠ none by rw [hW4]; simp) h54.symm
   refine ⟨b, _, _, g5, g6, hH _, ⟨4, dR _⟩, st.aC c (cA bs (p + 1 + 1)), hdr _ _ _, p + 1 + 1, by omega, by omega, rfl, .mk (y) (n) (s) (ts), ?_⟩
   simp only [fL, bA, aW, d9, iO, iG, aV]
 simp -implicitDefEqProofs only [aA, seval]
 refine aQ (fun h0 => ?_) (fun h0 => ?_)
 · simp -implicitDefEqProofs only [aA, seval, lQ]
   refine (xF [26, 1000, -1000, -1, 1] (by simp) (by simp) bs c (p + 1) (by omega) _ (hRq _ _ _ i1)).mono ?_
   rintro _ _ ⟨y, _, rfl, rfl⟩
   obtain ⟨e1, i1⟩ := pL (o := cA bs (p + 1 + 1)) i1 (hWc _) h5c.symm
   rw [dE] at e1 i1
   rw [e1]
   have hbo := eC i1
   obtain ⟨e2, i1⟩ := GE (hd' := [.int .i64 k, .int .i64 y, .str s]) i1
   simp only [fF, eR] at e2
   simp -implicitDefEqProofs only [aK, hbo, aA, seval, lQ]
   rw [e2]
   have hbo := eC i1
   have h4o := gC i1 (x := b4) (by rw [hW4]; simp) h54.symm
   rw [hW4] at h4o
   simp -implicitDefEqProofs only [h4o, eU, aA, seval]
   obtain ⟨g5, g6⟩ := j0 (o := .cells [.int .i64 (k), .int .i64 (y), .str (s), a9 4 b ((ts).map Tm.av)]) i1 (show ((st.aC b4 (.cells [.int .i64 0, .int .i64 0, .str ⟨#[]⟩, .fslice []])).aC c (cA bs (p + 1 + 1))) b4 ≠ none by rw [hW4]; simp) h54.symm
   refine ⟨b, _, _, g5, g6, hH _, ⟨4, dR _⟩, st.aC c (cA bs (p + 1 + 1)), hdr _ _ _, p + 1 + 1, by omega, by omega, rfl, .mk (k) (y) (s) (ts), ?_⟩
   simp only [fL, bA, aW, d9, iO, iG, aV]
 simp -implicitDefEqProofs only [aA, seval]
 refine aQ (fun h0 => ?_) (fun h0 => ?_)
 · simp -implicitDefEqProofs only [aA, seval, lQ]
   refine (EK [⟨#[]⟩, ⟨#[88]⟩, ⟨#[116, 111, 111, 108, 111, 110, 103]⟩, ⟨#[195, 169]⟩, ⟨#[97]⟩] (by simp) (by simp) bs c (p + 1) (by omega) _ (hRq _ _ _ i1)).mono ?_
   rintro _ _ ⟨y, _, rfl, rfl⟩
   obtain ⟨e1, i1⟩ := pL (o := cA bs (p + 1 + 1)) i1 (hWc _) h5c.symm
   rw [dE] at e1 i1
   rw [e1]
   have hbo := eC i1
   obtain ⟨e2, i1⟩ := GE (hd' := [.int .i64 k, .int .i64 n, .str y]) i1
   simp only [fF, eR] at e2
   simp -implicitDefEqProofs only [aK, hbo, aA, seval, lQ]
   rw [e2]
   have hbo := eC i1
   have h4o := gC i1 (x := b4) (by rw [hW4]; simp) h54.symm
   rw [hW4] at h4o
   simp -implicitDefEqProofs only [h4o, eU, aA, seval]
   obtain ⟨g5, g6⟩ := j0 (o := .cells [.int .i64 (k), .int .i64 (n), .str (y), a9 4 b ((ts).map Tm.av)]) i1 (show ((st.aC b4 (.cells [.int .i64 0, .int .i64 0, .str ⟨#[]⟩, .fslice []])).aC c (cA bs (p + 1 + 1))) b4 ≠ none by rw [hW4]; simp) h54.symm
   refine ⟨b, _, _, g5, g6, hH _, ⟨4, dR _⟩, st.aC c (cA bs (p + 1 + 1)), hdr _ _ _, p + 1 + 1, by omega, by omega, rfl, .mk (k) (n) (y) (ts), ?_⟩
   simp only [fL, bA, aW, d9, iO, iG, aV]
 simp -implicitDefEqProofs only [aA, seval]
 refine aQ (fun h0 => ?_) (fun h0 => ?_)
 · simp -implicitDefEqProofs only [aA, seval]
   refine g9 (σ := Nat × List Tm) [1000000, 5] [4, 5, 10] (fun x => (x.2.map Tm.av ≠ [] → (aB.aC ((st.aC b4 (.cells [.int .i64 0, .int .i64 0, .str ⟨#[]⟩, .fslice []])).aC c (cA bs (p + 1))) b5 (.cells ([.int .i64 k, .int .i64 n, .str s] ++ [a9 4 x.1 (x.2.map Tm.av)]))) x.1 = none)) (fun _ => []) (fun x => eV ((st.aC b4 (.cells [.int .i64 0, .int .i64 0, .str ⟨#[]⟩, .fslice []])).aC c (cA bs (p + 1))) b5 x.1 [.int .i64 k, .int .i64 n, .str s] (x.2.map Tm.av)) (fun x => 5 - x.2.length) (by decide +kernel) ⟨(b, ts), i1, aP.mk (by simp -implicitDefEqProofs only [aA, seval])⟩ ?_
   rintro ⟨b, acc⟩ i1
   simp only at i1
   have hbo := eC i1
   have haL := sU (w := 4) (b := b) (l := acc.map Tm.av) b9
   simp -implicitDefEqProofs only [hbo, mD, haL, aF, aA, seval, lQ]
   refine aQ (fun h1 => ?_) (fun h1 => ?_)
   · simp only [bJ] at h1
     have cV : (acc.map Tm.av).length ≤ 4 := by rw [aF]; omega
     simp -implicitDefEqProofs only [aA, seval]
     refine CH [(0, 1), (1, 1), (2, 0), (3, 1), (4, 0), (5, 1), (6, 2)] [0, 1, 3, 5] (dY.aC b5 (.cells [.int .i64 k, .int .i64 n, .str s, a9 4 b (acc.map Tm.av)])) mixed (by decide +kernel) (by decide +kernel) (by decide +kernel) rfl (g8 hbo) ?_
     simp -implicitDefEqProofs only [mD, aA, seval, lQ]
     refine (AZ 1 _).to ?_
     simp -implicitDefEqProofs only [aT, aH, cG, aA, seval, lQ]
     refine ⟨g8 hbo, ?_⟩
     refine eN aN bF bE rfl rfl (fC (aH _) (bZ _)) (dR _) i1 (by simp only [aS, a7]; omega) (by simp only [aS, a7]; omega) (fun b' hb' => ?_)
     rw [show acc.map Tm.av ++ [(Tm.mk 2 1 ⟨#[]⟩ []).av] = (acc ++ [Tm.mk 2 1 ⟨#[]⟩ []]).map Tm.av by simp] at hb' ⊢
     obtain ⟨g1, g2, g3⟩ := nG hb'
     simp only [fF, eR] at g1 g3
     simp -implicitDefEqProofs only [aK, eU, mB, aA, seval, lQ]
     refine ⟨g8 g3, ?_⟩
     simp -implicitDefEqProofs only [g3, g1, aA, seval]
     refine ⟨(b', acc ++ [Tm.mk 2 1 ⟨#[]⟩ []]), by simp only [dQ, aS, a7]; omega, g2, aP.mk (by simp -implicitDefEqProofs only [aA, seval])⟩
   · simp -implicitDefEqProofs only [aK, hbo, eU, aA, seval, lQ]
     have hbo := eC i1
     have h4o := gC i1 (x := b4) (by rw [hW4]; simp) h54.symm
     rw [hW4] at h4o
     simp -implicitDefEqProofs only [h4o, aA, seval]
     obtain ⟨g5, g6⟩ := j0 (o := .cells [.int .i64 (k), .int .i64 (n), .str (s), a9 4 b ((acc).map Tm.av)]) i1 (show ((st.aC b4 (.cells [.int .i64 0, .int .i64 0, .str ⟨#[]⟩, .fslice []])).aC c (cA bs (p + 1))) b4 ≠ none by rw [hW4]; simp) h54.symm
     refine ⟨b, _, _, g5, g6, hH _, ⟨4, dR _⟩, st.aC c (cA bs (p + 1)), hdr _ _ _, p + 1, by omega, by omega, rfl, .mk (k) (n) (s) (acc), ?_⟩
     simp only [fL, bA, aW, d9, iO, iG, aV]
 simp -implicitDefEqProofs only [aA, seval]
 refine aQ (fun h0 => ?_) (fun h0 => ?_)
 · simp -implicitDefEqProofs only [aA, seval]
   have hW5 : ∀ Z, ((st.aC b4 (.cells [.int .i64 0, .int .i64 0, .str ⟨#[]⟩, .fslice []])).aC c (cA bs (p + 1))).aC b5 Z b4 = some (.cells [.int .i64 0, .int .i64 0, .str ⟨#[]⟩, .fslice []]) := fun Z => by rw [aB.aM _ _ h54.symm, hW4]
   refine eK (σ := Tm) [1000000, 5] [4, 5] (List.range 30) (fun _ _ => True) (fun i _ => [(6, .int .i64 i)]) (fun _ u => ((st.aC b4 (.cells [.int .i64 0, .int .i64 0, .str ⟨#[]⟩, .fslice []])).aC c (cA bs (p + 1))).aC b5 (.cells u.av.cells)) (by decide +kernel)
    ⟨.mk k n s ts, trivial, ?_⟩ (fun i x u hx hlt bU x6 _ => ?_) (fun u hge _ => ?_)
   · rw [aV]
     exact (aM4 i1 (hH _) ⟨4, dR _⟩).trans (fK.jW (by simp -implicitDefEqProofs only [aA, ↓aU, seval]))
   · rw [K7] at hlt
     have aNB : decide ((i : Int) < 30) = true := by simp; omega
     have hw := bK (n := (i : Int) + 1)
     simp -implicitDefEqProofs only [aNB, bO, aT, aH, cG, d8 (bO _), eD (aT _), aA, seval, lQ]
     refine (rJ ⟨#[115]⟩ [u] (by simp) _).to ?_
     simp -implicitDefEqProofs only [dE, aK, hw, bO, bZ, aA, seval, lQ]
     exact ⟨.mk 3 0 ⟨#[115]⟩ [u], aP.mk (by simp -implicitDefEqProofs only [aA, seval])⟩
   · have aY6 : decide ((29 : Int) + 1 < 30) = false := rfl
     have h4o := hW5 (.cells u.av.cells)
     simp -implicitDefEqProofs only [K7, aK, h4o, bO, bZ, d8 (bO _), eD (aT _), aA, ↓aU, seval, lQ]
     exact ⟨0, [], _, rfl, by simp, by simp, ⟨4, by simp⟩, st.aC c (cA bs (p + 1)), hdr _ _ _, p + 1, by omega, by omega, rfl, u, Tm.uK u 0⟩
 · simp -implicitDefEqProofs only [aA, seval, lQ]
   have hbo := eC i1
   have h4o := gC i1 (x := b4) (by rw [hW4]; simp) h54.symm
   rw [hW4] at h4o
   simp -implicitDefEqProofs only [aK, hbo, h4o, eU, aA, seval, lQ]
   obtain ⟨g5, g6⟩ := j0 (o := .cells [.int .i64 (k), .int .i64 (n), .str (s), a9 4 b ((ts).map Tm.av)]) i1 (show ((st.aC b4 (.cells [.int .i64 0, .int .i64 0, .str ⟨#[]⟩, .fslice []])).aC c (cA bs (p + 1))) b4 ≠ none by rw [hW4]; simp) h54.symm
   refine ⟨b, _, _, g5, g6, hH _, ⟨4, dR _⟩, st.aC c (cA bs (p + 1)), hdr _ _ _, p + 1, by omega, by omega, rfl, .mk (k) (n) (s) (ts), ?_⟩
   simp only [fL, bA, aW, d9, iO, iG, aV]
abbrev aL2 := zi tI_3 (zi zI_3 (zi aX (zi tI_29 (zi zI_29 (zi gZ (zi j8 (zi j6 (zi kU (zi tI_76 (zi zI_76 (zi lF (zi lI lS))))))))))))
theorem aS3 (l : List Cl) (g : FuncId) (dS : List AV) (p : Cl → Bool) (st : aB) (hc : ∀ x ∈ l, aD prog g ([b7 x] ++ dS) st (fun r st' => r = .bool (p x) ∧ st' = st)) :
 aD prog 159 [.slice (l.map b7), .func g dS] st (fun r st' => ∃ j : Int, r = .int .i64 j ∧ decide (0 ≤ j) = l.any p ∧ st' = st) := by
 refine wF [] 2 func159 ntmps159 rfl rfl ?_
 simp only [eE, AV.fits, eM, aF]
 intro ⟨hl, _⟩
 simp -implicitDefEqProofs only [aF, aA, seval, aL2]
 refine eK (σ := Unit) [] [0, 1, 7] l (fun i _ => (l.drop i).any p = l.any p) (fun i _ => [(8, .int .i64 i)]) (fun _ _ => st) (by decide +kernel) ⟨(), rfl, aP.mk (by simp -implicitDefEqProofs only [aA, ↓aU, seval])⟩ (fun i x _ hx hlt bU hdr hinv => ?_) (fun _ hge hinv => ?_)
 case refine_2 =>
  simp -implicitDefEqProofs only [hge, aA, seval]
  rw [kF] at hinv
  exact ⟨-1, rfl, by rw [← hinv]; try rfl⟩
 rw [hdr, DC] at hinv
 have hw := bK (n := (i : Int) + 1)
 simp -implicitDefEqProofs only [bU, bL (av := b7) gZ hx (oR x), CP, oR, aA, seval, aL2]
 refine (hc x (cW hx)).to ?_
 simp -implicitDefEqProofs only [aA, seval]
 refine aQ (fun h => ?_) (fun h => ?_)
 · simp -implicitDefEqProofs only [aA, seval]
   exact ⟨i, rfl, by rw [← hinv, h]; simp⟩
 · rw [h, qV] at hinv
   simp -implicitDefEqProofs only [aA, seval]
   exact ⟨(), hinv, aP.mk (by simp -implicitDefEqProofs only [hw, aA, seval])⟩
theorem a0C (l : List Cl) (g : FuncId) (dS : List AV) (p : Cl → Bool) (st : aB) (hc : ∀ x ∈ l, aD prog g ([b7 x] ++ dS) st (fun r st' => r = .bool (p x) ∧ st' = st)) :
 aD prog 118 [.slice (l.map b7), .func g dS] st (fun r st' => r = .bool (l.any p) ∧ st' = st) := by
 refine wF [] 2 func118 ntmps118 rfl rfl ?_
 intro _
 simp -implicitDefEqProofs only [aA, seval]
 refine (aS3 l g dS p st hc).mono ?_
 rintro _ _ ⟨j, rfl, hj, rfl⟩
 simp -implicitDefEqProofs only [hj, aA, seval]
abbrev PP := zi tI_4 (zi zI_4 (zi cF (zi tI_31 (zi zI_31 (zi aN (zi bF (zi bE (zi b9 (zi tI_63 (zi zI_63 (zi bS (zi bR (zi bP (zi bQ (zi bT (zi tI_76 (zi zI_76 (zi lF (zi lI lS)))))))))))))))))))
theorem a0G (c : Cl) (st : aB) : aD prog 120 [b7 c] st (fun r st' => r = .bool (k7 c) ∧ st' = st) := by
 obtain ⟨⟨k, n, s, ts⟩, b⟩ := c
 have hv := fun st => aDM (.mk k n s ts) st
 have hp := fun st => aC5 k n s ts st
 simp only [aV] at hv hp
 have hg := fun st => WX b st
 simp only [gH, k7, NF]
 simp only [lV] at hg
 generalize (Tm.mk k n s ts).valid = v at *
 refine wF [1000000] 1 func120 ntmps120 rfl rfl ?_
 intro _
 simp -implicitDefEqProofs only [aA, seval, PP]
 refine (hv _).to ?_
 cases v with
 | false => simp -implicitDefEqProofs only [gK, aA, seval]
 | true =>
  simp -implicitDefEqProofs only [iM, eT, aA, seval, PP]
  refine (hp _).to ?_
  cases hpl : pK k s (ts.length : Int) with
  | false => simp -implicitDefEqProofs only [gK, aA, seval]
  | true =>
   simp -implicitDefEqProofs only [iM, eT, aA, seval, PP]
   refine (hg _).to ?_
   simp -implicitDefEqProofs only [aA, seval]
abbrev aO7 := zi tI_4 (zi zI_4 (zi cF (zi tI_76 (zi zI_76 (zi lF (zi lI lS))))))
theorem aNV (c : Cl) (st : aB) : aD prog 119 [b7 c] st (fun r st' => r = .bool (!k7 c) ∧ st' = st) := by
 refine wF [1000000] 1 func119 ntmps119 rfl rfl ?_
 intro _
 simp -implicitDefEqProofs only [JM, CP, oR, aA, seval, aO7]
 refine (a0G c st).to ?_
 simp -implicitDefEqProofs only [aA, seval]
abbrev aZ3 := zi tI_3 (zi zI_3 (zi aX (zi tI_4 (zi zI_4 (zi cF (zi tI_29 (zi zI_29 (zi gZ (zi j8 (zi j6 kU))))))))))
theorem aXH (p : List Cl) (st : aB) : aD prog 82 [.slice (p.map b7)] st (fun r st' => r = .bool (pY p) ∧ st' = st) := by
 refine wF [1000000] 1 func82 ntmps82 rfl rfl ?_
 simp only [eE, AV.fits, eM, aF]
 intro _
 unfold pY
 simp -implicitDefEqProofs only [aF, aA, seval, aZ3]
 refine cS (fun h => ?_) (fun h => ?_)
 · simp only [bJ] at h
   rw [show decide (p.length ≤ 20) = true by simp; omega]
   simp -implicitDefEqProofs only [h, aA, seval]
   refine (a0C p _ [] (fun t => !k7 t) st fun x _ => aNV x st).to ?_
   simp -implicitDefEqProofs only [M6, aA, seval]
 · simp only [oU, dH] at h
   rw [show decide (p.length ≤ 20) = false by simp; omega]
   simp -implicitDefEqProofs only [h, aA, seval]
   rfl
abbrev B7 := zi tI_3 (zi zI_3 (zi aX (zi tI_4 (zi zI_4 (zi cF (zi tI_31 (zi zI_31 (zi aN (zi bF (zi bE (zi b9 (zi tI_63 (zi zI_63 (zi bS (zi bR (zi bP (zi bQ (zi bT (zi tI_76 (zi zI_76 (zi lF (zi lI lS))))))))))))))))))))))
theorem TZ (c : Cl) (st : aB) : aD prog 67 [b7 c] st (fun r st' => r = .bool (k7 c) ∧ st' = st) := by
 obtain ⟨⟨k, n, s, ts⟩, l⟩ := c
 have hv := fun st => P4 (.mk k n s ts) st
 have hp := fun st => V8 k n s ts st
 simp only [aV] at hv hp
 simp only [gH, k7, NF]
 generalize (Tm.mk k n s ts).valid = v at *
 refine wF [1000000] 1 func67 ntmps67 rfl rfl ?_
 simp only [eE, AV.fits, eM, aF]
 intro ⟨_, _, _, _, hl, _⟩
 have jP : l.all Tm.goal = true ∨ l.length > 6 → (decide ((l.length : Int) ≤ 6) && v && pK k s (ts.length : Int)) = (v && pK k s (ts.length : Int) && (decide (l.length ≤ 6) && l.all Tm.goal)) := fun h => by
  by_cases h6 : l.length ≤ 6
  · have hg : l.all Tm.goal = true := h.resolve_right (by omega)
    rw [hg, show decide ((l.length : Int) ≤ 6) = true from gB (by omega), show decide (l.length ≤ 6) = true from gB h6]
    simp
  · rw [show decide ((l.length : Int) ≤ 6) = false from fH (by omega), show decide (l.length ≤ 6) = false from fH h6]
    simp
 simp -implicitDefEqProofs only [aA, seval, B7]
 refine eK (σ := Unit) [1000000] [1] l (fun i _ => i ≤ 7 ∧ (l.take i).all Tm.goal = true) (fun i _ => [(2, .bool false), (3, .int .i64 i)]) (fun _ _ => st) (by decide +kernel) ⟨(), ⟨by omega, by simp⟩, aP.mk (by simp -implicitDefEqProofs only [aA, ↓aU, seval])⟩ (fun i x _ hx hlt bU hdr hinv => ?_) (fun _ hge hinv => ?_)
 · obtain ⟨i1, i2⟩ := hinv
   have hw := bK (n := (i : Int) + 1)
   by_cases h7 : i ≤ 6
   · have h7' : decide ((i : Int) ≤ 6) = true := gB (by omega)
     have hat := bL (av := Tm.av) aN hx (aH x)
     simp -implicitDefEqProofs only [bU, bM, iM, aF, h7', hat, aT, aH, aA, seval, B7]
     refine (UM x st).to ?_
     simp -implicitDefEqProofs only [aA, seval]
     refine aQ (fun h2 => ?_) (fun h2 => ?_)
     · simp only [lX] at h2
       simp -implicitDefEqProofs only [aA, seval]
       have : l.all Tm.goal = false := tX hx h2
       rw [this]; simp
     · simp only [tW] at h2
       simp -implicitDefEqProofs only [aA, seval]
       refine ⟨(), ⟨by omega, ?_⟩, aP.mk (by simp -implicitDefEqProofs only [hw, aA, seval])⟩
       rw [fM, hx, DD, i2]
       simp [h2]
   · have h7' : decide ((i : Int) ≤ 6) = false := fH (by omega)
     have h8 : decide ((l.length : Int) ≤ 6) = false := fH (by omega)
     rw [← jP (.inr (by omega)), h8]
     simp -implicitDefEqProofs only [bU, bM, iM, h8, gK, aF, h7', aA, seval, B7]
 · obtain ⟨i1, i2⟩ := hinv
   rw [eS] at i2
   rw [← jP (.inl i2)]
   cases h8 : decide ((l.length : Int) ≤ 6) with
   | false =>
    simp -implicitDefEqProofs only [hge, aF, h8, gK, aA, seval, B7]
   | true =>
    simp -implicitDefEqProofs only [hge, iM, aF, h8, eT, aA, seval, B7]
    refine (hv _).to ?_
    cases v with
    | false => simp -implicitDefEqProofs only [gK, aA, seval]
    | true =>
     simp -implicitDefEqProofs only [iM, eT, aA, seval, B7]
     refine (hp _).to ?_
     simp -implicitDefEqProofs only [aA, seval]
abbrev OP := zi tI_3 (zi zI_3 (zi aX (zi tI_4 (zi zI_4 (zi cF (zi tI_29 (zi zI_29 (zi gZ (zi j8 (zi j6 (zi kU (zi tI_76 (zi zI_76 (zi lF (zi lI lS)))))))))))))))
theorem aYK (l : List Cl) (st : aB) : aD prog 41 [.slice (l.map b7)] st (fun r st' => r = .bool (pY l) ∧ st' = st) := by
 refine wF [1000000] 1 func41 ntmps41 rfl rfl ?_
 simp only [eE, AV.fits, eM, aF]
 intro ⟨hl, _⟩
 simp -implicitDefEqProofs only [aA, seval]
 refine eK (σ := Unit) [1000000] [0] l (fun i _ => i ≤ 21 ∧ (l.take i).all k7 = true) (fun i _ => [(2, .bool false), (3, .int .i64 i)]) (fun _ _ => st) (by decide +kernel) ⟨(), ⟨by omega, by simp⟩, aP.mk (by simp -implicitDefEqProofs only [aA, ↓aU, seval])⟩ (fun i x _ hx hlt bU hdr hinv => ?_) (fun _ hge hinv => ?_)
 · obtain ⟨i1, i2⟩ := hinv
   have hw := bK (n := (i : Int) + 1)
   by_cases h7 : i ≤ 20
   · have h7' : decide ((i : Int) ≤ 20) = true := gB (by omega)
     have hat := bL (av := b7) gZ hx (oR x)
     simp -implicitDefEqProofs only [bU, bM, iM, aF, h7', hat, CP, oR, aA, seval, OP]
     refine (TZ x st).to ?_
     simp -implicitDefEqProofs only [aA, seval]
     refine aQ (fun h2 => ?_) (fun h2 => ?_)
     · simp only [lX] at h2
       simp -implicitDefEqProofs only [aA, seval]
       have : l.all k7 = false := tX hx h2
       simp only [pY, this, tV]
     · simp only [tW] at h2
       simp -implicitDefEqProofs only [aA, seval]
       refine ⟨(), ⟨by omega, ?_⟩, aP.mk (by simp -implicitDefEqProofs only [hw, aA, seval])⟩
       rw [fM, hx, DD, i2]
       simp [h2]
   · have h7' : decide ((i : Int) ≤ 20) = false := fH (by omega)
     have h8 : decide ((l.length : Int) ≤ 20) = false := fH (by omega)
     have h9 : decide (l.length ≤ 20) = false := fH (by omega)
     simp -implicitDefEqProofs only [bU, bM, iM, aF, h7', h8, pY, h9, gK, aA, seval, OP]
 · obtain ⟨i1, i2⟩ := hinv
   rw [eS] at i2
   simp -implicitDefEqProofs only [hge, aF, aA, seval, OP]
   simp only [pY, i2, DB, AV.bool.injEq, AB]
   omega
end Go.AW
namespace Go.AW

def dM : AV → List Nat
 | .mslice b _ _ _ => [b]
 | _ => []
def iZ (st : aB) (w : Nat) (q : AV) (l : List AV) : Prop :=
 (q = .fslice [] ∧ l = []) ∨ ∃ b cs, q = .mslice b 0 l.length w ∧ st b = Option.some (.cells cs) ∧ cs.take (l.length * w) = l.flatMap AV.cells ∧ l.length * w ≤ cs.length
theorem iZ.shape {st : aB} {w : Nat} {q : AV} {l : List AV} (h : iZ st w q l) : q.isAgg = false ∧ q.width = 1 ∧ q.cB = false ∧ q.cells = [q] ∧ q.storable = true := by
 rcases h with ⟨rfl, _⟩ | ⟨b', cs, rfl, _⟩ <;> exact ⟨rfl, rfl, rfl, rfl, rfl⟩
theorem iZ.a8 {st st' : aB} {w : Nat} {q : AV} {l : List AV} (h : iZ st w q l) (hk : ∀ b ∈ dM q, st' b = st b) : iZ st' w q l := by
 rcases h with h | ⟨b, cs, rfl, hb, h2⟩
 · exact .inl h
 · exact .inr ⟨b, cs, rfl, by rw [hk b (by simp [dM])]; exact hb, h2⟩
theorem iZ.some {st : aB} {w : Nat} {q : AV} {l : List AV} (h : iZ st w q l) : ∀ b ∈ dM q, ∃ cs, st b = Option.some (.cells cs) := by
 intro b hb
 rcases h with ⟨rfl, _⟩ | ⟨b', cs, rfl, hb', _⟩
 · simp [dM] at hb
 · simp only [dM, cY, dP, d4] at hb; subst hb; exact ⟨cs, hb'⟩
theorem iZ.len {P : Program} {t e : TypeId} {st : aB} {w : Nat} {q : AV} {l : List AV} (h : iZ st w q l) (hu : P.underlying t = Option.some (.slice e)) : nF P t q = Option.some (.int .i64 (l.length : Int)) := by
 rcases h with ⟨rfl, rfl⟩ | ⟨b, cs, rfl, _⟩ <;> simp only [nF, hu, a7]
theorem iZ.append {P : Program} {t : TypeId} {ag : Bool} {bytes w : Nat} {zs : List AV} {st : aB} {q : AV} {l : List AV} {x : AV} {K : AV → aB → Prop} (hI : eI P t = Option.some (ag, w)) (hB : eB P t = Option.some bytes) (hZ : eZ P t = Option.some zs) (hz : zs.length = w) (hb8 : bytes ≤ 4096)
 (h : iZ st w q l) (hx : x.width = w) (hxs : x.cells.all AV.storable = true) (hl : l.length ≤ 1073741824)
 (hK : ∀ q' st', iZ st' w q' (l ++ [x]) → (∀ y, y ∉ dM q → y ∉ dM q' → st' y = st y) → (∀ y ∈ dM q', y ∈ dM q ∨ st y = none) → K q' st') : jI P t st q (.fslice [x]) K := by
 have fT : tE w [x] := by intro e he; simp only [cY, dP, d4] at he; subst he; exact ⟨hx, hxs⟩
 have DT : (l.length + 1) * bytes ≤ 140737488355328 := by
  have := Nat.mul_le_mul (show l.length + 1 ≤ 1073741825 by omega) hb8
  omega
 have hxc : x.cells.length = w := by rw [uX, hx]
 unfold jI
 simp only [hI, hB, hZ, wI]
 refine ⟨hz, fT, ?_⟩
 rcases h with ⟨rfl, rfl⟩ | ⟨b, cs, rfl, hb, hcs, hcl⟩
 · simp only [a7, aS, gV] at DT ⊢
   refine ⟨by omega, by omega, by simp, fun h => by simp at h, fun _ b hb => ?_⟩
   refine hK _ _ (.inr ⟨b, x.cells, rfl, by rw [aB.aO]; simp, ?_, ?_⟩) (fun y _ hy => ?_) (fun y hy => ?_)
   · simp only [eR, aS, a7, gV, Nat.one_mul, tR, List.flatMap_nil, iA]
     rw [← hxc, eS]
   · simp only [eR, aS, a7, gV, Nat.one_mul]
     omega
   · simp only [dM, cY, dP, d4] at hy
     rw [aB.aM _ _ hy]
   · simp only [dM, cY, dP, d4] at hy
     subst hy; exact .inr hb
 · simp only [aS, a7, gV, hb]
   have lH : cs.take (l.length * w) ++ [x].flatMap AV.cells = (l ++ [x]).flatMap AV.cells := by rw [hcs]; simp
   have hlen : ((l ++ [x]).flatMap AV.cells).length = (l ++ [x]).length * w := by
    rw [← lH, dQ, d7, lC hcl]
    simp only [tR, List.flatMap_nil, iA, hxc, dQ, aS, a7]
    rw [xM]; omega
   refine ⟨trivial, DT, by omega, hcl, ?_, fun b' hb' => ?_⟩
   · rw [lH]
     refine hK _ _ (.inr ⟨b, _, by simp, aB.aO _ _ _, by rw [mP (by rw [hlen]; exact c7 _)], by rw [hlen]; exact c7 _⟩) (fun y hy _ => ?_) (fun y hy => .inl hy)
     simp only [dM, cY, dP, d4] at hy
     rw [aB.aM _ _ hy]
   · rw [lH]
     refine hK _ _ (.inr ⟨b', _, by simp, aB.aO _ _ _, by rw [mP (by rw [hlen]; exact c7 _)], by rw [hlen]; exact c7 _⟩) (fun y hy hy' => ?_) (fun y hy => ?_)
     · simp only [dM, cY, dP, d4] at hy hy'
       rw [aB.aM _ _ hy']
       simp [aB.erase, hy]
     · simp only [dM, cY, dP, d4] at hy
       subst hy; exact .inr hb'
def xK (k : Nat) : AV → AV
 | .mslice b o _ w => .mslice b o k w
 | a => a
theorem iZ.take {st : aB} {w : Nat} {q : AV} {l : List AV} (h : iZ st w q l) {k : Nat} (hk : k ≤ l.length) (hw : ∀ e ∈ l, e.width = w) : iZ st w (xK k q) (l.take k) := by
 rcases h with ⟨rfl, rfl⟩ | ⟨b, cs, rfl, hb, hcs, hcl⟩
 · exact .inl ⟨rfl, by simp⟩
 · have hlk : (l.take k).length = k := by rw [d7]; omega
   have h1 : k * w ≤ l.length * w := sJ w hk
   refine .inr ⟨b, cs, by rw [hlk]; try rfl, hb, ?_, by rw [hlk]; omega⟩
   rw [hlk]
   have h2 : cs.take (k * w) = (cs.take (l.length * w)).take (k * w) := by rw [xO, lC h1]
   rw [h2, hcs]
   have h3 : l.flatMap AV.cells = (l.take k).flatMap AV.cells ++ (l.drop k).flatMap AV.cells := by rw [← z7, sK]
   have h4 : ((l.take k).flatMap AV.cells).length = k * w := by rw [oN (n := w) (es := l.take k) (fun e he => hw e (lW he)), hlk]
   rw [h3, List.take_left' h4]
theorem CZ (k : Nat) (q : AV) : dM (xK k q) = dM q := by cases q <;> rfl
theorem iZ.at {st : aB} {w : Nat} {q : AV} {l : List AV} (h : iZ st w q l) (hw : ∀ e ∈ l, e.width = w) {i : Nat} {e : AV} (he : l[i]? = .some e) :
 ∃ b cs, q = .mslice b 0 l.length w ∧ st b = .some (.cells cs) ∧ i * w + w ≤ cs.length ∧ (cs.drop (i * w)).take w = e.cells := by
 obtain ⟨hi, hei⟩ := gQ.1 he
 rcases h with ⟨rfl, rfl⟩ | ⟨b, cs, rfl, hb, hcs, hcl⟩
 · simp at he
 · have h1 : (i + 1) * w ≤ l.length * w := sJ w hi
   rw [xM, Nat.one_mul] at h1
   refine ⟨b, cs, rfl, hb, by omega, ?_⟩
   have h2 : l = l.take i ++ e :: l.drop (i + 1) := by rw [← hei, ← qW hi, sK]
   have hA : ((l.take i).flatMap AV.cells).length = i * w := by
    rw [oN (n := w) (es := l.take i) (fun e he => hw e (lW he)), d7, lC (by omega)]
   have hE : e.cells.length = w := by rw [uX]; exact hw e (cW he)
   have h3 : (cs.drop (i * w)).take w = ((cs.take (l.length * w)).drop (i * w)).take w := by
    rw [List.drop_take, xO, lC (by omega)]
   rw [h3, hcs, h2]
   simp only [z7, tR]
   rw [List.drop_left' hA, List.take_left' hE]
theorem cZ.fz {h : bH} {st : aB} {b : Nat} {es : List AV} (S : cQ h st) (hb : st b = some (.cells (es.flatMap AV.cells))) (hj : ∀ e ∈ es, e.cB = false) (hE : gT es) : ∀ {us : List AV} {vs : List Value}, cZ h st us vs → cZ h (st.erase b) (kL b es us) vs
 | [], vs, x => by simp only [cZ] at x; simp [kL, cZ, x]
 | a :: us, vs, x => by
  simp only [cZ] at x
  obtain ⟨v, r, rfl, x1, x2⟩ := x
  simp only [kL, cZ]
  exact ⟨v, r, rfl, x1.fz S hb hj hE, cZ.fz S hb hj hE x2⟩
theorem cC.unerase {h h' : bH} {st st' : aB} {b : Nat} (x : cC h (st.erase b) h' st') : cC h st h' st' :=
 ⟨x.size, fun c hc e => x.a8 c hc (aB.a0A st e), x.shape⟩
theorem aD.aQR {P : Program} {g : FuncId} {args : List AV} {st : aB} {Q : AV → aB → Prop} (b : Nat) (es : List AV) (hb : st b = some (.cells (es.flatMap AV.cells))) (hj : ∀ e ∈ es, e.cB = false) (hE : gT es) (x : aD P g (kL b es args) (st.erase b) Q) : aD P g args st Q :=
 ⟨x.1, fun w vs S V => (x.2 w vs ((jJ st b).DS S) (V.fz S hb hj hE)).mono fun _ _ ⟨v, r, st', e, a, b', c, d, q⟩ => ⟨v, r, st', e, a, b', c.unerase, d, q⟩⟩
def Lit (st : aB) (w : Nat) (l : List AV) (q : AV) (s : aB) : Prop := (q = .fslice l ∧ s = st) ∨ ∃ b, st b = none ∧ q = .mslice b 0 l.length w ∧ s = st.aC b (.cells (l.flatMap AV.cells))
theorem aQA {P : Program} {t : TypeId} {ag : Bool} {w bytes : Nat} {zs : List AV} {st : aB} {es xs : List AV} {x : AV} {K : AV → aB → Prop} (hI : eI P t = some (ag, w)) (hB : eB P t = some bytes) (hZ : eZ P t = some zs) (hz : zs.length = w) (hx : x = .slice xs ∨ x = .fslice xs) (hes : ∀ e ∈ es, e.width = w) (fT : tE w xs) (hl : (es.length + xs.length) * bytes ≤ 140737488355328) (hl2 : es.length + xs.length ≤ 9223372036854775807)
 (hK : ∀ q s, Lit st w (es ++ xs) q s → K q s) : jI P t st (.fslice es) x K := by
 unfold jI
 have he : wI x = some xs := by rcases hx with rfl | rfl <;> rfl
 simp only [hI, hB, hZ, he]
 refine ⟨hz, fT, hl, hl2, hes, fun h => ?_, fun _ b hb => ?_⟩
 · subst h
   exact hK _ _ (.inl ⟨by rw [iA], rfl⟩)
 · exact hK _ _ (.inr ⟨b, hb, by rw [dQ], rfl⟩)
theorem Lit.call {P : Program} {g : FuncId} {st s : aB} {w : Nat} {l : List AV} {q : AV} {post : List AV} {Q : AV → aB → Prop} (h : Lit st w l q s) (hj : ∀ e ∈ l, e.cB = false) (hw : ∀ e ∈ l, e.width = w) (hp : ∀ b, kL b l post = post) (x : aD P g (.slice l :: post) st Q) : aD P g (q :: post) s Q := by
 rcases h with ⟨rfl, rfl⟩ | ⟨b, hb, rfl, rfl⟩
 · refine aD.args x fun hp vs S V => ?_
   simp only [cZ] at V ⊢
   obtain ⟨v, r, rfl, V1, V2⟩ := V
   exact ⟨v, r, rfl, V1.DR, V2⟩
 · refine aD.aQR b l (aB.aO _ _ _) hj ⟨w, hw⟩ ?_
   rw [aB.xH st b _ hb]
   have : kL b l (.mslice b 0 l.length w :: post) = .slice l :: post := by
    show (AV.mslice b 0 l.length w).fz b l :: kL b l post = _
    rw [hp]
    simp [AV.fz]
   rw [this]
   exact x
end Go.AW
namespace Go.AW
open Go.Proofs.Tryz
def nv (i : Nat) : AV := .int .i64 (i : Int)
def eG : RG → AV
 | ⟨.mk k n s ts, a8⟩ => .agg [.int .i64 k, .int .i64 n, .str s, .slice (ts.map Tm.av), .int .i64 (a8 : Int)]
theorem E9 (k n : Int) (s : ByteArray) (ts : List Tm) (a8 : Nat) : eG ⟨.mk k n s ts, a8⟩ = .agg [.int .i64 k, .int .i64 n, .str s, .slice (ts.map Tm.av), .int .i64 (a8 : Int)] := rfl
theorem aRU (g : RG) : eG g = .agg (g.t.av.cells ++ [.int .i64 (g.a8 : Int)]) := by obtain ⟨⟨k, n, s, ts⟩, a8⟩ := g; rw [aV]; try rfl
theorem BU (g : RG) : (eG g).width = 5 := by obtain ⟨⟨k, n, s, ts⟩, a8⟩ := g; rfl
theorem aPU (g : RG) : (eG g).cells.all AV.storable = true := by obtain ⟨⟨k, n, s, ts⟩, a8⟩ := g; rfl
theorem aXW (g : RG) : (eG g).cB = false := by obtain ⟨⟨k, n, s, ts⟩, a8⟩ := g; rfl
def fE : RC → AV
 | ⟨.mk k n s ts, rest, left, σ, N⟩ => .agg [.int .i64 k, .int .i64 n, .str s, .slice (ts.map Tm.av), .slice (rest.map eG), .slice (left.map nv), .slice (cT N σ)]
theorem IM (g : RC) : (fE g).width = 7 := by obtain ⟨⟨k, n, s, ts⟩, _, _, _, _⟩ := g; rfl
theorem aPI (g : RC) : (fE g).cells.all AV.storable = true := by obtain ⟨⟨k, n, s, ts⟩, _, _, _, _⟩ := g; rfl
theorem a0O (g : RC) : (fE g).cB = false := by obtain ⟨⟨k, n, s, ts⟩, _, _, _, _⟩ := g; rfl
def sH (s : RS) : AV := .agg [.slice (s.goals.map eG), .slice (cT s.N s.σ), .slice (s.chs.map fE)]
abbrev NV := zi tI_3 (zi zI_3 (zi aX (zi tI_4 (zi zI_4 (zi cF (zi tI_31 (zi zI_31 (zi aN (zi bF (zi bE (zi b9 (zi tI_63 (zi zI_63 (zi bS (zi bR (zi bP (zi bQ bT)))))))))))))))))
theorem aAQ : ∀ (t : Tm) (d : Nat) (st : aB), d ≤ 1000 → t.small = true → aD prog 141 [t.av, .int .i64 (d : Int)] st (fun r st' => r = .bool (t.flat d) ∧ st' = st)
 | .mk k n s ts, d, st, hd, hsm => by
  obtain ⟨hlen, oJ⟩ := Tm.oD hsm
  have IH := fun (x : Tm) (hx : x ∈ ts) d st h => aAQ x d st h (oJ x hx)
  simp only [aV]
  refine wF [1000000] 2 func141 ntmps141 rfl rfl ?_
  intro _
  simp -implicitDefEqProofs only [aA, seval, NV]
  refine aQ (fun h => ?_) (fun h => ?_)
  · simp only [bJ] at h
    obtain rfl : d = 0 := by omega
    simp -implicitDefEqProofs only [aA, ↓aU, seval]
    rw [Tm.FD]
  simp only [dH] at h
  obtain ⟨e, rfl⟩ : ∃ e, d = e + 1 := ⟨d - 1, by omega⟩
  rw [Tm.vJ]
  have hw1 : IntKind.i64.wrap ((e : Int) + 1 - 1) = (e : Int) := by rw [wrap64 (by omega) (by omega)]; omega
  simp -implicitDefEqProofs only [aA, seval]
  refine eK (σ := Unit) [1000000] [1, 2] ts (fun i _ => ((ts.drop i).all fun t => t.flat e) = (ts.all fun t => t.flat e)) (fun i _ => [(5, .int .i64 i)]) (fun _ _ => st) (by decide +kernel) ⟨(), rfl, aP.mk (by simp -implicitDefEqProofs only [aA, ↓aU, seval])⟩ (fun i x _ hx hlt bU hdr hinv => ?_) (fun _ hge hinv => ?_)
  case refine_2 =>
   simp -implicitDefEqProofs only [hge, aF, aA, seval, NV]
   rw [← hinv, kF]
   try rfl
  have hw := bK (n := (i : Int) + 1)
  rw [hdr, kE] at hinv
  simp -implicitDefEqProofs only [bU, aF, bL (av := Tm.av) aN hx (aH x), aT, aH, hw1, aA, seval, NV]
  refine (IH x (cW hx) e _ (by omega)).to ?_
  simp -implicitDefEqProofs only [aA, seval]
  refine aQ (fun h2 => ?_) (fun h2 => ?_)
  · simp -implicitDefEqProofs only [aA, seval]
    simp only [lX] at h2
    rw [← hinv, h2]
    try rfl
  · simp only [tW] at h2
    rw [h2, eT] at hinv
    simp -implicitDefEqProofs only [aA, seval]
    exact ⟨(), hinv, aP.mk (by simp -implicitDefEqProofs only [hw, aA, seval])⟩
termination_by t => SizeOf.sizeOf t
decreasing_by have := List.sizeOf_lt_of_mem hx; simp only [Tm.mk.sizeOf_spec]; omega
abbrev D8 := zi tI_3 (zi zI_3 (zi aX (zi tI_4 (zi zI_4 (zi cF (zi tI_31 (zi zI_31 (zi aN (zi bF (zi bE (zi b9 (zi tI_63 (zi zI_63 (zi bS (zi bR (zi bP (zi bQ bT)))))))))))))))))
theorem aEL {N : Nat} {σ : Sub} (hg : cK σ) (ho : cP (bD N) σ) (t : Tm) (ht : bD N t) (st : aB) :
 aD prog 105 [t.av, .slice (cT N σ)] st (fun r st' => st' = st ∧ ∃ x : Tm, r = .tup [x.av, .bool (eH (t.aJ (rs σ)))] ∧ (eH (t.aJ (rs σ)) = true → x = t.aJ (rs σ))) := by
 obtain ⟨rk, B, G⟩ := hg.rs
 have QU := fun st => aFW G ho 120 t st (c7 _) ht
 have hV := G.N9 ho.kV ht.1
 refine aD.lK (aD.soft ?_)
 refine wF [1000000] 2 func105 ntmps105 rfl rfl ?_
 intro _
 simp -implicitDefEqProofs only [aT, aH, cG, aA, seval, D8]
 intro b4 h4
 refine (QU _).mono ?_
 rintro _ _ ⟨rfl, x, left, rfl, h1, h2⟩
 simp -implicitDefEqProofs only [aH, bZ, cG, aA, ↓aU, seval, D8]
 refine wP [(1, 1), (2, 1), (3, 1), (4, 2), (0, 1), (5, 0), (6, 1), (7, 0), (8, 1)] [1, 2, 3, 4, 0, 6, 8] mixed ?_
 simp -implicitDefEqProofs only [aA, seval]
 refine cS (fun h => ?_) (fun h => ?_)
 · have h3 : 0 ≤ left := by simpa using h
   have h4 : (t.aJ (rs σ)).nodes ≤ 120 := C7 fun h5 => by rw [aE h5] at h2; omega
   rw [aG h4] at h2
   obtain ⟨rfl, _⟩ := h2
   have h5 : eH (t.aJ (rs σ)) = (t.aJ (rs σ)).flat 30 := by unfold eH; simp [h4]
   simp -implicitDefEqProofs only [h, aT, aH, aA, seval, D8]
   refine (aAQ _ 30 _ (by omega) hV.small).to ?_
   simp -implicitDefEqProofs only [aK, bZ, cG, bO, aA, seval, D8]
   refine ⟨st, (aL.refl _).aC ‹_›, rfl, _, by simp only [kC, rP, Tm.soft, bA, aW]; rw [h5], fun _ => rfl⟩
 · have hx0 := trivial
   have h3 : left < 0 := by simpa using h
   have h4 : ¬ (t.aJ (rs σ)).nodes ≤ 120 := fun h5 => by rw [aG h5] at h2; omega
   have h5 : eH (t.aJ (rs σ)) = false := by unfold eH; simp [h4]
   simp -implicitDefEqProofs only [h, aK, aT, aH, bZ, cG, bO, d8 (bO x), eD (aT x), aA, seval, D8]
   refine ⟨st, (aL.refl _).aC ‹_›, rfl, x, by simp only [kC, rP, Tm.soft, bA, aW]; rw [h5], fun h6 => ?_⟩
   rw [h5] at h6; cases h6
theorem aWX (c : Cl) : EX c = (bY (c.1 :: c.2) []).foldl (fun n v => if n ≤ v then v + 1 else n) 0 := rfl
abbrev K0 := zi tI_3 (zi zI_3 (zi aX (zi tI_31 (zi zI_31 (zi aN (zi bF (zi bE (zi b9 (zi tI_51 (zi zI_51 (zi dV (zi fS (zi fV (zi gA (zi tI_63 (zi zI_63 (zi bS (zi bR (zi bP (zi bQ (zi bT (zi tI_76 (zi zI_76 (zi lF (zi lI lS)))))))))))))))))))))))))
theorem aPY (c : Cl) (hc : gE c) (h6 : c.2.length ≤ 6) (st : aB) : aD prog 144 [b7 c] st (fun r st' => r = .int .i64 (nP c : Int) ∧ st' = st) := by
 have hvr := fun v => hc.vars (v := v)
 have hok := hc.CM
 have hfr : (nP c : Int) = EX c := by
  have := (aCO (bY (c.1 :: c.2) []) 0).1
  unfold nP EX
  omega
 rw [hfr, aWX]
 have hnd : bG Tm.nodes (c.1 :: c.2) ≤ 1099511627776 := by
  have : ∀ l : List Tm, (∀ t ∈ l, bD 26 t) → bG Tm.nodes l ≤ l.length * 120 := by
   intro l
   induction l with
   | nil => intro _; simp [bG]
   | cons x l ih => intro h; simp only [bG, aS]; have := ih fun y hy => h y (by simp [hy]); have := (h x (by simp)).2; omega
  have := this _ hok
  simp only [aS] at this
  omega
 have hvl := v4 (c.1 :: c.2) []
 obtain ⟨⟨k, n, s, ts⟩, bd⟩ := c
 simp only at h6 hnd hvl hvr hok
 rw [gH]
 refine aD.done ?_
 refine wF [1000000] 1 func144 ntmps144 rfl rfl ?_
 intro _
 simp -implicitDefEqProofs only [aA, seval, K0]
 refine aQA aN bF bE rfl (.inl rfl) (by intro e he; simp only [cY, dP, d4] at he; subst he; rfl) (fun e he => by simp only [cU] at he; obtain ⟨t, _, rfl⟩ := he; exact ⟨aH _, bZ _⟩) (by simp only [aS, a7, aF]; omega) (by simp only [aS, a7, aF]; omega) (fun q s2 hq => ?_)
 rw [← aV] at hq
 rw [show [(Tm.mk k n s ts).av] ++ bd.map Tm.av = ((Tm.mk k n s ts) :: bd).map Tm.av from rfl] at hq
 simp -implicitDefEqProofs only [aA, seval]
 refine Lit.call hq (hH _) (dR _) (fun _ => rfl) ?_
 refine (ZL _ _ (fun t ht => Tm.sN t (hok t ht).1.2.1) hnd).to ?_
 generalize bY ((Tm.mk k n s ts) :: bd) [] = vs at *
 simp only [a7] at hvl
 simp -implicitDefEqProofs only [aA, seval]
 refine eK (σ := Int) [1000000] [2, 3] vs (fun i n => (vs.drop i).foldl (fun n v => if n ≤ v then v + 1 else n) n = vs.foldl (fun n v => if n ≤ v then v + 1 else n) 0) (fun i n => [(4, .int .i64 n), (5, .int .i64 i)]) (fun _ _ => st) (by decide +kernel) ⟨0, rfl, aP.mk (by simp -implicitDefEqProofs only [aA, ↓aU, seval])⟩ (fun i x n hx hlt bU hdr hinv => ?_) (fun n hge hinv => ?_)
 case refine_2 =>
  rw [kF] at hinv
  simp -implicitDefEqProofs only [aF, hge, aA, seval, K0]
  refine ⟨?_, aL.refl _⟩
  rw [← hinv]
  try rfl
 rw [hdr, z6] at hinv
 have hw := bK (n := (i : Int) + 1)
 obtain ⟨t, ht, hv⟩ := (hvr x).1 (cW hx)
 have a0W := (hok t ht).1.2.2 x hv
 have hw2 := bK (n := x + 1)
 have hat : dJ prog 51 (.slice (vs.map iv)) (.int .i64 (i : Int)) = some (.pptr (.int .i64 x)) := bL (av := iv) dV hx rfl
 simp -implicitDefEqProofs only [aF, bU, hat, aA, seval, K0]
 refine aQ (fun h => ?_) (fun h => ?_)
 · rw [aG (by simpa using h)] at hinv
   simp -implicitDefEqProofs only [hat, hw2, hw, aA, seval, K0]
   exact ⟨x + 1, hinv, aP.mk (by simp -implicitDefEqProofs only [aA, seval])⟩
 · rw [aE (by simpa using h)] at hinv
   simp -implicitDefEqProofs only [hw, aA, seval]
   exact ⟨n, hinv, aP.mk (by simp -implicitDefEqProofs only [aA, seval])⟩
theorem VX {M : Int} (m : Nat) (hm : M + m ≤ 1073741824) : ∀ t : Tm, cD M t → t.sh (m : Int) = dC m t := by
 intro t
 induction t using Tm.ind with
 | h k n s ts ih =>
  intro h
  rw [Tm.NS]
  by_cases hk : k = 1
  · subst hk
    obtain ⟨h0, h1, rfl, rfl⟩ := h.var
    unfold dC
    rw [aG rfl, v9 _ (t := .mk 1 n ⟨#[]⟩ []) rfl, wrap64 (by omega) (by omega)]
    try rfl
  · obtain ⟨_, h2⟩ := h.own hk
    unfold dC at ih ⊢
    rw [aE hk, uZ _ hk]
    congr 1
    exact qY fun x hx => ih x hx (h2 x hx)
abbrev IL := zi tI_3 (zi zI_3 (zi aX (zi tI_31 (zi zI_31 (zi aN (zi bF (zi bE (zi b9 (zi tI_63 (zi zI_63 (zi bS (zi bR (zi bP (zi bQ (zi bT (zi tI_100 (zi zI_100 (zi uL (zi yC (zi yO (zi F6 (zi tI_167 (zi zI_167 (zi XM (zi WE aC9)))))))))))))))))))))))))
theorem aLS (bd : List Tm) (N a8 : Nat) (rest : List RG) (hb : ∀ t ∈ bd, bD 26 t) (h6 : bd.length ≤ 6) (hN : N ≤ 1048576) (hr : rest.length ≤ 1048576) (st : aB) :
 aD prog 104 [.slice (bd.map Tm.av), .int .i64 (N : Int), .int .i64 (a8 : Int), .slice (rest.map eG)] st (fun r st' => r = .slice ((bd.map (fun t => (⟨dC N t, a8⟩ : RG)) ++ rest).map eG) ∧ st' = st) := by
 refine aD.pR (aD.fin ?_)
 refine wF [1000000] 4 func104 ntmps104 rfl rfl ?_
 intro _
 simp -implicitDefEqProofs only [aA, seval, IL]
 refine eK (σ := Nat) [1000000] [0, 1, 2, 3, 8] bd (fun i b => ((bd.take i).map (fun t => (⟨dC N t, a8⟩ : RG))).map eG ≠ [] → st b = none) (fun i b => [(9, a9 5 b (((bd.take i).map (fun t => (⟨dC N t, a8⟩ : RG))).map eG)), (10, .int .i64 i)]) (fun i b => aZ st b (((bd.take i).map (fun t => (⟨dC N t, a8⟩ : RG))).map eG)) (by decide +kernel) ⟨0, fun h => absurd rfl h, aP.mk (by simp -implicitDefEqProofs only [kR, aW, jH, aA, ↓aU, seval])⟩ (fun i x b hx hlt bU hdr hinv => ?_) (fun b hge hinv => ?_)
 case refine_1 =>
  have hw := bK (n := (i : Int) + 1)
  have cV : (((bd.take i).map (fun t => (⟨dC N t, a8⟩ : RG))).map eG).length = i := by simp only [aF, d7]; omega
  have htk : (((bd.take i).map (fun t => (⟨dC N t, a8⟩ : RG))).map eG) ++ [eG ⟨dC N x, a8⟩] = (((bd.take (i + 1)).map (fun t => (⟨dC N t, a8⟩ : RG))).map eG) := by rw [fM, hx]; simp
  have hxo := hb x (cW hx)
  have hsh := VX N (by omega) x hxo.1
  have hcs := OY (N : Int) x
  rw [hsh] at hcs
  have hgo : eG ⟨dC N x, a8⟩ = .agg ((dC N x).av.cells ++ [.int .i64 (a8 : Int)]) := aRU _
  simp -implicitDefEqProofs only [bU, aF, bL (av := Tm.av) aN hx (aH x), aT, aH, aA, seval, IL]
  refine (hcs _ hxo.1.small).to ?_
  generalize dC N x = y at *
  obtain ⟨yk, yn, ys, yt⟩ := y
  simp only [aV, E9] at htk hgo ⊢
  simp -implicitDefEqProofs only [aA, seval, IL]
  refine eN uL yC yO rfl rfl (fC rfl rfl) (by intro e he; simp only [cU] at he; obtain ⟨t, _, rfl⟩ := he; exact BU t) hinv (by simp only [cV, aS, a7]; omega) (by simp only [cV, aS, a7]; omega) (fun b' hb' => ?_)
  rw [htk] at hb' ⊢
  simp -implicitDefEqProofs only [hw, aA, seval]
  exact ⟨b', hb', aP.mk (by simp -implicitDefEqProofs only [aA, seval])⟩
 rw [eS] at hinv ⊢
 simp -implicitDefEqProofs only [aF, hge, aA, seval, IL]
 refine eN (xs := rest.map eG) uL yC yO rfl rfl (by intro e he; simp only [cU] at he; obtain ⟨t, _, rfl⟩ := he; exact ⟨BU t, aPU t⟩) (by intro e he; simp only [cU] at he; obtain ⟨t, _, rfl⟩ := he; exact BU t) hinv (by simp only [aF]; omega) (by simp only [aF]; omega) (fun b' hb' => ?_)
 rw [← vN] at hb' ⊢
 simp -implicitDefEqProofs only [aA, seval]
 exact ⟨b', _, st, rfl, hb', by intro e he; simp only [cU] at he; obtain ⟨t, _, rfl⟩ := he; exact aXW t, ⟨5, by intro e he; simp only [cU] at he; obtain ⟨t, _, rfl⟩ := he; exact BU t⟩, by rw [iG], aL.refl _⟩
def pF (p : List Cl) (t : Tm) (i : Nat) : Bool := match p[i]? with
 | some c => ET c t
 | none => false
theorem G9 (p : List Cl) (t : Tm) : fD p t = (List.range p.length).filter (pF p t) := rfl
theorem aAN (p : List Cl) (t : Tm) (i : Nat) : (List.range (i + 1)).filter (pF p t) = (List.range i).filter (pF p t) ++ (if pF p t i = true then [i] else []) := by
 rw [List.range_succ, List.filter_append]
 congr 1
 by_cases h : pF p t i = true <;> simp [h]
theorem IW (p : List Cl) (t : Tm) (i : Nat) : ((List.range i).filter (pF p t)).length ≤ i := by
 have := List.length_filter_le (pF p t) (List.range i)
 rw [K7] at this
 exact this
theorem aI4 (l : List Nat) : ∀ e ∈ l.map nv, e.width = 1 := by intro e h; simp only [cU] at h; obtain ⟨t, _, rfl⟩ := h; rfl
abbrev CC := zi tI_3 (zi zI_3 (zi aX (zi tI_9 (zi zI_9 (zi cH (zi tI_29 (zi zI_29 (zi gZ (zi j8 (zi j6 (zi kU (zi tI_31 (zi zI_31 (zi aN (zi bF (zi bE (zi b9 (zi tI_51 (zi zI_51 (zi dV (zi fS (zi fV (zi gA (zi tI_63 (zi zI_63 (zi bS (zi bR (zi bP (zi bQ (zi bT (zi tI_76 (zi zI_76 (zi lF (zi lI lS))))))))))))))))))))))))))))))))))
theorem aRA (p : List Cl) (t : Tm) (hp : p.length ≤ 1048576) (st : aB) : aD prog 134 [.slice (p.map b7), t.av] st (fun r st' => r = .slice ((fD p t).map nv) ∧ st' = st) := by
 rw [G9]
 refine aD.done ?_
 obtain ⟨tk, tn, ts', tts⟩ := t
 simp only [aV]
 refine wF [1000000] 2 func134 ntmps134 rfl rfl ?_
 intro _
 simp -implicitDefEqProofs only [aA, seval, CC]
 refine rD (σ := Unit) [1000000] [0, 3, 4] p 1 5 (fun i _ => ((List.range i).filter (pF p (.mk tk tn ts' tts))).map nv) (fun _ _ => True) (fun i _ => [(6, .int .i64 i)]) (fun _ _ => st) (fun i _ _ e he => by simp only [cU] at he; obtain ⟨t, _, rfl⟩ := he; exact ⟨rfl, rfl⟩) (by decide +kernel) ⟨(), 0, trivial, fun h => absurd rfl h, aP.mk (by simp -implicitDefEqProofs only [jH, List.range_zero, List.filter_nil, aW, aA, ↓aU, seval])⟩ (fun i x s b hx hlt bU hdr hinv hb => ?_) (fun s b hge hinv => ?_)
 case refine_2 =>
  simp -implicitDefEqProofs only [hge, d9, iE, oP, B0, lP, aF, aA, seval, CC]
  exact ⟨rfl, aL.refl _⟩
 have hw := bK (n := (i : Int) + 1)
 have hst := aAN p (.mk tk tn ts' tts) i
 have hln := IW p (.mk tk tn ts' tts) i
 have hat := bL (av := b7) (P := prog) gZ hx (oR x)
 obtain ⟨⟨k, n, s', ts⟩, bd⟩ := x
 rw [gH] at hat
 have hP : pF p (.mk tk tn ts' tts) i = (decide (s' = ts') && decide ((ts.length : Int) = (tts.length : Int))) := by unfold pF; rw [hx]; try rfl
 rw [hP] at hst
 simp -implicitDefEqProofs only [bU, aF, aA, seval, CC]
 refine wP [(0, 1), (1, 1), (2, 1), (3, 1), (4, 1), (6, 1), (5, 2), (7, 2), (8, 1), (9, 1), (10, 1), (11, 1), (12, 1), (13, 1), (14, 1), (17, 1), (15, 2), (16, 1), (18, 2), (19, 1), (20, 1), (21, 1)] [0, 1, 2, 3, 4, 6, 5, 7, 8, 9, 10, 11, 12, 13, 14, 17, 15, 16, 18, 19, 20, 21] mixed ?_
 simp -implicitDefEqProofs only [hat, aA, seval, CC]
 refine cS (fun h => ?_) (fun h => ?_)
 case refine_2 =>
  have h' : (decide (s' = ts') && decide ((ts.length : Int) = (tts.length : Int))) = false := by simp at h; simp [h]
  rw [h', aE (by simp), iA] at hst
  rw [← hst] at hb ⊢
  simp -implicitDefEqProofs only [h, hw, aA, seval]
  exact ⟨(), b, hb, aP.mk (by simp -implicitDefEqProofs only [aA, seval])⟩
 have h1 : decide (s' = ts') = true := by simpa using h
 rw [h1, eT] at hst
 simp -implicitDefEqProofs only [h, aF, hat, aA, seval, CC]
 refine aQ (fun h2 => ?_) (fun h2 => ?_)
 · rw [aG h2] at hst
   simp -implicitDefEqProofs only [aA, seval, CC]
   refine eN dV fS fV rfl rfl (fC rfl rfl) (aI4 _) hb (by simp only [aF, aS, a7]; omega) (by simp only [aF, aS, a7]; omega) (fun b' hb' => ?_)
   rw [show ∀ l : List Nat, l.map nv ++ [AV.int .i64 (i : Int)] = (l ++ [i]).map nv from fun l => by simp [nv], ← hst] at hb' ⊢
   simp -implicitDefEqProofs only [hw, aA, seval]
   exact ⟨(), b', hb', aP.mk (by simp -implicitDefEqProofs only [aA, seval])⟩
 · rw [aE (by simp [h2]), iA] at hst
   rw [← hst] at hb ⊢
   simp -implicitDefEqProofs only [hw, aA, seval]
   exact ⟨(), b, hb, aP.mk (by simp -implicitDefEqProofs only [aA, seval])⟩
theorem OW {n : Int} : ∀ {l : List Int}, l.Nodup → ∀ {i : Nat}, l[i]? = some n → ∀ j : Int, eO n l j = j + i
 | [], _, i, h, j => by simp at h
 | x :: l, hd, 0, h, j => by
  simp only [RE, Option.some.injEq] at h
  subst h
  simp [eO]
 | x :: l, hd, i + 1, h, j => by
  rw [List.nodup_cons] at hd
  rw [RF] at h
  have hm := cW h
  simp only [eO]
  rw [aE (fun e : n = x => hd.1 (e ▸ hm)), OW hd.2 h (j + 1)]
  omega
abbrev mL := zi tI_3 (zi zI_3 (zi aX (zi tI_9 (zi zI_9 (zi cH (zi tI_31 (zi zI_31 (zi aN (zi bF (zi bE (zi b9 (zi tI_51 (zi zI_51 (zi dV (zi fS (zi fV (zi gA (zi tI_63 (zi zI_63 (zi bS (zi bR (zi bP (zi bQ bT)))))))))))))))))))))))
theorem aC1 (vars : List Int) (hnd : vars.Nodup) (hvl : vars.length ≤ 1048576) : ∀ (t : Tm) (st : aB), t.small = true → t.cv = true → (∀ v ∈ t.vl, v ∈ vars) → aD prog 142 [t.av, .slice (vars.map iv)] st (fun r st' => r = (t.aJ fun v => vr (eO v vars 0)).av ∧ st' = st)
 | .mk k n s ts, st, hsm, hcv, hin => by
  obtain ⟨hlen, oJ⟩ := Tm.oD hsm
  obtain ⟨hc1, hcs⟩ := Tm.nM.1 hcv
  have IH := fun (x : Tm) (hx : x ∈ ts) st => aC1 vars hnd hvl x st (oJ x hx) (hcs x hx) (fun v hv => by
   by_cases hk : k = 1
   · rw [(hc1 hk).2] at hx; cases hx
   · exact hin v ((Tm.kM hk).2 ⟨x, hx, hv⟩))
  generalize hg : (Tm.aJ fun v => vr (eO v vars 0)) = g at IH
  refine aD.pR (aD.fin ?_)
  simp only [aV]
  refine wF [1000000, 5] 2 func142 ntmps142 rfl rfl ?_
  intro _
  simp -implicitDefEqProofs only [aK, aA, ↓aU, seval, mL]
  intro b4 h4 c hc
  have hne : c ≠ b4 := by rintro rfl; rw [aB.aO] at hc; cases hc
  have hnc : st c = none := by rw [aB.aM st _ hne] at hc; exact hc
  have zL : ∀ i : Nat, vars[i]? = some n → eO n vars 0 = (i : Int) := fun i hi => by
   have := OW hnd hi 0
   omega
  generalize hW : st.aC b4 (.cells [AV.int .i64 0, AV.int .i64 0, AV.str ⟨#[]⟩, AV.fslice []]) = W
  have hWc : W c = none := by rw [← hW]; exact hc
  have hW4 : W b4 = some (.cells [AV.int .i64 0, AV.int .i64 0, AV.str ⟨#[]⟩, AV.fslice []]) := by rw [← hW]; exact aB.aO _ _ _
  have hS : W b4 ≠ none := by rw [hW4]; simp
  have KW : b4 ≠ c := dB hne
  refine g9 (σ := Nat × Int) [1000000, 5] [1, 2, 4, 5] (fun p => p.1 ≤ vars.length ∧ (k ≠ 1 → p.2 = n) ∧ (k = 1 → (n ∈ vars.take p.1 → p.2 = eO n vars 0))) (fun p => [(6, .int .i64 p.1)]) (fun p => W.aC c (.cells [.int .i64 k, .int .i64 p.2, .str s, .fslice []])) (fun p => vars.length - p.1) (by decide +kernel) ⟨(0, n), ⟨jD _, fun _ => rfl, fun _ h => by simp at h⟩, aP.mk (by simp -implicitDefEqProofs only [aA, ↓aU, seval])⟩ ?_
  rintro ⟨i, n'⟩ ⟨h1, h2, h3⟩
  simp only at h1 h2 h3
  have rest : (k = 1 → n' = eO n vars 0) → True := fun _ => trivial
  simp -implicitDefEqProofs only [aF, aA, seval, mL]
  have fin : (k = 1 → n' = eO n vars 0) → g (.mk k n s ts) = .mk k n' s (ts.map g) := fun h4 => by
   rw [← hg]
   by_cases hk : k = 1
   · obtain ⟨rfl, rfl⟩ := hc1 hk
     rw [Tm.mC _ hk, h4 hk, hk]; try rfl
   · rw [Tm.lA _ hk, h2 hk]
  refine cS (fun h => ?_) (fun h => ?_)
  case refine_2 =>
   have h4 : (k = 1 → n' = eO n vars 0) := fun hk => h3 hk (by
    have : i = vars.length := by simp at h; omega
    rw [this, eS]
    exact hin n (by rw [Tm.mH hk]; simp))
   simp -implicitDefEqProofs only [h, aA, seval]
   refine eK (σ := Nat) [1000000, 5] [1, 2, 4, 5] ts (fun i b => (((ts.take i).map g).map Tm.av ≠ [] → (aB.aC W c (.cells ([AV.int .i64 k, AV.int .i64 (n'), AV.str s] ++ [a9 4 b (((ts.take i).map g).map Tm.av)]))) b = none)) (fun i b => [(7, .int .i64 i)]) (fun i b => eV W c b [AV.int .i64 k, AV.int .i64 (n'), AV.str s] (((ts.take i).map g).map Tm.av)) (by decide +kernel)
    ⟨0, fun h => absurd rfl h, aP.mk (by simp -implicitDefEqProofs only [aA, ↓aU, seval])⟩ (fun i x b hx hlt bU hdr hinv => ?_) (fun b hge hinv => ?_)
   case refine_1 =>
    have hw := bK (n := (i : Int) + 1)
    have cV : (((ts.take i).map g).map Tm.av).length = i := by simp only [aF, d7]; omega
    have htk : (ts.take (i + 1)).map g = (ts.take i).map g ++ [g x] := by rw [fM, hx]; simp
    have hbo := eC hinv
    simp -implicitDefEqProofs only [aF, bU, aF, aA, seval, mL]
    refine wP [(0, 1), (2, 1), (4, 1), (7, 1), (1, 2), (3, 2), (5, 1), (6, 2), (8, 2), (9, 1), (10, 0), (11, 1), (12, 0)] [0, 2, 4, 7, 1, 3, 5, 6, 8, 9, 11] mixed ?_
    simp -implicitDefEqProofs only [bL (av := Tm.av) aN hx (aH x), aT, aH, hbo, mD, aA, seval, mL]
    refine i8 (IH x (cW hx) _) ?_
    simp -implicitDefEqProofs only [aT, aH, cG, aA, seval, mL]
    refine eN aN bF bE rfl rfl (fC (aH _) (bZ _)) (dR _) hinv (by simp only [cV, aS, a7]; omega) (by simp only [cV, aS, a7]; omega) (fun b' hb' => ?_)
    rw [show (((ts.take i).map g).map Tm.av) ++ [(g x).av] = ((ts.take (i + 1)).map g).map Tm.av by rw [htk]; simp] at hb' ⊢
    obtain ⟨g1, g2, g3⟩ := nG hb'
    simp only [fF, eR] at g1 g3
    simp -implicitDefEqProofs only [g3, mB, eU, aK, g1, hw, aK, aA, seval, mL]
    exact ⟨b', g2, aP.mk (by simp -implicitDefEqProofs only [aA, seval])⟩
   have hbo := eC hinv
   rw [eS] at hinv hbo ⊢
   simp -implicitDefEqProofs only [aF, hge, aF, aA, seval, mL]
   simp -implicitDefEqProofs only [hbo, aK, aA, seval, mL]
   have g1 := gC hinv hS KW
   rw [hW4] at g1
   simp -implicitDefEqProofs only [g1, eU, aA, seval]
   obtain ⟨g2, g3⟩ := j0 (o := .cells [AV.int .i64 k, AV.int .i64 (n'), AV.str s, a9 4 b ((ts.map g).map Tm.av)]) hinv hS KW
   refine ⟨b, _, _, g2, g3, hH _, ⟨4, dR _⟩, ?_, fun x => ?_⟩
   · simp only [fL, bA, aW, d9, iO, iG, ← aV]
     rw [fin h4]
   · subst hW
     by_cases e3 : x = b4 <;> by_cases e4 : x = c <;> simp_all [aB.aC]
  have hlt : i < vars.length := by simpa using h
  simp -implicitDefEqProofs only [h, aA, seval, mL]
  refine aQ (fun h5 => ?_) (fun h5 => ?_)
  case refine_2 =>
   have h5' : k ≠ 1 := by simpa using h5
   have h4 : (k = 1 → n' = eO n vars 0) := fun hk => absurd hk h5'
   simp -implicitDefEqProofs only [aA, seval]
   refine eK (σ := Nat) [1000000, 5] [1, 2, 4, 5] ts (fun i b => (((ts.take i).map g).map Tm.av ≠ [] → (aB.aC W c (.cells ([AV.int .i64 k, AV.int .i64 (n'), AV.str s] ++ [a9 4 b (((ts.take i).map g).map Tm.av)]))) b = none)) (fun i b => [(7, .int .i64 i)]) (fun i b => eV W c b [AV.int .i64 k, AV.int .i64 (n'), AV.str s] (((ts.take i).map g).map Tm.av)) (by decide +kernel)
    ⟨0, fun h => absurd rfl h, aP.mk (by simp -implicitDefEqProofs only [aA, ↓aU, seval])⟩ (fun i x b hx hlt bU hdr hinv => ?_) (fun b hge hinv => ?_)
   case refine_1 =>
    have hw := bK (n := (i : Int) + 1)
    have cV : (((ts.take i).map g).map Tm.av).length = i := by simp only [aF, d7]; omega
    have htk : (ts.take (i + 1)).map g = (ts.take i).map g ++ [g x] := by rw [fM, hx]; simp
    have hbo := eC hinv
    simp -implicitDefEqProofs only [aF, bU, aF, aA, seval, mL]
    refine wP [(0, 1), (2, 1), (4, 1), (7, 1), (1, 2), (3, 2), (5, 1), (6, 2), (8, 2), (9, 1), (10, 0), (11, 1), (12, 0)] [0, 2, 4, 7, 1, 3, 5, 6, 8, 9, 11] mixed ?_
    simp -implicitDefEqProofs only [bL (av := Tm.av) aN hx (aH x), aT, aH, hbo, mD, aA, seval, mL]
    refine i8 (IH x (cW hx) _) ?_
    simp -implicitDefEqProofs only [aT, aH, cG, aA, seval, mL]
    refine eN aN bF bE rfl rfl (fC (aH _) (bZ _)) (dR _) hinv (by simp only [cV, aS, a7]; omega) (by simp only [cV, aS, a7]; omega) (fun b' hb' => ?_)
    rw [show (((ts.take i).map g).map Tm.av) ++ [(g x).av] = ((ts.take (i + 1)).map g).map Tm.av by rw [htk]; simp] at hb' ⊢
    obtain ⟨g1, g2, g3⟩ := nG hb'
    simp only [fF, eR] at g1 g3
    simp -implicitDefEqProofs only [g3, mB, eU, aK, g1, hw, aK, aA, seval, mL]
    exact ⟨b', g2, aP.mk (by simp -implicitDefEqProofs only [aA, seval])⟩
   have hbo := eC hinv
   rw [eS] at hinv hbo ⊢
   simp -implicitDefEqProofs only [aF, hge, aF, aA, seval, mL]
   simp -implicitDefEqProofs only [hbo, aK, aA, seval, mL]
   have g1 := gC hinv hS KW
   rw [hW4] at g1
   simp -implicitDefEqProofs only [g1, eU, aA, seval]
   obtain ⟨g2, g3⟩ := j0 (o := .cells [AV.int .i64 k, AV.int .i64 (n'), AV.str s, a9 4 b ((ts.map g).map Tm.av)]) hinv hS KW
   refine ⟨b, _, _, g2, g3, hH _, ⟨4, dR _⟩, ?_, fun x => ?_⟩
   · simp only [fL, bA, aW, d9, iO, iG, ← aV]
     rw [fin h4]
   · subst hW
     by_cases e3 : x = b4 <;> by_cases e4 : x = c <;> simp_all [aB.aC]
  have hk : k = 1 := by simpa using h5
  obtain ⟨x, hx⟩ : ∃ x, vars[i]? = some x := ⟨_, fG hlt⟩
  have hat : dJ prog 51 (.slice (vars.map iv)) (.int .i64 (i : Int)) = some (.pptr (.int .i64 x)) := bL (av := iv) dV hx rfl
  have hw := bK (n := (i : Int) + 1)
  have htk : vars.take (i + 1) = vars.take i ++ [x] := by rw [fM, hx]; try rfl
  simp -implicitDefEqProofs only [aA, seval]
  refine wP [(0, 1), (1, 1), (2, 1), (4, 1), (3, 2), (5, 2), (6, 1)] [0, 1, 2, 4, 3, 5, 6] mixed ?_
  simp -implicitDefEqProofs only [hat, aA, seval, mL]
  refine aQ (fun h6 => ?_) (fun h6 => ?_)
  · have h6' : x = n := by simpa using h6
    subst h6'
    simp -implicitDefEqProofs only [aK, hw, aA, seval, mL]
    refine ⟨(i + 1, (i : Int)), by simp only; omega, ⟨hlt, fun h => absurd hk h, fun _ _ => (zL i hx).symm⟩, aP.mk (by simp -implicitDefEqProofs only [aA, seval])⟩
  · have h6' : x ≠ n := by simpa using h6
    simp -implicitDefEqProofs only [hw, aA, seval]
    refine ⟨(i + 1, n'), by simp only; omega, ⟨hlt, h2, fun hk hm => h3 hk ?_⟩, aP.mk (by simp -implicitDefEqProofs only [aA, seval])⟩
    rw [htk, fR] at hm
    rcases hm with hm | hm
    · exact hm
    · simp only [cY, dP, d4] at hm
      exact absurd hm.symm h6'
termination_by t => SizeOf.sizeOf t
decreasing_by have := List.sizeOf_lt_of_mem hx; simp only [Tm.mk.sizeOf_spec]; omega
theorem HX : ∀ (ts : List Tm) (l : List Int), (∀ t ∈ ts, t.wf = true) → l.Nodup → (bY ts l).Nodup
 | [], l, _, h => h
 | t :: ts, l, hw, h => HX ts _ (fun x hx => hw x (by simp [hx])) ((N4 t (hw t (by simp)) l).2.1 h)
theorem BE : ∀ l : List Tm, (∀ t ∈ l, t.nodes ≤ 120) → bG Tm.nodes l ≤ l.length * 120
 | [], _ => by simp [bG]
 | x :: l, h => by
  simp only [bG, aS]
  have := BE l fun y hy => h y (by simp [hy])
  have := h x (by simp)
  omega
abbrev BL := zi tI_3 (zi zI_3 (zi aX (zi tI_31 (zi zI_31 (zi aN (zi bF (zi bE (zi b9 (zi tI_51 (zi zI_51 (zi dV (zi fS (zi fV (zi gA (zi tI_63 (zi zI_63 (zi bS (zi bR (zi bP (zi bQ bT))))))))))))))))))))
theorem aUU {N : Int} (l : List Tm) (hok : ∀ t ∈ l, bD N t) (hl : l.length ≤ 1000) (st : aB) : aD prog 107 [.slice (l.map Tm.av)] st (fun r st' => r = .slice ((oO l).map Tm.av) ∧ st' = st) := by
 have hnd := BE l fun t ht => (hok t ht).2
 have Q5 := HX l [] (fun t ht => Tm.sN t (hok t ht).1.2.1) pW
 have gJ := fun v => w6 (v := v) l [] fun t ht => (hok t ht).1.2.1
 have hvl := v4 l []
 simp only [a7] at hvl
 refine aD.done ?_
 refine wF [1000000] 1 func107 ntmps107 rfl rfl ?_
 intro _
 simp -implicitDefEqProofs only [aA, seval, BL]
 refine rD (σ := Unit) [1000000] [0, 2] l 1 3 (fun i _ => (bY (l.take i) []).map iv) (fun _ _ => True) (fun i _ => [(4, .int .i64 i)]) (fun _ _ => st) (fun i _ _ e he => by simp only [cU] at he; obtain ⟨t, _, rfl⟩ := he; exact ⟨rfl, rfl⟩) (by decide +kernel) ⟨(), 0, trivial, fun h => absurd rfl h, aP.mk (by simp -implicitDefEqProofs only [jH, kR, bY, aW, aA, ↓aU, seval])⟩ (fun i x s b hx hlt bU hdr hinv hb => ?_) (fun s b hge hinv => ?_)
 case refine_1 =>
  have hw := bK (n := (i : Int) + 1)
  have hat := bL (av := Tm.av) aN hx (aH x)
  have hst := GG Tm.nodes hx
  have hvl := v4 (l.take i) []
  simp only [a7, gV] at hvl
  have htk : x.vars (bY (l.take i) []) = bY (l.take (i + 1)) [] := by
   rw [fM, hx, LU]
   try rfl
  simp -implicitDefEqProofs only [bU, aF, hat, aT, aH, aA, seval, BL]
  refine (GN x (bY (l.take i) []) b st (Tm.sN x (hok x (cW hx)).1.2.1) hb (by omega)).mono ?_
  rintro _ _ ⟨b', rfl, rfl, hb'⟩
  rw [htk] at hb' ⊢
  simp -implicitDefEqProofs only [aA, seval]
  exact ⟨(), b', hb', aP.mk (by simp -implicitDefEqProofs only [hw, aA, seval])⟩
 simp -implicitDefEqProofs only [hge, d9, iE, oP, lP, eS, aF, aA, seval, BL]
 have hR : oO l = l.map fun t => t.aJ fun v => vr (eO v (bY l []) 0) := rfl
 rw [hR]
 generalize bY l [] = vars at *
 refine rD (σ := Unit) [1000000] [0, 2, 3] l 4 5 (fun i _ => ((l.take i).map fun t => t.aJ fun v => vr (eO v vars 0)).map Tm.av) (fun _ _ => True) (fun i _ => [(6, .int .i64 i)]) (fun _ _ => st) (fun i _ _ e he => by simp only [cU] at he; obtain ⟨t, _, rfl⟩ := he; exact ⟨cG _, aH _⟩) (by decide +kernel) ⟨(), 0, trivial, fun h => absurd rfl h, aP.mk (by simp -implicitDefEqProofs only [jH, kR, aW, aA, ↓aU, seval])⟩ (fun i x s b hx hlt bU hdr hinv hb => ?_) (fun s b hge hinv => ?_)
 case refine_2 =>
  simp -implicitDefEqProofs only [hge, d9, iE, lP, eS, aF, aA, seval, BL]
  exact ⟨rfl, aL.refl _⟩
 have hw := bK (n := (i : Int) + 1)
 have hat := bL (av := Tm.av) aN hx (aH x)
 have hxm := cW hx
 have cV : (((l.take i).map fun t => t.aJ fun v => vr (eO v vars 0)).map Tm.av).length = i := by simp only [aF, d7]; omega
 simp -implicitDefEqProofs only [bU, aF, hat, aT, aH, aA, seval, BL]
 refine (aC1 vars Q5 (by omega) x _ (hok x hxm).1.small (hok x hxm).1.2.1 (fun v hv => (gJ v).2 (.inr ⟨x, hxm, hv⟩))).to ?_
 simp -implicitDefEqProofs only [aT, aH, cG, aA, seval, BL]
 refine eN aN bF bE rfl rfl (fC (aH _) (bZ _)) (dR _) hb (by simp only [cV, aS, a7]; omega) (by simp only [cV, aS, a7]; omega) (fun b' hb' => ?_)
 rw [show (((l.take i).map fun t => t.aJ fun v => vr (eO v vars 0)).map Tm.av) ++ [(x.aJ fun v => vr (eO v vars 0)).av] = ((l.take (i + 1)).map fun t => t.aJ fun v => vr (eO v vars 0)).map Tm.av by rw [fM, hx]; simp] at hb' ⊢
 simp -implicitDefEqProofs only [aA, seval]
 exact ⟨(), b', hb', aP.mk (by simp -implicitDefEqProofs only [hw, aA, seval])⟩
abbrev WP := zi tI_3 (zi zI_3 (zi aX (zi tI_4 (zi zI_4 (zi cF (zi tI_31 (zi zI_31 (zi aN (zi bF (zi bE (zi b9 (zi tI_63 (zi zI_63 (zi bS (zi bR (zi bP (zi bQ bT)))))))))))))))))
theorem a0N (l : List Tm) (st : aB) : aD prog 108 [.slice (l.map Tm.av)] st (fun r st' => r = .bool (l.all Tm.valid) ∧ st' = st) := by
 refine wF [1000000] 1 func108 ntmps108 rfl rfl ?_
 simp only [eE, AV.fits, eM, aF]
 intro ⟨hl, _⟩
 simp -implicitDefEqProofs only [aA, seval]
 refine eK (σ := Unit) [1000000] [0] l (fun i _ => ((l.drop i).all Tm.valid) = (l.all Tm.valid)) (fun i _ => [(3, .int .i64 i)]) (fun _ _ => st) (by decide +kernel) ⟨(), rfl, aP.mk (by simp -implicitDefEqProofs only [aA, ↓aU, seval])⟩ (fun i x _ hx hlt bU hdr hinv => ?_) (fun _ hge hinv => ?_)
 case refine_2 =>
  simp -implicitDefEqProofs only [hge, aF, aA, seval, WP]
  rw [← hinv, kF]
  try rfl
 have hw := bK (n := (i : Int) + 1)
 rw [hdr, kE] at hinv
 simp -implicitDefEqProofs only [bU, aF, bL (av := Tm.av) aN hx (aH x), aT, aH, aA, seval, WP]
 refine (P4 x _).to ?_
 simp -implicitDefEqProofs only [aA, seval]
 refine aQ (fun h2 => ?_) (fun h2 => ?_)
 · simp -implicitDefEqProofs only [aA, seval]
   simp only [lX] at h2
   rw [← hinv, h2]
   try rfl
 · simp only [tW] at h2
   rw [h2, eT] at hinv
   simp -implicitDefEqProofs only [aA, seval]
   exact ⟨(), hinv, aP.mk (by simp -implicitDefEqProofs only [hw, aA, seval])⟩
theorem S8 (v : Int) : ∀ (l : List Int) (i : Int), v ∈ l → i ≤ eO v l i ∧ eO v l i < i + l.length
 | [], i, h => by cases h
 | x :: l, i, h => by
  simp only [eO, aS]
  split
  · omega
  · rename_i e
    have h' : v ∈ l := by
     rcases cY.1 h with h | h
     · exact absurd h e
     · exact h
    have := S8 v l (i + 1) h'
    omega
theorem aHK {N : Int} {l : List Tm} (hok : ∀ t ∈ l, bD N t) (hf : l.all eH = true) : (oO l).all Tm.valid = decide ((bY l []).length ≤ 26) := by
 have gJ := fun v => w6 (v := v) l [] fun t ht => (hok t ht).1.2.1
 have Q5 := HX l [] (fun t ht => Tm.sN t (hok t ht).1.2.1) pW
 have hro : ∀ t ∈ l, cD (bY l []).length (t.aJ fun v => vr (eO v (bY l []) 0)) := fun t ht =>
  (hok t ht).1.aJ fun v hv => by
   have := S8 v (bY l []) 0 ((gJ v).2 (.inr ⟨t, ht, hv⟩))
   exact GC (by omega) (by omega)
 have fT : ∀ t ∈ l, eH (t.aJ fun v => vr (eO v (bY l []) 0)) = true := fun t ht => by
  have := eW.1 hf t ht
  unfold eH at this ⊢
  rw [show (t.aJ fun v => vr (eO v (bY l []) 0)) = bV (fun v => eO v (bY l []) 0) t from rfl, M1 _ (hok t ht).1.2.1, JY _ (hok t ht).1.2.1]
  exact this
 rw [vM, eW, bJ]
 constructor
 · intro h
   refine C7 fun hn => ?_
   obtain ⟨w, hw⟩ : ∃ w, (bY l [])[26]? = some w := ⟨_, fG (by omega)⟩
   rcases (gJ w).1 (cW hw) with h1 | ⟨t, ht, hv⟩
   · cases h1
   · have CF := h _ (cU.2 ⟨t, ht, rfl⟩)
     have hin := (Tm.DK CF).2.2 26 ((w4 t).2 ⟨w, hv, by rw [OW Q5 hw 0, wD]; simp⟩)
     omega
 · intro h x hx
   obtain ⟨t, ht, rfl⟩ := cU.1 hx
   have h1 := aG7.2 ((hro t ht).mono (show ((bY l []).length : Int) ≤ 26 by omega))
   rw [Tm.aBJ h1]
   exact fT t ht
theorem aZP {N : Int} {l : List Tm} (hok : ∀ t ∈ l, bD N t) : (oO l).length = l.length := by unfold oO; rw [aF]
abbrev uP := zi tI_3 (zi zI_3 (zi aX (zi tI_4 (zi zI_4 (zi cF (zi tI_31 (zi zI_31 (zi aN (zi bF (zi bE (zi b9 (zi tI_51 (zi zI_51 (zi dV (zi fS (zi fV (zi gA (zi tI_63 (zi zI_63 (zi bS (zi bR (zi bP (zi bQ (zi bT (zi tI_82 (zi zI_82 (zi C3 AG)))))))))))))))))))))))))))
theorem aOO {N : Nat} {σ : Sub} (hg : cK σ) (ho : cP (bD N) σ) (vars : List Int) (hv : ∀ v ∈ vars, 0 ≤ v ∧ v < (N : Int)) (hl : vars.length ≤ 1000) (st : aB) :
 aD prog 71 [.slice (vars.map iv), .slice (cT N σ)] st (fun r st' => st' = st ∧ ∃ a, r = .tup [c9 a, .bool (jL σ vars).isSome] ∧ ∀ x, jL σ vars = some x → a = x) := by
 obtain ⟨rk, B, G⟩ := hg.rs
 refine aD.lK (aD.soft ?_)
 refine wF [1000000] 2 func71 ntmps71 rfl rfl ?_
 intro _
 simp -implicitDefEqProofs only [aA, seval, uP]
 intro b4 h4
 refine rD (σ := Unit) [1000000] [0, 1, 4] vars 4 6 (fun i _ => ((vars.take i).map (rs σ)).map Tm.av) (fun i _ => ((vars.take i).map (rs σ)).all eH = true) (fun i _ => [(5, .bool false), (7, .int .i64 i)]) (fun _ _ => st.aC b4 (.cells [.fslice []])) (fun i _ _ e he => by simp only [cU] at he; obtain ⟨t, _, rfl⟩ := he; exact ⟨cG _, aH _⟩) (by decide +kernel) ⟨(), 0, rfl, fun h => absurd rfl h, aP.mk (by simp -implicitDefEqProofs only [jH, kR, aW, aA, ↓aU, seval])⟩ (fun i x s b hx hlt bU hdr hinv hb => ?_) (fun s b hge hinv => ?_)
 · have hw := bK (n := (i : Int) + 1)
   have hxm := cW hx
   obtain ⟨hx0, hx1⟩ := hv x hxm
   have hvr : bD N (vr x) := ⟨GC hx0 hx1, by rw [vr, Tm.gN]; simp [bG]⟩
   have hat : dJ prog 51 (.slice (vars.map iv)) (.int .i64 (i : Int)) = some (.pptr (.int .i64 x)) := bL (av := iv) dV hx rfl
   have cV : (((vars.take i).map (rs σ)).map Tm.av).length = i := by simp only [aF, d7]; omega
   have dW : ((vars.take (i + 1)).map (rs σ)).all eH = eH (rs σ x) := by
    rw [fM, hx]
    simp only [G0, vN, bA, aW, DD, hinv, kE, List.all_nil, DB, eT]
   simp -implicitDefEqProofs only [bU, aF, hat, aA, seval, uP]
   refine (H8 x _).to ?_
   simp -implicitDefEqProofs only [aA, seval]
   refine (aEL hg ho (vr x) hvr _).mono ?_
   rintro _ _ ⟨rfl, y, rfl, hy⟩
   rw [uB] at hy ⊢
   simp -implicitDefEqProofs only [aH, bZ, cG, aA, ↓aU, seval, uP]
   refine aQ (fun h => ?_) (fun h => ?_)
   · have h' : eH (rs σ x) = false := by simpa using h
     have pQ : jL σ vars = none := by
      unfold jL
      rw [aE]
      rintro ⟨h1, _⟩
      have := eW.1 h1 _ (cU.2 ⟨x, hxm, rfl⟩)
      rw [h'] at this; cases this
     have hbo : ∀ l, (l ≠ [] → st b = none) → (l ≠ [] → b ≠ b4) → (aZ (st.aC b4 (.cells [.fslice []])) b l) b4 = some (.cells [.fslice []]) := fun l _ h2 => by
      cases l with
      | nil => exact aB.aO _ _ _
      | cons e l => simp only [aZ]; rw [aB.aM _ _ (dB (h2 (by simp)))]; exact aB.aO _ _ _
     have hnb : ((vars.take i).map (rs σ)).map Tm.av ≠ [] → b ≠ b4 := fun h => by rintro rfl; have := hb h; rw [aB.aO] at this; cases this
     have aM3 : ((vars.take i).map (rs σ)).map Tm.av ≠ [] → st b = none := fun h => by have := hb h; rw [aB.aM _ _ (hnb h)] at this; exact this
     have e1 := hbo _ aM3 hnb
     simp -implicitDefEqProofs only [aK, e1, aA, seval, uP]
     rw [pQ]
     refine ⟨st, ?_, rfl, [], rfl, fun x h => by cases h⟩
     intro z
     by_cases hz : z = b4
     · subst hz; simp [aB.aC, h4]
     · rw [aB.aM _ _ hz]
       exact ((aL.aZ (aL.refl _) hb).trans ((aL.refl st).aC h4)) z
   · have h' : eH (rs σ x) = true := by simpa using h
     obtain rfl := hy h'
     simp -implicitDefEqProofs only [aT, aH, cG, aA, seval, uP]
     refine eN aN bF bE rfl rfl (fC (aH _) (bZ _)) (dR _) hb (by simp only [cV, aS, a7]; omega) (by simp only [cV, aS, a7]; omega) (fun b' hb' => ?_)
     rw [show (((vars.take i).map (rs σ)).map Tm.av) ++ [(rs σ x).av] = ((vars.take (i + 1)).map (rs σ)).map Tm.av by rw [fM, hx]; simp] at hb' ⊢
     simp -implicitDefEqProofs only [hw, aA, seval]
     exact ⟨(), b', by rw [dW]; exact h', hb', aP.mk (by simp -implicitDefEqProofs only [aA, seval])⟩
 · rw [eS] at hinv
   have hok : ∀ t ∈ vars.map (rs σ), bD N t := fun t ht => by
    obtain ⟨v, h, rfl⟩ := cU.1 ht
    obtain ⟨h0, h1⟩ := hv v h
    have hf := eW.1 hinv _ ht
    unfold eH at hf
    simp only [cM, bJ] at hf
    exact ⟨G.kV ho.kV v h0 h1, hf.2⟩
   have CF := aHK hok hinv
   have pQ : jL σ vars = if (bY (vars.map (rs σ)) []).length ≤ 26 then some (oO (vars.map (rs σ))) else none := by
    unfold jL
    simp only [hinv, sL]
   have aZ1 := fun st => aUU _ hok (by rw [aF]; exact hl) st
   have dW := fun st => a0N (oO (vars.map (rs σ))) st
   rw [CF] at dW
   generalize oO (vars.map (rs σ)) = R at *
   generalize (bY (vars.map (rs σ)) []).length = m at *
   simp -implicitDefEqProofs only [hge, d9, pE, iE, FV, lP, eS, uF, aF, aA, seval, uP]
   refine (aZ1 _).to ?_
   simp -implicitDefEqProofs only [aA, ↓aU, seval, uP]
   refine wP [(1, 1), (0, 2), (2, 2), (3, 2), (4, 0), (5, 1)] [1, 0, 2, 3, 5] mixed ?_
   simp -implicitDefEqProofs only [aA, seval, uP]
   refine i8 (dW _) ?_
   simp -implicitDefEqProofs only [aK, aA, seval, uP]
   refine ⟨st, (aL.refl _).aC h4, rfl, R, ?_, fun x h => ?_⟩
   · rw [pQ]
     simp only [j5, kC, rP, qC, bA, aW]
     by_cases h : m ≤ 26
     · simp [h]
     · simp [h]
   · rw [pQ] at h
     split at h
     · cases h; rfl
     · cases h
theorem Q4 (k n : Int) (s : ByteArray) (ts : List Tm) (rest : List RG) (left : List Nat) (σ : Sub) (N : Nat) : fE ⟨.mk k n s ts, rest, left, σ, N⟩ = .agg [.int .i64 k, .int .i64 n, .str s, .slice (ts.map Tm.av), .slice (rest.map eG), .slice (left.map nv), .slice (cT N σ)] := rfl
structure xI (p : List Cl) (c : RC) : Prop where
 gI : cK c.σ
 ok : cP (bD c.N) c.σ
 vG : ∀ n, ¬(0 ≤ n ∧ n < (c.N : Int)) → c.σ n = none
 goal : bD c.N c.goal
 rest : ∀ g ∈ c.rest, bD c.N g.t ∧ g.t.k = 3
 left : ∀ i ∈ c.left, i < p.length
 len : c.rest.length ≤ 524288
 aX3 : c.left.length ≤ 1048576
structure pT (p : List Cl) (B : Nat) (s : RS) : Prop where
 gI : cK s.σ
 ok : cP (bD s.N) s.σ
 vG : ∀ n, ¬(0 ≤ n ∧ n < (s.N : Int)) → s.σ n = none
 goals : ∀ g ∈ s.goals, bD s.N g.t ∧ g.t.k = 3
 pos : 0 < s.N
 hN : s.N ≤ B
 gl : s.goals.length ≤ B
 oV : s.chs.length ≤ B
 chs : ∀ c ∈ s.chs, xI p c ∧ c.N + 26 ≤ B ∧ c.rest.length + 26 ≤ B ∧ 0 < c.N
theorem cP.upN {N M : Nat} {σ : Sub} (h : cP (bD N) σ) (hm : N ≤ M) : cP (bD M) σ := h.imp fun t ht => ht.mono (by omega)
theorem a0U {N k : Nat} {σ : Sub} (hd : ∀ n, ¬(0 ≤ n ∧ n < (N : Int)) → σ n = none) : cT N σ ++ List.replicate k zt = cT (N + k) σ := by
 apply K3
 intro i
 have hl := tB N σ
 by_cases hi : i < N
 · rw [aMB (by omega), yD N σ hi, yD (N + k) σ (by omega)]
 · rw [aMA (by omega), hl]
   by_cases h2 : i < N + k
   · rw [yD (N + k) σ h2, hd (i : Int) (fun h => hi (by omega)), List.getElem?_replicate, aG (by omega)]
     try rfl
   · rw [xS (by simp; omega), xS (by rw [tB]; omega)]
theorem aYE {N k b : Nat} {σ : Sub} (hd : ∀ n, ¬(0 ≤ n ∧ n < (N : Int)) → σ n = none) (hN : N + k ≤ 1048576) {st : aB} {K : AV → aB → Prop} (hb : st b = none)
 (hK : ∀ b', st b' = none → K (.mslice b' 0 (N + k) 4) (st.aC b' (.cells ((cT (N + k) σ).flatMap AV.cells)))) :
 rG prog 31 3 (st.aC b (.cells ((cT N σ).flatMap AV.cells))) (.mslice b 0 N 4) (.int .i64 (k : Int)) K := by
 have hu : prog.underlying 3 = some (.int .i64) := by kernel_rfl
 have hl : ((cT N σ).flatMap AV.cells).length = N * 4 := by rw [oN (fun e he => (XC N σ e he).1), tB]
 have lH : ((cT N σ).flatMap AV.cells).take (N * 4) ++ lU [AV.int .i64 0, .int .i64 0, .str ⟨#[]⟩, .fslice []] k = (cT (N + k) σ).flatMap AV.cells := by
  rw [← hl, eS, aEM _ (by simp), ← a0U hd, z7, List.flatMap_replicate]
  try rfl
 unfold rG
 simp only [aN, bF, bE, hu, aB.aO, lY]
 refine ⟨rfl, by omega, rfl, by omega, trivial, by omega, by omega, by omega, ?_, fun b' hb' => ?_⟩
 · rw [lH, dE]
   exact hK b hb
 · rw [lH, aB.xH st b _ hb]
   refine hK b' ?_
   by_cases h : b' = b
   · subst h; exact hb
   · rwa [aB.aM _ _ h] at hb'
theorem aEE {st s2 V : aB} {o' o6 : AO} {b6 b11 b13 b14 b : Nat} {L A : List AV} (hD : aL s2 st) (hA : s2 b11 = some (.cells (A.flatMap AV.cells))) (h11 : st b11 = none) (h6 : st b6 = none) (h62 : s2 b6 ≠ none) (aF1 : b6 ≠ b11) (h13 : s2 b13 = none) (h14 : s2 b14 = none)
 (hV : ∀ q, q ≠ b13 → q ≠ b14 → V q = s2 q) (J0 : V b13 ≠ none) (A5 : V b14 ≠ none) (hb : L ≠ [] → V b = none) (hne : A ≠ []) :
 aL (((aZ V b L).aC b13 o').aC b6 o6) (aZ (aZ st b11 A) b L) ∧ (L ≠ [] → (aZ st b11 A) b = none) := by
 have aE4 : b13 ≠ b11 := by rintro rfl; rw [h13] at hA; cases hA
 have aPJ : b14 ≠ b11 := by rintro rfl; rw [h14] at hA; cases hA
 have HU : b13 ≠ b6 := by rintro rfl; exact h62 h13
 have n13 : st b13 = none := (hD b13).1 h13
 have n14 : st b14 = none := (hD b14).1 h14
 rw [jF hne]
 have hbb : L ≠ [] → b ≠ b13 ∧ b ≠ b11 ∧ b ≠ b6 ∧ b ≠ b14 ∧ s2 b = none := fun h => by
  have h0 := hb h
  have e13 : b ≠ b13 := by rintro rfl; exact J0 h0
  have e14 : b ≠ b14 := by rintro rfl; exact A5 h0
  rw [hV b e13 e14] at h0
  exact ⟨e13, (by rintro rfl; rw [h0] at hA; cases hA), (by rintro rfl; exact h62 h0), e14, h0⟩
 refine ⟨fun q => ?_, fun h => ?_⟩
 · by_cases q6 : q = b6
   · subst q6
     have : aZ (st.aC b11 (.cells (A.flatMap AV.cells))) b L q = none := by
      by_cases hL : L = []
      · subst hL; simp only [aZ]; rw [aB.aM _ _ aF1, h6]
      · obtain ⟨_, _, e6, _⟩ := hbb hL
        rw [jF hL, aB.aM _ _ (dB e6), aB.aM _ _ aF1, h6]
     rw [this]; simp
   rw [aB.aM _ _ q6]
   by_cases q13 : q = b13
   · subst q13
     have : aZ (st.aC b11 (.cells (A.flatMap AV.cells))) b L q = none := by
      by_cases hL : L = []
      · subst hL; simp only [aZ]; rw [aB.aM _ _ aE4, n13]
      · obtain ⟨e13, _⟩ := hbb hL
        rw [jF hL, aB.aM _ _ (dB e13), aB.aM _ _ aE4, n13]
     rw [this]; simp
   rw [aB.aM _ _ q13]
   have rest : q ≠ b ∨ L = [] → (V q = none → st.aC b11 (.cells (A.flatMap AV.cells)) q = none) ∧ ∀ o, st.aC b11 (.cells (A.flatMap AV.cells)) q = some o → V q = some o := fun _ => by
    by_cases q14 : q = b14
    · subst q14
      rw [aB.aM _ _ aPJ, n14]
      simp
    rw [hV q q13 q14]
    by_cases q11 : q = b11
    · subst q11; rw [aB.aO, hA]; simp
    rw [aB.aM _ _ q11]
    exact hD q
   by_cases hL : L = []
   · subst hL
     exact rest (.inr rfl)
   · rw [jF hL, jF hL]
     by_cases qb : q = b
     · subst qb; rw [aB.aO, aB.aO]; simp
     rw [aB.aM _ _ qb, aB.aM _ _ qb]
     exact rest (.inl qb)
 · obtain ⟨e13, e11, e6, e14, h0⟩ := hbb h
   rw [aB.aM _ _ e11]
   exact (hD b).1 h0
theorem CK {st : aB} {b q : Nat} {l : List AV} {o : AO} (hb : l ≠ [] → st b = none) (h : st q = some o) : aZ st b l q = some o := by
 cases l with
 | nil => exact h
 | cons x l =>
  rw [jF (by simp), aB.aM _ _ (by rintro rfl; rw [hb (by simp)] at h; cases h)]
  exact h
theorem aI5 {b b' o n w : Nat} {l : List AV} (h : l ≠ [] → b' ≠ b) : (AV.mslice b' o n w).fin b l = .mslice b' o n w := by
 unfold AV.fin
 cases l with
 | nil => rfl
 | cons x l =>
  simp only [List.isEmpty_cons, jC, dZ]
  cases o with
  | zero => simp only [AV.fz]; rw [aE (fun e => h (by simp) e.1)]; try rfl
  | succ o => rfl
theorem IY {b N : Nat} {σ : Sub} (h0 : 0 < N) : (AV.mslice b 0 N 4).fin b (cT N σ) = .slice (cT N σ) := by
 have hl := tB N σ
 have h : cT N σ ≠ [] := by intro e; rw [e] at hl; simp at hl; omega
 have : a9 4 b (cT N σ) = .mslice b 0 N 4 := by rw [oE h, hl]
 rw [← this, iG]
theorem a0P (l : List RC) : ∀ e ∈ l.map fE, e.cB = false := by intro e he; simp only [cU] at he; obtain ⟨t, _, rfl⟩ := he; exact a0O t
theorem aSZ (l : List RC) : ∀ e ∈ l.map fE, e.width = 7 := by intro e he; simp only [cU] at he; obtain ⟨t, _, rfl⟩ := he; exact IM t
theorem aKR {φ : AF} {d i : Nat} {l : List Nat} (hi : i + 1 < l.length) (h : φ d = .int .i64 ((i : Int) + 1)) : iL prog φ 51 (.slice (l.map nv)) (some (.tmp d)) none none = some (.slice ((l.drop (i + 1)).map nv)) := by
 have he : φ.eval (.tmp d) = .int .i64 ((i : Int) + 1) := h
 have hb : dX φ (some (.tmp d)) 0 l.length = some (i + 1) := by
  simp only [dX, he]
  rw [aG (by omega)]
  congr 1
 have hwo : zP (l.map nv) (i + 1) 1 = true := by
  unfold zP
  rw [oT, fG hi]
  try rfl
 unfold iL
 rw [aE (by simp [sB])]
 simp only [pN, dV]
 rw [aE (by simp)]
 simp only [dX] at hb ⊢
 have ht : List.take l.length (l.map nv) = l.map nv := mP (by simp)
 simp only [aF, hb, hwo, or_true, fY, ht]
 simp [List.map_drop]
abbrev qN := zi tI_3 (zi zI_3 (zi aX (zi tI_4 (zi zI_4 (zi cF (zi tI_29 (zi zI_29 (zi gZ (zi j8 (zi j6 (zi kU (zi tI_31 (zi zI_31 (zi aN (zi bF (zi bE (zi b9 (zi tI_51 (zi zI_51 (zi dV (zi fS (zi fV (zi gA (zi tI_63 (zi zI_63 (zi bS (zi bR (zi bP (zi bQ (zi bT (zi tI_76 (zi zI_76 (zi lF (zi lI (zi lS (zi tI_100 (zi zI_100 (zi uL (zi yC (zi yO (zi F6 (zi tI_101 (zi zI_101 (zi rR (zi wS (zi vR (zi AL (zi tI_103 (zi zI_103 (zi D7 (zi DU (zi EC (zi GK (zi tI_146 (zi zI_146 (zi O9 (zi QR (zi MR (zi LQ M4)))))))))))))))))))))))))))))))))))))))))))))))))))))))))))
theorem SP (p : List Cl) (hp : ∀ c ∈ p, gE c ∧ c.2.length ≤ 6) (gs0 : List RG) (σ0 : List AV) (cs : List RC) (c : RC) (hc : xI p c) (h0 : 0 < c.N) (hN : c.N ≤ 524288) (hcl : cs.length ≤ 524288) (st : aB) :
 aD prog 110 [.slice (p.map b7), .agg [.slice (gs0.map eG), .slice σ0, .slice (cs.map fE)], fE c] st (fun r st' => st' = st ∧ r = match iB p cs c.goal c.rest c.σ c.N c.left with
  | some s => .tup [sH s, .bool true]
  | none => .tup [.agg [.slice (gs0.map eG), .slice σ0, .slice (cs.map fE)], .bool false]) := by
 obtain ⟨goal, rest, left, σ, N⟩ := c
 obtain ⟨hg, ho, hd, hgo, hr, hle, hrl, hll⟩ := hc
 simp only at hg ho hd hgo hr hle hrl hll h0 hN
 obtain ⟨gk, gn, gs', gts⟩ := goal
 rw [Q4]
 refine aD.fin (aD.fin (aD.lK ?_))
 refine wF [1000000, 13] 3 func110 ntmps110 rfl rfl ?_
 intro _
 simp -implicitDefEqProofs only [aA, seval, qN]
 intro b6 h6
 generalize hW : st.aC b6 (.cells [.fslice [], .fslice [], .fslice []]) = W
 have hW6 : W b6 = some (.cells [.fslice [], .fslice [], .fslice []]) := by rw [← hW]; exact aB.aO _ _ _
 have hDW : aL W st := by rw [← hW]; exact (aL.refl _).aC h6
 refine eK (σ := Unit) [1000000] [0, 4, 5, 6] left (fun i _ => iB p cs (.mk gk gn gs' gts) rest σ N (left.drop i) = iB p cs (.mk gk gn gs' gts) rest σ N left) (fun i _ => [(7, .bool false), (8, .int .i64 i)]) (fun _ _ => W) (by decide +kernel) ⟨(), rfl, aP.mk (by simp -implicitDefEqProofs only [aA, ↓aU, seval])⟩ (fun i x _ hx hlt bU hdr hinv => ?_) (fun _ hge hinv => ?_)
 case refine_2 =>
  simp -implicitDefEqProofs only [hge, aK, hW6, aF, aA, seval, qN]
  refine ⟨st, ?_, 0, [], st, rfl, by simp, by simp, ⟨0, by simp⟩, 0, [], st, rfl, by simp, by simp, ⟨0, by simp⟩, rfl, ?_⟩
  · intro z
    have := hDW z
    by_cases hz : z = b6
    · subst hz; simp [aB.aC, h6]
    · rw [aB.aM _ _ hz]; exact this
  · rw [← hinv, kF]
    simp only [fL, jK, pE, iE, bA, aW, iB]
 have hw := bK (n := (i : Int) + 1)
 have hxl := hle x (cW hx)
 obtain ⟨cl, hcx⟩ : ∃ cl, p[x]? = some cl := ⟨_, fG hxl⟩
 obtain ⟨rT, pH⟩ := hp cl (cW hcx)
 rw [hdr, iB.eq_def] at hinv
 simp only [hcx] at hinv
 have hat : dJ prog 51 (.slice (left.map nv)) (.int .i64 (i : Int)) = some (.pptr (.int .i64 (x : Int))) := bL (av := nv) dV hx rfl
 have yK := bL (av := b7) (P := prog) gZ hcx (oR cl)
 have hcf := aPY cl rT pH
 obtain ⟨⟨k, n, s', ts⟩, bd⟩ := cl
 rw [gH] at yK hcf
 simp only at hinv
 simp -implicitDefEqProofs only [bU, aF, tB, hat, yK, aA, ↓aU, seval, qN]
 refine wX [(0, 1), (1, 1), (2, 1), (4, 1), (3, 0), (5, 0), (6, 0), (7, 1)] [0, 1, 2, 4, 7] dY mixed rfl f0 ?_
 simp -implicitDefEqProofs only [aA, seval, qN]
 have hfr := rT.fr.1
 have hHd := rT.dC N (.mk k n s' ts) (by simp)
 have hBd := fun t ht => (rT.CM t (List.mem_cons_of_mem _ ht))
 refine QH h0 (by omega) σ fun b hb hA0 => ?_
 simp -implicitDefEqProofs only [aA, seval]
 refine ⟨f0, ?_⟩
 refine (hcf _).to ?_
 simp -implicitDefEqProofs only [aA, seval]
 refine ⟨f0, ?_⟩
 refine aYE hd (by omega) hb fun b11 h11 => ?_
 simp -implicitDefEqProofs only [aA, seval]
 refine ⟨f0, ?_⟩
 have hA := (show fA (N + nP (.mk k n s' ts, bd)) (W.aC b11 (.cells ((cT (N + nP (.mk k n s' ts, bd)) σ).flatMap AV.cells))) b11 σ from aB.aO _ _ _)
 have hDT : aL (W.aC b11 (.cells ((cT (N + nP (.mk k n s' ts, bd)) σ).flatMap AV.cells))) W := (aL.refl _).aC h11
 have hh := rT.head
 generalize nP (.mk k n s' ts, bd) = fr at *
 generalize W.aC b11 (.cells ((cT (N + fr) σ).flatMap AV.cells)) = T at *
 have hsh : Tm.sh (N : Int) (.mk k n s' ts) = dC N (.mk k n s' ts) := VX N (by omega) _ hh.1
 have hcs := OY (N : Int) (.mk k n s' ts)
 rw [hsh] at hcs
 have hun := FP (N := N + fr) (by omega) hg (ho.upN (by omega)) (.mk gk gn gs' gts) (dC N (.mk k n s' ts)) (hgo.mono (by omega)) hHd b11
 generalize dC N (.mk k n s' ts) = y at *
 obtain ⟨yk, yn, ys, yt⟩ := y
 refine wX [(0, 1), (1, 1), (2, 1), (3, 1), (4, 1), (6, 1), (5, 0), (7, 0), (8, 1)] [0, 1, 2, 3, 4, 6, 8] dY mixed rfl f0 ?_
 simp -implicitDefEqProofs only [aA, seval, qN]
 have hsm := hh.1.small
 simp only [aV] at hun hcs ⊢
 refine (hcs _ hsm).to ?_
 simp -implicitDefEqProofs only [aA, seval]
 refine ⟨f0, ?_⟩
 refine (hun _ hA).mono ?_
 rintro _ s2 ⟨rfl, hA2, hk2⟩
 simp -implicitDefEqProofs only [aA, seval]
 refine ⟨f0, ?_⟩
 generalize iU σ (.mk gk gn gs' gts) (.mk yk yn ys yt) = u at *
 obtain ⟨r, σ', tr⟩ := u
 simp only at hinv hA2 ⊢
 have G3 : W b11 = none := h11
 have hDs : aL s2 W := by
  intro q
  have key : ∀ o, W q = some o → s2 q = some o := fun o h => hk2 q o ((hDT q).2 o h) (by rintro rfl; rw [G3] at h; cases h)
  refine ⟨fun h => ?_, key⟩
  cases hq : W q with
  | none => rfl
  | some o => rw [key o hq] at h; cases h
 refine aQ (fun h => ?_) (fun h => ?_)
 · have hr : r = false := by simpa using h
   rw [aE (by rw [hr]; simp)] at hinv
   simp -implicitDefEqProofs only [hw, aA, seval]
   exact ⟨(), hinv, aP.drop hDs (by simp -implicitDefEqProofs only [aA, seval])⟩
 have hr' : r = true := by simpa using h
 rw [aG hr'] at hinv
 have hg9 := aLS bd N cs.length rest hBd pH (by omega) (by omega)
 generalize hgs : bd.map (fun t => (⟨dC N t, cs.length⟩ : RG)) ++ rest = gs2 at *
 simp -implicitDefEqProofs only [aF, aA, seval, qN]
 refine wP [(0, 1), (1, 1), (3, 1), (5, 1), (6, 1), (7, 1), (2, 2), (4, 2), (8, 2), (9, 1), (10, 1), (11, 0), (12, 0)] [0, 1, 3, 5, 6, 7, 2, 4, 8, 9, 10] mixed ?_
 simp -implicitDefEqProofs only [aA, seval, qN]
 refine N1 hg9 ?_
 simp -implicitDefEqProofs only [aK, aF, hw, aA, seval, qN]
 intro b13 h13
 have aSR : b13 ≠ b11 := by rintro rfl; rw [fA, h13] at hA2; cases hA2
 have h62 : s2 b6 ≠ none := by rw [(hDs b6).2 _ hW6]; simp
 have HU : b6 ≠ b13 := by rintro rfl; exact h62 h13
 have X8 : b6 ≠ b11 := by rintro rfl; rw [hW6] at G3; cases G3
 have KN : st b11 = none := (hDW b11).1 G3
 have X5 := (hDs b6).2 _ hW6
 have hNf : 0 < N + fr := by omega
 have nV : cT (N + fr) σ' ≠ [] := by intro e; have := tB (N + fr) σ'; rw [e] at this; simp at this; omega
 refine aQ (fun h => ?_) (fun h => ?_)
 · have h' : i + 1 < left.length := by simp at h; omega
   have hsl := fun (φ : AF) (d : Nat) (h : φ d = .int .i64 ((i : Int) + 1)) => aKR h' h
   simp -implicitDefEqProofs only [aA, seval]
   refine wP [(0, 1), (2, 1), (4, 1), (6, 1), (7, 1), (9, 1), (1, 2), (3, 2), (5, 2), (8, 1), (10, 2), (11, 1), (12, 0), (13, 0)] [0, 2, 4, 6, 7, 9, 1, 3, 5, 8, 10, 11] mixed ?_
   simp -implicitDefEqProofs only [aK, hsl, hw, aA, seval, qN]
   intro b14 h14
   have UB : b14 ≠ b13 := by rintro rfl; rw [aB.aO] at h14; cases h14
   have NU : s2 b14 = none := by rw [aB.aM _ _ UB] at h14; exact h14
   have aU0 : b6 ≠ b14 := by rintro rfl; exact h62 NU
   generalize hV : (s2.aC b13 (AO.cells [AV.slice (gs2.map eG), AV.mslice b11 0 (N + fr) 4, AV.slice (cs.map fE)])).aC b14 (.cells [.int .i64 gk, .int .i64 gn, .str gs', .slice (gts.map Tm.av), .slice (rest.map eG), .slice ((left.drop (i + 1)).map nv), .slice (cT N σ)]) = V
   have A5 : V b14 = some (.cells [.int .i64 gk, .int .i64 gn, .str gs', .slice (gts.map Tm.av), .slice (rest.map eG), .slice ((left.drop (i + 1)).map nv), .slice (cT N σ)]) := by rw [← hV]; exact aB.aO _ _ _
   have J0 : V b13 = some (AO.cells [AV.slice (gs2.map eG), AV.mslice b11 0 (N + fr) 4, AV.slice (cs.map fE)]) := by rw [← hV, aB.aM _ _ (dB UB)]; exact aB.aO _ _ _
   have hV6 : V b6 = some (.cells [.fslice [], .fslice [], .fslice []]) := by rw [← hV, aB.aM _ _ aU0, aB.aM _ _ HU]; exact X5
   have hVq : ∀ q, q ≠ b13 → q ≠ b14 → V q = s2 q := fun q e1 e2 => by rw [← hV, aB.aM _ _ e2, aB.aM _ _ e1]
   refine wX [(0, 1), (1, 1), (2, 1), (4, 1), (5, 1), (3, 0), (6, 0), (7, 1), (8, 2)] [0, 1, 2, 4, 5, 7] (one b14 (.cells [.int .i64 gk, .int .i64 gn, .str gs', .slice (gts.map Tm.av), .slice (rest.map eG), .slice ((left.drop (i + 1)).map nv), .slice (cT N σ)])) mixed rfl (g8 A5) ?_
   simp -implicitDefEqProofs only [vD, aA, seval, qN]
   have hlc : (cs.map fE).length = cs.length := aF _
   refine eN (P := prog) (b := 0) (l := []) (xs := cs.map fE) rR wS vR rfl rfl (by intro e he; simp only [cU] at he; obtain ⟨t, _, rfl⟩ := he; exact ⟨IM t, aPI t⟩) (by simp) (by simp) (by simp only [a7, hlc]; omega) (by simp only [a7, hlc]; omega) (fun b15 h15 => ?_)
   rw [eR] at h15 ⊢
   simp -implicitDefEqProofs only [aA, seval]
   refine ⟨g8 (CK h15 A5), ?_⟩
   refine eN (P := prog) (b := b15) (l := cs.map fE) (xs := [fE ⟨.mk gk gn gs' gts, rest, left.drop (i + 1), σ, N⟩]) rR wS vR rfl rfl (fC rfl rfl) (by intro e he; simp only [cU] at he; obtain ⟨t, _, rfl⟩ := he; exact IM t) h15 (by simp only [aS, a7, hlc]; omega) (by simp only [aS, a7, hlc]; omega) (fun b16 h16 => ?_)
   rw [show (cs.map fE) ++ [fE ⟨.mk gk gn gs' gts, rest, left.drop (i + 1), σ, N⟩] = (cs ++ [(⟨.mk gk gn gs' gts, rest, left.drop (i + 1), σ, N⟩ : RC)]).map fE by simp] at h16 ⊢
   have g13 := CK h16 J0
   have g14 := CK h16 A5
   have g6 := CK h16 hV6
   have hdn : left.drop (i + 1) ≠ [] := by intro e; have := nZ List.length e; simp at this; omega
   rw [aE hdn] at hinv
   generalize hLL : cs ++ [(⟨.mk gk gn gs' gts, rest, left.drop (i + 1), σ, N⟩ : RC)] = LL at *
   have E := aEE (o' := .cells [AV.slice (gs2.map eG), AV.mslice b11 0 (N + fr) 4, a9 7 b16 (LL.map fE)]) (o6 := .cells [AV.slice (gs2.map eG), AV.mslice b11 0 (N + fr) 4, a9 7 b16 (LL.map fE)]) (hDs.trans hDW) hA2 KN h6 h62 X8 h13 NU hVq (by rw [J0]; simp) (by rw [A5]; simp) h16 nV
   simp -implicitDefEqProofs only [aK, HU, g13, g6, eU, mB, aA, seval, qN]
   have hms : LL.map fE ≠ [] → b11 ≠ b16 := by rintro h rfl; have := h16 h; rw [hVq b11 (dB aSR) (by rintro rfl; rw [fA, NU] at hA2; cases hA2), hA2] at this; cases this
   refine ⟨g8 g14, _, E.1, b16, LL.map fE, _, rfl, fun h => E.2 (by simpa using h), a0P LL, ⟨7, aSZ LL⟩, b11, cT (N + fr) σ', st, rfl, fun _ => KN, D9 _ _, ⟨4, B4 _ _⟩, rfl, ?_⟩
   rw [← hinv]
   simp only [fL, jK, pE, iE, lP, bA, aW, aI5 hms, IY hNf]
   rfl
 · have h' : left.drop (i + 1) = [] := GT (by simp at h; omega)
   have E := aEE (o6 := .cells [AV.slice (gs2.map eG), AV.mslice b11 0 (N + fr) 4, AV.slice (cs.map fE)]) (o' := .cells [AV.slice (gs2.map eG), AV.mslice b11 0 (N + fr) 4, AV.slice (cs.map fE)]) (b := 0) (L := []) (hDs.trans hDW) hA2 KN h6 h62 X8 h13 h13 (fun q h _ => aB.aM s2 (.cells [AV.slice (gs2.map eG), AV.mslice b11 0 (N + fr) 4, AV.slice (cs.map fE)]) h) (by rw [aB.aO]; simp) (by rw [aB.aO]; simp) (by simp) nV
   simp -implicitDefEqProofs only [aK, HU, X5, aB.aO, aA, seval, qN]
   rw [aG h'] at hinv
   have E1 := E.1
   simp only [aZ, dE] at E1
   refine ⟨_, E1, 0, [], _, rfl, by simp, by simp, ⟨0, by simp⟩, b11, cT (N + fr) σ', st, rfl, fun _ => KN, D9 _ _, ⟨4, B4 _ _⟩, rfl, ?_⟩
   rw [← hinv]
   simp only [fL, jK, pE, iE, bA, aW, aI5 (l := []) (fun h => absurd rfl h), IY hNf]
   rfl
end Go.AW
