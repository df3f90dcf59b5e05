import Derived.Test.YtpficjlageaebaaGreatDoorSfuk
import Derived.Test.YtpficjlageaebaaGreatDoorSful
import Derived.Test.YtpficjlageaebaaGreatDoorSfui
import Derived.Test.YtpficjlageaebaaGreatDoorSfuf
import Derived.Lib.SliceRun
set_option linter.unusedSimpArgs false
set_option linter.unusedVariables false
set_option maxRecDepth 100000
namespace Go.AW
open Go.Proofs.Tryz
abbrev VU := zi tI_3 (zi zI_3 (zi aX (zi tI_51 (zi zI_51 (zi dV (zi fV (zi fW (zi fZ (zi tI_63 (zi zI_63 (zi bR (zi bQ (zi bP (zi bT (zi bU (zi tI_90 zI_90))))))))))))))))
theorem UF (bs : List Bt) (c p : Nat) (st : aB) (hp : p + 5000 ≤ 1099511627776) (hR : dK st c bs p) : aD prog 127 [.ptr c 0] st (Dr bs c p 5000 st NA) := by
 refine aD.lU ?_
 refine wF [1000000] 1 func127 ntmps127 rfl rfl ?_
 intro _
 simp -implicitDefEqProofs only [aA, seval, VU]
 intro b hb
 have hbc := hR.ne hb
 refine (vM [3, 2, 4, 1] (by simp) (by simp) bs c p (by omega) _ (hR.aC hbc)).mono ?_
 rintro _ _ ⟨y, hy, rfl, rfl⟩
 obtain ⟨n, rfl, hn⟩ : ∃ n : Nat, y = n ∧ n ≤ 4 := by
  simp only [cZ, dQ, dY] at hy
  rcases hy with rfl | rfl | rfl | rfl
  · exact ⟨3, rfl, by omega⟩
  · exact ⟨2, rfl, by omega⟩
  · exact ⟨4, rfl, by omega⟩
  · exact ⟨1, rfl, by omega⟩
 have hpw : 4 ^ (n + 2) ≤ 4096 := by
  have := RB (n := 4) (by omega) (show n + 2 ≤ 6 by omega)
  simpa using this
 simp -implicitDefEqProofs only [aA, seval]
 refine (aBG bs c n (p + 1) _ (by omega) (by omega) dK.new).mono ?_
 rintro _ _ ⟨p1, hp1, aZN, rfl, t1, ht1, rfl⟩
 rw [dD]
 simp -implicitDefEqProofs only [bO, b7, d9 (bO _), d7 (aT _), aK, hbc, aA, seval, VU]
 refine ⟨st.aC c (b9 bs p1), ?_, p1, by omega, by omega, rfl, t1, ht1, rfl⟩
 intro x
 by_cases e4 : x = b <;> by_cases ec : x = c <;> simp_all [aB.aC]
mutual
def Tm.sh (m : Int) : Tm → Tm
 | .mk k n s ts => .mk k (if k = 1 then IntKind.i64.wrap (n + m) else n) s (IV m ts)
def IV (m : Int) : List Tm → List Tm
 | [] => []
 | t :: ts => t.sh m :: IV m ts
end
theorem aH5 (m : Int) : ∀ ts : List Tm, IV m ts = ts.map (Tm.sh m)
 | [] => rfl
 | t :: ts => by simp only [IV, bA, aH5 m ts]
theorem Tm.OL (m k n : Int) (s : ByteArray) (ts : List Tm) : (Tm.mk k n s ts).sh m = .mk k (if k = 1 then IntKind.i64.wrap (n + m) else n) s (ts.map (Tm.sh m)) := by simp only [Tm.sh, aH5]
abbrev oJ := zi tI_3 (zi zI_3 (zi aX (zi tI_9 (zi zI_9 (zi cG (zi tI_31 (zi zI_31 (zi aN (zi bE (zi bF (zi cA (zi tI_63 (zi zI_63 (zi bR (zi bQ (zi bP (zi bT bU)))))))))))))))))
theorem OG (m : Int) : ∀ (t : Tm) (st : aB), t.small = true → aD prog 139 [t.av, .int .i64 m] st (fun r st' => r = (t.sh m).av ∧ st' = st)
 | .mk k n s ts, st, hsm => by
  obtain ⟨hlen, nY⟩ := Tm.oG hsm
  have IH := fun (x : Tm) (hx : x ∈ ts) st => OG m x st (nY x hx)
  refine aD.pC (aD.fin ?_)
  simp only [aV]
  refine wF [1000000, 5] 2 func139 ntmps139 rfl rfl ?_
  simp only [eD, AV.fits, eM, aF]
  intro ⟨_, _, _, hl, _⟩
  simp -implicitDefEqProofs only [aK, aA, ↓aU, seval, oJ]
  intro b2 hb2 c hc
  have hne : c ≠ b2 := by rintro rfl; rw [aB.aQ] at hc; cases hc
  have hn2 : st c = none := by rw [aB.aL st _ hne] at hc; exact hc
  have mU : b2 ≠ c := dA hne
  have hS : (st.aC b2 (.cells [AV.int .i64 0, AV.int .i64 0, AV.str ⟨#[]⟩, AV.fslice []])) b2 ≠ none := by rw [aB.aQ]; simp
  refine aP (fun h => ?_) (fun h => ?_)
  · simp only [bJ] at h
    simp -implicitDefEqProofs only [aK, dD, aA, seval, oJ]
    refine eH (σ := Nat) [1000000] [1, 2, 4, 5] ts (fun i b => (((ts.take i).map (Tm.sh m)).map Tm.av ≠ [] → (aB.aC (st.aC b2 (.cells [AV.int .i64 0, AV.int .i64 0, AV.str ⟨#[]⟩, AV.fslice []])) c (.cells ([AV.int .i64 k, AV.int .i64 (IntKind.i64.wrap (n + m)), AV.str s] ++ [a9 4 b (((ts.take i).map (Tm.sh m)).map Tm.av)]))) b = none)) (fun i b => [(6, .int .i64 i)]) (fun i b => eU (st.aC b2 (.cells [AV.int .i64 0, AV.int .i64 0, AV.str ⟨#[]⟩, AV.fslice []])) c b [AV.int .i64 k, AV.int .i64 (IntKind.i64.wrap (n + m)), AV.str s] (((ts.take i).map (Tm.sh m)).map Tm.av)) (by decide +kernel)
     ⟨0, fun h => absurd rfl h, aO.mk (by simp -implicitDefEqProofs only [aA, ↓aU, seval])⟩ (fun i x b hx hlt bS hdr hinv => ?_) (fun b hge hinv => ?_)
    case refine_1 =>
     have hw := bK (n := (i : Int) + 1)
     have cT : (((ts.take i).map (Tm.sh m)).map Tm.av).length = i := by simp only [aF, d5]; omega
     have htk : (ts.take (i + 1)).map (Tm.sh m) = (ts.take i).map (Tm.sh m) ++ [(Tm.sh m) x] := by rw [fM, hx]; simp
     have hbo := d8 hinv
     simp -implicitDefEqProofs only [aF, bS, aA, seval, oJ]
     refine wP [(0, 1), (2, 1), (4, 1), (7, 1), (1, 2), (3, 2), (5, 1), (6, 2), (8, 2), (9, 1), (10, 0), (11, 1), (12, 0)] [0, 2, 4, 7, 1, 3, 5, 6, 8, 9, 11] mixed ?_
     simp -implicitDefEqProofs only [bL (av := Tm.av) aN hx (aH x), aT, aH, hbo, mI, gV, aA, seval, oJ]
     refine i8 (IH x (cU hx) _) ?_
     simp -implicitDefEqProofs only [aT, aH, cF, gV, aA, seval, oJ]
     refine eN aN bE bF rfl rfl (eY (aH _) (b7 _)) (dT _) hinv (by simp only [cT, aS, aZ]; omega) (by simp only [cT, aS, aZ]; omega) (fun b' hb' => ?_)
     rw [show (((ts.take i).map (Tm.sh m)).map Tm.av) ++ [((Tm.sh m) x).av] = ((ts.take (i + 1)).map (Tm.sh m)).map Tm.av by rw [htk]; simp] at hb' ⊢
     obtain ⟨g1, g2, g3⟩ := nM hb'
     simp only [fF, eR] at g1 g3
     simp -implicitDefEqProofs only [g3, mA, eV, aK, g1, hw, aK, aA, seval, oJ]
     exact ⟨b', g2, aO.mk (by simp -implicitDefEqProofs only [aA, seval])⟩
    have hbo := d8 hinv
    rw [eS] at hinv hbo ⊢
    simp -implicitDefEqProofs only [aF, hge, aA, seval, oJ]
    simp -implicitDefEqProofs only [hbo, aK, aA, seval, oJ]
    have h1 := gD hinv hS mU
    rw [aB.aQ] at h1
    simp -implicitDefEqProofs only [h1, eV, aA, seval]
    obtain ⟨h2, h3⟩ := jX (o := .cells [AV.int .i64 k, AV.int .i64 (IntKind.i64.wrap (n + m)), AV.str s, a9 4 b ((ts.map (Tm.sh m)).map Tm.av)]) hinv hS mU
    refine ⟨b, _, _, h2, h3, iF _, ⟨4, dT _⟩, ?_, (((aM.refl _).aC hb2).aC hn2).aC hb2⟩
    simp only [fL, bA, aW, eC, iS, iD, ← aV]
    rw [Tm.OL, aG h]
  · simp only [dG] at h
    simp -implicitDefEqProofs only [aA, seval]
    refine eH (σ := Nat) [1000000] [1, 2, 4, 5] ts (fun i b => (((ts.take i).map (Tm.sh m)).map Tm.av ≠ [] → (aB.aC (st.aC b2 (.cells [AV.int .i64 0, AV.int .i64 0, AV.str ⟨#[]⟩, AV.fslice []])) c (.cells ([AV.int .i64 k, AV.int .i64 (n), AV.str s] ++ [a9 4 b (((ts.take i).map (Tm.sh m)).map Tm.av)]))) b = none)) (fun i b => [(6, .int .i64 i)]) (fun i b => eU (st.aC b2 (.cells [AV.int .i64 0, AV.int .i64 0, AV.str ⟨#[]⟩, AV.fslice []])) c b [AV.int .i64 k, AV.int .i64 (n), AV.str s] (((ts.take i).map (Tm.sh m)).map Tm.av)) (by decide +kernel)
     ⟨0, fun h => absurd rfl h, aO.mk (by simp -implicitDefEqProofs only [aA, ↓aU, seval])⟩ (fun i x b hx hlt bS hdr hinv => ?_) (fun b hge hinv => ?_)
    case refine_1 =>
     have hw := bK (n := (i : Int) + 1)
     have cT : (((ts.take i).map (Tm.sh m)).map Tm.av).length = i := by simp only [aF, d5]; omega
     have htk : (ts.take (i + 1)).map (Tm.sh m) = (ts.take i).map (Tm.sh m) ++ [(Tm.sh m) x] := by rw [fM, hx]; simp
     have hbo := d8 hinv
     simp -implicitDefEqProofs only [aF, bS, aA, seval, oJ]
     refine wP [(0, 1), (2, 1), (4, 1), (7, 1), (1, 2), (3, 2), (5, 1), (6, 2), (8, 2), (9, 1), (10, 0), (11, 1), (12, 0)] [0, 2, 4, 7, 1, 3, 5, 6, 8, 9, 11] mixed ?_
     simp -implicitDefEqProofs only [bL (av := Tm.av) aN hx (aH x), aT, aH, hbo, mI, gV, aA, seval, oJ]
     refine i8 (IH x (cU hx) _) ?_
     simp -implicitDefEqProofs only [aT, aH, cF, gV, aA, seval, oJ]
     refine eN aN bE bF rfl rfl (eY (aH _) (b7 _)) (dT _) hinv (by simp only [cT, aS, aZ]; omega) (by simp only [cT, aS, aZ]; omega) (fun b' hb' => ?_)
     rw [show (((ts.take i).map (Tm.sh m)).map Tm.av) ++ [((Tm.sh m) x).av] = ((ts.take (i + 1)).map (Tm.sh m)).map Tm.av by rw [htk]; simp] at hb' ⊢
     obtain ⟨g1, g2, g3⟩ := nM hb'
     simp only [fF, eR] at g1 g3
     simp -implicitDefEqProofs only [g3, mA, eV, aK, g1, hw, aK, aA, seval, oJ]
     exact ⟨b', g2, aO.mk (by simp -implicitDefEqProofs only [aA, seval])⟩
    have hbo := d8 hinv
    rw [eS] at hinv hbo ⊢
    simp -implicitDefEqProofs only [aF, hge, aA, seval, oJ]
    simp -implicitDefEqProofs only [hbo, aK, aA, seval, oJ]
    have h1 := gD hinv hS mU
    rw [aB.aQ] at h1
    simp -implicitDefEqProofs only [h1, eV, aA, seval]
    obtain ⟨h2, h3⟩ := jX (o := .cells [AV.int .i64 k, AV.int .i64 (n), AV.str s, a9 4 b ((ts.map (Tm.sh m)).map Tm.av)]) hinv hS mU
    refine ⟨b, _, _, h2, h3, iF _, ⟨4, dT _⟩, ?_, (((aM.refl _).aC hb2).aC hn2).aC hb2⟩
    simp only [fL, bA, aW, eC, iS, iD, ← aV]
    rw [Tm.OL, aE h]
termination_by t => SizeOf.sizeOf t
decreasing_by have := List.sizeOf_lt_of_mem hx; simp only [Tm.mk.sizeOf_spec]; omega
abbrev yO := zi tI_3 (zi zI_3 (zi aX (zi tI_9 (zi zI_9 (zi cG (zi tI_31 (zi zI_31 (zi aN (zi bE (zi bF (zi cA (zi tI_63 (zi zI_63 (zi bR (zi bQ (zi bP (zi bT bU)))))))))))))))))
theorem aPJ (k n : Int) (s : ByteArray) (ts : List Tm) (st : aB) (hsm : (Tm.mk k n s ts).small = true) : aD prog 81 [(Tm.mk k n s ts).av] st (fun r st' => ∃ b, r = .agg [.int .i64 k, .int .i64 n, .str s, a9 4 b (ts.map Tm.av)] ∧ st' = aY st b (ts.map Tm.av) ∧ (ts.map Tm.av ≠ [] → st b = none)) := by
 obtain ⟨hlen, nY⟩ := Tm.oG hsm
 have IH := fun (x : Tm) (hx : x ∈ ts) st => yA x st (nY x hx)
 refine aD.lU ?_
 simp only [aV]
 refine wF [] 1 func81 ntmps81 rfl rfl ?_
 simp only [eD, AV.fits, eM, aF]
 intro ⟨_, _, _, hl, _⟩
 simp -implicitDefEqProofs only [aA, seval, yO]
 intro b2 hb2 c hc
 have hne : c ≠ b2 := by rintro rfl; rw [aB.aQ] at hc; cases hc
 have hn2 : st c = none := by rw [aB.aL st _ hne] at hc; exact hc
 simp -implicitDefEqProofs only [aK, aA, seval]
 refine eH (σ := Nat) [] [1, 2, 3] ts (fun i b => (((ts.take i).map (fun y => y)).map Tm.av ≠ [] → (aB.aC (st.aC b2 (.cells [AV.int .i64 0, AV.int .i64 0, AV.str ⟨#[]⟩, AV.fslice []])) c (.cells ([AV.int .i64 k, AV.int .i64 n, AV.str s] ++ [a9 4 b (((ts.take i).map (fun y => y)).map Tm.av)]))) b = none)) (fun i b => [(4, .int .i64 i)]) (fun i b => eU (st.aC b2 (.cells [AV.int .i64 0, AV.int .i64 0, AV.str ⟨#[]⟩, AV.fslice []])) c b [AV.int .i64 k, AV.int .i64 n, AV.str s] (((ts.take i).map (fun y => y)).map Tm.av)) (by decide +kernel)
  ⟨0, fun h => absurd rfl h, aO.mk (by simp -implicitDefEqProofs only [aA, ↓aU, seval])⟩ (fun i x b hx hlt bS hdr hinv => ?_) (fun b hge hinv => ?_)
 case refine_1 =>
  have hw := bK (n := (i : Int) + 1)
  have cT : (((ts.take i).map (fun y => y)).map Tm.av).length = i := by simp only [aF, d5]; omega
  have htk : (ts.take (i + 1)).map (fun y => y) = (ts.take i).map (fun y => y) ++ [(fun y => y) x] := by rw [fM, hx]; simp
  have hbo := d8 hinv
  simp -implicitDefEqProofs only [aF, bS, aA, seval, yO]
  refine wP [(0, 1), (2, 1), (4, 1), (1, 2), (3, 2), (5, 1), (6, 2), (7, 2), (8, 1), (9, 0), (10, 1), (11, 0)] [0, 2, 4, 1, 3, 5, 6, 7, 8, 10] mixed ?_
  simp -implicitDefEqProofs only [bL (av := Tm.av) aN hx (aH x), aT, aH, hbo, mI, gV, aA, seval, yO]
  refine i8 (IH x (cU hx) _) ?_
  simp -implicitDefEqProofs only [aT, aH, cF, gV, aA, seval, yO]
  refine eN aN bE bF rfl rfl (eY (aH _) (b7 _)) (dT _) hinv (by simp only [cT, aS, aZ]; omega) (by simp only [cT, aS, aZ]; omega) (fun b' hb' => ?_)
  rw [show (((ts.take i).map (fun y => y)).map Tm.av) ++ [((fun y => y) x).av] = ((ts.take (i + 1)).map (fun y => y)).map Tm.av by rw [htk]; simp] at hb' ⊢
  obtain ⟨g1, g2, g3⟩ := nM hb'
  simp only [fF, eR] at g1 g3
  simp -implicitDefEqProofs only [g3, mA, eV, aK, g1, hw, aA, seval, yO]
  exact ⟨b', g2, aO.mk (by simp -implicitDefEqProofs only [aA, seval])⟩
 have hbo := d8 hinv
 rw [eS] at hinv hbo ⊢
 simp -implicitDefEqProofs only [aF, hge, aA, seval, yO]
 simp -implicitDefEqProofs only [hbo, aA, seval, yO]
 have mU : b2 ≠ c := dA hne
 have hS : (st.aC b2 (.cells [AV.int .i64 0, AV.int .i64 0, AV.str ⟨#[]⟩, AV.fslice []])) b2 ≠ none := by rw [aB.aQ]; simp
 have h1 := gD hinv hS mU
 rw [aB.aQ] at h1
 simp -implicitDefEqProofs only [h1, eV, aK, aA, seval]
 obtain ⟨h2, h3⟩ := jX (o := .cells [AV.int .i64 k, AV.int .i64 n, AV.str s, a9 4 b ((ts.map fun y => y).map Tm.av)]) hinv hS mU
 simp only [fF, eR] at h2 h3
 rw [h2]
 have D : ∀ o o' o'', aM (((st.aC b2 o).aC c o').aC b2 o'') st := fun o o' o'' => (((aM.refl _).aC hb2).aC hn2).aC hb2
 simp only [List.map_id'] at h3 ⊢
 exact ⟨_, O5 (D _ _ _), b, rfl, rfl, fun h => (D _ _ _ b).1 (h3 h)⟩
abbrev lQ := zi tI_3 (zi zI_3 (zi aX (zi tI_9 (zi zI_9 (zi cG (zi tI_31 (zi zI_31 (zi aN (zi bE (zi bF (zi cA (zi tI_51 (zi zI_51 (zi dV (zi fV (zi fW (zi fZ (zi tI_63 (zi zI_63 (zi bR (zi bQ (zi bP (zi bT (zi bU (zi tI_90 (zi zI_90 (zi tI_125 (zi zI_125 (zi iP (zi lL (zi lK mC)))))))))))))))))))))))))))))))
theorem QI (bs : List Bt) (c p : Nat) (t : Tm) (hsm : t.small = true) (st : aB) (hp : p + 10 ≤ 1099511627776) (hR : dK st c bs p) :
 aD prog 96 [.ptr c 0, t.av] st (Dr bs c p 10 st (fun r => ∃ t : Tm, r = t.av)) := by
 obtain ⟨k, n, s, ts⟩ := t
 refine aD.lU (aD.fin ?_)
 refine wF [1000000, 5] 2 func96 ntmps96 rfl rfl ?_
 intro _
 simp -implicitDefEqProofs only [aA, seval, lQ]
 intro b4 h4
 have h4c := hR.ne h4
 have hR' := fun o => hR.aC (o := o) h4c
 refine (aPJ k n s ts _ hsm).mono ?_
 rintro _ _ ⟨b, rfl, rfl, hb⟩
 simp -implicitDefEqProofs only [eV, aK, aA, ↓aU, seval, lQ]
 intro b5 h5
 obtain ⟨hn5, hb5⟩ := AT h5
 have h54 : b5 ≠ b4 := by rintro rfl; rw [aB.aQ] at hn5; cases hn5
 have QF : st b5 = none := by rw [aB.aL _ _ h54] at hn5; exact hn5
 have h5c : b5 ≠ c := hR.ne QF
 have hW4 : ∀ q, ((st.aC b4 (.cells [.int .i64 0, .int .i64 0, .str ⟨#[]⟩, .fslice []])).aC c (b9 bs q)) b4 = some (.cells [.int .i64 0, .int .i64 0, .str ⟨#[]⟩, .fslice []]) := fun q => by rw [aB.aL _ _ h4c, aB.aQ]
 have hdr : ∀ q Z Y, aM ((((st.aC b4 (.cells [.int .i64 0, .int .i64 0, .str ⟨#[]⟩, .fslice []])).aC c (b9 bs q)).aC b5 Z).aC b4 Y) (st.aC c (b9 bs q)) := fun q Z Y x => by
  by_cases e4 : x = b4 <;> by_cases ec : x = c <;> by_cases e5 : x = b5 <;> simp_all [aB.aC]
 have e0 : (aY (st.aC b4 (.cells [.int .i64 0, .int .i64 0, .str ⟨#[]⟩, .fslice []])) b (ts.map Tm.av)).aC b5 (.cells [.int .i64 k, .int .i64 n, .str s, a9 4 b (ts.map Tm.av)]) = eU (st.aC b4 (.cells [.int .i64 0, .int .i64 0, .str ⟨#[]⟩, .fslice []])) b5 b [.int .i64 k, .int .i64 n, .str s] (ts.map Tm.av) := by
  rw [n7 hb5]; try rfl
 have i0 : ts.map Tm.av ≠ [] → ((st.aC b4 (.cells [.int .i64 0, .int .i64 0, .str ⟨#[]⟩, .fslice []])).aC b5 (.cells ([.int .i64 k, .int .i64 n, .str s] ++ [a9 4 b (ts.map Tm.av)]))) b = none := fun h => by
  rw [aB.aL _ _ (dA (hb5 h))]; exact hb h
 have hUc : (st.aC b4 (.cells [.int .i64 0, .int .i64 0, .str ⟨#[]⟩, .fslice []])) c ≠ none := by rw [hR' _]; simp
 rw [e0]
 have hRk : dK (eU (st.aC b4 (.cells [.int .i64 0, .int .i64 0, .str ⟨#[]⟩, .fslice []])) b5 b [.int .i64 k, .int .i64 n, .str s] (ts.map Tm.av)) c bs p := by
  unfold dK
  rw [gD i0 hUc h5c.symm]
  exact hR' _
 refine (mT bs c p (by omega) 50 (by omega) (by omega) _ hRk).mono ?_
 rintro _ _ ⟨j, hj, rfl, rfl⟩
 obtain ⟨e1, i1⟩ := oT (o := b9 bs (p + 1)) i0 hUc h5c.symm
 rw [e1]
 have hWc : ∀ q, ((st.aC b4 (.cells [.int .i64 0, .int .i64 0, .str ⟨#[]⟩, .fslice []])).aC c (b9 bs q)) c ≠ none := fun q => by rw [aB.aQ]; simp
 have hRq : ∀ q (hd l : List AV), (l ≠ [] → (((st.aC b4 (.cells [.int .i64 0, .int .i64 0, .str ⟨#[]⟩, .fslice []])).aC c (b9 bs q)).aC b5 (.cells (hd ++ [a9 4 b l]))) b = none) → dK (eU ((st.aC b4 (.cells [.int .i64 0, .int .i64 0, .str ⟨#[]⟩, .fslice []])).aC c (b9 bs q)) b5 b hd l) c bs q := fun q hd l hi => by
  unfold dK
  rw [gD hi (hWc q) h5c.symm, aB.aQ]
  try rfl
 clear e0 i0 hRk e1
 simp -implicitDefEqProofs only [aA, seval]
 refine aP (fun h0 => ?_) (fun h0 => ?_)
 · simp -implicitDefEqProofs only [aA, seval, lQ]
   refine (vM [0, 4, 1, 2, 3] (by simp) (by simp) bs c (p + 1) (by omega) _ (hRq _ _ _ i1)).mono ?_
   rintro _ _ ⟨y, _, rfl, rfl⟩
   obtain ⟨e1, i1⟩ := oT (o := b9 bs (p + 1 + 1)) i1 (hWc _) h5c.symm
   rw [dD] at e1 i1
   rw [e1]
   have hbo := d8 i1
   obtain ⟨e2, i1⟩ := FR (hd' := [.int .i64 y, .int .i64 n, .str s]) i1
   simp only [fF, eR] at e2
   simp -implicitDefEqProofs only [aK, hbo, aA, seval, lQ]
   rw [e2]
   have hbo := d8 i1
   have h4o := gD i1 (x := b4) (by rw [hW4]; simp) h54.symm
   rw [hW4] at h4o
   simp -implicitDefEqProofs only [h4o, eV, aA, seval]
   obtain ⟨g5, g6⟩ := jX (o := .cells [.int .i64 (y), .int .i64 (n), .str (s), a9 4 b ((ts).map Tm.av)]) i1 (show ((st.aC b4 (.cells [.int .i64 0, .int .i64 0, .str ⟨#[]⟩, .fslice []])).aC c (b9 bs (p + 1 + 1))) b4 ≠ none by rw [hW4]; simp) h54.symm
   refine ⟨b, _, _, g5, g6, iF _, ⟨4, dT _⟩, st.aC c (b9 bs (p + 1 + 1)), hdr _ _ _, p + 1 + 1, by omega, by omega, rfl, .mk (y) (n) (s) (ts), ?_⟩
   simp only [fL, bA, aW, eC, iS, iD, aV]
 simp -implicitDefEqProofs only [aA, seval]
 refine aP (fun h0 => ?_) (fun h0 => ?_)
 · simp -implicitDefEqProofs only [aA, seval, lQ]
   refine (vM [26, 1000, -1000, -1, 1] (by simp) (by simp) bs c (p + 1) (by omega) _ (hRq _ _ _ i1)).mono ?_
   rintro _ _ ⟨y, _, rfl, rfl⟩
   obtain ⟨e1, i1⟩ := oT (o := b9 bs (p + 1 + 1)) i1 (hWc _) h5c.symm
   rw [dD] at e1 i1
   rw [e1]
   have hbo := d8 i1
   obtain ⟨e2, i1⟩ := FR (hd' := [.int .i64 k, .int .i64 y, .str s]) i1
   simp only [fF, eR] at e2
   simp -implicitDefEqProofs only [aK, hbo, aA, seval, lQ]
   rw [e2]
   have hbo := d8 i1
   have h4o := gD i1 (x := b4) (by rw [hW4]; simp) h54.symm
   rw [hW4] at h4o
   simp -implicitDefEqProofs only [h4o, eV, aA, seval]
   obtain ⟨g5, g6⟩ := jX (o := .cells [.int .i64 (k), .int .i64 (y), .str (s), a9 4 b ((ts).map Tm.av)]) i1 (show ((st.aC b4 (.cells [.int .i64 0, .int .i64 0, .str ⟨#[]⟩, .fslice []])).aC c (b9 bs (p + 1 + 1))) b4 ≠ none by rw [hW4]; simp) h54.symm
   refine ⟨b, _, _, g5, g6, iF _, ⟨4, dT _⟩, st.aC c (b9 bs (p + 1 + 1)), hdr _ _ _, p + 1 + 1, by omega, by omega, rfl, .mk (k) (y) (s) (ts), ?_⟩
   simp only [fL, bA, aW, eC, iS, iD, aV]
 simp -implicitDefEqProofs only [aA, seval]
 refine aP (fun h0 => ?_) (fun h0 => ?_)
 · simp -implicitDefEqProofs only [aA, seval, lQ]
   refine (F4 [⟨#[]⟩, ⟨#[88]⟩, ⟨#[116, 111, 111, 108, 111, 110, 103]⟩, ⟨#[195, 169]⟩, ⟨#[97]⟩] (by simp) (by simp) bs c (p + 1) (by omega) _ (hRq _ _ _ i1)).mono ?_
   rintro _ _ ⟨y, _, rfl, rfl⟩
   obtain ⟨e1, i1⟩ := oT (o := b9 bs (p + 1 + 1)) i1 (hWc _) h5c.symm
   rw [dD] at e1 i1
   rw [e1]
   have hbo := d8 i1
   obtain ⟨e2, i1⟩ := FR (hd' := [.int .i64 k, .int .i64 n, .str y]) i1
   simp only [fF, eR] at e2
   simp -implicitDefEqProofs only [aK, hbo, aA, seval, lQ]
   rw [e2]
   have hbo := d8 i1
   have h4o := gD i1 (x := b4) (by rw [hW4]; simp) h54.symm
   rw [hW4] at h4o
   simp -implicitDefEqProofs only [h4o, eV, aA, seval]
   obtain ⟨g5, g6⟩ := jX (o := .cells [.int .i64 (k), .int .i64 (n), .str (y), a9 4 b ((ts).map Tm.av)]) i1 (show ((st.aC b4 (.cells [.int .i64 0, .int .i64 0, .str ⟨#[]⟩, .fslice []])).aC c (b9 bs (p + 1 + 1))) b4 ≠ none by rw [hW4]; simp) h54.symm
   refine ⟨b, _, _, g5, g6, iF _, ⟨4, dT _⟩, st.aC c (b9 bs (p + 1 + 1)), hdr _ _ _, p + 1 + 1, by omega, by omega, rfl, .mk (k) (n) (y) (ts), ?_⟩
   simp only [fL, bA, aW, eC, iS, iD, aV]
 simp -implicitDefEqProofs only [aA, seval]
 refine aP (fun h0 => ?_) (fun h0 => ?_)
 · simp -implicitDefEqProofs only [aA, seval]
   refine gX (σ := Nat × List Tm) [1000000, 5] [4, 5, 10] (fun x => (x.2.map Tm.av ≠ [] → (aB.aC ((st.aC b4 (.cells [.int .i64 0, .int .i64 0, .str ⟨#[]⟩, .fslice []])).aC c (b9 bs (p + 1))) b5 (.cells ([.int .i64 k, .int .i64 n, .str s] ++ [a9 4 x.1 (x.2.map Tm.av)]))) x.1 = none)) (fun _ => []) (fun x => eU ((st.aC b4 (.cells [.int .i64 0, .int .i64 0, .str ⟨#[]⟩, .fslice []])).aC c (b9 bs (p + 1))) b5 x.1 [.int .i64 k, .int .i64 n, .str s] (x.2.map Tm.av)) (fun x => 5 - x.2.length) (by decide +kernel) ⟨(b, ts), i1, aO.mk (by simp -implicitDefEqProofs only [aA, seval])⟩ ?_
   rintro ⟨b, acc⟩ i1
   simp only at i1
   have hbo := d8 i1
   have haL := sU (w := 4) (b := b) (l := acc.map Tm.av) cA
   simp -implicitDefEqProofs only [hbo, mI, haL, aF, aA, seval, lQ]
   refine aP (fun h1 => ?_) (fun h1 => ?_)
   · simp only [bJ] at h1
     have cT : (acc.map Tm.av).length ≤ 4 := by rw [aF]; omega
     simp -implicitDefEqProofs only [aA, seval]
     refine CP [(0, 1), (1, 1), (2, 0), (3, 1), (4, 0), (5, 1), (6, 2)] [0, 1, 3, 5] (eJ.aC b5 (.cells [.int .i64 k, .int .i64 n, .str s, a9 4 b (acc.map Tm.av)])) mixed (by decide +kernel) (by decide +kernel) (by decide +kernel) rfl (gZ hbo) ?_
     simp -implicitDefEqProofs only [mI, aA, seval, lQ]
     refine (B3 1 _).to ?_
     simp -implicitDefEqProofs only [aT, aH, cF, aA, seval, lQ]
     refine ⟨gZ hbo, ?_⟩
     refine eN aN bE bF rfl rfl (eY (aH _) (b7 _)) (dT _) i1 (by simp only [aS, aZ]; omega) (by simp only [aS, aZ]; omega) (fun b' hb' => ?_)
     rw [show acc.map Tm.av ++ [(Tm.mk 2 1 ⟨#[]⟩ []).av] = (acc ++ [Tm.mk 2 1 ⟨#[]⟩ []]).map Tm.av by simp] at hb' ⊢
     obtain ⟨g1, g2, g3⟩ := nM hb'
     simp only [fF, eR] at g1 g3
     simp -implicitDefEqProofs only [aK, eV, mA, aA, seval, lQ]
     refine ⟨gZ g3, ?_⟩
     simp -implicitDefEqProofs only [g3, g1, aA, seval]
     refine ⟨(b', acc ++ [Tm.mk 2 1 ⟨#[]⟩ []]), by simp only [dP, aS, aZ]; omega, g2, aO.mk (by simp -implicitDefEqProofs only [aA, seval])⟩
   · simp -implicitDefEqProofs only [aK, hbo, eV, aA, seval, lQ]
     have hbo := d8 i1
     have h4o := gD i1 (x := b4) (by rw [hW4]; simp) h54.symm
     rw [hW4] at h4o
     simp -implicitDefEqProofs only [h4o, aA, seval]
     obtain ⟨g5, g6⟩ := jX (o := .cells [.int .i64 (k), .int .i64 (n), .str (s), a9 4 b ((acc).map Tm.av)]) i1 (show ((st.aC b4 (.cells [.int .i64 0, .int .i64 0, .str ⟨#[]⟩, .fslice []])).aC c (b9 bs (p + 1))) b4 ≠ none by rw [hW4]; simp) h54.symm
     refine ⟨b, _, _, g5, g6, iF _, ⟨4, dT _⟩, st.aC c (b9 bs (p + 1)), hdr _ _ _, p + 1, by omega, by omega, rfl, .mk (k) (n) (s) (acc), ?_⟩
     simp only [fL, bA, aW, eC, iS, iD, aV]
 simp -implicitDefEqProofs only [aA, seval]
 refine aP (fun h0 => ?_) (fun h0 => ?_)
 · simp -implicitDefEqProofs only [aA, seval]
   have hW5 : ∀ Z, ((st.aC b4 (.cells [.int .i64 0, .int .i64 0, .str ⟨#[]⟩, .fslice []])).aC c (b9 bs (p + 1))).aC b5 Z b4 = some (.cells [.int .i64 0, .int .i64 0, .str ⟨#[]⟩, .fslice []]) := fun Z => by rw [aB.aL _ _ h54.symm, hW4]
   refine eH (σ := Tm) [1000000, 5] [4, 5] (List.range 30) (fun _ _ => True) (fun i _ => [(6, .int .i64 i)]) (fun _ u => ((st.aC b4 (.cells [.int .i64 0, .int .i64 0, .str ⟨#[]⟩, .fslice []])).aC c (b9 bs (p + 1))).aC b5 (.cells u.av.cells)) (by decide +kernel)
    ⟨.mk k n s ts, trivial, ?_⟩ (fun i x u hx hlt bS zL _ => ?_) (fun u hge _ => ?_)
   · rw [aV]
     exact (aYA i1 (iF _) ⟨4, dT _⟩).trans (fK.jW (by simp -implicitDefEqProofs only [aA, ↓aU, seval]))
   · rw [K2] at hlt
     have aYX : decide ((i : Int) < 30) = true := by simp; omega
     have hw := bK (n := (i : Int) + 1)
     simp -implicitDefEqProofs only [aYX, bO, aT, aH, cF, d9 (bO _), d7 (aT _), aA, seval, lQ]
     refine (rE ⟨#[115]⟩ [u] (by simp) _).to ?_
     simp -implicitDefEqProofs only [dD, aK, hw, bO, b7, aA, seval, lQ]
     exact ⟨.mk 3 0 ⟨#[115]⟩ [u], aO.mk (by simp -implicitDefEqProofs only [aA, seval])⟩
   · have aS0 : decide ((29 : Int) + 1 < 30) = false := rfl
     have h4o := hW5 (.cells u.av.cells)
     simp -implicitDefEqProofs only [K2, aK, h4o, bO, b7, d9 (bO _), d7 (aT _), aA, ↓aU, seval, lQ]
     exact ⟨0, [], _, rfl, by simp, by simp, ⟨4, by simp⟩, st.aC c (b9 bs (p + 1)), hdr _ _ _, p + 1, by omega, by omega, rfl, u, Tm.tS u 0⟩
 · simp -implicitDefEqProofs only [aA, seval, lQ]
   have hbo := d8 i1
   have h4o := gD i1 (x := b4) (by rw [hW4]; simp) h54.symm
   rw [hW4] at h4o
   simp -implicitDefEqProofs only [aK, hbo, h4o, eV, aA, seval, lQ]
   obtain ⟨g5, g6⟩ := jX (o := .cells [.int .i64 (k), .int .i64 (n), .str (s), a9 4 b ((ts).map Tm.av)]) i1 (show ((st.aC b4 (.cells [.int .i64 0, .int .i64 0, .str ⟨#[]⟩, .fslice []])).aC c (b9 bs (p + 1))) b4 ≠ none by rw [hW4]; simp) h54.symm
   refine ⟨b, _, _, g5, g6, iF _, ⟨4, dT _⟩, st.aC c (b9 bs (p + 1)), hdr _ _ _, p + 1, by omega, by omega, rfl, .mk (k) (n) (s) (ts), ?_⟩
   simp only [fL, bA, aW, eC, iS, iD, aV]
abbrev aH6 := zi tI_3 (zi zI_3 (zi aX (zi tI_29 (zi zI_29 (zi g8 (zi j8 (zi kA (zi k6 (zi tI_76 (zi zI_76 (zi lN (zi lR lP))))))))))))
theorem aTI (l : List Cl) (g : FuncId) (dU : List AV) (p : Cl → Bool) (st : aB) (hc : ∀ x ∈ l, aD prog g ([bY x] ++ dU) st (fun r st' => r = .bool (p x) ∧ st' = st)) :
 aD prog 159 [.slice (l.map bY), .func g dU] st (fun r st' => ∃ j : Int, r = .int .i64 j ∧ decide (0 ≤ j) = l.any p ∧ st' = st) := by
 refine wF [] 2 func159 ntmps159 rfl rfl ?_
 simp only [eD, AV.fits, eM, aF]
 intro ⟨hl, _⟩
 simp -implicitDefEqProofs only [aF, aA, seval, aH6]
 refine eH (σ := Unit) [] [0, 1, 7] l (fun i _ => (l.drop i).any p = l.any p) (fun i _ => [(8, .int .i64 i)]) (fun _ _ => st) (by decide +kernel) ⟨(), rfl, aO.mk (by simp -implicitDefEqProofs only [aA, ↓aU, seval])⟩ (fun i x _ hx hlt bS hdr hinv => ?_) (fun _ hge hinv => ?_)
 case refine_2 =>
  simp -implicitDefEqProofs only [hge, aA, seval]
  rw [kE] at hinv
  exact ⟨-1, rfl, by rw [← hinv]; try rfl⟩
 rw [hdr, C7] at hinv
 have hw := bK (n := (i : Int) + 1)
 simp -implicitDefEqProofs only [bS, bL (av := bY) g8 hx (oH x), AU, oH, aA, seval, aH6]
 refine (hc x (cU hx)).to ?_
 simp -implicitDefEqProofs only [aA, seval]
 refine aP (fun h => ?_) (fun h => ?_)
 · simp -implicitDefEqProofs only [aA, seval]
   exact ⟨i, rfl, by rw [← hinv, h]; simp⟩
 · rw [h, qU] at hinv
   simp -implicitDefEqProofs only [aA, seval]
   exact ⟨(), hinv, aO.mk (by simp -implicitDefEqProofs only [hw, aA, seval])⟩
theorem aTF (l : List Cl) (g : FuncId) (dU : List AV) (p : Cl → Bool) (st : aB) (hc : ∀ x ∈ l, aD prog g ([bY x] ++ dU) st (fun r st' => r = .bool (p x) ∧ st' = st)) :
 aD prog 118 [.slice (l.map bY), .func g dU] st (fun r st' => r = .bool (l.any p) ∧ st' = st) := by
 refine wF [] 2 func118 ntmps118 rfl rfl ?_
 intro _
 simp -implicitDefEqProofs only [aA, seval]
 refine (aTI l g dU p st hc).mono ?_
 rintro _ _ ⟨j, rfl, hj, rfl⟩
 simp -implicitDefEqProofs only [hj, aA, seval]
abbrev OY := zi tI_4 (zi zI_4 (zi cE (zi tI_31 (zi zI_31 (zi aN (zi bE (zi bF (zi cA (zi tI_63 (zi zI_63 (zi bR (zi bQ (zi bP (zi bT (zi bU (zi tI_76 (zi zI_76 (zi lN (zi lR lP)))))))))))))))))))
theorem aPE (c : Cl) (st : aB) : aD prog 120 [bY c] st (fun r st' => r = .bool (k8 c) ∧ st' = st) := by
 obtain ⟨⟨k, n, s, ts⟩, b⟩ := c
 have hv := fun st => aFY (.mk k n s ts) st
 have hp := fun st => WU k n s ts st
 simp only [aV] at hv hp
 have hg := fun st => aJ9 b st
 simp only [gG, k8, OR]
 simp only [lG] at hg
 generalize (Tm.mk k n s ts).valid = v at *
 refine wF [1000000] 1 func120 ntmps120 rfl rfl ?_
 intro _
 simp -implicitDefEqProofs only [aA, seval, OY]
 refine (hv _).to ?_
 cases v with
 | false => simp -implicitDefEqProofs only [gK, aA, seval]
 | true =>
  simp -implicitDefEqProofs only [jD, eT, aA, seval, OY]
  refine (hp _).to ?_
  cases hpl : o9 k s (ts.length : Int) with
  | false => simp -implicitDefEqProofs only [gK, aA, seval]
  | true =>
   simp -implicitDefEqProofs only [jD, eT, aA, seval, OY]
   refine (hg _).to ?_
   simp -implicitDefEqProofs only [aA, seval]
abbrev aNV := zi tI_4 (zi zI_4 (zi cE (zi tI_76 (zi zI_76 (zi lN (zi lR lP))))))
theorem aU3 (c : Cl) (st : aB) : aD prog 119 [bY c] st (fun r st' => r = .bool (!k8 c) ∧ st' = st) := by
 refine wF [1000000] 1 func119 ntmps119 rfl rfl ?_
 intro _
 simp -implicitDefEqProofs only [IQ, AU, oH, aA, seval, aNV]
 refine (aPE c st).to ?_
 simp -implicitDefEqProofs only [aA, seval]
abbrev aY4 := zi tI_3 (zi zI_3 (zi aX (zi tI_4 (zi zI_4 (zi cE (zi tI_29 (zi zI_29 (zi g8 (zi j8 (zi kA k6))))))))))
theorem aSW (p : List Cl) (st : aB) : aD prog 82 [.slice (p.map bY)] st (fun r st' => r = .bool (qR p) ∧ st' = st) := by
 refine wF [1000000] 1 func82 ntmps82 rfl rfl ?_
 simp only [eD, AV.fits, eM, aF]
 intro _
 unfold qR
 simp -implicitDefEqProofs only [aF, aA, seval, aY4]
 refine cS (fun h => ?_) (fun h => ?_)
 · simp only [bJ] at h
   rw [show decide (p.length ≤ 20) = true by simp; omega]
   simp -implicitDefEqProofs only [h, aA, seval]
   refine (aTF p _ [] (fun t => !k8 t) st fun x _ => aU3 x st).to ?_
   simp -implicitDefEqProofs only [OD, aA, seval]
 · simp only [oS, dG] at h
   rw [show decide (p.length ≤ 20) = false by simp; omega]
   simp -implicitDefEqProofs only [h, aA, seval]
   rfl
abbrev B2 := zi tI_3 (zi zI_3 (zi aX (zi tI_4 (zi zI_4 (zi cE (zi tI_31 (zi zI_31 (zi aN (zi bE (zi bF (zi cA (zi tI_63 (zi zI_63 (zi bR (zi bQ (zi bP (zi bT (zi bU (zi tI_76 (zi zI_76 (zi lN (zi lR lP))))))))))))))))))))))
theorem aE5 (c : Cl) (st : aB) : aD prog 67 [bY c] st (fun r st' => r = .bool (k8 c) ∧ st' = st) := by
 obtain ⟨⟨k, n, s, ts⟩, l⟩ := c
 have hv := fun st => PU (.mk k n s ts) st
 have hp := fun st => SS k n s ts st
 simp only [aV] at hv hp
 simp only [gG, k8, OR]
 generalize (Tm.mk k n s ts).valid = v at *
 refine wF [1000000] 1 func67 ntmps67 rfl rfl ?_
 simp only [eD, AV.fits, eM, aF]
 intro ⟨_, _, _, _, hl, _⟩
 have jQ : l.all Tm.goal = true ∨ l.length > 6 → (decide ((l.length : Int) ≤ 6) && v && o9 k s (ts.length : Int)) = (v && o9 k s (ts.length : Int) && (decide (l.length ≤ 6) && l.all Tm.goal)) := fun h => by
  by_cases h6 : l.length ≤ 6
  · have hg : l.all Tm.goal = true := h.resolve_right (by omega)
    rw [hg, show decide ((l.length : Int) ≤ 6) = true from gA (by omega), show decide (l.length ≤ 6) = true from gA h6]
    simp
  · rw [show decide ((l.length : Int) ≤ 6) = false from fH (by omega), show decide (l.length ≤ 6) = false from fH h6]
    simp
 simp -implicitDefEqProofs only [aA, seval, B2]
 refine eH (σ := Unit) [1000000] [1] l (fun i _ => i ≤ 7 ∧ (l.take i).all Tm.goal = true) (fun i _ => [(2, .bool false), (3, .int .i64 i)]) (fun _ _ => st) (by decide +kernel) ⟨(), ⟨by omega, by simp⟩, aO.mk (by simp -implicitDefEqProofs only [aA, ↓aU, seval])⟩ (fun i x _ hx hlt bS hdr hinv => ?_) (fun _ hge hinv => ?_)
 · obtain ⟨i1, i2⟩ := hinv
   have hw := bK (n := (i : Int) + 1)
   by_cases h7 : i ≤ 6
   · have h7' : decide ((i : Int) ≤ 6) = true := gA (by omega)
     have hat := bL (av := Tm.av) aN hx (aH x)
     simp -implicitDefEqProofs only [bS, bM, jD, aF, h7', hat, aT, aH, aA, seval, B2]
     refine (aJI x st).to ?_
     simp -implicitDefEqProofs only [aA, seval]
     refine aP (fun h2 => ?_) (fun h2 => ?_)
     · simp only [lX] at h2
       simp -implicitDefEqProofs only [aA, seval]
       have : l.all Tm.goal = false := t9 hx h2
       rw [this]; simp
     · simp only [tR] at h2
       simp -implicitDefEqProofs only [aA, seval]
       refine ⟨(), ⟨by omega, ?_⟩, aO.mk (by simp -implicitDefEqProofs only [hw, aA, seval])⟩
       rw [fM, hx, C8, i2]
       simp [h2]
   · have h7' : decide ((i : Int) ≤ 6) = false := fH (by omega)
     have h8 : decide ((l.length : Int) ≤ 6) = false := fH (by omega)
     rw [← jQ (.inr (by omega)), h8]
     simp -implicitDefEqProofs only [bS, bM, jD, h8, gK, aF, h7', aA, seval, B2]
 · obtain ⟨i1, i2⟩ := hinv
   rw [eS] at i2
   rw [← jQ (.inl i2)]
   cases h8 : decide ((l.length : Int) ≤ 6) with
   | false =>
    simp -implicitDefEqProofs only [hge, aF, h8, gK, aA, seval, B2]
   | true =>
    simp -implicitDefEqProofs only [hge, jD, aF, h8, eT, aA, seval, B2]
    refine (hv _).to ?_
    cases v with
    | false => simp -implicitDefEqProofs only [gK, aA, seval]
    | true =>
     simp -implicitDefEqProofs only [jD, eT, aA, seval, B2]
     refine (hp _).to ?_
     simp -implicitDefEqProofs only [aA, seval]
abbrev MW := zi tI_3 (zi zI_3 (zi aX (zi tI_4 (zi zI_4 (zi cE (zi tI_29 (zi zI_29 (zi g8 (zi j8 (zi kA (zi k6 (zi tI_76 (zi zI_76 (zi lN (zi lR lP)))))))))))))))
theorem aYU (l : List Cl) (st : aB) : aD prog 41 [.slice (l.map bY)] st (fun r st' => r = .bool (qR l) ∧ st' = st) := by
 refine wF [1000000] 1 func41 ntmps41 rfl rfl ?_
 simp only [eD, AV.fits, eM, aF]
 intro ⟨hl, _⟩
 simp -implicitDefEqProofs only [aA, seval]
 refine eH (σ := Unit) [1000000] [0] l (fun i _ => i ≤ 21 ∧ (l.take i).all k8 = true) (fun i _ => [(2, .bool false), (3, .int .i64 i)]) (fun _ _ => st) (by decide +kernel) ⟨(), ⟨by omega, by simp⟩, aO.mk (by simp -implicitDefEqProofs only [aA, ↓aU, seval])⟩ (fun i x _ hx hlt bS hdr hinv => ?_) (fun _ hge hinv => ?_)
 · obtain ⟨i1, i2⟩ := hinv
   have hw := bK (n := (i : Int) + 1)
   by_cases h7 : i ≤ 20
   · have h7' : decide ((i : Int) ≤ 20) = true := gA (by omega)
     have hat := bL (av := bY) g8 hx (oH x)
     simp -implicitDefEqProofs only [bS, bM, jD, aF, h7', hat, AU, oH, aA, seval, MW]
     refine (aE5 x st).to ?_
     simp -implicitDefEqProofs only [aA, seval]
     refine aP (fun h2 => ?_) (fun h2 => ?_)
     · simp only [lX] at h2
       simp -implicitDefEqProofs only [aA, seval]
       have : l.all k8 = false := t9 hx h2
       simp only [qR, this, tQ]
     · simp only [tR] at h2
       simp -implicitDefEqProofs only [aA, seval]
       refine ⟨(), ⟨by omega, ?_⟩, aO.mk (by simp -implicitDefEqProofs only [hw, aA, seval])⟩
       rw [fM, hx, C8, i2]
       simp [h2]
   · have h7' : decide ((i : Int) ≤ 20) = false := fH (by omega)
     have h8 : decide ((l.length : Int) ≤ 20) = false := fH (by omega)
     have h9 : decide (l.length ≤ 20) = false := fH (by omega)
     simp -implicitDefEqProofs only [bS, bM, jD, aF, h7', h8, qR, h9, gK, aA, seval, MW]
 · obtain ⟨i1, i2⟩ := hinv
   rw [eS] at i2
   simp -implicitDefEqProofs only [hge, aF, aA, seval, MW]
   simp only [qR, i2, C6, AV.bool.injEq, z6]
   omega
end Go.AW
namespace Go.AW

def dM : AV → List Nat
 | .mslice b _ _ _ => [b]
 | _ => []
def iW (st : aB) (w : Nat) (q : AV) (l : List AV) : Prop :=
 (q = .fslice [] ∧ l = []) ∨ ∃ b cs, q = .mslice b 0 l.length w ∧ st b = Option.some (.cells cs) ∧ cs.take (l.length * w) = l.flatMap AV.cells ∧ l.length * w ≤ cs.length
theorem iW.shape {st : aB} {w : Nat} {q : AV} {l : List AV} (h : iW st w q l) : q.isAgg = false ∧ q.width = 1 ∧ q.cC = false ∧ q.cells = [q] ∧ q.storable = true := by
 rcases h with ⟨rfl, _⟩ | ⟨b', cs, rfl, _⟩ <;> exact ⟨rfl, rfl, rfl, rfl, rfl⟩
theorem iW.a8 {st st' : aB} {w : Nat} {q : AV} {l : List AV} (h : iW st w q l) (hk : ∀ b ∈ dM q, st' b = st b) : iW st' w q l := by
 rcases h with h | ⟨b, cs, rfl, hb, h2⟩
 · exact .inl h
 · exact .inr ⟨b, cs, rfl, by rw [hk b (by simp [dM])]; exact hb, h2⟩
theorem iW.some {st : aB} {w : Nat} {q : AV} {l : List AV} (h : iW st w q l) : ∀ b ∈ dM q, ∃ cs, st b = Option.some (.cells cs) := by
 intro b hb
 rcases h with ⟨rfl, _⟩ | ⟨b', cs, rfl, hb', _⟩
 · simp [dM] at hb
 · simp only [dM, cZ, dQ, dY] at hb; subst hb; exact ⟨cs, hb'⟩
theorem iW.len {P : Program} {t e : TypeId} {st : aB} {w : Nat} {q : AV} {l : List AV} (h : iW st w q l) (hu : P.underlying t = Option.some (.slice e)) : nI P t q = Option.some (.int .i64 (l.length : Int)) := by
 rcases h with ⟨rfl, rfl⟩ | ⟨b, cs, rfl, _⟩ <;> simp only [nI, hu, aZ]
theorem iW.append {P : Program} {t : TypeId} {ag : Bool} {bytes w : Nat} {zs : List AV} {st : aB} {q : AV} {l : List AV} {x : AV} {K : AV → aB → Prop} (hI : eI P t = Option.some (ag, w)) (hB : eB P t = Option.some bytes) (hZ : eZ P t = Option.some zs) (hz : zs.length = w) (hb8 : bytes ≤ 4096)
 (h : iW st w q l) (hx : x.width = w) (hxs : x.cells.all AV.storable = true) (hl : l.length ≤ 1073741824)
 (hK : ∀ q' st', iW st' w q' (l ++ [x]) → (∀ y, y ∉ dM q → y ∉ dM q' → st' y = st y) → (∀ y ∈ dM q', y ∈ dM q ∨ st y = none) → K q' st') : j3 P t st q (.fslice [x]) K := by
 have gC : uI w [x] := by intro e he; simp only [cZ, dQ, dY] at he; subst he; exact ⟨hx, hxs⟩
 have FP : (l.length + 1) * bytes ≤ 140737488355328 := by
  have := Nat.mul_le_mul (show l.length + 1 ≤ 1073741825 by omega) hb8
  omega
 have hxc : x.cells.length = w := by rw [uK, hx]
 unfold j3
 simp only [hI, hB, hZ, zS]
 refine ⟨hz, gC, ?_⟩
 rcases h with ⟨rfl, rfl⟩ | ⟨b, cs, rfl, hb, hcs, hcl⟩
 · simp only [aZ, aS, gV] at FP ⊢
   refine ⟨by omega, by omega, by simp, fun h => by simp at h, fun _ b hb => ?_⟩
   refine hK _ _ (.inr ⟨b, x.cells, rfl, by rw [aB.aQ]; simp, ?_, ?_⟩) (fun y _ hy => ?_) (fun y hy => ?_)
   · simp only [eR, aS, aZ, gV, Nat.one_mul, tM, List.flatMap_nil, iA]
     rw [← hxc, eS]
   · simp only [eR, aS, aZ, gV, Nat.one_mul]
     omega
   · simp only [dM, cZ, dQ, dY] at hy
     rw [aB.aL _ _ hy]
   · simp only [dM, cZ, dQ, dY] at hy
     subst hy; exact .inr hb
 · simp only [aS, aZ, gV, hb]
   have lJ : cs.take (l.length * w) ++ [x].flatMap AV.cells = (l ++ [x]).flatMap AV.cells := by rw [hcs]; simp
   have hlen : ((l ++ [x]).flatMap AV.cells).length = (l ++ [x]).length * w := by
    rw [← lJ, dP, d5, lB hcl]
    simp only [tM, List.flatMap_nil, iA, hxc, dP, aS, aZ]
    rw [xH]; omega
   refine ⟨trivial, FP, by omega, hcl, ?_, fun b' hb' => ?_⟩
   · rw [lJ]
     refine hK _ _ (.inr ⟨b, _, by simp, aB.aQ _ _ _, by rw [mO (by rw [hlen]; exact cY _)], by rw [hlen]; exact cY _⟩) (fun y hy _ => ?_) (fun y hy => .inl hy)
     simp only [dM, cZ, dQ, dY] at hy
     rw [aB.aL _ _ hy]
   · rw [lJ]
     refine hK _ _ (.inr ⟨b', _, by simp, aB.aQ _ _ _, by rw [mO (by rw [hlen]; exact cY _)], by rw [hlen]; exact cY _⟩) (fun y hy hy' => ?_) (fun y hy => ?_)
     · simp only [dM, cZ, dQ, dY] at hy hy'
       rw [aB.aL _ _ hy']
       simp [aB.erase, hy]
     · simp only [dM, cZ, dQ, dY] at hy
       subst hy; exact .inr hb'
def w9 (k : Nat) : AV → AV
 | .mslice b o _ w => .mslice b o k w
 | a => a
theorem iW.take {st : aB} {w : Nat} {q : AV} {l : List AV} (h : iW st w q l) {k : Nat} (hk : k ≤ l.length) (hw : ∀ e ∈ l, e.width = w) : iW st w (w9 k q) (l.take k) := by
 rcases h with ⟨rfl, rfl⟩ | ⟨b, cs, rfl, hb, hcs, hcl⟩
 · exact .inl ⟨rfl, by simp⟩
 · have hlk : (l.take k).length = k := by rw [d5]; omega
   have h1 : k * w ≤ l.length * w := sF w hk
   refine .inr ⟨b, cs, by rw [hlk]; try rfl, hb, ?_, by rw [hlk]; omega⟩
   rw [hlk]
   have h2 : cs.take (k * w) = (cs.take (l.length * w)).take (k * w) := by rw [xJ, lB h1]
   rw [h2, hcs]
   have h3 : l.flatMap AV.cells = (l.take k).flatMap AV.cells ++ (l.drop k).flatMap AV.cells := by rw [← zY, sG]
   have h4 : ((l.take k).flatMap AV.cells).length = k * w := by rw [oM (n := w) (es := l.take k) (fun e he => hw e (lW he)), hlk]
   rw [h3, List.take_left' h4]
theorem BY (k : Nat) (q : AV) : dM (w9 k q) = dM q := by cases q <;> rfl
theorem iW.at {st : aB} {w : Nat} {q : AV} {l : List AV} (h : iW st w q l) (hw : ∀ e ∈ l, e.width = w) {i : Nat} {e : AV} (he : l[i]? = .some e) :
 ∃ b cs, q = .mslice b 0 l.length w ∧ st b = .some (.cells cs) ∧ i * w + w ≤ cs.length ∧ (cs.drop (i * w)).take w = e.cells := by
 obtain ⟨hi, hei⟩ := gQ.1 he
 rcases h with ⟨rfl, rfl⟩ | ⟨b, cs, rfl, hb, hcs, hcl⟩
 · simp at he
 · have h1 : (i + 1) * w ≤ l.length * w := sF w hi
   rw [xH, Nat.one_mul] at h1
   refine ⟨b, cs, rfl, hb, by omega, ?_⟩
   have h2 : l = l.take i ++ e :: l.drop (i + 1) := by rw [← hei, ← qV hi, sG]
   have hA : ((l.take i).flatMap AV.cells).length = i * w := by
    rw [oM (n := w) (es := l.take i) (fun e he => hw e (lW he)), d5, lB (by omega)]
   have hE : e.cells.length = w := by rw [uK]; exact hw e (cU he)
   have h3 : (cs.drop (i * w)).take w = ((cs.take (l.length * w)).drop (i * w)).take w := by
    rw [List.drop_take, xJ, lB (by omega)]
   rw [h3, hcs, h2]
   simp only [zY, tM]
   rw [List.drop_left' hA, List.take_left' hE]
theorem c8.fz {h : bH} {st : aB} {b : Nat} {es : List AV} (S : cW h st) (hb : st b = some (.cells (es.flatMap AV.cells))) (hj : ∀ e ∈ es, e.cC = false) (hE : g9 es) : ∀ {us : List AV} {vs : List Value}, c8 h st us vs → c8 h (st.erase b) (kI b es us) vs
 | [], vs, x => by simp only [c8] at x; simp [kI, c8, x]
 | a :: us, vs, x => by
  simp only [c8] at x
  obtain ⟨v, r, rfl, x1, x2⟩ := x
  simp only [kI, c8]
  exact ⟨v, r, rfl, x1.fz S hb hj hE, c8.fz S hb hj hE x2⟩
theorem cB.unerase {h h' : bH} {st st' : aB} {b : Nat} (x : cB h (st.erase b) h' st') : cB h st h' st' :=
 ⟨x.size, fun c hc e => x.a8 c hc (aB.aZA st e), x.shape⟩
theorem aD.aUS {P : Program} {g : FuncId} {args : List AV} {st : aB} {Q : AV → aB → Prop} (b : Nat) (es : List AV) (hb : st b = some (.cells (es.flatMap AV.cells))) (hj : ∀ e ∈ es, e.cC = false) (hE : g9 es) (x : aD P g (kI b es args) (st.erase b) Q) : aD P g args st Q :=
 ⟨x.1, fun w vs S V => (x.2 w vs ((jI st b).F5 S) (V.fz S hb hj hE)).mono fun _ _ ⟨v, r, st', e, a, b', c, d, q⟩ => ⟨v, r, st', e, a, b', c.unerase, d, q⟩⟩
def Lit (st : aB) (w : Nat) (l : List AV) (q : AV) (s : aB) : Prop := (q = .fslice l ∧ s = st) ∨ ∃ b, st b = none ∧ q = .mslice b 0 l.length w ∧ s = st.aC b (.cells (l.flatMap AV.cells))
theorem aQQ {P : Program} {t : TypeId} {ag : Bool} {w bytes : Nat} {zs : List AV} {st : aB} {es xs : List AV} {x : AV} {K : AV → aB → Prop} (hI : eI P t = some (ag, w)) (hB : eB P t = some bytes) (hZ : eZ P t = some zs) (hz : zs.length = w) (hx : x = .slice xs ∨ x = .fslice xs) (hes : ∀ e ∈ es, e.width = w) (gC : uI w xs) (hl : (es.length + xs.length) * bytes ≤ 140737488355328) (hl2 : es.length + xs.length ≤ 9223372036854775807)
 (hK : ∀ q s, Lit st w (es ++ xs) q s → K q s) : j3 P t st (.fslice es) x K := by
 unfold j3
 have he : zS x = some xs := by rcases hx with rfl | rfl <;> rfl
 simp only [hI, hB, hZ, he]
 refine ⟨hz, gC, hl, hl2, hes, fun h => ?_, fun _ b hb => ?_⟩
 · subst h
   exact hK _ _ (.inl ⟨by rw [iA], rfl⟩)
 · exact hK _ _ (.inr ⟨b, hb, by rw [dP], rfl⟩)
theorem Lit.call {P : Program} {g : FuncId} {st s : aB} {w : Nat} {l : List AV} {q : AV} {post : List AV} {Q : AV → aB → Prop} (h : Lit st w l q s) (hj : ∀ e ∈ l, e.cC = false) (hw : ∀ e ∈ l, e.width = w) (hp : ∀ b, kI b l post = post) (x : aD P g (.slice l :: post) st Q) : aD P g (q :: post) s Q := by
 rcases h with ⟨rfl, rfl⟩ | ⟨b, hb, rfl, rfl⟩
 · refine aD.args x fun hp vs S V => ?_
   simp only [c8] at V ⊢
   obtain ⟨v, r, rfl, V1, V2⟩ := V
   exact ⟨v, r, rfl, V1.D7, V2⟩
 · refine aD.aUS b l (aB.aQ _ _ _) hj ⟨w, hw⟩ ?_
   rw [aB.wR st b _ hb]
   have : kI b l (.mslice b 0 l.length w :: post) = .slice l :: post := by
    show (AV.mslice b 0 l.length w).fz b l :: kI b l post = _
    rw [hp]
    simp [AV.fz]
   rw [this]
   exact x
end Go.AW
namespace Go.AW
open Go.Proofs.Tryz
def nv (i : Nat) : AV := .int .i64 (i : Int)
def eF : RG → AV
 | ⟨.mk k n s ts, a8⟩ => .agg [.int .i64 k, .int .i64 n, .str s, .slice (ts.map Tm.av), .int .i64 (a8 : Int)]
theorem ER (k n : Int) (s : ByteArray) (ts : List Tm) (a8 : Nat) : eF ⟨.mk k n s ts, a8⟩ = .agg [.int .i64 k, .int .i64 n, .str s, .slice (ts.map Tm.av), .int .i64 (a8 : Int)] := rfl
theorem aP4 (g : RG) : eF g = .agg (g.t.av.cells ++ [.int .i64 (g.a8 : Int)]) := by obtain ⟨⟨k, n, s, ts⟩, a8⟩ := g; rw [aV]; try rfl
theorem CN (g : RG) : (eF g).width = 5 := by obtain ⟨⟨k, n, s, ts⟩, a8⟩ := g; rfl
theorem aU9 (g : RG) : (eF g).cells.all AV.storable = true := by obtain ⟨⟨k, n, s, ts⟩, a8⟩ := g; rfl
theorem aYI (g : RG) : (eF g).cC = false := by obtain ⟨⟨k, n, s, ts⟩, a8⟩ := g; rfl
def fD : RC → AV
 | ⟨.mk k n s ts, rest, left, σ, N⟩ => .agg [.int .i64 k, .int .i64 n, .str s, .slice (ts.map Tm.av), .slice (rest.map eF), .slice (left.map nv), .slice (cQ N σ)]
theorem JK (g : RC) : (fD g).width = 7 := by obtain ⟨⟨k, n, s, ts⟩, _, _, _, _⟩ := g; rfl
theorem aO3 (g : RC) : (fD g).cells.all AV.storable = true := by obtain ⟨⟨k, n, s, ts⟩, _, _, _, _⟩ := g; rfl
theorem aVO (g : RC) : (fD g).cC = false := by obtain ⟨⟨k, n, s, ts⟩, _, _, _, _⟩ := g; rfl
def r7 (s : RS) : AV := .agg [.slice (s.goals.map eF), .slice (cQ s.N s.σ), .slice (s.chs.map fD)]
abbrev PT := zi tI_3 (zi zI_3 (zi aX (zi tI_4 (zi zI_4 (zi cE (zi tI_31 (zi zI_31 (zi aN (zi bE (zi bF (zi cA (zi tI_63 (zi zI_63 (zi bR (zi bQ (zi bP (zi bT bU)))))))))))))))))
theorem aDS : ∀ (t : Tm) (d : Nat) (st : aB), d ≤ 1000 → t.small = true → aD prog 141 [t.av, .int .i64 (d : Int)] st (fun r st' => r = .bool (t.flat d) ∧ st' = st)
 | .mk k n s ts, d, st, hd, hsm => by
  obtain ⟨hlen, nY⟩ := Tm.oG hsm
  have IH := fun (x : Tm) (hx : x ∈ ts) d st h => aDS x d st h (nY x hx)
  simp only [aV]
  refine wF [1000000] 2 func141 ntmps141 rfl rfl ?_
  intro _
  simp -implicitDefEqProofs only [aA, seval, PT]
  refine aP (fun h => ?_) (fun h => ?_)
  · simp only [bJ] at h
    obtain rfl : d = 0 := by omega
    simp -implicitDefEqProofs only [aA, ↓aU, seval]
    rw [Tm.E9]
  simp only [dG] at h
  obtain ⟨e, rfl⟩ : ∃ e, d = e + 1 := ⟨d - 1, by omega⟩
  rw [Tm.t6]
  have hw1 : IntKind.i64.wrap ((e : Int) + 1 - 1) = (e : Int) := by rw [wrap64 (by omega) (by omega)]; omega
  simp -implicitDefEqProofs only [aA, seval]
  refine eH (σ := Unit) [1000000] [1, 2] ts (fun i _ => ((ts.drop i).all fun t => t.flat e) = (ts.all fun t => t.flat e)) (fun i _ => [(5, .int .i64 i)]) (fun _ _ => st) (by decide +kernel) ⟨(), rfl, aO.mk (by simp -implicitDefEqProofs only [aA, ↓aU, seval])⟩ (fun i x _ hx hlt bS hdr hinv => ?_) (fun _ hge hinv => ?_)
  case refine_2 =>
   simp -implicitDefEqProofs only [hge, aF, aA, seval, PT]
   rw [← hinv, kE]
   try rfl
  have hw := bK (n := (i : Int) + 1)
  rw [hdr, kD] at hinv
  simp -implicitDefEqProofs only [bS, aF, bL (av := Tm.av) aN hx (aH x), aT, aH, hw1, aA, seval, PT]
  refine (IH x (cU hx) e _ (by omega)).to ?_
  simp -implicitDefEqProofs only [aA, seval]
  refine aP (fun h2 => ?_) (fun h2 => ?_)
  · simp -implicitDefEqProofs only [aA, seval]
    simp only [lX] at h2
    rw [← hinv, h2]
    try rfl
  · simp only [tR] at h2
    rw [h2, eT] at hinv
    simp -implicitDefEqProofs only [aA, seval]
    exact ⟨(), hinv, aO.mk (by simp -implicitDefEqProofs only [hw, aA, seval])⟩
termination_by t => SizeOf.sizeOf t
decreasing_by have := List.sizeOf_lt_of_mem hx; simp only [Tm.mk.sizeOf_spec]; omega
abbrev EN := zi tI_3 (zi zI_3 (zi aX (zi tI_4 (zi zI_4 (zi cE (zi tI_31 (zi zI_31 (zi aN (zi bE (zi bF (zi cA (zi tI_63 (zi zI_63 (zi bR (zi bQ (zi bP (zi bT bU)))))))))))))))))
theorem SU {N : Nat} {σ : Sub} (hg : cK σ) (ho : cP (bD N) σ) (t : Tm) (ht : bD N t) (st : aB) :
 aD prog 105 [t.av, .slice (cQ N σ)] st (fun r st' => st' = st ∧ ∃ x : Tm, r = .tup [x.av, .bool (eL (t.aJ (rs σ)))] ∧ (eL (t.aJ (rs σ)) = true → x = t.aJ (rs σ))) := by
 obtain ⟨rk, B, G⟩ := hg.rs
 have LA := fun st => aC0 G ho 120 t st (cY _) ht
 have hV := G.MS ho.kZ ht.1
 refine aD.lU (aD.soft ?_)
 refine wF [1000000] 2 func105 ntmps105 rfl rfl ?_
 intro _
 simp -implicitDefEqProofs only [aT, aH, cF, aA, seval, EN]
 intro b4 h4
 refine (LA _).mono ?_
 rintro _ _ ⟨rfl, x, left, rfl, h1, h2⟩
 simp -implicitDefEqProofs only [aH, b7, cF, aA, ↓aU, seval, EN]
 refine wP [(1, 1), (2, 1), (3, 1), (4, 2), (0, 1), (5, 0), (6, 1), (7, 0), (8, 1)] [1, 2, 3, 4, 0, 6, 8] mixed ?_
 simp -implicitDefEqProofs only [aA, seval]
 refine cS (fun h => ?_) (fun h => ?_)
 · have h3 : 0 ≤ left := by simpa using h
   have h4 : (t.aJ (rs σ)).nodes ≤ 120 := C0 fun h5 => by rw [aE h5] at h2; omega
   rw [aG h4] at h2
   obtain ⟨rfl, _⟩ := h2
   have h5 : eL (t.aJ (rs σ)) = (t.aJ (rs σ)).flat 30 := by unfold eL; simp [h4]
   simp -implicitDefEqProofs only [h, aT, aH, aA, seval, EN]
   refine (aDS _ 30 _ (by omega) hV.small).to ?_
   simp -implicitDefEqProofs only [aK, b7, cF, bO, aA, seval, EN]
   refine ⟨st, (aM.refl _).aC ‹_›, rfl, _, by simp only [kC, rY, Tm.soft, bA, aW]; rw [h5], fun _ => rfl⟩
 · have hx0 := trivial
   have h3 : left < 0 := by simpa using h
   have h4 : ¬ (t.aJ (rs σ)).nodes ≤ 120 := fun h5 => by rw [aG h5] at h2; omega
   have h5 : eL (t.aJ (rs σ)) = false := by unfold eL; simp [h4]
   simp -implicitDefEqProofs only [h, aK, aT, aH, b7, cF, bO, d9 (bO x), d7 (aT x), aA, seval, EN]
   refine ⟨st, (aM.refl _).aC ‹_›, rfl, x, by simp only [kC, rY, Tm.soft, bA, aW]; rw [h5], fun h6 => ?_⟩
   rw [h5] at h6; cases h6
theorem aNA (c : Cl) : F9 c = (bZ (c.1 :: c.2) []).foldl (fun n v => if n ≤ v then v + 1 else n) 0 := rfl
abbrev H3 := zi tI_3 (zi zI_3 (zi aX (zi tI_31 (zi zI_31 (zi aN (zi bE (zi bF (zi cA (zi tI_51 (zi zI_51 (zi dV (zi fV (zi fW (zi fZ (zi tI_63 (zi zI_63 (zi bR (zi bQ (zi bP (zi bT (zi bU (zi tI_76 (zi zI_76 (zi lN (zi lR lP)))))))))))))))))))))))))
theorem aUO (c : Cl) (hc : gB c) (h6 : c.2.length ≤ 6) (st : aB) : aD prog 144 [bY c] st (fun r st' => r = .int .i64 (nL c : Int) ∧ st' = st) := by
 have hvr := fun v => hc.vars (v := v)
 have hok := hc.CD
 have hfr : (nL c : Int) = F9 c := by
  have := (aJ6 (bZ (c.1 :: c.2) []) 0).1
  unfold nL F9
  omega
 rw [hfr, aNA]
 have hnd : bG Tm.nodes (c.1 :: c.2) ≤ 1099511627776 := by
  have : ∀ l : List Tm, (∀ t ∈ l, bD 26 t) → bG Tm.nodes l ≤ l.length * 120 := by
   intro l
   induction l with
   | nil => intro _; simp [bG]
   | cons x l ih => intro h; simp only [bG, aS]; have := ih fun y hy => h y (by simp [hy]); have := (h x (by simp)).2; omega
  have := this _ hok
  simp only [aS] at this
  omega
 have hvl := wI (c.1 :: c.2) []
 obtain ⟨⟨k, n, s, ts⟩, bd⟩ := c
 simp only at h6 hnd hvl hvr hok
 rw [gG]
 refine aD.done ?_
 refine wF [1000000] 1 func144 ntmps144 rfl rfl ?_
 intro _
 simp -implicitDefEqProofs only [aA, seval, H3]
 refine aQQ aN bE bF rfl (.inl rfl) (by intro e he; simp only [cZ, dQ, dY] at he; subst he; rfl) (fun e he => by simp only [cV] at he; obtain ⟨t, _, rfl⟩ := he; exact ⟨aH _, b7 _⟩) (by simp only [aS, aZ, aF]; omega) (by simp only [aS, aZ, aF]; omega) (fun q s2 hq => ?_)
 rw [← aV] at hq
 rw [show [(Tm.mk k n s ts).av] ++ bd.map Tm.av = ((Tm.mk k n s ts) :: bd).map Tm.av from rfl] at hq
 simp -implicitDefEqProofs only [aA, seval]
 refine Lit.call hq (iF _) (dT _) (fun _ => rfl) ?_
 refine (aA7 _ _ (fun t ht => Tm.sS t (hok t ht).1.2.1) hnd).to ?_
 generalize bZ ((Tm.mk k n s ts) :: bd) [] = vs at *
 simp only [aZ] at hvl
 simp -implicitDefEqProofs only [aA, seval]
 refine eH (σ := Int) [1000000] [2, 3] vs (fun i n => (vs.drop i).foldl (fun n v => if n ≤ v then v + 1 else n) n = vs.foldl (fun n v => if n ≤ v then v + 1 else n) 0) (fun i n => [(4, .int .i64 n), (5, .int .i64 i)]) (fun _ _ => st) (by decide +kernel) ⟨0, rfl, aO.mk (by simp -implicitDefEqProofs only [aA, ↓aU, seval])⟩ (fun i x n hx hlt bS hdr hinv => ?_) (fun n hge hinv => ?_)
 case refine_2 =>
  rw [kE] at hinv
  simp -implicitDefEqProofs only [aF, hge, aA, seval, H3]
  refine ⟨?_, aM.refl _⟩
  rw [← hinv]
  try rfl
 rw [hdr, zX] at hinv
 have hw := bK (n := (i : Int) + 1)
 obtain ⟨t, ht, hv⟩ := (hvr x).1 (cU hx)
 have a2F := (hok t ht).1.2.2 x hv
 have hw2 := bK (n := x + 1)
 have hat : dJ prog 51 (.slice (vs.map iv)) (.int .i64 (i : Int)) = some (.pptr (.int .i64 x)) := bL (av := iv) dV hx rfl
 simp -implicitDefEqProofs only [aF, bS, hat, aA, seval, H3]
 refine aP (fun h => ?_) (fun h => ?_)
 · rw [aG (by simpa using h)] at hinv
   simp -implicitDefEqProofs only [hat, hw2, hw, aA, seval, H3]
   exact ⟨x + 1, hinv, aO.mk (by simp -implicitDefEqProofs only [aA, seval])⟩
 · rw [aE (by simpa using h)] at hinv
   simp -implicitDefEqProofs only [hw, aA, seval]
   exact ⟨n, hinv, aO.mk (by simp -implicitDefEqProofs only [aA, seval])⟩
theorem aDN {M : Int} (m : Nat) (hm : M + m ≤ 1073741824) : ∀ t : Tm, cD M t → t.sh (m : Int) = dC m t := by
 intro t
 induction t using Tm.ind with
 | h k n s ts ih =>
  intro h
  rw [Tm.OL]
  by_cases hk : k = 1
  · subst hk
    obtain ⟨h0, h1, rfl, rfl⟩ := h.var
    unfold dC
    rw [aG rfl, wM _ (t := .mk 1 n ⟨#[]⟩ []) rfl, wrap64 (by omega) (by omega)]
    try rfl
  · obtain ⟨_, h2⟩ := h.own hk
    unfold dC at ih ⊢
    rw [aE hk, uN _ hk]
    congr 1
    exact qX fun x hx => ih x hx (h2 x hx)
abbrev I0 := zi tI_3 (zi zI_3 (zi aX (zi tI_31 (zi zI_31 (zi aN (zi bE (zi bF (zi cA (zi tI_63 (zi zI_63 (zi bR (zi bQ (zi bP (zi bT (zi bU (zi tI_100 (zi zI_100 (zi uV (zi zH (zi yZ (zi F3 (zi tI_167 (zi zI_167 (zi W6 (zi UX aIN)))))))))))))))))))))))))
theorem aC9 (bd : List Tm) (N a8 : Nat) (rest : List RG) (hb : ∀ t ∈ bd, bD 26 t) (h6 : bd.length ≤ 6) (hN : N ≤ 1048576) (hr : rest.length ≤ 1048576) (st : aB) :
 aD prog 104 [.slice (bd.map Tm.av), .int .i64 (N : Int), .int .i64 (a8 : Int), .slice (rest.map eF)] st (fun r st' => r = .slice ((bd.map (fun t => (⟨dC N t, a8⟩ : RG)) ++ rest).map eF) ∧ st' = st) := by
 refine aD.pC (aD.fin ?_)
 refine wF [1000000] 4 func104 ntmps104 rfl rfl ?_
 intro _
 simp -implicitDefEqProofs only [aA, seval, I0]
 refine eH (σ := Nat) [1000000] [0, 1, 2, 3, 8] bd (fun i b => ((bd.take i).map (fun t => (⟨dC N t, a8⟩ : RG))).map eF ≠ [] → st b = none) (fun i b => [(9, a9 5 b (((bd.take i).map (fun t => (⟨dC N t, a8⟩ : RG))).map eF)), (10, .int .i64 i)]) (fun i b => aY st b (((bd.take i).map (fun t => (⟨dC N t, a8⟩ : RG))).map eF)) (by decide +kernel) ⟨0, fun h => absurd rfl h, aO.mk (by simp -implicitDefEqProofs only [kQ, aW, jF, aA, ↓aU, seval])⟩ (fun i x b hx hlt bS hdr hinv => ?_) (fun b hge hinv => ?_)
 case refine_1 =>
  have hw := bK (n := (i : Int) + 1)
  have cT : (((bd.take i).map (fun t => (⟨dC N t, a8⟩ : RG))).map eF).length = i := by simp only [aF, d5]; omega
  have htk : (((bd.take i).map (fun t => (⟨dC N t, a8⟩ : RG))).map eF) ++ [eF ⟨dC N x, a8⟩] = (((bd.take (i + 1)).map (fun t => (⟨dC N t, a8⟩ : RG))).map eF) := by rw [fM, hx]; simp
  have hxo := hb x (cU hx)
  have hsh := aDN N (by omega) x hxo.1
  have hcs := OG (N : Int) x
  rw [hsh] at hcs
  have hgo : eF ⟨dC N x, a8⟩ = .agg ((dC N x).av.cells ++ [.int .i64 (a8 : Int)]) := aP4 _
  simp -implicitDefEqProofs only [bS, aF, bL (av := Tm.av) aN hx (aH x), aT, aH, aA, seval, I0]
  refine (hcs _ hxo.1.small).to ?_
  generalize dC N x = y at *
  obtain ⟨yk, yn, ys, yt⟩ := y
  simp only [aV, ER] at htk hgo ⊢
  simp -implicitDefEqProofs only [aA, seval, I0]
  refine eN uV zH yZ rfl rfl (eY rfl rfl) (by intro e he; simp only [cV] at he; obtain ⟨t, _, rfl⟩ := he; exact CN t) hinv (by simp only [cT, aS, aZ]; omega) (by simp only [cT, aS, aZ]; omega) (fun b' hb' => ?_)
  rw [htk] at hb' ⊢
  simp -implicitDefEqProofs only [hw, aA, seval]
  exact ⟨b', hb', aO.mk (by simp -implicitDefEqProofs only [aA, seval])⟩
 rw [eS] at hinv ⊢
 simp -implicitDefEqProofs only [aF, hge, aA, seval, I0]
 refine eN (xs := rest.map eF) uV zH yZ rfl rfl (by intro e he; simp only [cV] at he; obtain ⟨t, _, rfl⟩ := he; exact ⟨CN t, aU9 t⟩) (by intro e he; simp only [cV] at he; obtain ⟨t, _, rfl⟩ := he; exact CN t) hinv (by simp only [aF]; omega) (by simp only [aF]; omega) (fun b' hb' => ?_)
 rw [← vK] at hb' ⊢
 simp -implicitDefEqProofs only [aA, seval]
 exact ⟨b', _, st, rfl, hb', by intro e he; simp only [cV] at he; obtain ⟨t, _, rfl⟩ := he; exact aYI t, ⟨5, by intro e he; simp only [cV] at he; obtain ⟨t, _, rfl⟩ := he; exact CN t⟩, by rw [iD], aM.refl _⟩
def pB (p : List Cl) (t : Tm) (i : Nat) : Bool := match p[i]? with
 | some c => DH c t
 | none => false
theorem IW (p : List Cl) (t : Tm) : fE p t = (List.range p.length).filter (pB p t) := rfl
theorem XD (p : List Cl) (t : Tm) (i : Nat) : (List.range (i + 1)).filter (pB p t) = (List.range i).filter (pB p t) ++ (if pB p t i = true then [i] else []) := by
 rw [List.range_succ, List.filter_append]
 congr 1
 by_cases h : pB p t i = true <;> simp [h]
theorem HK (p : List Cl) (t : Tm) (i : Nat) : ((List.range i).filter (pB p t)).length ≤ i := by
 have := List.length_filter_le (pB p t) (List.range i)
 rw [K2] at this
 exact this
theorem aDP (l : List Nat) : ∀ e ∈ l.map nv, e.width = 1 := by intro e h; simp only [cV] at h; obtain ⟨t, _, rfl⟩ := h; rfl
abbrev A9 := zi tI_3 (zi zI_3 (zi aX (zi tI_9 (zi zI_9 (zi cG (zi tI_29 (zi zI_29 (zi g8 (zi j8 (zi kA (zi k6 (zi tI_31 (zi zI_31 (zi aN (zi bE (zi bF (zi cA (zi tI_51 (zi zI_51 (zi dV (zi fV (zi fW (zi fZ (zi tI_63 (zi zI_63 (zi bR (zi bQ (zi bP (zi bT (zi bU (zi tI_76 (zi zI_76 (zi lN (zi lR lP))))))))))))))))))))))))))))))))))
theorem aQW (p : List Cl) (t : Tm) (hp : p.length ≤ 1048576) (st : aB) : aD prog 134 [.slice (p.map bY), t.av] st (fun r st' => r = .slice ((fE p t).map nv) ∧ st' = st) := by
 rw [IW]
 refine aD.done ?_
 obtain ⟨tk, tn, ts', tts⟩ := t
 simp only [aV]
 refine wF [1000000] 2 func134 ntmps134 rfl rfl ?_
 intro _
 simp -implicitDefEqProofs only [aA, seval, A9]
 refine rH (σ := Unit) [1000000] [0, 3, 4] p 1 5 (fun i _ => ((List.range i).filter (pB p (.mk tk tn ts' tts))).map nv) (fun _ _ => True) (fun i _ => [(6, .int .i64 i)]) (fun _ _ => st) (fun i _ _ e he => by simp only [cV] at he; obtain ⟨t, _, rfl⟩ := he; exact ⟨rfl, rfl⟩) (by decide +kernel) ⟨(), 0, trivial, fun h => absurd rfl h, aO.mk (by simp -implicitDefEqProofs only [jF, List.range_zero, List.filter_nil, aW, aA, ↓aU, seval])⟩ (fun i x s b hx hlt bS hdr hinv hb => ?_) (fun s b hge hinv => ?_)
 case refine_2 =>
  simp -implicitDefEqProofs only [hge, eC, iI, oK, AE, lT, aF, aA, seval, A9]
  exact ⟨rfl, aM.refl _⟩
 have hw := bK (n := (i : Int) + 1)
 have hst := XD p (.mk tk tn ts' tts) i
 have hln := HK p (.mk tk tn ts' tts) i
 have hat := bL (av := bY) (P := prog) g8 hx (oH x)
 obtain ⟨⟨k, n, s', ts⟩, bd⟩ := x
 rw [gG] at hat
 have hP : pB p (.mk tk tn ts' tts) i = (decide (s' = ts') && decide ((ts.length : Int) = (tts.length : Int))) := by unfold pB; rw [hx]; try rfl
 rw [hP] at hst
 simp -implicitDefEqProofs only [bS, aF, aA, seval, A9]
 refine wP [(0, 1), (1, 1), (2, 1), (3, 1), (4, 1), (6, 1), (5, 2), (7, 2), (8, 1), (9, 1), (10, 1), (11, 1), (12, 1), (13, 1), (14, 1), (17, 1), (15, 2), (16, 1), (18, 2), (19, 1), (20, 1), (21, 1)] [0, 1, 2, 3, 4, 6, 5, 7, 8, 9, 10, 11, 12, 13, 14, 17, 15, 16, 18, 19, 20, 21] mixed ?_
 simp -implicitDefEqProofs only [hat, aA, seval, A9]
 refine cS (fun h => ?_) (fun h => ?_)
 case refine_2 =>
  have h' : (decide (s' = ts') && decide ((ts.length : Int) = (tts.length : Int))) = false := by simp at h; simp [h]
  rw [h', aE (by simp), iA] at hst
  rw [← hst] at hb ⊢
  simp -implicitDefEqProofs only [h, hw, aA, seval]
  exact ⟨(), b, hb, aO.mk (by simp -implicitDefEqProofs only [aA, seval])⟩
 have h1 : decide (s' = ts') = true := by simpa using h
 rw [h1, eT] at hst
 simp -implicitDefEqProofs only [h, aF, hat, aA, seval, A9]
 refine aP (fun h2 => ?_) (fun h2 => ?_)
 · rw [aG h2] at hst
   simp -implicitDefEqProofs only [aA, seval, A9]
   refine eN dV fV fW rfl rfl (eY rfl rfl) (aDP _) hb (by simp only [aF, aS, aZ]; omega) (by simp only [aF, aS, aZ]; omega) (fun b' hb' => ?_)
   rw [show ∀ l : List Nat, l.map nv ++ [AV.int .i64 (i : Int)] = (l ++ [i]).map nv from fun l => by simp [nv], ← hst] at hb' ⊢
   simp -implicitDefEqProofs only [hw, aA, seval]
   exact ⟨(), b', hb', aO.mk (by simp -implicitDefEqProofs only [aA, seval])⟩
 · rw [aE (by simp [h2]), iA] at hst
   rw [← hst] at hb ⊢
   simp -implicitDefEqProofs only [hw, aA, seval]
   exact ⟨(), b, hb, aO.mk (by simp -implicitDefEqProofs only [aA, seval])⟩
theorem NH {n : Int} : ∀ {l : List Int}, l.Nodup → ∀ {i : Nat}, l[i]? = some n → ∀ j : Int, eO n l j = j + i
 | [], _, i, h, j => by simp at h
 | x :: l, hd, 0, h, j => by
  simp only [Q7, Option.some.injEq] at h
  subst h
  simp [eO]
 | x :: l, hd, i + 1, h, j => by
  rw [List.nodup_cons] at hd
  rw [Q8] at h
  have hm := cU h
  simp only [eO]
  rw [aE (fun e : n = x => hd.1 (e ▸ hm)), NH hd.2 h (j + 1)]
  omega
abbrev mF := zi tI_3 (zi zI_3 (zi aX (zi tI_9 (zi zI_9 (zi cG (zi tI_31 (zi zI_31 (zi aN (zi bE (zi bF (zi cA (zi tI_51 (zi zI_51 (zi dV (zi fV (zi fW (zi fZ (zi tI_63 (zi zI_63 (zi bR (zi bQ (zi bP (zi bT bU)))))))))))))))))))))))
theorem Z6 (vars : List Int) (hnd : vars.Nodup) (hvl : vars.length ≤ 1048576) : ∀ (t : Tm) (st : aB), t.small = true → t.cv = true → (∀ v ∈ t.vl, v ∈ vars) → aD prog 142 [t.av, .slice (vars.map iv)] st (fun r st' => r = (t.aJ fun v => vr (eO v vars 0)).av ∧ st' = st)
 | .mk k n s ts, st, hsm, hcv, hin => by
  obtain ⟨hlen, nY⟩ := Tm.oG hsm
  obtain ⟨hc1, hcs⟩ := Tm.nN.1 hcv
  have IH := fun (x : Tm) (hx : x ∈ ts) st => Z6 vars hnd hvl x st (nY x hx) (hcs x hx) (fun v hv => by
   by_cases hk : k = 1
   · rw [(hc1 hk).2] at hx; cases hx
   · exact hin v ((Tm.kM hk).2 ⟨x, hx, hv⟩))
  generalize hg : (Tm.aJ fun v => vr (eO v vars 0)) = g at IH
  refine aD.pC (aD.fin ?_)
  simp only [aV]
  refine wF [1000000, 5] 2 func142 ntmps142 rfl rfl ?_
  intro _
  simp -implicitDefEqProofs only [aK, aA, ↓aU, seval, mF]
  intro b4 h4 c hc
  have hne : c ≠ b4 := by rintro rfl; rw [aB.aQ] at hc; cases hc
  have hnc : st c = none := by rw [aB.aL st _ hne] at hc; exact hc
  have xR : ∀ i : Nat, vars[i]? = some n → eO n vars 0 = (i : Int) := fun i hi => by
   have := NH hnd hi 0
   omega
  generalize hW : st.aC b4 (.cells [AV.int .i64 0, AV.int .i64 0, AV.str ⟨#[]⟩, AV.fslice []]) = W
  have hWc : W c = none := by rw [← hW]; exact hc
  have hW4 : W b4 = some (.cells [AV.int .i64 0, AV.int .i64 0, AV.str ⟨#[]⟩, AV.fslice []]) := by rw [← hW]; exact aB.aQ _ _ _
  have hS : W b4 ≠ none := by rw [hW4]; simp
  have HT : b4 ≠ c := dA hne
  refine gX (σ := Nat × Int) [1000000, 5] [1, 2, 4, 5] (fun p => p.1 ≤ vars.length ∧ (k ≠ 1 → p.2 = n) ∧ (k = 1 → (n ∈ vars.take p.1 → p.2 = eO n vars 0))) (fun p => [(6, .int .i64 p.1)]) (fun p => W.aC c (.cells [.int .i64 k, .int .i64 p.2, .str s, .fslice []])) (fun p => vars.length - p.1) (by decide +kernel) ⟨(0, n), ⟨jC _, fun _ => rfl, fun _ h => by simp at h⟩, aO.mk (by simp -implicitDefEqProofs only [aA, ↓aU, seval])⟩ ?_
  rintro ⟨i, n'⟩ ⟨h1, h2, h3⟩
  simp only at h1 h2 h3
  have rest : (k = 1 → n' = eO n vars 0) → True := fun _ => trivial
  simp -implicitDefEqProofs only [aF, aA, seval, mF]
  have fin : (k = 1 → n' = eO n vars 0) → g (.mk k n s ts) = .mk k n' s (ts.map g) := fun h4 => by
   rw [← hg]
   by_cases hk : k = 1
   · obtain ⟨rfl, rfl⟩ := hc1 hk
     rw [Tm.mK _ hk, h4 hk, hk]; try rfl
   · rw [Tm.lA _ hk, h2 hk]
  refine cS (fun h => ?_) (fun h => ?_)
  case refine_2 =>
   have h4 : (k = 1 → n' = eO n vars 0) := fun hk => h3 hk (by
    have : i = vars.length := by simp at h; omega
    rw [this, eS]
    exact hin n (by rw [Tm.mM hk]; simp))
   simp -implicitDefEqProofs only [h, aA, seval]
   refine eH (σ := Nat) [1000000, 5] [1, 2, 4, 5] ts (fun i b => (((ts.take i).map g).map Tm.av ≠ [] → (aB.aC W c (.cells ([AV.int .i64 k, AV.int .i64 (n'), AV.str s] ++ [a9 4 b (((ts.take i).map g).map Tm.av)]))) b = none)) (fun i b => [(7, .int .i64 i)]) (fun i b => eU W c b [AV.int .i64 k, AV.int .i64 (n'), AV.str s] (((ts.take i).map g).map Tm.av)) (by decide +kernel)
    ⟨0, fun h => absurd rfl h, aO.mk (by simp -implicitDefEqProofs only [aA, ↓aU, seval])⟩ (fun i x b hx hlt bS hdr hinv => ?_) (fun b hge hinv => ?_)
   case refine_1 =>
    have hw := bK (n := (i : Int) + 1)
    have cT : (((ts.take i).map g).map Tm.av).length = i := by simp only [aF, d5]; omega
    have htk : (ts.take (i + 1)).map g = (ts.take i).map g ++ [g x] := by rw [fM, hx]; simp
    have hbo := d8 hinv
    simp -implicitDefEqProofs only [aF, bS, aF, aA, seval, mF]
    refine wP [(0, 1), (2, 1), (4, 1), (7, 1), (1, 2), (3, 2), (5, 1), (6, 2), (8, 2), (9, 1), (10, 0), (11, 1), (12, 0)] [0, 2, 4, 7, 1, 3, 5, 6, 8, 9, 11] mixed ?_
    simp -implicitDefEqProofs only [bL (av := Tm.av) aN hx (aH x), aT, aH, hbo, mI, aA, seval, mF]
    refine i8 (IH x (cU hx) _) ?_
    simp -implicitDefEqProofs only [aT, aH, cF, aA, seval, mF]
    refine eN aN bE bF rfl rfl (eY (aH _) (b7 _)) (dT _) hinv (by simp only [cT, aS, aZ]; omega) (by simp only [cT, aS, aZ]; omega) (fun b' hb' => ?_)
    rw [show (((ts.take i).map g).map Tm.av) ++ [(g x).av] = ((ts.take (i + 1)).map g).map Tm.av by rw [htk]; simp] at hb' ⊢
    obtain ⟨g1, g2, g3⟩ := nM hb'
    simp only [fF, eR] at g1 g3
    simp -implicitDefEqProofs only [g3, mA, eV, aK, g1, hw, aK, aA, seval, mF]
    exact ⟨b', g2, aO.mk (by simp -implicitDefEqProofs only [aA, seval])⟩
   have hbo := d8 hinv
   rw [eS] at hinv hbo ⊢
   simp -implicitDefEqProofs only [aF, hge, aF, aA, seval, mF]
   simp -implicitDefEqProofs only [hbo, aK, aA, seval, mF]
   have g1 := gD hinv hS HT
   rw [hW4] at g1
   simp -implicitDefEqProofs only [g1, eV, aA, seval]
   obtain ⟨g2, g3⟩ := jX (o := .cells [AV.int .i64 k, AV.int .i64 (n'), AV.str s, a9 4 b ((ts.map g).map Tm.av)]) hinv hS HT
   refine ⟨b, _, _, g2, g3, iF _, ⟨4, dT _⟩, ?_, fun x => ?_⟩
   · simp only [fL, bA, aW, eC, iS, iD, ← aV]
     rw [fin h4]
   · subst hW
     by_cases e3 : x = b4 <;> by_cases e4 : x = c <;> simp_all [aB.aC]
  have hlt : i < vars.length := by simpa using h
  simp -implicitDefEqProofs only [h, aA, seval, mF]
  refine aP (fun h5 => ?_) (fun h5 => ?_)
  case refine_2 =>
   have h5' : k ≠ 1 := by simpa using h5
   have h4 : (k = 1 → n' = eO n vars 0) := fun hk => absurd hk h5'
   simp -implicitDefEqProofs only [aA, seval]
   refine eH (σ := Nat) [1000000, 5] [1, 2, 4, 5] ts (fun i b => (((ts.take i).map g).map Tm.av ≠ [] → (aB.aC W c (.cells ([AV.int .i64 k, AV.int .i64 (n'), AV.str s] ++ [a9 4 b (((ts.take i).map g).map Tm.av)]))) b = none)) (fun i b => [(7, .int .i64 i)]) (fun i b => eU W c b [AV.int .i64 k, AV.int .i64 (n'), AV.str s] (((ts.take i).map g).map Tm.av)) (by decide +kernel)
    ⟨0, fun h => absurd rfl h, aO.mk (by simp -implicitDefEqProofs only [aA, ↓aU, seval])⟩ (fun i x b hx hlt bS hdr hinv => ?_) (fun b hge hinv => ?_)
   case refine_1 =>
    have hw := bK (n := (i : Int) + 1)
    have cT : (((ts.take i).map g).map Tm.av).length = i := by simp only [aF, d5]; omega
    have htk : (ts.take (i + 1)).map g = (ts.take i).map g ++ [g x] := by rw [fM, hx]; simp
    have hbo := d8 hinv
    simp -implicitDefEqProofs only [aF, bS, aF, aA, seval, mF]
    refine wP [(0, 1), (2, 1), (4, 1), (7, 1), (1, 2), (3, 2), (5, 1), (6, 2), (8, 2), (9, 1), (10, 0), (11, 1), (12, 0)] [0, 2, 4, 7, 1, 3, 5, 6, 8, 9, 11] mixed ?_
    simp -implicitDefEqProofs only [bL (av := Tm.av) aN hx (aH x), aT, aH, hbo, mI, aA, seval, mF]
    refine i8 (IH x (cU hx) _) ?_
    simp -implicitDefEqProofs only [aT, aH, cF, aA, seval, mF]
    refine eN aN bE bF rfl rfl (eY (aH _) (b7 _)) (dT _) hinv (by simp only [cT, aS, aZ]; omega) (by simp only [cT, aS, aZ]; omega) (fun b' hb' => ?_)
    rw [show (((ts.take i).map g).map Tm.av) ++ [(g x).av] = ((ts.take (i + 1)).map g).map Tm.av by rw [htk]; simp] at hb' ⊢
    obtain ⟨g1, g2, g3⟩ := nM hb'
    simp only [fF, eR] at g1 g3
    simp -implicitDefEqProofs only [g3, mA, eV, aK, g1, hw, aK, aA, seval, mF]
    exact ⟨b', g2, aO.mk (by simp -implicitDefEqProofs only [aA, seval])⟩
   have hbo := d8 hinv
   rw [eS] at hinv hbo ⊢
   simp -implicitDefEqProofs only [aF, hge, aF, aA, seval, mF]
   simp -implicitDefEqProofs only [hbo, aK, aA, seval, mF]
   have g1 := gD hinv hS HT
   rw [hW4] at g1
   simp -implicitDefEqProofs only [g1, eV, aA, seval]
   obtain ⟨g2, g3⟩ := jX (o := .cells [AV.int .i64 k, AV.int .i64 (n'), AV.str s, a9 4 b ((ts.map g).map Tm.av)]) hinv hS HT
   refine ⟨b, _, _, g2, g3, iF _, ⟨4, dT _⟩, ?_, fun x => ?_⟩
   · simp only [fL, bA, aW, eC, iS, iD, ← aV]
     rw [fin h4]
   · subst hW
     by_cases e3 : x = b4 <;> by_cases e4 : x = c <;> simp_all [aB.aC]
  have hk : k = 1 := by simpa using h5
  obtain ⟨x, hx⟩ : ∃ x, vars[i]? = some x := ⟨_, fG hlt⟩
  have hat : dJ prog 51 (.slice (vars.map iv)) (.int .i64 (i : Int)) = some (.pptr (.int .i64 x)) := bL (av := iv) dV hx rfl
  have hw := bK (n := (i : Int) + 1)
  have htk : vars.take (i + 1) = vars.take i ++ [x] := by rw [fM, hx]; try rfl
  simp -implicitDefEqProofs only [aA, seval]
  refine wP [(0, 1), (1, 1), (2, 1), (4, 1), (3, 2), (5, 2), (6, 1)] [0, 1, 2, 4, 3, 5, 6] mixed ?_
  simp -implicitDefEqProofs only [hat, aA, seval, mF]
  refine aP (fun h6 => ?_) (fun h6 => ?_)
  · have h6' : x = n := by simpa using h6
    subst h6'
    simp -implicitDefEqProofs only [aK, hw, aA, seval, mF]
    refine ⟨(i + 1, (i : Int)), by simp only; omega, ⟨hlt, fun h => absurd hk h, fun _ _ => (xR i hx).symm⟩, aO.mk (by simp -implicitDefEqProofs only [aA, seval])⟩
  · have h6' : x ≠ n := by simpa using h6
    simp -implicitDefEqProofs only [hw, aA, seval]
    refine ⟨(i + 1, n'), by simp only; omega, ⟨hlt, h2, fun hk hm => h3 hk ?_⟩, aO.mk (by simp -implicitDefEqProofs only [aA, seval])⟩
    rw [htk, fS] at hm
    rcases hm with hm | hm
    · exact hm
    · simp only [cZ, dQ, dY] at hm
      exact absurd hm.symm h6'
termination_by t => SizeOf.sizeOf t
decreasing_by have := List.sizeOf_lt_of_mem hx; simp only [Tm.mk.sizeOf_spec]; omega
theorem IL : ∀ (ts : List Tm) (l : List Int), (∀ t ∈ ts, t.wf = true) → l.Nodup → (bZ ts l).Nodup
 | [], l, _, h => h
 | t :: ts, l, hw, h => IL ts _ (fun x hx => hw x (by simp [hx])) ((PB t (hw t (by simp)) l).2.1 h)
theorem B1 : ∀ l : List Tm, (∀ t ∈ l, t.nodes ≤ 120) → bG Tm.nodes l ≤ l.length * 120
 | [], _ => by simp [bG]
 | x :: l, h => by
  simp only [bG, aS]
  have := B1 l fun y hy => h y (by simp [hy])
  have := h x (by simp)
  omega
abbrev A5 := zi tI_3 (zi zI_3 (zi aX (zi tI_31 (zi zI_31 (zi aN (zi bE (zi bF (zi cA (zi tI_51 (zi zI_51 (zi dV (zi fV (zi fW (zi fZ (zi tI_63 (zi zI_63 (zi bR (zi bQ (zi bP (zi bT bU))))))))))))))))))))
theorem aUT {N : Int} (l : List Tm) (hok : ∀ t ∈ l, bD N t) (hl : l.length ≤ 1000) (st : aB) : aD prog 107 [.slice (l.map Tm.av)] st (fun r st' => r = .slice ((oO l).map Tm.av) ∧ st' = st) := by
 have hnd := B1 l fun t ht => (hok t ht).2
 have NI := IL l [] (fun t ht => Tm.sS t (hok t ht).1.2.1) pU
 have gJ := fun v => v5 (v := v) l [] fun t ht => (hok t ht).1.2.1
 have hvl := wI l []
 simp only [aZ] at hvl
 refine aD.done ?_
 refine wF [1000000] 1 func107 ntmps107 rfl rfl ?_
 intro _
 simp -implicitDefEqProofs only [aA, seval, A5]
 refine rH (σ := Unit) [1000000] [0, 2] l 1 3 (fun i _ => (bZ (l.take i) []).map iv) (fun _ _ => True) (fun i _ => [(4, .int .i64 i)]) (fun _ _ => st) (fun i _ _ e he => by simp only [cV] at he; obtain ⟨t, _, rfl⟩ := he; exact ⟨rfl, rfl⟩) (by decide +kernel) ⟨(), 0, trivial, fun h => absurd rfl h, aO.mk (by simp -implicitDefEqProofs only [jF, kQ, bZ, aW, aA, ↓aU, seval])⟩ (fun i x s b hx hlt bS hdr hinv hb => ?_) (fun s b hge hinv => ?_)
 case refine_1 =>
  have hw := bK (n := (i : Int) + 1)
  have hat := bL (av := Tm.av) aN hx (aH x)
  have hst := DK Tm.nodes hx
  have hvl := wI (l.take i) []
  simp only [aZ, gV] at hvl
  have htk : x.vars (bZ (l.take i) []) = bZ (l.take (i + 1)) [] := by
   rw [fM, hx, P3]
   try rfl
  simp -implicitDefEqProofs only [bS, aF, hat, aT, aH, aA, seval, A5]
  refine (FH x (bZ (l.take i) []) b st (Tm.sS x (hok x (cU hx)).1.2.1) hb (by omega)).mono ?_
  rintro _ _ ⟨b', rfl, rfl, hb'⟩
  rw [htk] at hb' ⊢
  simp -implicitDefEqProofs only [aA, seval]
  exact ⟨(), b', hb', aO.mk (by simp -implicitDefEqProofs only [hw, aA, seval])⟩
 simp -implicitDefEqProofs only [hge, eC, iI, oK, lT, eS, aF, aA, seval, A5]
 have hR : oO l = l.map fun t => t.aJ fun v => vr (eO v (bZ l []) 0) := rfl
 rw [hR]
 generalize bZ l [] = vars at *
 refine rH (σ := Unit) [1000000] [0, 2, 3] l 4 5 (fun i _ => ((l.take i).map fun t => t.aJ fun v => vr (eO v vars 0)).map Tm.av) (fun _ _ => True) (fun i _ => [(6, .int .i64 i)]) (fun _ _ => st) (fun i _ _ e he => by simp only [cV] at he; obtain ⟨t, _, rfl⟩ := he; exact ⟨cF _, aH _⟩) (by decide +kernel) ⟨(), 0, trivial, fun h => absurd rfl h, aO.mk (by simp -implicitDefEqProofs only [jF, kQ, aW, aA, ↓aU, seval])⟩ (fun i x s b hx hlt bS hdr hinv hb => ?_) (fun s b hge hinv => ?_)
 case refine_2 =>
  simp -implicitDefEqProofs only [hge, eC, iI, lT, eS, aF, aA, seval, A5]
  exact ⟨rfl, aM.refl _⟩
 have hw := bK (n := (i : Int) + 1)
 have hat := bL (av := Tm.av) aN hx (aH x)
 have hxm := cU hx
 have cT : (((l.take i).map fun t => t.aJ fun v => vr (eO v vars 0)).map Tm.av).length = i := by simp only [aF, d5]; omega
 simp -implicitDefEqProofs only [bS, aF, hat, aT, aH, aA, seval, A5]
 refine (Z6 vars NI (by omega) x _ (hok x hxm).1.small (hok x hxm).1.2.1 (fun v hv => (gJ v).2 (.inr ⟨x, hxm, hv⟩))).to ?_
 simp -implicitDefEqProofs only [aT, aH, cF, aA, seval, A5]
 refine eN aN bE bF rfl rfl (eY (aH _) (b7 _)) (dT _) hb (by simp only [cT, aS, aZ]; omega) (by simp only [cT, aS, aZ]; omega) (fun b' hb' => ?_)
 rw [show (((l.take i).map fun t => t.aJ fun v => vr (eO v vars 0)).map Tm.av) ++ [(x.aJ fun v => vr (eO v vars 0)).av] = ((l.take (i + 1)).map fun t => t.aJ fun v => vr (eO v vars 0)).map Tm.av by rw [fM, hx]; simp] at hb' ⊢
 simp -implicitDefEqProofs only [aA, seval]
 exact ⟨(), b', hb', aO.mk (by simp -implicitDefEqProofs only [hw, aA, seval])⟩
abbrev aLM := zi tI_3 (zi zI_3 (zi aX (zi tI_4 (zi zI_4 (zi cE (zi tI_31 (zi zI_31 (zi aN (zi bE (zi bF (zi cA (zi tI_63 (zi zI_63 (zi bR (zi bQ (zi bP (zi bT bU)))))))))))))))))
theorem aVY (l : List Tm) (st : aB) : aD prog 108 [.slice (l.map Tm.av)] st (fun r st' => r = .bool (l.all Tm.valid) ∧ st' = st) := by
 refine wF [1000000] 1 func108 ntmps108 rfl rfl ?_
 simp only [eD, AV.fits, eM, aF]
 intro ⟨hl, _⟩
 simp -implicitDefEqProofs only [aA, seval]
 refine eH (σ := Unit) [1000000] [0] l (fun i _ => ((l.drop i).all Tm.valid) = (l.all Tm.valid)) (fun i _ => [(3, .int .i64 i)]) (fun _ _ => st) (by decide +kernel) ⟨(), rfl, aO.mk (by simp -implicitDefEqProofs only [aA, ↓aU, seval])⟩ (fun i x _ hx hlt bS hdr hinv => ?_) (fun _ hge hinv => ?_)
 case refine_2 =>
  simp -implicitDefEqProofs only [hge, aF, aA, seval, aLM]
  rw [← hinv, kE]
  try rfl
 have hw := bK (n := (i : Int) + 1)
 rw [hdr, kD] at hinv
 simp -implicitDefEqProofs only [bS, aF, bL (av := Tm.av) aN hx (aH x), aT, aH, aA, seval, aLM]
 refine (PU x _).to ?_
 simp -implicitDefEqProofs only [aA, seval]
 refine aP (fun h2 => ?_) (fun h2 => ?_)
 · simp -implicitDefEqProofs only [aA, seval]
   simp only [lX] at h2
   rw [← hinv, h2]
   try rfl
 · simp only [tR] at h2
   rw [h2, eT] at hinv
   simp -implicitDefEqProofs only [aA, seval]
   exact ⟨(), hinv, aO.mk (by simp -implicitDefEqProofs only [hw, aA, seval])⟩
theorem VM (v : Int) : ∀ (l : List Int) (i : Int), v ∈ l → i ≤ eO v l i ∧ eO v l i < i + l.length
 | [], i, h => by cases h
 | x :: l, i, h => by
  simp only [eO, aS]
  split
  · omega
  · rename_i e
    have h' : v ∈ l := by
     rcases cZ.1 h with h | h
     · exact absurd h e
     · exact h
    have := VM v l (i + 1) h'
    omega
theorem aDL {N : Int} {l : List Tm} (hok : ∀ t ∈ l, bD N t) (hf : l.all eL = true) : (oO l).all Tm.valid = decide ((bZ l []).length ≤ 26) := by
 have gJ := fun v => v5 (v := v) l [] fun t ht => (hok t ht).1.2.1
 have NI := IL l [] (fun t ht => Tm.sS t (hok t ht).1.2.1) pU
 have hro : ∀ t ∈ l, cD (bZ l []).length (t.aJ fun v => vr (eO v (bZ l []) 0)) := fun t ht =>
  (hok t ht).1.aJ fun v hv => by
   have := VM v (bZ l []) 0 ((gJ v).2 (.inr ⟨t, ht, hv⟩))
   exact FO (by omega) (by omega)
 have gC : ∀ t ∈ l, eL (t.aJ fun v => vr (eO v (bZ l []) 0)) = true := fun t ht => by
  have := eW.1 hf t ht
  unfold eL at this ⊢
  rw [show (t.aJ fun v => vr (eO v (bZ l []) 0)) = bV (fun v => eO v (bZ l []) 0) t from rfl, MM _ (hok t ht).1.2.1, G4 _ (hok t ht).1.2.1]
  exact this
 rw [vJ, eW, bJ]
 constructor
 · intro h
   refine C0 fun hn => ?_
   obtain ⟨w, hw⟩ : ∃ w, (bZ l [])[26]? = some w := ⟨_, fG (by omega)⟩
   rcases (gJ w).1 (cU hw) with h1 | ⟨t, ht, hv⟩
   · cases h1
   · have CL := h _ (cV.2 ⟨t, ht, rfl⟩)
     have hin := (Tm.E4 CL).2.2 26 ((wB t).2 ⟨w, hv, by rw [NH NI hw 0, wD]; simp⟩)
     omega
 · intro h x hx
   obtain ⟨t, ht, rfl⟩ := cV.1 hx
   have h1 := aLE.2 ((hro t ht).mono (show ((bZ l []).length : Int) ≤ 26 by omega))
   rw [Tm.aGI h1]
   exact gC t ht
theorem aSX {N : Int} {l : List Tm} (hok : ∀ t ∈ l, bD N t) : (oO l).length = l.length := by unfold oO; rw [aF]
abbrev vD := zi tI_3 (zi zI_3 (zi aX (zi tI_4 (zi zI_4 (zi cE (zi tI_31 (zi zI_31 (zi aN (zi bE (zi bF (zi cA (zi tI_51 (zi zI_51 (zi dV (zi fV (zi fW (zi fZ (zi tI_63 (zi zI_63 (zi bR (zi bQ (zi bP (zi bT (zi bU (zi tI_82 (zi zI_82 (zi A6 AC)))))))))))))))))))))))))))
theorem aL8 {N : Nat} {σ : Sub} (hg : cK σ) (ho : cP (bD N) σ) (vars : List Int) (hv : ∀ v ∈ vars, 0 ≤ v ∧ v < (N : Int)) (hl : vars.length ≤ 1000) (st : aB) :
 aD prog 71 [.slice (vars.map iv), .slice (cQ N σ)] st (fun r st' => st' = st ∧ ∃ a, r = .tup [cX a, .bool (iY σ vars).isSome] ∧ ∀ x, iY σ vars = some x → a = x) := by
 obtain ⟨rk, B, G⟩ := hg.rs
 refine aD.lU (aD.soft ?_)
 refine wF [1000000] 2 func71 ntmps71 rfl rfl ?_
 intro _
 simp -implicitDefEqProofs only [aA, seval, vD]
 intro b4 h4
 refine rH (σ := Unit) [1000000] [0, 1, 4] vars 4 6 (fun i _ => ((vars.take i).map (rs σ)).map Tm.av) (fun i _ => ((vars.take i).map (rs σ)).all eL = true) (fun i _ => [(5, .bool false), (7, .int .i64 i)]) (fun _ _ => st.aC b4 (.cells [.fslice []])) (fun i _ _ e he => by simp only [cV] at he; obtain ⟨t, _, rfl⟩ := he; exact ⟨cF _, aH _⟩) (by decide +kernel) ⟨(), 0, rfl, fun h => absurd rfl h, aO.mk (by simp -implicitDefEqProofs only [jF, kQ, aW, aA, ↓aU, seval])⟩ (fun i x s b hx hlt bS hdr hinv hb => ?_) (fun s b hge hinv => ?_)
 · have hw := bK (n := (i : Int) + 1)
   have hxm := cU hx
   obtain ⟨hx0, hx1⟩ := hv x hxm
   have hvr : bD N (vr x) := ⟨FO hx0 hx1, by rw [vr, Tm.gO]; simp [bG]⟩
   have hat : dJ prog 51 (.slice (vars.map iv)) (.int .i64 (i : Int)) = some (.pptr (.int .i64 x)) := bL (av := iv) dV hx rfl
   have cT : (((vars.take i).map (rs σ)).map Tm.av).length = i := by simp only [aF, d5]; omega
   have dX : ((vars.take (i + 1)).map (rs σ)).all eL = eL (rs σ x) := by
    rw [fM, hx]
    simp only [GV, vK, bA, aW, C8, hinv, kD, List.all_nil, C6, eT]
   simp -implicitDefEqProofs only [bS, aF, hat, aA, seval, vD]
   refine (H0 x _).to ?_
   simp -implicitDefEqProofs only [aA, seval]
   refine (SU hg ho (vr x) hvr _).mono ?_
   rintro _ _ ⟨rfl, y, rfl, hy⟩
   rw [uU] at hy ⊢
   simp -implicitDefEqProofs only [aH, b7, cF, aA, ↓aU, seval, vD]
   refine aP (fun h => ?_) (fun h => ?_)
   · have h' : eL (rs σ x) = false := by simpa using h
     have pO : iY σ vars = none := by
      unfold iY
      rw [aE]
      rintro ⟨h1, _⟩
      have := eW.1 h1 _ (cV.2 ⟨x, hxm, rfl⟩)
      rw [h'] at this; cases this
     have hbo : ∀ l, (l ≠ [] → st b = none) → (l ≠ [] → b ≠ b4) → (aY (st.aC b4 (.cells [.fslice []])) b l) b4 = some (.cells [.fslice []]) := fun l _ h2 => by
      cases l with
      | nil => exact aB.aQ _ _ _
      | cons e l => simp only [aY]; rw [aB.aL _ _ (dA (h2 (by simp)))]; exact aB.aQ _ _ _
     have hnb : ((vars.take i).map (rs σ)).map Tm.av ≠ [] → b ≠ b4 := fun h => by rintro rfl; have := hb h; rw [aB.aQ] at this; cases this
     have aMM : ((vars.take i).map (rs σ)).map Tm.av ≠ [] → st b = none := fun h => by have := hb h; rw [aB.aL _ _ (hnb h)] at this; exact this
     have e1 := hbo _ aMM hnb
     simp -implicitDefEqProofs only [aK, e1, aA, seval, vD]
     rw [pO]
     refine ⟨st, ?_, rfl, [], rfl, fun x h => by cases h⟩
     intro z
     by_cases hz : z = b4
     · subst hz; simp [aB.aC, h4]
     · rw [aB.aL _ _ hz]
       exact ((aM.aY (aM.refl _) hb).trans ((aM.refl st).aC h4)) z
   · have h' : eL (rs σ x) = true := by simpa using h
     obtain rfl := hy h'
     simp -implicitDefEqProofs only [aT, aH, cF, aA, seval, vD]
     refine eN aN bE bF rfl rfl (eY (aH _) (b7 _)) (dT _) hb (by simp only [cT, aS, aZ]; omega) (by simp only [cT, aS, aZ]; omega) (fun b' hb' => ?_)
     rw [show (((vars.take i).map (rs σ)).map Tm.av) ++ [(rs σ x).av] = ((vars.take (i + 1)).map (rs σ)).map Tm.av by rw [fM, hx]; simp] at hb' ⊢
     simp -implicitDefEqProofs only [hw, aA, seval]
     exact ⟨(), b', by rw [dX]; exact h', hb', aO.mk (by simp -implicitDefEqProofs only [aA, seval])⟩
 · rw [eS] at hinv
   have hok : ∀ t ∈ vars.map (rs σ), bD N t := fun t ht => by
    obtain ⟨v, h, rfl⟩ := cV.1 ht
    obtain ⟨h0, h1⟩ := hv v h
    have hf := eW.1 hinv _ ht
    unfold eL at hf
    simp only [cM, bJ] at hf
    exact ⟨G.kZ ho.kZ v h0 h1, hf.2⟩
   have CL := aDL hok hinv
   have pO : iY σ vars = if (bZ (vars.map (rs σ)) []).length ≤ 26 then some (oO (vars.map (rs σ))) else none := by
    unfold iY
    simp only [hinv, sH]
   have aRY := fun st => aUT _ hok (by rw [aF]; exact hl) st
   have dX := fun st => aVY (oO (vars.map (rs σ))) st
   rw [CL] at dX
   generalize oO (vars.map (rs σ)) = R at *
   generalize (bZ (vars.map (rs σ)) []).length = m at *
   simp -implicitDefEqProofs only [hge, eC, pD, iI, GI, lT, eS, uD, aF, aA, seval, vD]
   refine (aRY _).to ?_
   simp -implicitDefEqProofs only [aA, ↓aU, seval, vD]
   refine wP [(1, 1), (0, 2), (2, 2), (3, 2), (4, 0), (5, 1)] [1, 0, 2, 3, 5] mixed ?_
   simp -implicitDefEqProofs only [aA, seval, vD]
   refine i8 (dX _) ?_
   simp -implicitDefEqProofs only [aK, aA, seval, vD]
   refine ⟨st, (aM.refl _).aC h4, rfl, R, ?_, fun x h => ?_⟩
   · rw [pO]
     simp only [j9, kC, rY, qA, bA, aW]
     by_cases h : m ≤ 26
     · simp [h]
     · simp [h]
   · rw [pO] at h
     split at h
     · cases h; rfl
     · cases h
theorem P8 (k n : Int) (s : ByteArray) (ts : List Tm) (rest : List RG) (left : List Nat) (σ : Sub) (N : Nat) : fD ⟨.mk k n s ts, rest, left, σ, N⟩ = .agg [.int .i64 k, .int .i64 n, .str s, .slice (ts.map Tm.av), .slice (rest.map eF), .slice (left.map nv), .slice (cQ N σ)] := rfl
structure vX (p : List Cl) (c : RC) : Prop where
 gI : cK c.σ
 ok : cP (bD c.N) c.σ
 tY : ∀ n, ¬(0 ≤ n ∧ n < (c.N : Int)) → c.σ n = none
 goal : bD c.N c.goal
 rest : ∀ g ∈ c.rest, bD c.N g.t ∧ g.t.k = 3
 left : ∀ i ∈ c.left, i < p.length
 len : c.rest.length ≤ 524288
 aQR : c.left.length ≤ 1048576
structure oU (p : List Cl) (B : Nat) (s : RS) : Prop where
 gI : cK s.σ
 ok : cP (bD s.N) s.σ
 tY : ∀ n, ¬(0 ≤ n ∧ n < (s.N : Int)) → s.σ n = none
 goals : ∀ g ∈ s.goals, bD s.N g.t ∧ g.t.k = 3
 pos : 0 < s.N
 hN : s.N ≤ B
 gl : s.goals.length ≤ B
 pR : s.chs.length ≤ B
 chs : ∀ c ∈ s.chs, vX p c ∧ c.N + 26 ≤ B ∧ c.rest.length + 26 ≤ B ∧ 0 < c.N
theorem cP.W9 {N M : Nat} {σ : Sub} (h : cP (bD N) σ) (hm : N ≤ M) : cP (bD M) σ := h.imp fun t ht => ht.mono (by omega)
theorem a0C {N k : Nat} {σ : Sub} (hd : ∀ n, ¬(0 ≤ n ∧ n < (N : Int)) → σ n = none) : cQ N σ ++ List.replicate k zt = cQ (N + k) σ := by
 apply KY
 intro i
 have hl := sP N σ
 by_cases hi : i < N
 · rw [aL2 (by omega), yV N σ hi, yV (N + k) σ (by omega)]
 · rw [aL1 (by omega), hl]
   by_cases h2 : i < N + k
   · rw [yV (N + k) σ h2, hd (i : Int) (fun h => hi (by omega)), List.getElem?_replicate, aG (by omega)]
     try rfl
   · rw [xN (by simp; omega), xN (by rw [sP]; omega)]
theorem aPL {N k b : Nat} {σ : Sub} (hd : ∀ n, ¬(0 ≤ n ∧ n < (N : Int)) → σ n = none) (hN : N + k ≤ 1048576) {st : aB} {K : AV → aB → Prop} (hb : st b = none)
 (hK : ∀ b', st b' = none → K (.mslice b' 0 (N + k) 4) (st.aC b' (.cells ((cQ (N + k) σ).flatMap AV.cells)))) :
 rF prog 31 3 (st.aC b (.cells ((cQ N σ).flatMap AV.cells))) (.mslice b 0 N 4) (.int .i64 (k : Int)) K := by
 have hu : prog.underlying 3 = some (.int .i64) := by kernel_rfl
 have hl : ((cQ N σ).flatMap AV.cells).length = N * 4 := by rw [oM (fun e he => (aGG N σ e he).1), sP]
 have lJ : ((cQ N σ).flatMap AV.cells).take (N * 4) ++ lM [AV.int .i64 0, .int .i64 0, .str ⟨#[]⟩, .fslice []] k = (cQ (N + k) σ).flatMap AV.cells := by
  rw [← hl, eS, aLF _ (by simp), ← a0C hd, zY, List.flatMap_replicate]
  try rfl
 unfold rF
 simp only [aN, bE, bF, hu, aB.aQ, lC]
 refine ⟨rfl, by omega, rfl, by omega, trivial, by omega, by omega, by omega, ?_, fun b' hb' => ?_⟩
 · rw [lJ, dD]
   exact hK b hb
 · rw [lJ, aB.wR st b _ hb]
   refine hK b' ?_
   by_cases h : b' = b
   · subst h; exact hb
   · rwa [aB.aL _ _ h] at hb'
theorem aF8 {st s2 V : aB} {o' o6 : AO} {b6 b11 b13 b14 b : Nat} {L A : List AV} (hD : aM s2 st) (hA : s2 b11 = some (.cells (A.flatMap AV.cells))) (h11 : st b11 = none) (h6 : st b6 = none) (h62 : s2 b6 ≠ none) (aF6 : b6 ≠ b11) (h13 : s2 b13 = none) (h14 : s2 b14 = none)
 (hV : ∀ q, q ≠ b13 → q ≠ b14 → V q = s2 q) (G0 : V b13 ≠ none) (CI : V b14 ≠ none) (hb : L ≠ [] → V b = none) (hne : A ≠ []) :
 aM (((aY V b L).aC b13 o').aC b6 o6) (aY (aY st b11 A) b L) ∧ (L ≠ [] → (aY st b11 A) b = none) := by
 have V0 : b13 ≠ b11 := by rintro rfl; rw [h13] at hA; cases hA
 have aZB : b14 ≠ b11 := by rintro rfl; rw [h14] at hA; cases hA
 have J8 : b13 ≠ b6 := by rintro rfl; exact h62 h13
 have n13 : st b13 = none := (hD b13).1 h13
 have n14 : st b14 = none := (hD b14).1 h14
 rw [jH hne]
 have hbb : L ≠ [] → b ≠ b13 ∧ b ≠ b11 ∧ b ≠ b6 ∧ b ≠ b14 ∧ s2 b = none := fun h => by
  have h0 := hb h
  have e13 : b ≠ b13 := by rintro rfl; exact G0 h0
  have e14 : b ≠ b14 := by rintro rfl; exact CI h0
  rw [hV b e13 e14] at h0
  exact ⟨e13, (by rintro rfl; rw [h0] at hA; cases hA), (by rintro rfl; exact h62 h0), e14, h0⟩
 refine ⟨fun q => ?_, fun h => ?_⟩
 · by_cases q6 : q = b6
   · subst q6
     have : aY (st.aC b11 (.cells (A.flatMap AV.cells))) b L q = none := by
      by_cases hL : L = []
      · subst hL; simp only [aY]; rw [aB.aL _ _ aF6, h6]
      · obtain ⟨_, _, e6, _⟩ := hbb hL
        rw [jH hL, aB.aL _ _ (dA e6), aB.aL _ _ aF6, h6]
     rw [this]; simp
   rw [aB.aL _ _ q6]
   by_cases q13 : q = b13
   · subst q13
     have : aY (st.aC b11 (.cells (A.flatMap AV.cells))) b L q = none := by
      by_cases hL : L = []
      · subst hL; simp only [aY]; rw [aB.aL _ _ V0, n13]
      · obtain ⟨e13, _⟩ := hbb hL
        rw [jH hL, aB.aL _ _ (dA e13), aB.aL _ _ V0, n13]
     rw [this]; simp
   rw [aB.aL _ _ q13]
   have rest : q ≠ b ∨ L = [] → (V q = none → st.aC b11 (.cells (A.flatMap AV.cells)) q = none) ∧ ∀ o, st.aC b11 (.cells (A.flatMap AV.cells)) q = some o → V q = some o := fun _ => by
    by_cases q14 : q = b14
    · subst q14
      rw [aB.aL _ _ aZB, n14]
      simp
    rw [hV q q13 q14]
    by_cases q11 : q = b11
    · subst q11; rw [aB.aQ, hA]; simp
    rw [aB.aL _ _ q11]
    exact hD q
   by_cases hL : L = []
   · subst hL
     exact rest (.inr rfl)
   · rw [jH hL, jH hL]
     by_cases qb : q = b
     · subst qb; rw [aB.aQ, aB.aQ]; simp
     rw [aB.aL _ _ qb, aB.aL _ _ qb]
     exact rest (.inl qb)
 · obtain ⟨e13, e11, e6, e14, h0⟩ := hbb h
   rw [aB.aL _ _ e11]
   exact (hD b).1 h0
theorem BQ {st : aB} {b q : Nat} {l : List AV} {o : AO} (hb : l ≠ [] → st b = none) (h : st q = some o) : aY st b l q = some o := by
 cases l with
 | nil => exact h
 | cons x l =>
  rw [jH (by simp), aB.aL _ _ (by rintro rfl; rw [hb (by simp)] at h; cases h)]
  exact h
theorem aCQ {b b' o n w : Nat} {l : List AV} (h : l ≠ [] → b' ≠ b) : (AV.mslice b' o n w).fin b l = .mslice b' o n w := by
 unfold AV.fin
 cases l with
 | nil => rfl
 | cons x l =>
  simp only [List.isEmpty_cons, jM, d6]
  cases o with
  | zero => simp only [AV.fz]; rw [aE (fun e => h (by simp) e.1)]; try rfl
  | succ o => rfl
theorem GZ {b N : Nat} {σ : Sub} (h0 : 0 < N) : (AV.mslice b 0 N 4).fin b (cQ N σ) = .slice (cQ N σ) := by
 have hl := sP N σ
 have h : cQ N σ ≠ [] := by intro e; rw [e] at hl; simp at hl; omega
 have : a9 4 b (cQ N σ) = .mslice b 0 N 4 := by rw [oP h, hl]
 rw [← this, iD]
theorem aZP (l : List RC) : ∀ e ∈ l.map fD, e.cC = false := by intro e he; simp only [cV] at he; obtain ⟨t, _, rfl⟩ := he; exact aVO t
theorem aTD (l : List RC) : ∀ e ∈ l.map fD, e.width = 7 := by intro e he; simp only [cV] at he; obtain ⟨t, _, rfl⟩ := he; exact JK t
theorem ZS {φ : AF} {d i : Nat} {l : List Nat} (hi : i + 1 < l.length) (h : φ d = .int .i64 ((i : Int) + 1)) : gW prog φ 51 (.slice (l.map nv)) (some (.tmp d)) none none = some (.slice ((l.drop (i + 1)).map nv)) := by
 have he : φ.eval (.tmp d) = .int .i64 ((i : Int) + 1) := h
 have hb : dR φ (some (.tmp d)) 0 l.length = some (i + 1) := by
  simp only [dR, he]
  rw [aG (by omega)]
  congr 1
 have hwo : yY (l.map nv) (i + 1) 1 = true := by
  unfold yY
  rw [oR, fG hi]
  try rfl
 unfold gW
 rw [aE (by simp [qK])]
 simp only [oL, dV]
 rw [aE (by simp)]
 simp only [dR] at hb ⊢
 have ht : List.take l.length (l.map nv) = l.map nv := mO (by simp)
 simp only [aF, hb, hwo, or_true, f9, ht]
 simp [List.map_drop]
abbrev pY := zi tI_3 (zi zI_3 (zi aX (zi tI_4 (zi zI_4 (zi cE (zi tI_29 (zi zI_29 (zi g8 (zi j8 (zi kA (zi k6 (zi tI_31 (zi zI_31 (zi aN (zi bE (zi bF (zi cA (zi tI_51 (zi zI_51 (zi dV (zi fV (zi fW (zi fZ (zi tI_63 (zi zI_63 (zi bR (zi bQ (zi bP (zi bT (zi bU (zi tI_76 (zi zI_76 (zi lN (zi lR (zi lP (zi tI_100 (zi zI_100 (zi uV (zi zH (zi yZ (zi F3 (zi tI_101 (zi zI_101 (zi tB (zi xS (zi zQ (zi DV (zi tI_103 (zi zI_103 (zi GM (zi GF (zi DN (zi GC (zi tI_146 (zi zI_146 (zi NR (zi PG (zi PV (zi M1 P4)))))))))))))))))))))))))))))))))))))))))))))))))))))))))))
theorem aLX (p : List Cl) (hp : ∀ c ∈ p, gB c ∧ c.2.length ≤ 6) (gs0 : List RG) (σ0 : List AV) (cs : List RC) (c : RC) (hc : vX p c) (h0 : 0 < c.N) (hN : c.N ≤ 524288) (hcl : cs.length ≤ 524288) (st : aB) :
 aD prog 110 [.slice (p.map bY), .agg [.slice (gs0.map eF), .slice σ0, .slice (cs.map fD)], fD c] st (fun r st' => st' = st ∧ r = match iG p cs c.goal c.rest c.σ c.N c.left with
  | some s => .tup [r7 s, .bool true]
  | none => .tup [.agg [.slice (gs0.map eF), .slice σ0, .slice (cs.map fD)], .bool false]) := by
 obtain ⟨goal, rest, left, σ, N⟩ := c
 obtain ⟨hg, ho, hd, hgo, hr, hle, hrl, hll⟩ := hc
 simp only at hg ho hd hgo hr hle hrl hll h0 hN
 obtain ⟨gk, gn, gs', gts⟩ := goal
 rw [P8]
 refine aD.fin (aD.fin (aD.lU ?_))
 refine wF [1000000, 13] 3 func110 ntmps110 rfl rfl ?_
 intro _
 simp -implicitDefEqProofs only [aA, seval, pY]
 intro b6 h6
 generalize hW : st.aC b6 (.cells [.fslice [], .fslice [], .fslice []]) = W
 have hW6 : W b6 = some (.cells [.fslice [], .fslice [], .fslice []]) := by rw [← hW]; exact aB.aQ _ _ _
 have hDW : aM W st := by rw [← hW]; exact (aM.refl _).aC h6
 refine eH (σ := Unit) [1000000] [0, 4, 5, 6] left (fun i _ => iG p cs (.mk gk gn gs' gts) rest σ N (left.drop i) = iG p cs (.mk gk gn gs' gts) rest σ N left) (fun i _ => [(7, .bool false), (8, .int .i64 i)]) (fun _ _ => W) (by decide +kernel) ⟨(), rfl, aO.mk (by simp -implicitDefEqProofs only [aA, ↓aU, seval])⟩ (fun i x _ hx hlt bS hdr hinv => ?_) (fun _ hge hinv => ?_)
 case refine_2 =>
  simp -implicitDefEqProofs only [hge, aK, hW6, aF, aA, seval, pY]
  refine ⟨st, ?_, 0, [], st, rfl, by simp, by simp, ⟨0, by simp⟩, 0, [], st, rfl, by simp, by simp, ⟨0, by simp⟩, rfl, ?_⟩
  · intro z
    have := hDW z
    by_cases hz : z = b6
    · subst hz; simp [aB.aC, h6]
    · rw [aB.aL _ _ hz]; exact this
  · rw [← hinv, kE]
    simp only [fL, jG, pD, iI, bA, aW, iG]
 have hw := bK (n := (i : Int) + 1)
 have hxl := hle x (cU hx)
 obtain ⟨cl, hcx⟩ : ∃ cl, p[x]? = some cl := ⟨_, fG hxl⟩
 obtain ⟨qZ, o0⟩ := hp cl (cU hcx)
 rw [hdr, iG.eq_def] at hinv
 simp only [hcx] at hinv
 have hat : dJ prog 51 (.slice (left.map nv)) (.int .i64 (i : Int)) = some (.pptr (.int .i64 (x : Int))) := bL (av := nv) dV hx rfl
 have zD := bL (av := bY) (P := prog) g8 hcx (oH cl)
 have hcf := aUO cl qZ o0
 obtain ⟨⟨k, n, s', ts⟩, bd⟩ := cl
 rw [gG] at zD hcf
 simp only at hinv
 simp -implicitDefEqProofs only [bS, aF, sP, hat, zD, aA, ↓aU, seval, pY]
 refine wX [(0, 1), (1, 1), (2, 1), (4, 1), (3, 0), (5, 0), (6, 0), (7, 1)] [0, 1, 2, 4, 7] eJ mixed rfl fY ?_
 simp -implicitDefEqProofs only [aA, seval, pY]
 have hfr := qZ.fr.1
 have hHd := qZ.dC N (.mk k n s' ts) (by simp)
 have hBd := fun t ht => (qZ.CD t (List.mem_cons_of_mem _ ht))
 refine Q2 h0 (by omega) σ fun b hb hA0 => ?_
 simp -implicitDefEqProofs only [aA, seval]
 refine ⟨fY, ?_⟩
 refine (hcf _).to ?_
 simp -implicitDefEqProofs only [aA, seval]
 refine ⟨fY, ?_⟩
 refine aPL hd (by omega) hb fun b11 h11 => ?_
 simp -implicitDefEqProofs only [aA, seval]
 refine ⟨fY, ?_⟩
 have hA := (show fC (N + nL (.mk k n s' ts, bd)) (W.aC b11 (.cells ((cQ (N + nL (.mk k n s' ts, bd)) σ).flatMap AV.cells))) b11 σ from aB.aQ _ _ _)
 have hDT : aM (W.aC b11 (.cells ((cQ (N + nL (.mk k n s' ts, bd)) σ).flatMap AV.cells))) W := (aM.refl _).aC h11
 have hh := qZ.head
 generalize nL (.mk k n s' ts, bd) = fr at *
 generalize W.aC b11 (.cells ((cQ (N + fr) σ).flatMap AV.cells)) = T at *
 have hsh : Tm.sh (N : Int) (.mk k n s' ts) = dC N (.mk k n s' ts) := aDN N (by omega) _ hh.1
 have hcs := OG (N : Int) (.mk k n s' ts)
 rw [hsh] at hcs
 have hun := DS (N := N + fr) (by omega) hg (ho.W9 (by omega)) (.mk gk gn gs' gts) (dC N (.mk k n s' ts)) (hgo.mono (by omega)) hHd b11
 generalize dC N (.mk k n s' ts) = y at *
 obtain ⟨yk, yn, ys, yt⟩ := y
 refine wX [(0, 1), (1, 1), (2, 1), (3, 1), (4, 1), (6, 1), (5, 0), (7, 0), (8, 1)] [0, 1, 2, 3, 4, 6, 8] eJ mixed rfl fY ?_
 simp -implicitDefEqProofs only [aA, seval, pY]
 have hsm := hh.1.small
 simp only [aV] at hun hcs ⊢
 refine (hcs _ hsm).to ?_
 simp -implicitDefEqProofs only [aA, seval]
 refine ⟨fY, ?_⟩
 refine (hun _ hA).mono ?_
 rintro _ s2 ⟨rfl, hA2, hk2⟩
 simp -implicitDefEqProofs only [aA, seval]
 refine ⟨fY, ?_⟩
 generalize iR σ (.mk gk gn gs' gts) (.mk yk yn ys yt) = u at *
 obtain ⟨r, σ', tr⟩ := u
 simp only at hinv hA2 ⊢
 have JC : W b11 = none := h11
 have hDs : aM s2 W := by
  intro q
  have key : ∀ o, W q = some o → s2 q = some o := fun o h => hk2 q o ((hDT q).2 o h) (by rintro rfl; rw [JC] at h; cases h)
  refine ⟨fun h => ?_, key⟩
  cases hq : W q with
  | none => rfl
  | some o => rw [key o hq] at h; cases h
 refine aP (fun h => ?_) (fun h => ?_)
 · have hr : r = false := by simpa using h
   rw [aE (by rw [hr]; simp)] at hinv
   simp -implicitDefEqProofs only [hw, aA, seval]
   exact ⟨(), hinv, aO.drop hDs (by simp -implicitDefEqProofs only [aA, seval])⟩
 have hr' : r = true := by simpa using h
 rw [aG hr'] at hinv
 have hg9 := aC9 bd N cs.length rest hBd o0 (by omega) (by omega)
 generalize hgs : bd.map (fun t => (⟨dC N t, cs.length⟩ : RG)) ++ rest = gs2 at *
 simp -implicitDefEqProofs only [aF, aA, seval, pY]
 refine wP [(0, 1), (1, 1), (3, 1), (5, 1), (6, 1), (7, 1), (2, 2), (4, 2), (8, 2), (9, 1), (10, 1), (11, 0), (12, 0)] [0, 1, 3, 5, 6, 7, 2, 4, 8, 9, 10] mixed ?_
 simp -implicitDefEqProofs only [aA, seval, pY]
 refine NO hg9 ?_
 simp -implicitDefEqProofs only [aK, aF, hw, aA, seval, pY]
 intro b13 h13
 have aOQ : b13 ≠ b11 := by rintro rfl; rw [fC, h13] at hA2; cases hA2
 have h62 : s2 b6 ≠ none := by rw [(hDs b6).2 _ hW6]; simp
 have J8 : b6 ≠ b13 := by rintro rfl; exact h62 h13
 have WK : b6 ≠ b11 := by rintro rfl; rw [hW6] at JC; cases JC
 have IP : st b11 = none := (hDW b11).1 JC
 have UW := (hDs b6).2 _ hW6
 have hNf : 0 < N + fr := by omega
 have nO : cQ (N + fr) σ' ≠ [] := by intro e; have := sP (N + fr) σ'; rw [e] at this; simp at this; omega
 refine aP (fun h => ?_) (fun h => ?_)
 · have h' : i + 1 < left.length := by simp at h; omega
   have hsl := fun (φ : AF) (d : Nat) (h : φ d = .int .i64 ((i : Int) + 1)) => ZS h' h
   simp -implicitDefEqProofs only [aA, seval]
   refine wP [(0, 1), (2, 1), (4, 1), (6, 1), (7, 1), (9, 1), (1, 2), (3, 2), (5, 2), (8, 1), (10, 2), (11, 1), (12, 0), (13, 0)] [0, 2, 4, 6, 7, 9, 1, 3, 5, 8, 10, 11] mixed ?_
   simp -implicitDefEqProofs only [aK, hsl, hw, aA, seval, pY]
   intro b14 h14
   have aLT : b14 ≠ b13 := by rintro rfl; rw [aB.aQ] at h14; cases h14
   have NZ : s2 b14 = none := by rw [aB.aL _ _ aLT] at h14; exact h14
   have aRC : b6 ≠ b14 := by rintro rfl; exact h62 NZ
   generalize hV : (s2.aC b13 (AO.cells [AV.slice (gs2.map eF), AV.mslice b11 0 (N + fr) 4, AV.slice (cs.map fD)])).aC b14 (.cells [.int .i64 gk, .int .i64 gn, .str gs', .slice (gts.map Tm.av), .slice (rest.map eF), .slice ((left.drop (i + 1)).map nv), .slice (cQ N σ)]) = V
   have CI : V b14 = some (.cells [.int .i64 gk, .int .i64 gn, .str gs', .slice (gts.map Tm.av), .slice (rest.map eF), .slice ((left.drop (i + 1)).map nv), .slice (cQ N σ)]) := by rw [← hV]; exact aB.aQ _ _ _
   have G0 : V b13 = some (AO.cells [AV.slice (gs2.map eF), AV.mslice b11 0 (N + fr) 4, AV.slice (cs.map fD)]) := by rw [← hV, aB.aL _ _ (dA aLT)]; exact aB.aQ _ _ _
   have hV6 : V b6 = some (.cells [.fslice [], .fslice [], .fslice []]) := by rw [← hV, aB.aL _ _ aRC, aB.aL _ _ J8]; exact UW
   have hVq : ∀ q, q ≠ b13 → q ≠ b14 → V q = s2 q := fun q e1 e2 => by rw [← hV, aB.aL _ _ e2, aB.aL _ _ e1]
   refine wX [(0, 1), (1, 1), (2, 1), (4, 1), (5, 1), (3, 0), (6, 0), (7, 1), (8, 2)] [0, 1, 2, 4, 5, 7] (one b14 (.cells [.int .i64 gk, .int .i64 gn, .str gs', .slice (gts.map Tm.av), .slice (rest.map eF), .slice ((left.drop (i + 1)).map nv), .slice (cQ N σ)])) mixed rfl (gZ CI) ?_
   simp -implicitDefEqProofs only [uZ, aA, seval, pY]
   have hlc : (cs.map fD).length = cs.length := aF _
   refine eN (P := prog) (b := 0) (l := []) (xs := cs.map fD) tB xS zQ rfl rfl (by intro e he; simp only [cV] at he; obtain ⟨t, _, rfl⟩ := he; exact ⟨JK t, aO3 t⟩) (by simp) (by simp) (by simp only [aZ, hlc]; omega) (by simp only [aZ, hlc]; omega) (fun b15 h15 => ?_)
   rw [eR] at h15 ⊢
   simp -implicitDefEqProofs only [aA, seval]
   refine ⟨gZ (BQ h15 CI), ?_⟩
   refine eN (P := prog) (b := b15) (l := cs.map fD) (xs := [fD ⟨.mk gk gn gs' gts, rest, left.drop (i + 1), σ, N⟩]) tB xS zQ rfl rfl (eY rfl rfl) (by intro e he; simp only [cV] at he; obtain ⟨t, _, rfl⟩ := he; exact JK t) h15 (by simp only [aS, aZ, hlc]; omega) (by simp only [aS, aZ, hlc]; omega) (fun b16 h16 => ?_)
   rw [show (cs.map fD) ++ [fD ⟨.mk gk gn gs' gts, rest, left.drop (i + 1), σ, N⟩] = (cs ++ [(⟨.mk gk gn gs' gts, rest, left.drop (i + 1), σ, N⟩ : RC)]).map fD by simp] at h16 ⊢
   have g13 := BQ h16 G0
   have g14 := BQ h16 CI
   have g6 := BQ h16 hV6
   have hdn : left.drop (i + 1) ≠ [] := by intro e; have := nX List.length e; simp at this; omega
   rw [aE hdn] at hinv
   generalize hLL : cs ++ [(⟨.mk gk gn gs' gts, rest, left.drop (i + 1), σ, N⟩ : RC)] = LL at *
   have E := aF8 (o' := .cells [AV.slice (gs2.map eF), AV.mslice b11 0 (N + fr) 4, a9 7 b16 (LL.map fD)]) (o6 := .cells [AV.slice (gs2.map eF), AV.mslice b11 0 (N + fr) 4, a9 7 b16 (LL.map fD)]) (hDs.trans hDW) hA2 IP h6 h62 WK h13 NZ hVq (by rw [G0]; simp) (by rw [CI]; simp) h16 nO
   simp -implicitDefEqProofs only [aK, J8, g13, g6, eV, mA, aA, seval, pY]
   have hms : LL.map fD ≠ [] → b11 ≠ b16 := by rintro h rfl; have := h16 h; rw [hVq b11 (dA aOQ) (by rintro rfl; rw [fC, NZ] at hA2; cases hA2), hA2] at this; cases this
   refine ⟨gZ g14, _, E.1, b16, LL.map fD, _, rfl, fun h => E.2 (by simpa using h), aZP LL, ⟨7, aTD LL⟩, b11, cQ (N + fr) σ', st, rfl, fun _ => IP, EM _ _, ⟨4, BL _ _⟩, rfl, ?_⟩
   rw [← hinv]
   simp only [fL, jG, pD, iI, lT, bA, aW, aCQ hms, GZ hNf]
   rfl
 · have h' : left.drop (i + 1) = [] := GO (by simp at h; omega)
   have E := aF8 (o6 := .cells [AV.slice (gs2.map eF), AV.mslice b11 0 (N + fr) 4, AV.slice (cs.map fD)]) (o' := .cells [AV.slice (gs2.map eF), AV.mslice b11 0 (N + fr) 4, AV.slice (cs.map fD)]) (b := 0) (L := []) (hDs.trans hDW) hA2 IP h6 h62 WK h13 h13 (fun q h _ => aB.aL s2 (.cells [AV.slice (gs2.map eF), AV.mslice b11 0 (N + fr) 4, AV.slice (cs.map fD)]) h) (by rw [aB.aQ]; simp) (by rw [aB.aQ]; simp) (by simp) nO
   simp -implicitDefEqProofs only [aK, J8, UW, aB.aQ, aA, seval, pY]
   rw [aG h'] at hinv
   have E1 := E.1
   simp only [aY, dD] at E1
   refine ⟨_, E1, 0, [], _, rfl, by simp, by simp, ⟨0, by simp⟩, b11, cQ (N + fr) σ', st, rfl, fun _ => IP, EM _ _, ⟨4, BL _ _⟩, rfl, ?_⟩
   rw [← hinv]
   simp only [fL, jG, pD, iI, bA, aW, aCQ (l := []) (fun h => absurd rfl h), GZ hNf]
   rfl
end Go.AW
