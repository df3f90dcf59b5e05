/- The answers of a search are valid terms. -/
import Derived.Test.YtpficjlageaebaaGreatDoorSfan
import Derived.Test.YtpficjlageaebaaGreatDoorSfao
import Derived.Test.YtpficjlageaebaaGreatDoorSfai
import Derived.Test.YtpficjlageaebaaGreatDoorSfaf
import Derived.Test.YtpficjlageaebaaGreatDoorSfah
import Derived.Test.YtpficjlageaebaaGreatDoorSfak
import Derived.Test.YtpficjlageaebaaGreatDoorSfal
import Derived.Test.YtpficjlageaebaaGreatDoorSfam
set_option linter.unusedSimpArgs false
set_option linter.unusedVariables false
set_option maxRecDepth 100000
namespace Go.AW
def aDM (vars : List Int) (a : List Tm) : Prop := a.length = vars.length ∧ a.all Tm.valid = true
theorem aOI {N : Nat} {σ : Sub} (hg : cL σ) (ho : cP (bD N) σ) {vars : List Int} (hv : ∀ v ∈ vars, 0 ≤ v ∧ v < (N : Int)) {a : List Tm} (h : jI σ vars = some a) : aDM vars a := by
 obtain ⟨rk, B, G⟩ := hg.rs
 unfold jI at h
 split at h
 · rename_i hh
   cases h
   obtain ⟨h1, h2⟩ := hh
   have hok : ∀ t ∈ vars.map (rs σ), bD N t := fun t ht => by
    obtain ⟨v, hvm, rfl⟩ := cU.1 ht
    have hf := eW.1 h1 _ ht
    unfold eH at hf
    simp only [cM, bJ] at hf
    exact ⟨G.k8 ho.k8 v (hv v hvm).1 (hv v hvm).2, hf.2⟩
   exact ⟨by rw [aYP hok, aF], by rw [aIH hok h1, bJ]; exact h2⟩
 · cases h
theorem aN7 {p : List Cl} (hp : ∀ c ∈ p, gJ c ∧ c.2.length ≤ 6) (hpl : p.length ≤ 20) {cnd : Tm → List Nat → List Nat} (hd : ∀ t l, (∀ i ∈ cnd t l, i ∈ l) ∧ (cnd t l).length ≤ l.length) {vars : List Int} (hv : ∀ v ∈ vars, 0 ≤ v ∧ v < 26) :
 ∀ (n most fuel : Nat) (s : RS) (B : Nat), most + fuel ≤ n → lX p B s → B + 26 * fuel ≤ 8000 → (j3 p cnd vars most fuel s).1.length ≤ most ∧ ∀ a ∈ (j3 p cnd vars most fuel s).1, aDM vars a := by
 intro n
 induction n with
 | zero =>
  intro most fuel s B hn hs hB
  obtain rfl : most = 0 := by omega
  obtain rfl : fuel = 0 := by omega
  cases hg : s.goals with
  | nil => rw [EG hg]; simp
  | cons g rest => rw [zT hg]; simp
 | succ n ih =>
  intro most fuel s B hn hs hB
  cases hg : s.goals with
  | nil =>
   rw [EG hg]
   by_cases hm : most = 0
   · rw [aG hm]; simp
   rw [aE hm]
   cases ha : jI s.σ vars with
   | none => simp
   | some a =>
    have hok := aOI hs.a.gK hs.a.ok (fun v h => ⟨(hv v h).1, by have := (hv v h).2; have := hs.l.1; omega⟩) ha
    simp only
    cases hb : f0 p s.chs.length s.chs with
    | none =>
     simp only [aS, a7, cY, dP, d4]
     exact ⟨by omega, fun x hx => by rw [hx]; exact hok⟩
    | some s' =>
     obtain ⟨h1, h2⟩ := ih (most - 1) fuel s' B (by omega) (hs.back hp (by omega) hb) hB
     simp only [aS, cY]
     refine ⟨by omega, fun x hx => ?_⟩
     rcases hx with rfl | hx
     · exact hok
     · exact h2 x hx
  | cons g rest =>
   rw [zT hg]
   by_cases hf : fuel = 0
   · rw [aG hf]; simp
   rw [aE hf]
   cases hst : iY p cnd s g rest with
   | stop e => simp
   | go s' => exact ih most (fuel - 1) s' (B + 26) (by omega) (hs.step hp (by omega) (by omega) hd hg hst) (by omega)
   | fail =>
    simp only
    cases hb : f0 p s.chs.length s.chs with
    | none => simp
    | some s' => exact ih most (fuel - 1) s' B (by omega) (hs.back hp (by omega) hb) (by omega)
theorem aZ0 {q : List Tm} (hq : ∀ t ∈ q, bD 26 t ∧ t.k = 3) : (∀ v ∈ b7 q [], 0 ≤ v ∧ v < 26) ∧ (b7 q []).length ≤ 26 := by
 have hv : ∀ v ∈ b7 q [], 0 ≤ v ∧ v < 26 := fun v hv => by
  rcases (wE q [] fun t ht => (hq t ht).1.1.2.1).1 hv with h | ⟨t, ht, h⟩
  · cases h
  · exact (hq t ht).1.1.2.2 v h
 refine ⟨hv, ?_⟩
 have hnd := KO q [] (fun t ht => Tm.sS t (hq t ht).1.1.2.1) pZ
 exact AK (N := 26) hnd fun n hn => hv n hn
theorem aUU (p : List Cl) {cnd : Tm → List Nat → List Nat} (hd : ∀ t l, (∀ i ∈ cnd t l, i ∈ l) ∧ (cnd t l).length ≤ l.length) (q : List Tm) (most fuel : Int) : (i9 p cnd q most fuel).1.length ≤ 20 ∧ ∀ a ∈ (i9 p cnd q most fuel).1, a.length ≤ 26 ∧ a.all Tm.valid = true := by
 unfold i9
 split
 · rename_i h
   simp only [jM, cM, bJ] at h
   obtain ⟨hp, hq, h1, h2, h3, h4⟩ := h
   obtain ⟨p1, p2⟩ := Q7 hp
   obtain ⟨q1, q2⟩ := JU hq
   obtain ⟨v1, v2⟩ := aZ0 q2
   obtain ⟨r1, r2⟩ := aN7 p2 p1 hd v1 _ most.toNat fuel.toNat (lT q) 26 (c7 _) (lX.start q2 q1) (by omega)
   unfold tJ
   refine ⟨by omega, fun a ha => ?_⟩
   obtain ⟨h5, h6⟩ := r2 a ha
   exact ⟨by omega, h6⟩
 · simp
end Go.AW
namespace Go.AW
open Go.Proofs.Tryz
theorem zQ.aNR {st st' : aB} {a o : AV} {k : IntKind} {n : Int} (h : Made st a o st') : zQ st [a, .int k n] (.tup [o, .int k n]) st' := by
 obtain ⟨bs, h1, h2, h3, h4⟩ := h
 exact ⟨_, bs, rfl, h1, h2, aPH.2 ⟨o, .int k n, bs, [], rfl, by simp, h3, ⟨rfl, rfl⟩⟩, h4⟩
def UZ (st : aB) (L : List AV) (e : Int) (r : AV) (st' : aB) : Prop := ∃ o, r = .tup [o, .int .i64 e] ∧ Made st (.slice L) o st' ∧ (L = [] → o = .fslice [])
structure sU (st : aB) (L : List AV) (b i : Nat) (os : List AV) (bs : List Nat) (s : aB) : Prop where
 len : os.length = i
 own : cF s (L.take i) os bs
 nd : bs.Nodup
 new : ∀ q ∈ bs, st q = none
 bn : L ≠ [] → b ∉ bs
 cell : L ≠ [] → s b = some (.cells (os.flatMap AV.cells ++ (L.drop i).flatMap AV.cells))
 a8 : ∀ q, q ∉ bs → (L ≠ [] → q ≠ b) → s q = st q
theorem sU.start {st : aB} {L : List AV} {b : Nat} : sU st L b 0 [] [] (aZ st b L) := by
 refine ⟨rfl, by simp [cF], pZ, by simp, by simp, fun h => ?_, fun q _ h => ?_⟩
 · rw [jF h, aB.aP]; try rfl
 · cases L with
   | nil => rfl
   | cons x l => exact pX (h (by simp))
theorem sU.done {st s : aB} {L os : List AV} {b w : Nat} {bs : List Nat} (h : sU st L b L.length os bs s) (hb : L ≠ [] → st b = none) (hw : ∀ e ∈ L, e.width = w) : Made st (.slice L) (a9 w b L) s := by
 obtain ⟨h1, h2, h3, h4, h5, h6, h7⟩ := h
 rw [eS] at h2
 by_cases hL : L = []
 · subst hL
   simp only [cF] at h2
   obtain ⟨rfl, rfl⟩ := h2
   exact ⟨[], pZ, by simp, .inl ⟨rfl, rfl, rfl⟩, fun q hq => h7 q hq (fun h => absurd rfl h)⟩
 · refine ⟨b :: bs, List.nodup_cons.2 ⟨h5 hL, h3⟩, fun q hq => ?_, ?_, fun q hq => ?_⟩
   · rcases cY.1 hq with rfl | hq
     · exact hb hL
     · exact h4 q hq
   · rw [oB hL]
     refine .inr ⟨b, bs, os, w, rfl, rfl, ?_, h2, hw⟩
     have := h6 hL
     rw [kH] at this
     simpa using this
   · simp only [cY, not_or] at hq
     exact h7 q hq.2 fun _ => hq.1
theorem sU.step {st s s2 : aB} {L os B : List AV} {b i : Nat} {bs bx : List Nat} {e r : AV} (h : sU st L b i os bs s) (he : L[i]? = some (.agg [e])) (hB : (L.drop (i + 1)).flatMap AV.cells = B) (m1 : bx.Nodup) (m2 : ∀ q ∈ bx, s q = none) (m3 : cK s2 e r bx) (m4 : ∀ q, q ∉ bx → s2 q = s q) :
 sU st L b (i + 1) (os ++ [.agg [r]]) (bs ++ bx) (s2.aC b (.cells (os.flatMap AV.cells ++ [r] ++ B))) := by
 obtain ⟨h1, h2, h3, h4, h5, h6, h7⟩ := h
 have hi : i < L.length := (gS.1 he).1
 have hL : L ≠ [] := by rintro rfl; simp at hi
 have AQ := cF.hH _ _ _ h2
 have vQ : ∀ q ∈ bs, s q ≠ none := fun q hq => by obtain ⟨cs, e1, _⟩ := AQ.2 q hq; rw [e1]; simp
 have hsb := h6 hL
 have hbx : b ∉ bx := fun hq => by have := m2 b hq; rw [hsb] at this; cases this
 have B4 : ∀ q ∈ bs, q ∉ bx := fun q hq hq' => vQ q hq (m2 q hq')
 have hbs : ∀ q ∈ bs, (s2.aC b (.cells (os.flatMap AV.cells ++ [r] ++ B))) q = s q := fun q hq => by
  rw [aB.aM _ _ (by rintro rfl; exact h5 hL hq), m4 q (B4 q hq)]
 refine ⟨by simp [h1], ?_, tV.2 ⟨h3, m1, fun a ha c hc e => B4 a ha (e ▸ hc)⟩, fun q hq => ?_, fun _ hq => ?_, fun _ => ?_, fun q hq hne => ?_⟩
 · rw [fN, he, G1]
   refine h2.snoc hbs ?_
   refine aTA.2 ⟨r, rfl, cK.a8 _ _ _ (fun x hx => ?_) m3⟩
   exact aB.aM _ _ (by rintro rfl; exact hbx hx)
 · rcases fS.1 hq with hq | hq
   · exact h4 q hq
   · have h8 : q ∉ bs := fun h => B4 q h hq
     have h9 : q ≠ b := by rintro rfl; exact hbx hq
     rw [← h7 q h8 fun _ => h9]
     exact m2 q hq
 · rcases fS.1 hq with hq | hq
   · exact h5 hL hq
   · exact hbx hq
 · rw [aB.aP, hB]
   simp [AV.cells]
 · simp only [fS, not_or] at hq
   rw [aB.aM _ _ (hne hL), m4 q hq.2, h7 q hq.1 hne]
abbrev RX := zi tI_3 (zi zI_3 (zi aX (zi tI_4 (zi zI_4 (zi cD (zi tI_26 (zi zI_26 (zi o0 (zi rQ (zi r7 (zi uF (zi tI_29 (zi zI_29 (zi gT (zi j0 (zi jZ (zi kM (zi tI_31 (zi zI_31 (zi aN (zi bE (zi bF (zi b9 (zi tI_82 (zi zI_82 (zi AI (zi BZ (zi tI_112 zI_112))))))))))))))))))))))))))))
set_option maxHeartbeats 2000000 in
theorem aMS (p : List Cl) {cnd : Tm → List Nat → List Nat} (hc : ∀ (ρ : Int → Int) (t : Tm) (l : List Nat), cnd (bV ρ t) l = cnd t l) (hd : ∀ t l, (∀ i ∈ cnd t l, i ∈ l) ∧ (cnd t l).length ≤ l.length) {idx : Bool} (CT : NF p idx cnd) (zB : idx = false)
 (q : List Tm) (most fuel : Int) (st : aB) :
 aD prog 46 [.slice (p.map bY), .slice (q.map Tm.av), .int .i64 most, .int .i64 fuel, .bool idx] st (UZ st ((i9 p cnd q most fuel).1.map c9) (i9 p cnd q most fuel).2) := by
 have WE := aRG p q most fuel
 have D3 := aUU p hd q most fuel
 refine wF [1000000] 5 func46 ntmps46 rfl rfl ?_
 intro _
 simp -implicitDefEqProofs only [aA, seval]
 refine (WE _).to ?_
 simp -implicitDefEqProofs only [aA, seval]
 refine aQ (fun h => ?_) (fun h => ?_)
 · have hS : i9 p cnd q most fuel = ([], 9) := by
    unfold i9
    rw [aE (by rw [show jM p q most fuel = false from by unfold jM; simpa only [lZ] using h]; simp)]
   rw [hS]
   simp -implicitDefEqProofs only [aA, seval]
   exact ⟨_, rfl, ⟨[], pZ, by simp, .inl ⟨rfl, rfl, rfl⟩, fun _ _ => rfl⟩, fun _ => rfl⟩
 have hok : jM p q most fuel = true := by unfold jM; simpa using h
 have hk := hok
 simp only [jM, cM, bJ] at hk
 obtain ⟨kp, kq, k1, k2, k3, k4⟩ := hk
 obtain ⟨p1, p2⟩ := Q7 kp
 obtain ⟨q1, q2⟩ := JU kq
 have hTT : i9 p cnd q most fuel = iZ p cnd (b7 q []) most.toNat fuel.toNat (nV q) := by
  unfold i9
  rw [aG hok, aP0 (fun c h => (p2 c h).1) hc q2]
 rw [hTT] at D3 ⊢
 clear hTT WE hok h
 obtain ⟨mo, rfl⟩ := tU k1
 obtain ⟨fu, rfl⟩ := tU k3
 rw [l7, l7] at D3 ⊢
 simp -implicitDefEqProofs only [aA, seval]
 refine (aPF p q (fu : Int) idx (by omega) st).mono ?_
 rintro _ s1 ⟨S, c, m, rfl, hA⟩
 simp -implicitDefEqProofs only [aA, seval]
 refine (aSY p2 p1 hc hd CT zB q2 q1 (most := mo) (fuel := fu) (by omega) (by omega) hA).mono ?_
 generalize iZ p cnd (b7 q []) mo fu (nV q) = T at D3 ⊢
 rintro _ _ ⟨b, s2, rfl, rfl, hb, hD⟩
 obtain ⟨L, e⟩ := T
 simp only at D3 hb ⊢
 have hb' : L.map c9 ≠ [] → st b = none := fun h => (hD b).1 (hb h)
 have hun : prog.underlying 26 = some (.slice 82) := by kernel_rfl
 have tA := sW (w := 1) (b := b) (l := L.map c9) hun
 rw [aF] at tA
 have hwd : ∀ e ∈ L.map c9, e.width = 1 := fun e he => by simp only [cU] at he; obtain ⟨t, _, rfl⟩ := he; rfl
 simp -implicitDefEqProofs only [tA, aA, seval]
 refine eL (σ := List AV × List Nat × aB) [1000000] [10, 11, 12, 13, 32, 33] L (fun j x => sU st (L.map c9) b j x.1 x.2.1 x.2.2) (fun j x => [(34, .int .i64 j)]) (fun j x => x.2.2) (by decide +kernel) ⟨([], [], aZ st b (L.map c9)), sU.start, aO.drop (QE hD) (by simp -implicitDefEqProofs only [aA, ↓aU, seval])⟩ (fun j a x hx hlt bU hdr hinv => ?_) (fun x hge hinv => ?_)
 case refine_2 =>
  simp -implicitDefEqProofs only [hge, mZ, aA, seval]
  have a0V : sU st (L.map c9) b (L.map c9).length x.1 x.2.1 x.2.2 := by rw [aF]; exact hinv
  exact ⟨_, rfl, a0V.done hb' hwd, fun h => by rw [h]; try rfl⟩
 obtain ⟨os, bs, s⟩ := x
 simp only at hinv
 have hw := bK (n := (j : Int) + 1)
 have hne : L.map c9 ≠ [] := by intro h; have := n6 List.length h; simp at this; subst this; simp at hlt
 have wN : (L.map c9)[j]? = some (.agg [.slice (a.map Tm.av)]) := by rw [oV, hx]; try rfl
 have hc2 := hinv.cell hne
 have aTJ : ((L.map c9).drop j).flatMap AV.cells = [.slice (a.map Tm.av)] ++ ((L.map c9).drop (j + 1)).flatMap AV.cells := by
  rw [← List.map_drop, hdr, bA, tS, List.map_drop]; try rfl
 rw [aTJ, ← nZ] at hc2
 have hA2 : (os.flatMap AV.cells).length = j * 1 := by
  rw [hinv.own.aH5 (fun q hq => hwd q (lY hq)), d7, aF, lE (by omega)]
 obtain ⟨e1, e2, e3, e4, e5, e6⟩ := N5 (B := ((L.map c9).drop (j + 1)).flatMap AV.cells) hA2
 have hat := xX (P := prog) (b := b) (w := 1) (i := j) o0 (len := (L.map c9).length) (by rw [aF]; omega)
 have htk : List.take 1 (List.drop (j * 1) (os.flatMap AV.cells ++ [.slice (a.map Tm.av)] ++ ((L.map c9).drop (j + 1)).flatMap AV.cells)) = [.slice (a.map Tm.av)] := by
  rw [nZ, List.drop_append, List.drop_of_length_le (by omega), hA2]
  simp
 obtain ⟨hal, hav⟩ := D3.2 a (cW hx)
 rw [oB hne] at tA ⊢
 rw [aF] at hat tA ⊢
 simp -implicitDefEqProofs only [bU, hat, hc2, htk, e5, aA, ↓aU, seval, RX]
 refine (aDO a _ (by omega) fun x hx s => aC9 x s (Tm.aXO (eW.1 hav x hx))).mono ?_
 rintro r s3 ⟨bx, m1, m2, m3, m4⟩
 have hbx : b ∉ bx := fun h => by have := m2 b h; rw [hc2] at this; cases this
 have f1 := (m4 b hbx).trans hc2
 obtain ⟨hqc, hqs, hqa, hqw, hqj⟩ := cK.RY m3
 simp -implicitDefEqProofs only [hat, f1, hqc, hqs, e4, e5, GW, List.set_cons_zero, aA, seval, RX]
 exact ⟨(os ++ [.agg [r]], bs ++ bx, s3.aC b (.cells (os.flatMap AV.cells ++ [r] ++ ((L.map c9).drop (j + 1)).flatMap AV.cells))), hinv.step wN rfl m1 m2 m3 m4, aO.mk (by simp -implicitDefEqProofs only [hw, aA, seval])⟩
theorem aXZ (p : List Cl) (q : List Tm) (most fuel : Int) (st : aB) :
 aD prog 36 [.slice (p.map bY), .slice (q.map Tm.av), .int .i64 most, .int .i64 fuel] st (UZ st ((i9 p (fun _ l => l) q most fuel).1.map c9) (i9 p (fun _ l => l) q most fuel).2) := by
 refine wF [1000000] 4 func36 ntmps36 rfl rfl ?_
 intro _
 simp -implicitDefEqProofs only [aA, seval]
 refine (aMS p (cnd := fun _ l => l) (fun _ _ _ => rfl) (fun _ l => ⟨fun _ h => h, c7 _⟩) (idx := false) (fun _ => rfl) rfl q most fuel st).mono ?_
 intro r s1 h
 obtain ⟨o, rfl, hM, hN⟩ := h
 obtain ⟨hqc, hqs, hqa, hqw, hqj⟩ := cK.RY hM.choose_spec.2.2.1
 simp -implicitDefEqProofs only [hqj, aA, seval]
 exact ⟨_, rfl, hM, hN⟩
theorem aPN (p : List Cl) (q : List Tm) (most fuel : Int) (st : aB) :
 aD prog 36 [.slice (p.map bY), .slice (q.map Tm.av), .int .i64 most, .int .i64 fuel] st (zQ st [.slice ((i9 p (fun _ l => l) q most fuel).1.map c9), .int .i64 (i9 p (fun _ l => l) q most fuel).2]) :=
 (aXZ p q most fuel st).mono fun _ _ ⟨o, h1, h2, _⟩ => by subst h1; exact zQ.aNR h2





end Go.AW
namespace Go.AW
mutual
def AV.deep : AV → AV
 | .fslice es => .slice (j9 es)
 | .slice es => .slice (j9 es)
 | .agg cs => .agg (j9 cs)
 | a => a
def j9 : List AV → List AV
 | [] => []
 | a :: us => a.deep :: j9 us
end
theorem xD : ∀ us : List AV, (j9 us).length = us.length
 | [] => rfl
 | a :: us => by simp [j9, xD us]
theorem XR (a : AV) : a.deep.width = a.width := by cases a <;> simp [AV.deep, AV.width, xD]
theorem aIX : ∀ {us : List AV} {e : AV}, e ∈ j9 us → ∃ x ∈ us, e = x.deep
 | [], e, h => by simp [j9] at h
 | a :: us, e, h => by
  simp only [j9, cY] at h
  rcases h with rfl | h
  · exact ⟨a, by simp, rfl⟩
  · obtain ⟨x, hx, rfl⟩ := aIX h
    exact ⟨x, by simp [hx], rfl⟩
theorem LC {us : List AV} (h : gX us) : gX (j9 us) := by
 obtain ⟨k, hk⟩ := h
 refine ⟨k, fun e he => ?_⟩
 obtain ⟨x, hx, rfl⟩ := aIX he
 rw [XR]; exact hk x hx
section
variable {h : bH} {st : aB}
mutual
theorem VC.deep : ∀ (a : AV) (cs : List Value), VC h st a cs → VC h st a.deep cs
 | .fslice es, cs, x => by
  simp only [AV.deep]
  unfold VC at x ⊢
  rcases x with ⟨x, rfl⟩ | ⟨b, off, e, l, r1, r2, r3, r4⟩
  · exact .inl ⟨x, rfl⟩
  · exact .inr ⟨b, off, es.length, by rw [xD]; exact e, by rw [xD]; exact c7 _, l, r1, r2, LC r3, cX.deep es b off r4⟩
 | .slice es, cs, x => by
  simp only [AV.deep]
  unfold VC at x ⊢
  rcases x with ⟨x, rfl⟩ | ⟨b, off, cap, e, l1, l2, r1, r2, r3, r4⟩
  · exact .inl ⟨x, rfl⟩
  · exact .inr ⟨b, off, cap, by rw [xD]; exact e, by rw [xD]; exact l1, l2, r1, r2, LC r3, cX.deep es b off r4⟩
 | .agg us, cs, x => by simp only [VC, AV.deep] at x ⊢; exact aY.deep us cs x
 | .tup _, cs, x => x
 | .mslice _ _ _ _, cs, x => x
 | .junk, cs, x => x
 | .undef, cs, x => x
 | .int _ _, cs, x => x
 | .bool _, cs, x => x
 | .str _, cs, x => x
 | .nilptr, cs, x => x
 | .ptr _ _, cs, x => x
 | .pptr _, cs, x => x
 | .nilmap, cs, x => x
 | .map _, cs, x => x
 | .func _ _, cs, x => x
 | .raw _, cs, x => x
 | .eslice, cs, x => x
theorem aY.deep : ∀ (us : List AV) (cs : List Value), aY h st us cs → aY h st (j9 us) cs
 | [], _, x => x
 | a :: us, cs, x => by
  simp only [aY, j9] at x ⊢
  obtain ⟨c, r, e, x1, x2⟩ := x
  exact ⟨c, r, e, VC.deep a [c] x1, aY.deep us r x2⟩
theorem cX.deep : ∀ (us : List AV) (b off : Nat), cX h st b off us → cX h st b off (j9 us)
 | [], _, _, x => x
 | a :: us, b, off, x => by
  simp only [cX, j9, XR] at x ⊢
  obtain ⟨⟨cs, x1, x2, x3⟩, x4⟩ := x
  exact ⟨⟨cs, x1, x2, VC.deep a cs x3⟩, cX.deep us b _ x4⟩
end
theorem aR.deep {a : AV} {v : Value} (x : aR h st a v) : aR h st a.deep v := by
 cases a
 case fslice => exact ⟨x.1, VC.deep _ _ x.2⟩
 case slice => exact ⟨x.1, VC.deep _ _ x.2⟩
 case agg => exact ⟨x.1, VC.deep _ _ x.2⟩
 all_goals exact x
end
end Go.AW
namespace Go.AW
open Go.Proofs.Tryz
mutual
theorem Tm.aXD : ∀ t : Tm, t.av.deep = t.av
 | .mk k n s ts => by rw [aV]; simp only [AV.deep, j9, O8 ts]
theorem O8 : ∀ ts : List Tm, j9 (ts.map Tm.av) = ts.map Tm.av
 | [] => rfl
 | t :: ts => by simp only [bA, j9, Tm.aXD t, O8 ts]
end
theorem aML (l : List Tm) : k9 Tm.same l l = true := (QH (fun x _ y => Tm.HC x y)).2 rfl
abbrev a0T := zi tI_4 (zi zI_4 (zi cD (zi tI_31 (zi zI_31 (zi aN (zi bE (zi bF (zi b9 (zi tI_82 (zi zI_82 (zi AI BZ)))))))))))
theorem aYJ (l l' : List Tm) (st : aB) : aD prog 66 [c9 l, c9 l'] st (fun r st' => r = .bool (k9 Tm.same l l') ∧ st' = st) := by
 refine wF [1000000] 2 func66 ntmps66 rfl rfl ?_
 intro _
 simp -implicitDefEqProofs only [c9, aA, seval, a0T]
 refine (aKX l l' 99 _ fun x _ y s => O9 x y s).to ?_
 simp -implicitDefEqProofs only [aA, seval]
abbrev I1 := zi tI_3 (zi zI_3 (zi aX (zi tI_4 (zi zI_4 (zi cD (zi tI_26 (zi zI_26 (zi o0 (zi rQ (zi r7 (zi uF (zi tI_82 (zi zI_82 (zi AI BZ))))))))))))))
theorem aLO (L : List (List Tm)) (st : aB) : aD prog 38 [.slice (L.map c9), .slice (L.map c9)] st (fun r st' => r = .bool true ∧ st' = st) := by
 refine wF [1000000] 2 func38 ntmps38 rfl rfl ?_
 simp only [eG, AV.fits, eM, aF]
 intro ⟨⟨hl, _⟩, _⟩
 simp -implicitDefEqProofs only [bM, aF, aA, seval, I1]
 refine eL (σ := Unit) [1000000] [0, 1] L (fun _ _ => True) (fun i _ => [(4, .bool false), (5, .int .i64 i)]) (fun _ _ => st) (by decide +kernel) ⟨(), trivial, aO.mk (by simp -implicitDefEqProofs only [aA, ↓aU, seval])⟩ (fun i x _ hx hlt bU hdr _ => ?_) (fun _ hge _ => ?_)
 case refine_2 =>
  simp -implicitDefEqProofs only [hge, aF, aA, seval, I1]
 have hw := bK (n := (i : Int) + 1)
 have hat : dJ prog 26 (.slice (L.map c9)) (.int .i64 (i : Int)) = some (.pptr (c9 x)) := bL (av := c9) o0 hx rfl
 simp -implicitDefEqProofs only [bU, aF, aA, seval, I1]
 refine wX [(0, 1), (1, 1), (2, 1), (3, 1), (4, 1), (5, 1), (6, 1), (7, 1), (8, 0), (9, 1)] [0, 1, 2, 3, 4, 5, 6, 7, 9] dX mixed rfl gB ?_
 simp -implicitDefEqProofs only [hat, aA, seval, I1]
 refine (aYJ x x _).to ?_
 rw [aML]
 simp -implicitDefEqProofs only [hw, aA, seval]
 refine ⟨gB, ?_⟩
 exact ⟨(), aO.mk (by simp -implicitDefEqProofs only [aA, seval])⟩

def oO (s : ByteArray) (a : Int) (p : UInt8 → Bool) : Bool := decide (0 ≤ a) && (decide (a < (s.size : Int)) && (match (sb s)[a.toNat]? with | some x => p x | none => false))
def vY (s : ByteArray) (a : Int) (c : Nat) : Bool := oO s a fun x => decide (x.toNat = c)
def xB (s : ByteArray) (a : Int) : Bool := oO s a fun x => decide (48 ≤ x.toNat) && decide (x.toNat ≤ 57)
def wM (s : ByteArray) (a : Int) : Bool := oO s a letter
theorem vG {s : ByteArray} {n : Nat} (h : n < s.size) : ∃ x, (sb s)[n]? = some x := ⟨_, fH (by rw [cJ]; exact h)⟩
abbrev VM := zi tI_3 (zi zI_3 (zi aX (zi tI_4 (zi zI_4 (zi cD (zi tI_5 (zi zI_5 (zi kI (zi tI_9 (zi zI_9 cH))))))))))
theorem aPO (s : ByteArray) (a : Int) (c : Nat) (st : aB) : aD prog 166 [.str s, .int .i64 a, .int .u8 (c : Int)] st (fun r st' => r = .bool (vY s a c) ∧ st' = st) := by
 by_cases h : 0 ≤ a ∧ a < (s.size : Int)
 · obtain ⟨n, rfl⟩ := tU h.1
   obtain ⟨x, hx⟩ := vG (s := s) (n := n) (by omega)
   have hix := sL (P := prog) (t := 9) cH hx
   have hv : vY s (n : Int) c = decide (x.toNat = c) := by simp only [vY, oO, l7, hx, gD h.1, gD h.2, eT]
   rw [hv]
   refine wF [1000000] 3 func166 ntmps166 rfl rfl ?_
   intro _
   repeat' (first
    | (simp -implicitDefEqProofs only [*, aA, seval, VM])
    | (refine cT (fun h => ?_) (fun h => ?_))
    | (refine aQ (fun h => ?_) (fun h => ?_)))
   all_goals simp_all
   omega
 · by_cases h1 : 0 ≤ a
   · have h2 : ¬ a < (s.size : Int) := fun h2 => h ⟨h1, h2⟩
     have hv : vY s a c = false := by simp only [vY, oO, fJ h2, gN, tW]
     rw [hv]
     clear hv h
     refine wF [1000000] 3 func166 ntmps166 rfl rfl ?_
     intro _
     simp -implicitDefEqProofs only [h1, h2, bM, bX, aA, seval, VM]
   · have hv : vY s a c = false := by simp only [vY, oO, fJ h1, gN]
     rw [hv]
     clear hv h
     refine wF [1000000] 3 func166 ntmps166 rfl rfl ?_
     intro _
     simp -implicitDefEqProofs only [h1, bX, aA, seval]
abbrev aLW := zi tI_3 (zi zI_3 (zi aX (zi tI_4 (zi zI_4 (zi cD (zi tI_5 (zi zI_5 (zi kI (zi tI_9 (zi zI_9 cH))))))))))
theorem aYF (s : ByteArray) (a : Int) (st : aB) : aD prog 222 [.str s, .int .i64 a] st (fun r st' => r = .bool (xB s a) ∧ st' = st) := by
 by_cases h : 0 ≤ a ∧ a < (s.size : Int)
 · obtain ⟨n, rfl⟩ := tU h.1
   obtain ⟨x, hx⟩ := vG (s := s) (n := n) (by omega)
   have hix := sL (P := prog) (t := 9) cH hx
   have hv : xB s (n : Int) = (decide (48 ≤ x.toNat) && decide (x.toNat ≤ 57)) := by simp only [xB, oO, l7, hx, gD h.1, gD h.2, eT]
   rw [hv]
   refine wF [1000000] 2 func222 ntmps222 rfl rfl ?_
   intro _
   repeat' (first
    | (simp -implicitDefEqProofs only [*, aA, seval, aLW])
    | (refine cT (fun h => ?_) (fun h => ?_))
    | (refine aQ (fun h => ?_) (fun h => ?_)))
   all_goals clear hix hv hx
   all_goals (congr 1; rw [vO]; simp only [cM, bJ, dH, oW, jD, false_iff, not_and] at *; omega)
 · by_cases h1 : 0 ≤ a
   · have h2 : ¬ a < (s.size : Int) := fun h2 => h ⟨h1, h2⟩
     have hv : xB s a = false := by simp only [xB, oO, fJ h2, gN, tW]
     rw [hv]
     clear hv h
     refine wF [1000000] 2 func222 ntmps222 rfl rfl ?_
     intro _
     simp -implicitDefEqProofs only [h1, h2, bM, bX, aA, seval, aLW]
   · have hv : xB s a = false := by simp only [xB, oO, fJ h1, gN]
     rw [hv]
     clear hv h
     refine wF [1000000] 2 func222 ntmps222 rfl rfl ?_
     intro _
     simp -implicitDefEqProofs only [h1, bX, aA, seval]
abbrev RV := zi tI_3 (zi zI_3 (zi aX (zi tI_4 (zi zI_4 (zi cD (zi tI_5 (zi zI_5 (zi kI (zi tI_9 (zi zI_9 cH))))))))))
theorem aQ6 (s : ByteArray) (a : Int) (st : aB) : aD prog 238 [.str s, .int .i64 a] st (fun r st' => r = .bool (wM s a) ∧ st' = st) := by
 by_cases h : 0 ≤ a ∧ a < (s.size : Int)
 · obtain ⟨n, rfl⟩ := tU h.1
   obtain ⟨x, hx⟩ := vG (s := s) (n := n) (by omega)
   have hix := sL (P := prog) (t := 9) cH hx
   have hv : wM s (n : Int) = (decide (97 ≤ x.toNat) && decide (x.toNat ≤ 122)) := by simp only [wM, oO, letter, l7, hx, gD h.1, gD h.2, eT]
   rw [hv]
   refine wF [1000000] 2 func238 ntmps238 rfl rfl ?_
   intro _
   repeat' (first
    | (simp -implicitDefEqProofs only [*, aA, seval, RV])
    | (refine cT (fun h => ?_) (fun h => ?_))
    | (refine aQ (fun h => ?_) (fun h => ?_)))
   all_goals clear hix hv hx
   all_goals (congr 1; rw [vO]; simp only [cM, bJ, dH, oW, jD, false_iff, not_and] at *; omega)
 · by_cases h1 : 0 ≤ a
   · have h2 : ¬ a < (s.size : Int) := fun h2 => h ⟨h1, h2⟩
     have hv : wM s a = false := by simp only [wM, oO, fJ h2, gN, tW]
     rw [hv]
     clear hv h
     refine wF [1000000] 2 func238 ntmps238 rfl rfl ?_
     intro _
     simp -implicitDefEqProofs only [h1, h2, bM, bX, aA, seval, RV]
   · have hv : wM s a = false := by simp only [wM, oO, fJ h1, gN]
     rw [hv]
     clear hv h
     refine wF [1000000] 2 func238 ntmps238 rfl rfl ?_
     intro _
     simp -implicitDefEqProofs only [h1, bX, aA, seval]
end Go.AW
namespace Go.AW
abbrev ba (l : List UInt8) : ByteArray := ⟨⟨l⟩⟩
def dN (x : UInt8) : Bool := decide (48 ≤ x.toNat) && decide (x.toNat ≤ 57)
def rA (x : UInt8) : Bool := decide (65 ≤ x.toNat) && decide (x.toNat ≤ 90)
def cO (l : List UInt8) (n c : Nat) : Bool := match l[n]? with | some x => decide (x.toNat = c) | none => false
def fR (l : List UInt8) (n : Nat) (p : UInt8 → Bool) : Bool := match l[n]? with | some x => p x | none => false
def m6 (l : List UInt8) : Nat := l.foldl (fun n x => n * 10 + (x.toNat - 48)) 0
def g8 (l : List UInt8) : Nat × Bool := if l.length = 0 ∨ (cO l 0 48 = true ∧ 1 < l.length) then (0, false) else (m6 l, true)
def tF (l : List UInt8) (a : Nat) : Option (Int × Nat) :=
 let f := if cO l a 45 then a + 1 else a
 let t := ((l.drop f).takeWhile dN).take 4
 if (g8 t).2 = false ∨ (a < f ∧ (g8 t).1 = 0) ∨ 999 < (g8 t).1 then none else some (if a < f then -((g8 t).1 : Int) else ((g8 t).1 : Int), f + t.length)
def jY (l : List UInt8) (b g : ByteArray) : ByteArray := if l.take g.size = sb g ∧ b.size < g.size then g else b
def nQ (l : List UInt8) (a : Nat) : Option (ByteArray × Nat) :=
 let t := (l.drop a).takeWhile letter
 if 6 < t.length then none else if 0 < t.length then some (ba t, a + t.length)
 else let b := iU.foldl (jY (l.drop a)) ⟨#[]⟩
  if b.size = 0 then none else some (b, a + b.size)
theorem WA {l : List UInt8} {i : Nat} {x : UInt8} (h : l[i]? = some x) : m6 (l.take (i + 1)) = m6 (l.take i) * 10 + (x.toNat - 48) := by
 simp [m6, fN, h, List.foldl_append]
theorem aBF : ∀ (l : List UInt8) (n : Nat), (∀ x ∈ l, dN x = true) → l.foldl (fun n x => n * 10 + (x.toNat - 48)) n + 1 ≤ (n + 1) * 10 ^ l.length
 | [], n, _ => by simp
 | x :: l, n, h => by
  have hx := h x (by simp)
  simp only [dN, cM, bJ] at hx
  have := aBF l (n * 10 + (x.toNat - 48)) (fun y hy => h y (by simp [hy]))
  simp only [z9, aS, Nat.pow_succ]
  refine nF this ?_
  rw [Nat.mul_comm (10 ^ l.length) 10, ← Nat.mul_assoc]
  exact sN _ (by omega)
theorem MA {l : List UInt8} (h : ∀ x ∈ l, dN x = true) : m6 l < 10 ^ l.length := Nat.lt_of_succ_le (by have := aBF l 0 h; simpa [m6] using this)
theorem aNP (s : ByteArray) (a b : Nat) : sb (s.extract a b) = ((sb s).drop a).take (b - a) := by
 simp only [sb, ByteArray.data_extract, Array.toList_extract, List.extract_eq_take_drop]
theorem aUV {g : ByteArray} (h : g.size = 0) : g = ⟨#[]⟩ := by
 obtain ⟨⟨l⟩⟩ := g
 have : l.length = 0 := h
 rw [List.length_eq_zero_iff.1 this]
theorem SG (s : ByteArray) : ba (sb s) = s := rfl
theorem E6 (s : ByteArray) (a b : Nat) : s.extract a b = ba (((sb s).drop a).take (b - a)) := by rw [← aNP]
theorem nP {l : List UInt8} {n c : Nat} (h : cO l n c = true) : n < l.length := by
 unfold cO at h
 rcases kT n l.length with h1 | h1
 · exact h1
 · rw [xU h1] at h; cases h
theorem a0Y {l : List UInt8} {n : Nat} {p : UInt8 → Bool} (h : fR l n p = true) : n < l.length := by
 unfold fR at h
 rcases kT n l.length with h1 | h1
 · exact h1
 · rw [xU h1] at h; cases h
theorem rT {l : List UInt8} {n c : Nat} {x : UInt8} (h : l[n]? = some x) : cO l n c = decide (x.toNat = c) := by simp only [cO, h]
theorem vL {l : List UInt8} {n : Nat} {p : UInt8 → Bool} {x : UInt8} (h : l[n]? = some x) : fR l n p = p x := by simp only [fR, h]
theorem aB6 {l : List UInt8} (h : ∀ x ∈ l, dN x = true) (hl : l.length ≤ 4) : (g8 l).1 < 10000 := by
 unfold g8
 split
 · simp
 · exact vM (MA h) (nF (RJ (by omega) hl) (by decide))
theorem NP {p : UInt8 → Bool} {l : List UInt8} {i : Nat} (hi : i ≤ (l.takeWhile p).length) (h : fR l i p = true) : i < (l.takeWhile p).length := by
 induction l generalizing i with
 | nil => simp [fR] at h
 | cons x l ih =>
  cases i with
  | zero => simp [fR] at h; simp [G2, h]
  | succ i =>
   rw [G2] at hi ⊢
   split at hi
   · rename_i hx
     rw [aG hx]
     simp only [aS] at hi ⊢
     have := ih (i := i) (by omega) (by simpa [fR] using h)
     omega
   · simp at hi
theorem M3 {p : UInt8 → Bool} {l : List UInt8} {i : Nat} (hi : i ≤ (l.takeWhile p).length) (h : fR l i p = false) : i = (l.takeWhile p).length := by
 induction l generalizing i with
 | nil => simp at hi; simp [hi]
 | cons x l ih =>
  cases i with
  | zero => simp [fR] at h; simp [G2, h]
  | succ i =>
   rw [G2] at hi ⊢
   split at hi
   · rename_i hx
     rw [aG hx]
     simp only [aS] at hi ⊢
     have := ih (i := i) (by omega) (by simpa [fR] using h)
     omega
   · simp at hi
theorem U3 (p : UInt8 → Bool) (l : List UInt8) : l.take (l.takeWhile p).length = l.takeWhile p := by
 induction l with
 | nil => rfl
 | cons x l ih =>
  rw [G2]
  split
  · simp [ih]
  · rfl
theorem CG (l : List UInt8) (a i : Nat) (p : UInt8 → Bool) : fR (l.drop a) i p = fR l (a + i) p := by simp only [fR, RB]
theorem aLG {p : UInt8 → Bool} {l : List UInt8} : ∀ x ∈ l.takeWhile p, p x = true := by
 induction l with
 | nil => simp
 | cons y l ih =>
  rw [G2]
  split
  · rename_i h; intro x hx; simp only [cY] at hx; rcases hx with rfl | hx; exact h; exact ih x hx
  · simp
theorem aB1 {p : UInt8 → Bool} {l : List UInt8} {k : Nat} (hk : k ≤ (l.takeWhile p).length) : l.take k = (l.takeWhile p).take k := by
 rw [← U3 p l, xQ, lE hk]
theorem GD (p : UInt8 → Bool) (l : List UInt8) : (l.takeWhile p).length ≤ l.length := (List.takeWhile_sublist p).length_le
theorem Z5 (L : List UInt8) : ∀ (gs : List ByteArray) (b : ByteArray), b.size ≤ 3 → (∀ g ∈ gs, g.size ≤ 3) → (gs.foldl (jY L) b).size ≤ 3
 | [], b, h, _ => h
 | g :: gs, b, h, hg => by
  rw [z9]
  refine Z5 L gs _ ?_ fun x hx => hg x (by simp [hx])
  unfold jY
  split
  · exact hg g (by simp)
  · exact h
theorem aEV : ∀ g ∈ iU, g.size ≤ 3 := by decide
theorem aPT (L : List UInt8) (i : Nat) : ((iU.take i).foldl (jY L) ⟨#[]⟩).size ≤ 3 := Z5 L _ _ (by decide) fun g hg => aEV g (lY hg)
end Go.AW
namespace Go.AW
open Go.Proofs.Tryz
theorem EP {φ : AF} {y z : Operand} {s : ByteArray} {k m : Nat} (h : φ.eval y = .int .i64 (k : Int)) (h' : φ.eval z = .int .i64 (m : Int)) (hk : k ≤ m) (hm : m ≤ s.size) : iG prog φ 9 (.str s) (some y) (some z) none = some (.str (s.extract k m)) := by
 unfold iG pM
 rw [aE (by simp [rP])]
 simp only [show prog.underlying 9 = some .string from cH, dY, h, h']
 rw [aG (by omega)]
 simp only [l7]
 rw [aG (by omega)]
 try simp
theorem PP (s : ByteArray) (n : Nat) (p : UInt8 → Bool) : oO s (n : Int) p = fR (sb s) n p := by
 unfold oO fR
 rw [l7]
 by_cases h : n < s.size
 · rw [gD (by omega : (0 : Int) ≤ (n : Int)), gD (by omega : (n : Int) < (s.size : Int))]; try rfl
 · rw [fJ (by omega : ¬ (n : Int) < (s.size : Int)), xU (by rw [cJ]; omega)]; simp
theorem kE (s : ByteArray) (n c : Nat) (st : aB) : aD prog 166 [.str s, .int .i64 (n : Int), .int .u8 (c : Int)] st (fun r st' => r = .bool (cO (sb s) n c) ∧ st' = st) := by
 have h := aPO s n c st
 rwa [show vY s n c = cO (sb s) n c from PP s n _] at h
theorem z8 (s : ByteArray) (n : Nat) (st : aB) : aD prog 222 [.str s, .int .i64 (n : Int)] st (fun r st' => r = .bool (fR (sb s) n dN) ∧ st' = st) := by
 have h := aYF s n st
 rwa [show xB s n = fR (sb s) n dN from PP s n _] at h
theorem SB (s : ByteArray) (n : Nat) (st : aB) : aD prog 238 [.str s, .int .i64 (n : Int)] st (fun r st' => r = .bool (fR (sb s) n letter) ∧ st' = st) := by
 have h := aQ6 s n st
 rwa [show wM s n = fR (sb s) n letter from PP s n _] at h
theorem aGJ {n k : Nat} (h : n ≤ 1048576) (hk : k ≤ 1048576) : IntKind.wrap .i64 ((n : Int) + (k : Int)) = ((n + k : Nat) : Int) := by
 rw [wrap64 (by omega) (by omega)]; try rfl
abbrev AP := zi tI_3 (zi zI_3 (zi aX (zi tI_4 (zi zI_4 (zi cD (zi tI_5 (zi zI_5 (zi kI (zi tI_9 (zi zI_9 cH))))))))))
theorem aKT (s : ByteArray) (hd : ∀ x ∈ sb s, dN x = true) (hl : s.size ≤ 4) (st : aB) : aD prog 237 [.str s] st (fun r st' => r = .tup [.int .i64 ((g8 (sb s)).1 : Int), .bool (g8 (sb s)).2] ∧ st' = st) := by
 refine wF [1000000] 1 func237 ntmps237 rfl rfl ?_
 intro _
 by_cases hs : s.size = 0
 · have e : g8 (sb s) = (0, false) := by unfold g8; rw [aG (Or.inl (by rw [cJ]; exact hs))]
   rw [e]
   simp -implicitDefEqProofs only [hs, aA, ↓aU, seval, AP]
 have BN : (0 : Int) < (s.size : Int) := by omega
 obtain ⟨x0, hx0⟩ := vG (s := s) (n := 0) (by omega)
 have hix := sL (P := prog) (t := 9) cH hx0
 rw [show ((0 : Nat) : Int) = 0 from rfl] at hix
 have hdx := hd x0 (cW hx0)
 simp only [dN, cM, bJ] at hdx
 have h45 : ((x0.toNat : Int) = 45) = False := cI (by omega)
 have h0 : ((s.size : Int) = 0) = False := cI (by omega)
 have h17 : ((17 : Int) < (s.size : Int)) = False := cI (by omega)
 simp -implicitDefEqProofs only [BN, hix, h45, h0, h17, bM, bX, aA, seval, AP]
 by_cases h48 : x0.toNat = 48
 case pos =>
  have CD : ((x0.toNat : Int) = 48) = True := dA (by omega)
  by_cases h1 : 1 < s.size
  case pos =>
   have h1' : ((1 : Int) < (s.size : Int)) = True := dA (by omega)
   have e : g8 (sb s) = (0, false) := by unfold g8; rw [aG (Or.inr ⟨by rw [rT hx0, h48]; try rfl, by rw [cJ]; exact h1⟩)]
   rw [e]
   simp -implicitDefEqProofs only [CD, h1', bM, aA, ↓aU, seval, AP]
  have h1' : ((1 : Int) < (s.size : Int)) = False := cI (by omega)
  have hnd : g8 (sb s) = (m6 (sb s), true) := by unfold g8; rw [aE (by rw [cJ]; rintro (h | ⟨_, h⟩) <;> omega)]
  simp -implicitDefEqProofs only [CD, h1', bM, bX, aA, seval, AP]
  rw [hnd]
  refine gZ (σ := Nat) [1000000] [0, 4] (fun i => i ≤ s.size) (fun i => [(5, .int .i64 (m6 ((sb s).take i) : Int)), (6, .int .i64 (i : Int))]) (fun _ => st) (fun i => s.size - i) (by decide +kernel) ⟨0, by omega, aO.mk (by simp -implicitDefEqProofs only [kU, aA, ↓aU, seval]; rfl)⟩ ?_
  intro i hi
  have hb : m6 ((sb s).take i) < 10000 := vM (MA fun x hx => hd x (lY hx)) (nF (RJ (by omega) (by rw [d7]; omega : ((sb s).take i).length ≤ 4)) (by decide))
  simp -implicitDefEqProofs only [aA, seval, AP]
  refine aQ (fun h5 => ?_) (fun h5 => ?_)
  case refine_2 =>
   simp only [dH] at h5
   obtain rfl : i = s.size := by omega
   rw [mR (by rw [cJ]; omega)]
   simp -implicitDefEqProofs only [aA, seval]
  simp only [bJ] at h5
  obtain ⟨c, hc⟩ := vG (s := s) (n := i) (by omega)
  have hic := sL (P := prog) (t := 9) cH hc
  have hdc := hd c (cW hc)
  simp only [dN, cM, bJ] at hdc
  have c48 : ((c.toNat : Int) < 48) = False := cI (by omega)
  have c57 : ((57 : Int) < (c.toNat : Int)) = False := cI (by omega)
  have hw0 := aGJ (n := i) (k := 1) (by omega) (by omega)
  rw [show ((1 : Nat) : Int) = 1 from rfl] at hw0
  have hw1 := bK (n := (m6 ((sb s).take i) : Int) * 10)
  have hw2 : IntKind.wrap .u8 ((c.toNat : Int) - 48) = ((c.toNat - 48 : Nat) : Int) := by rw [IntKind.wrap_u8]; omega
  have hw3 := bK (n := ((c.toNat - 48 : Nat) : Int))
  have hw4 := bK (n := (m6 ((sb s).take i) : Int) * 10 + ((c.toNat - 48 : Nat) : Int))
  have iJ := WA hc
  simp -implicitDefEqProofs only [hic, c48, c57, hw1, hw2, bX, aA, seval]
  refine ⟨i + 1, by omega, by omega, aO.mk ?_⟩
  rw [iJ]
  simp -implicitDefEqProofs only [hw0, hw3, hw4, aA, seval]
  rfl
 have CD : ((x0.toNat : Int) = 48) = False := cI (by omega)
 have hnd : g8 (sb s) = (m6 (sb s), true) := by unfold g8; rw [aE (by rw [cJ, rT hx0]; rintro (h | ⟨h, _⟩); omega; exact h48 (of_decide_eq_true h))]
 simp -implicitDefEqProofs only [CD, bX, aA, seval]
 rw [hnd]
 refine gZ (σ := Nat) [1000000] [0, 4] (fun i => i ≤ s.size) (fun i => [(5, .int .i64 (m6 ((sb s).take i) : Int)), (6, .int .i64 (i : Int))]) (fun _ => st) (fun i => s.size - i) (by decide +kernel) ⟨0, by omega, aO.mk (by simp -implicitDefEqProofs only [kU, aA, ↓aU, seval]; rfl)⟩ ?_
 intro i hi
 have hb : m6 ((sb s).take i) < 10000 := vM (MA fun x hx => hd x (lY hx)) (nF (RJ (by omega) (by rw [d7]; omega : ((sb s).take i).length ≤ 4)) (by decide))
 simp -implicitDefEqProofs only [aA, seval, AP]
 refine aQ (fun h5 => ?_) (fun h5 => ?_)
 case refine_2 =>
  simp only [dH] at h5
  obtain rfl : i = s.size := by omega
  rw [mR (by rw [cJ]; omega)]
  simp -implicitDefEqProofs only [aA, seval]
 simp only [bJ] at h5
 obtain ⟨c, hc⟩ := vG (s := s) (n := i) (by omega)
 have hic := sL (P := prog) (t := 9) cH hc
 have hdc := hd c (cW hc)
 simp only [dN, cM, bJ] at hdc
 have c48 : ((c.toNat : Int) < 48) = False := cI (by omega)
 have c57 : ((57 : Int) < (c.toNat : Int)) = False := cI (by omega)
 have hw0 := aGJ (n := i) (k := 1) (by omega) (by omega)
 rw [show ((1 : Nat) : Int) = 1 from rfl] at hw0
 have hw1 := bK (n := (m6 ((sb s).take i) : Int) * 10)
 have hw2 : IntKind.wrap .u8 ((c.toNat : Int) - 48) = ((c.toNat - 48 : Nat) : Int) := by rw [IntKind.wrap_u8]; omega
 have hw3 := bK (n := ((c.toNat - 48 : Nat) : Int))
 have hw4 := bK (n := (m6 ((sb s).take i) : Int) * 10 + ((c.toNat - 48 : Nat) : Int))
 have iJ := WA hc
 simp -implicitDefEqProofs only [hic, c48, c57, hw1, hw2, bX, aA, seval]
 refine ⟨i + 1, by omega, by omega, aO.mk ?_⟩
 rw [iJ]
 simp -implicitDefEqProofs only [hw0, hw3, hw4, aA, seval]
 rfl
theorem nB {x : Int} {m : Nat} (h : x = (m : Int)) (hm : m ≤ 1099511627776) : IntKind.wrap .i64 x = (m : Int) := by rw [wrap64 (by omega) (by omega)]; exact h
abbrev ET : Tm := .mk 0 0 ⟨#[]⟩ []
def zJ (o : Option (Int × Nat)) : AV := match o with | some (n, e) => .tup [(Tm.mk 2 n ⟨#[]⟩ []).av, .int .i64 (e : Int)] | none => .tup [ET.av, .int .i64 (-1)]
abbrev xZ := zi tI_3 (zi zI_3 (zi aX (zi tI_4 (zi zI_4 (zi cD (zi tI_5 (zi zI_5 (zi kI (zi tI_8 (zi zI_8 (zi wC (zi xI (zi wD (zi xN (zi w5 (zi tI_9 (zi zI_9 (zi cH (zi tI_63 (zi zI_63 (zi bP (zi bQ (zi bT (zi bS bR))))))))))))))))))))))))
set_option maxHeartbeats 1000000 in
theorem aOQ (s : ByteArray) (hs : s.size ≤ 1000) (a : Nat) (ha : a ≤ s.size) (st : aB) : aD prog 223 [.str s, .int .i64 (a : Int)] st (fun r st' => r = zJ (tF (sb s) a) ∧ st' = st) := by
 refine aD.done ?_
 refine wF [1000000] 2 func223 ntmps223 rfl rfl ?_
 intro _
 simp -implicitDefEqProofs only [aA, seval, xZ]
 intro b hb
 refine (kE s a 45 _).to ?_
 obtain ⟨f1, hf1⟩ : ∃ f, f = a + 1 := ⟨_, rfl⟩
 have hw1 := nB (x := (a : Int) + 1) (m := f1) (by omega) (by omega)
 simp -implicitDefEqProofs only [aA, seval]
 refine aQ (fun h1 => ?_) (fun h1 => ?_)
 · have hf := nP h1
   rw [cJ] at hf
   simp -implicitDefEqProofs only [hw1, aA, seval]
   obtain ⟨f, rfl⟩ : ∃ f, f = f1 := ⟨_, rfl⟩
   replace hf : f ≤ s.size := by omega
   refine gZ (σ := Nat) [1000000] [0, 1, 4, 5, 7] (fun j => f ≤ j ∧ j ≤ f + 4 ∧ j - f ≤ (((sb s).drop f).takeWhile dN).length) (fun j => [(6, .int .i64 (j : Int))]) (fun _ => st.aC b (.cells [.int .i64 0, .int .i64 0, .str ⟨#[]⟩, .fslice []])) (fun j => f + 4 - j) (by decide +kernel) ⟨f, ⟨by omega, by omega, by omega⟩, aO.mk (by simp -implicitDefEqProofs only [aA, seval])⟩ ?_
   rintro j ⟨hj1, hj4, hj⟩
   have hfi : j ≤ s.size := by have := GD dN ((sb s).drop f); rw [nH, cJ] at this; omega
   simp -implicitDefEqProofs only [aA, seval]
   refine (z8 s j _).to ?_
   have hw4 := bK (n := (f : Int) + 4)
   have FW := bK (n := (j : Int) + 1)
   simp -implicitDefEqProofs only [aA, seval]
   refine cT (fun h5 => ?_) (fun h5 => ?_)
   simp -implicitDefEqProofs only [h5, hw4, aA, seval]
   refine aQ (fun h6 => ?_) (fun h6 => ?_)
   case' refine_1.refine_1 =>
    rw [show j = f + (j - f) by omega, ← CG] at h5
    simp only [bJ] at h6
    simp -implicitDefEqProofs only [FW, aA, seval]
    exact ⟨j + 1, by omega, ⟨by omega, by omega, by have := NP hj h5; omega⟩, aO.mk (by simp -implicitDefEqProofs only [aA, seval] <;> rfl)⟩
   all_goals
    have ht : (((sb s).drop f).takeWhile dN).take 4 = ((sb s).drop f).take (j - f) := by
     rw [aB1 hj]
     rcases kT (j - f) 4 with h7 | h7
     · have h8 : j - f = (((sb s).drop f).takeWhile dN).length := by
        refine M3 hj ?_
        rw [CG, show f + (j - f) = j by omega]
        first | exact h5 | (simp only [dH] at h6; omega)
       rw [h8, eS, mR (by omega)]
     · rw [show j - f = 4 by omega]
    have hex : s.extract f j = ba ((((sb s).drop f).takeWhile dN).take 4) := by rw [E6, ht]
    have hln : ((((sb s).drop f).takeWhile dN).take 4).length = j - f := by rw [ht, d7, nH, cJ]; omega
    have hdg : ∀ x ∈ (((sb s).drop f).takeWhile dN).take 4, dN x = true := fun x hx => aLG x (lY hx)
    have hsl := fun (φ : AF) (y z : Operand) (h : φ.eval y = .int .i64 (f : Int)) (h' : φ.eval z = .int .i64 (j : Int)) => EP (s := s) h h' hj1 hfi
    rw [hex] at hsl
    have hrd : tF (sb s) a = if (g8 ((((sb s).drop f).takeWhile dN).take 4)).2 = false ∨ (a < f ∧ (g8 ((((sb s).drop f).takeWhile dN).take 4)).1 = 0) ∨ 999 < (g8 ((((sb s).drop f).takeWhile dN).take 4)).1 then none else some (if a < f then -((g8 ((((sb s).drop f).takeWhile dN).take 4)).1 : Int) else ((g8 ((((sb s).drop f).takeWhile dN).take 4)).1 : Int), f + ((((sb s).drop f).takeWhile dN).take 4).length) := by
     unfold tF
     simp only [h1, ↓reduceIte, ← hf1]
    rw [hrd]
    clear hrd
    generalize (((sb s).drop f).takeWhile dN).take 4 = t at *
    simp -implicitDefEqProofs only [hsl, h5, aA, seval]
    refine (aKT (ba t) hdg (by show t.length ≤ 4; omega) _).to ?_
    have hn := aB6 hdg (by omega)
    rw [show sb (ba t) = t from rfl]
    generalize g8 t = nd at *
    obtain ⟨n, ok⟩ := nd
    simp only at hn ⊢
    have hw5 := bK (n := 0 - (n : Int))
    have hw6 := bK (n := -(n : Int))
    have hfa : ((a : Int) < (f : Int)) = True := dA (by omega)
    have hfn : (a < f) = True := dA (by omega)
    cases ok
    case false =>
     simp -implicitDefEqProofs only [aK, aA, seval, xZ]
     refine ⟨?_, (aL.refl _).aC hb⟩
     rw [aG (Or.inl trivial)]
     simp only [zJ, aV, kA, kF, jP, kW, mG, bA, aW, aW]
    by_cases hz : (n : Int) = 0
    case' pos => have hz' : n = 0 := by omega
    case' neg => have hz' : n ≠ 0 := by omega
    all_goals
     by_cases h9 : (999 : Int) < (n : Int)
     case' pos => have h9' : 999 < n := by omega
     case' neg => have h9' : ¬ 999 < n := by omega
     all_goals try (exfalso; omega)
     all_goals
      simp -implicitDefEqProofs only [aK, hw5, hz, h9, hfa, aA, seval, xZ]
      try
       refine (BJ _ _).to ?_
       simp -implicitDefEqProofs only [aK, aA, seval, xZ]
      refine ⟨?_, (aL.refl _).aC hb⟩
      first
       | rw [aG (by omega)]
       | rw [aE (by omega), aG (by omega), show f + t.length = j by omega]
       | rw [aE (by omega), aE (by omega), show f + t.length = j by omega]
      simp only [zJ, aV, kA, kF, jP, kW, p9, mG, bA, aW, aW, Int.zero_sub]
 · skip
   simp -implicitDefEqProofs only [aA, seval]
   obtain ⟨f, rfl⟩ : ∃ f, f = a := ⟨_, rfl⟩
   have hf := ha
   refine gZ (σ := Nat) [1000000] [0, 1, 4, 5, 7] (fun j => f ≤ j ∧ j ≤ f + 4 ∧ j - f ≤ (((sb s).drop f).takeWhile dN).length) (fun j => [(6, .int .i64 (j : Int))]) (fun _ => st.aC b (.cells [.int .i64 0, .int .i64 0, .str ⟨#[]⟩, .fslice []])) (fun j => f + 4 - j) (by decide +kernel) ⟨f, ⟨by omega, by omega, by omega⟩, aO.mk (by simp -implicitDefEqProofs only [aA, seval])⟩ ?_
   rintro j ⟨hj1, hj4, hj⟩
   have hfi : j ≤ s.size := by have := GD dN ((sb s).drop f); rw [nH, cJ] at this; omega
   simp -implicitDefEqProofs only [aA, seval]
   refine (z8 s j _).to ?_
   have hw4 := bK (n := (f : Int) + 4)
   have FW := bK (n := (j : Int) + 1)
   simp -implicitDefEqProofs only [aA, seval]
   refine cT (fun h5 => ?_) (fun h5 => ?_)
   simp -implicitDefEqProofs only [h5, hw4, aA, seval]
   refine aQ (fun h6 => ?_) (fun h6 => ?_)
   case' refine_1.refine_1 =>
    rw [show j = f + (j - f) by omega, ← CG] at h5
    simp only [bJ] at h6
    simp -implicitDefEqProofs only [FW, aA, seval]
    exact ⟨j + 1, by omega, ⟨by omega, by omega, by have := NP hj h5; omega⟩, aO.mk (by simp -implicitDefEqProofs only [aA, seval] <;> rfl)⟩
   all_goals
    have ht : (((sb s).drop f).takeWhile dN).take 4 = ((sb s).drop f).take (j - f) := by
     rw [aB1 hj]
     rcases kT (j - f) 4 with h7 | h7
     · have h8 : j - f = (((sb s).drop f).takeWhile dN).length := by
        refine M3 hj ?_
        rw [CG, show f + (j - f) = j by omega]
        first | exact h5 | (simp only [dH] at h6; omega)
       rw [h8, eS, mR (by omega)]
     · rw [show j - f = 4 by omega]
    have hex : s.extract f j = ba ((((sb s).drop f).takeWhile dN).take 4) := by rw [E6, ht]
    have hln : ((((sb s).drop f).takeWhile dN).take 4).length = j - f := by rw [ht, d7, nH, cJ]; omega
    have hdg : ∀ x ∈ (((sb s).drop f).takeWhile dN).take 4, dN x = true := fun x hx => aLG x (lY hx)
    have hsl := fun (φ : AF) (y z : Operand) (h : φ.eval y = .int .i64 (f : Int)) (h' : φ.eval z = .int .i64 (j : Int)) => EP (s := s) h h' hj1 hfi
    rw [hex] at hsl
    have hrd : tF (sb s) f = if (g8 ((((sb s).drop f).takeWhile dN).take 4)).2 = false ∨ (f < f ∧ (g8 ((((sb s).drop f).takeWhile dN).take 4)).1 = 0) ∨ 999 < (g8 ((((sb s).drop f).takeWhile dN).take 4)).1 then none else some (if f < f then -((g8 ((((sb s).drop f).takeWhile dN).take 4)).1 : Int) else ((g8 ((((sb s).drop f).takeWhile dN).take 4)).1 : Int), f + ((((sb s).drop f).takeWhile dN).take 4).length) := by
     unfold tF
     simp only [h1, ↓reduceIte, jD]
    rw [hrd]
    clear hrd
    generalize (((sb s).drop f).takeWhile dN).take 4 = t at *
    simp -implicitDefEqProofs only [hsl, h5, aA, seval]
    refine (aKT (ba t) hdg (by show t.length ≤ 4; omega) _).to ?_
    have hn := aB6 hdg (by omega)
    rw [show sb (ba t) = t from rfl]
    generalize g8 t = nd at *
    obtain ⟨n, ok⟩ := nd
    simp only at hn ⊢
    have hw5 := bK (n := 0 - (n : Int))
    have hw6 := bK (n := -(n : Int))
    have hfa : ((f : Int) < (f : Int)) = False := cI (by omega)
    have hfn : (f < f) = False := cI (by omega)
    cases ok
    case false =>
     simp -implicitDefEqProofs only [aK, aA, seval, xZ]
     refine ⟨?_, (aL.refl _).aC hb⟩
     rw [aG (Or.inl trivial)]
     simp only [zJ, aV, kA, kF, jP, kW, mG, bA, aW, aW]
    by_cases hz : (n : Int) = 0
    case' pos => have hz' : n = 0 := by omega
    case' neg => have hz' : n ≠ 0 := by omega
    all_goals
     by_cases h9 : (999 : Int) < (n : Int)
     case' pos => have h9' : 999 < n := by omega
     case' neg => have h9' : ¬ 999 < n := by omega
     all_goals try (exfalso; omega)
     all_goals
      simp -implicitDefEqProofs only [aK, hz, h9, hfa, aA, seval, xZ]
      try
       refine (BJ _ _).to ?_
       simp -implicitDefEqProofs only [aK, aA, seval, xZ]
      refine ⟨?_, (aL.refl _).aC hb⟩
      first
       | rw [aG (by omega)]
       | rw [aE (by omega), aG (by omega), show f + t.length = j by omega]
       | rw [aE (by omega), aE (by omega), show f + t.length = j by omega]
      simp only [zJ, aV, kA, kF, jP, kW, p9, mG, bA, aW, aW]
def zS (o : Option (ByteArray × Nat)) : AV := match o with | some (b, e) => .tup [.str b, .int .i64 (e : Int)] | none => .tup [.str ⟨#[]⟩, .int .i64 (-1)]
theorem aO8 (st : aB) : aD prog 231 [] st (fun r st' => r = .slice (iU.map .str) ∧ st' = st) := aD.done ((aKE st).mono (by rintro _ _ ⟨rfl, rfl⟩; exact ⟨rfl, aL.refl _⟩))
abbrev yU := zi tI_3 (zi zI_3 (zi aX (zi tI_9 (zi zI_9 (zi cH (zi tI_125 (zi zI_125 (zi iS (zi lR (zi lQ mF))))))))))
set_option maxHeartbeats 1000000 in
theorem QI (s : ByteArray) (hs : s.size ≤ 1000) (a : Nat) (ha : a ≤ s.size) (st : aB) : aD prog 224 [.str s, .int .i64 (a : Int)] st (fun r st' => r = zS (nQ (sb s) a) ∧ st' = st) := by
 refine wF [1000000] 2 func224 ntmps224 rfl rfl ?_
 intro _
 simp -implicitDefEqProofs only [aA, seval]
 refine gZ (σ := Nat) [1000000] [0, 1, 4, 5] (fun j => a ≤ j ∧ j - a ≤ (((sb s).drop a).takeWhile letter).length) (fun j => [(6, .int .i64 (j : Int))]) (fun _ => st) (fun j => s.size - j) (by decide +kernel) ⟨a, ⟨by omega, by omega⟩, aO.mk (by simp -implicitDefEqProofs only [aA, seval])⟩ ?_
 rintro j ⟨hj1, hj⟩
 have hfi : j ≤ s.size := by have := GD letter ((sb s).drop a); rw [nH, cJ] at this; omega
 simp -implicitDefEqProofs only [aA, seval]
 refine (SB s j _).to ?_
 have hw6 := bK (n := (a : Int) + 6)
 have FW := bK (n := (j : Int) + 1)
 simp -implicitDefEqProofs only [aA, seval]
 refine aQ (fun h5 => ?_) (fun h5 => ?_)
 · have hlt := a0Y h5
   rw [show j = a + (j - a) by omega, ← CG] at h5
   simp -implicitDefEqProofs only [FW, aA, seval]
   exact ⟨j + 1, by rw [cJ] at hlt; omega, ⟨by omega, by have := NP hj h5; omega⟩, aO.mk (by simp -implicitDefEqProofs only [aA, seval] <;> rfl)⟩
 rw [show j = a + (j - a) by omega, ← CG] at h5
 have he := M3 hj h5
 have hex : s.extract a j = ba (((sb s).drop a).takeWhile letter) := by rw [E6, he, U3]
 have hsl := fun (φ : AF) (y z : Operand) (h : φ.eval y = .int .i64 (a : Int)) (h' : φ.eval z = .int .i64 (j : Int)) => EP (s := s) h h' hj1 hfi
 rw [hex] at hsl
 simp -implicitDefEqProofs only [hw6, aA, seval]
 refine aQ (fun h6 => ?_) (fun h6 => ?_)
 · simp only [bJ] at h6
   simp -implicitDefEqProofs only [aA, seval]
   unfold nQ
   rw [aG (by omega)]
   try rfl
 simp only [dH] at h6
 simp -implicitDefEqProofs only [aA, seval]
 refine aQ (fun h7 => ?_) (fun h7 => ?_)
 · simp only [bJ] at h7
   simp -implicitDefEqProofs only [hsl, aA, seval]
   unfold nQ
   rw [aE (by omega), aG (by omega), ← he, show a + (j - a) = j by omega]
   try rfl
 simp only [dH] at h7
 obtain rfl : j = a := by omega
 have hrd : nQ (sb s) j = if (iU.foldl (jY ((sb s).drop j)) ⟨#[]⟩).size = 0 then none else some (iU.foldl (jY ((sb s).drop j)) ⟨#[]⟩, j + (iU.foldl (jY ((sb s).drop j)) ⟨#[]⟩).size) := by
  unfold nQ
  rw [aE (by omega), aE (by omega)]
 rw [hrd]
 clear hrd
 simp -implicitDefEqProofs only [aA, seval]
 refine (aO8 _).to ?_
 simp -implicitDefEqProofs only [aA, seval]
 refine gZ (σ := Nat) [1000000] [0, 1, 4, 5, 8] (fun i => i ≤ iU.length) (fun i => [(7, .str ((iU.take i).foldl (jY ((sb s).drop j)) ⟨#[]⟩)), (9, .int .i64 (i : Int))]) (fun _ => st) (fun i => iU.length - i) (by decide +kernel) ⟨0, by omega, aO.mk (by simp -implicitDefEqProofs only [kU, List.foldl_nil, aA, ↓aU, seval])⟩ ?_
 intro i hi
 have hbl := aPT ((sb s).drop j) i
 simp -implicitDefEqProofs only [aF, aA, seval, yU]
 refine aQ (fun h8 => ?_) (fun h8 => ?_)
 case refine_2 =>
  simp only [dH] at h8
  rw [show i = iU.length by omega, eS] at hbl ⊢
  generalize iU.foldl (jY ((sb s).drop j)) ⟨#[]⟩ = g at *
  have hw7 := bK (n := (j : Int) + (g.size : Int))
  simp -implicitDefEqProofs only [aA, seval]
  refine aQ (fun h9 => ?_) (fun h9 => ?_)
  · simp only [bJ] at h9
    subst h9
    simp -implicitDefEqProofs only [aA, seval]
    rfl
  · simp only [dH] at h9
    simp -implicitDefEqProofs only [hw7, aA, seval, yU]
    rw [aE fun h => h9 (aUV h)]
    try rfl
 simp only [bJ] at h8
 obtain ⟨g, hg⟩ : ∃ g, iU[i]? = some g := ⟨_, fH (by omega)⟩
 have hat := bL (av := AV.str) iS hg rfl
 have hgl := aEV g (cW hg)
 have h15 : iU.length = 15 := rfl
 obtain ⟨m, hm⟩ : ∃ m, m = j + g.size := ⟨_, rfl⟩
 have hwn := nB (x := (j : Int) + (g.size : Int)) (m := m) (by omega) (by omega)
 have hw1 := bK (n := (i : Int) + 1)
 have iJ : (iU.take (i + 1)).foldl (jY ((sb s).drop j)) ⟨#[]⟩ = jY ((sb s).drop j) ((iU.take i).foldl (jY ((sb s).drop j)) ⟨#[]⟩) g := by
  rw [fN, hg, List.foldl_append]; try rfl
 generalize hB : (iU.take i).foldl (jY ((sb s).drop j)) ⟨#[]⟩ = B at *
 simp -implicitDefEqProofs only [hat, aA, seval, yU]
 refine wP [(0, 1), (1, 1), (2, 1), (3, 1), (4, 1), (5, 1), (6, 1), (7, 1), (8, 1), (9, 1), (10, 1), (11, 1), (12, 1), (13, 1), (14, 1), (15, 1), (16, 2), (17, 1), (18, 1), (19, 1), (20, 1), (21, 1), (22, 1), (23, 1), (24, 1)] [0, 1, 2, 3, 4, 5, 6, 7, 8, 9, 10, 11, 12, 13, 14, 15, 16, 17, 18, 19, 20, 21, 22, 23, 24] mixed ?_
 by_cases hle : m ≤ s.size
 · have hex : s.extract j m = ba (((sb s).drop j).take g.size) := by rw [E6, hm, Nat.add_sub_cancel_left]
   have hsl := fun (φ : AF) (y z : Operand) (h : φ.eval y = .int .i64 (j : Int)) (h' : φ.eval z = .int .i64 (m : Int)) => EP (s := s) h h' (by omega) hle
   rw [hex] at hsl
   have EY : ((m : Int) ≤ (s.size : Int)) = True := dA (by omega)
   by_cases heq : ba (((sb s).drop j).take g.size) = g
   · by_cases hlt : B.size < g.size
     · have bU : ((B.size : Int) < (g.size : Int)) = True := dA (by omega)
       have hb : jY ((sb s).drop j) B g = g := by unfold jY; rw [aG ⟨n6 sb heq, hlt⟩]
       simp -implicitDefEqProofs only [hat, hwn, hw1, EY, hsl, heq, bU, bM, aA, seval, yU]
       exact ⟨i + 1, by omega, by omega, aO.mk (by simp -implicitDefEqProofs only [iJ, hb, aA, seval])⟩
     · have bU : ((B.size : Int) < (g.size : Int)) = False := cI (by omega)
       have hb : jY ((sb s).drop j) B g = B := by unfold jY; rw [aE fun h => hlt h.2]
       simp -implicitDefEqProofs only [hat, hwn, hw1, EY, hsl, heq, bU, bM, bX, aA, seval, yU]
       exact ⟨i + 1, by omega, by omega, aO.mk (by simp -implicitDefEqProofs only [iJ, hb, aA, seval])⟩
   · have hb : jY ((sb s).drop j) B g = B := by unfold jY; rw [aE fun h => heq (by rw [h.1])]
     simp -implicitDefEqProofs only [hat, hwn, hw1, EY, hsl, heq, bM, bX, aA, seval, yU]
     exact ⟨i + 1, by omega, by omega, aO.mk (by simp -implicitDefEqProofs only [iJ, hb, aA, seval])⟩
 · have EY : ((m : Int) ≤ (s.size : Int)) = False := cI (by omega)
   have hb : jY ((sb s).drop j) B g = B := by
    unfold jY
    rw [aE]
    rintro ⟨h, _⟩
    have := n6 List.length h
    rw [d7, nH, cJ, cJ] at this
    omega
   simp -implicitDefEqProofs only [hwn, hw1, EY, bX, aA, seval, yU]
   exact ⟨i + 1, by omega, by omega, aO.mk (by simp -implicitDefEqProofs only [iJ, hb, aA, seval])⟩
end Go.AW
namespace Go.AW
def iI (nm : ByteArray) : Bool := decide (nm = ⟨#[105, 115]⟩) || decide (nm = ⟨#[109, 111, 100]⟩)
def pD (l : List UInt8) (a : Nat) : Option (ByteArray × Nat) :=
 let f := if cO l a 32 then a + 1 else a
 if l.length ≤ f then none else match nQ l f with
 | none => none
 | some (nm, e) => if dL nm = 0 then none else if iI nm ≠ decide (a < f) ∨ (iI nm = true ∧ cO l e 32 = false) then none else some (nm, if iI nm then e + 1 else e)
abbrev kK := Nat → Option (Tm × Nat)
def p6 (R : kK) (l : List UInt8) (c1 c2 : Nat) : Nat → Nat → List Tm → Option (List Tm × Nat)
 | 0, _, _ => none
 | n + 1, a, acc => match R a with
  | none => none
  | some (t, e) => if (cO l e c1 || cO l e c2) = true then some (acc ++ [t], e) else if cO l e 44 then p6 R l c1 c2 n (e + 1) (acc ++ [t]) else none
abbrev nI (nm : ByteArray) (ts : List Tm) : Tm := .mk 3 0 nm ts
def u7 : List Tm → Tm → Tm
 | [], t => t
 | x :: xs, t => nI ⟨#[46]⟩ [x, u7 xs t]
def zR (R : kK) (l : List UInt8) (a : Nat) : Option (Tm × Nat) :=
 match p6 R l 93 124 (l.length + 1) a [] with
 | none => none
 | some (ts, e) => if cO l e 93 then some (u7 ts (nI ⟨#[91, 93]⟩ []), e + 1) else match R (e + 1) with
  | none => none
  | some (t, e') => if cO l e' 93 then some (u7 ts t, e' + 1) else none
def KC (l : List UInt8) (a : Nat) : Nat := match l[a]? with | some x => x.toNat | none => 0
def mE (R : Nat → kK) (l : List UInt8) (d a : Nat) : Option (Tm × Nat) :=
 if d < 1 ∨ l.length ≤ a then none
 else if cO l a 40 then match R d (a + 1) with
  | none => none
  | some (t, e) => if cO l e 41 then some (t, e + 1) else none
 else if (cO l a 91 && !cO l (a + 1) 93) = true then zR (R (d - 1)) l (a + 1)
 else if fR l a rA then some (vr ((KC l a - 65 : Nat) : Int), a + 1)
 else if (fR l a dN || (cO l a 45 && fR l (a + 1) dN)) = true then match tF l a with
  | none => none
  | some (n, e) => some (.mk 2 n ⟨#[]⟩ [], e)
 else match nQ l a with
  | none => none
  | some (nm, e) => if cO l e 40 = false then some (nI nm [], e) else match p6 (R (d - 1)) l 41 41 (l.length + 1) (e + 1) [] with
   | none => none
   | some (ts, e') => some (nI nm ts, e' + 1)
def BS (R : kK) (l : List UInt8) (lev : Nat) : Nat → Tm → Nat → Option (Tm × Nat)
 | 0, _, _ => none
 | n + 1, left, e => match pD l e with
  | none => some (left, e)
  | some (nm, e1) => if dL nm ≠ lev then some (left, e) else match R e1 with
   | none => none
   | some (rt, e2) => if lev = 3 then some (nI nm [left, rt], e2) else BS R l lev n (nI nm [left, rt]) e2
def rd (l : List UInt8) : Nat → Nat → Nat → Nat → Option (Tm × Nat)
 | 0, _, _, _ => none
 | n + 1, d, a, 0 => mE (fun d a => rd l n d a 3) l d a
 | n + 1, d, a, lv + 1 => match rd l n d a lv with
  | none => none
  | some (t, e) => BS (fun a => rd l n d a lv) l (lv + 1) (l.length + 1) t e
theorem aQN {l : List UInt8} {a c : Nat} (ha : a ≤ l.length) : a ≤ (if cO l a c = true then a + 1 else a) ∧ (if cO l a c = true then a + 1 else a) ≤ l.length := by
 split
 · have := nP ‹_›; omega
 · omega
theorem aOX {l : List UInt8} {a : Nat} {x : Int} {e : Nat} (ha : a ≤ l.length) (h : tF l a = some (x, e)) : a < e ∧ e ≤ l.length := by
 unfold tF at h
 have hf := aQN (c := 45) ha
 simp only at h
 generalize (if cO l a 45 = true then a + 1 else a) = f at h hf
 split at h
 · cases h
 rename_i h1
 simp only [Option.some.injEq, Prod.mk.injEq] at h
 obtain ⟨_, rfl⟩ := h
 have h2 : (((l.drop f).takeWhile dN).take 4).length ≠ 0 := by
  intro h0
  refine h1 (Or.inl ?_)
  unfold g8
  rw [aG (Or.inl h0)]
 have h3 := GD dN (l.drop f)
 rw [nH] at h3
 have h4 : (((l.drop f).takeWhile dN).take 4).length ≤ ((l.drop f).takeWhile dN).length := by rw [d7]; omega
 omega
theorem XX (L : List UInt8) : ∀ (gs : List ByteArray) (b : ByteArray), b.size ≤ L.length → (gs.foldl (jY L) b).size ≤ L.length
 | [], b, h => h
 | g :: gs, b, h => by
  rw [z9]
  refine XX L gs _ ?_
  unfold jY
  split
  · rename_i h1
    have := n6 List.length h1.1
    rw [d7, cJ] at this
    omega
  · exact h
theorem F4 {l : List UInt8} {a : Nat} {x : ByteArray} {e : Nat} (ha : a ≤ l.length) (h : nQ l a = some (x, e)) : a < e ∧ e ≤ l.length := by
 unfold nQ at h
 simp only at h
 have h3 := GD letter (l.drop a)
 rw [nH] at h3
 split at h
 · cases h
 split at h
 · cases h; omega
 split at h
 · cases h
 · have := XX (l.drop a) iU ⟨#[]⟩ (jE _)
   rw [nH] at this
   cases h; omega
theorem RQ {l : List UInt8} {a : Nat} {x : ByteArray} {e : Nat} (h : pD l a = some (x, e)) : a < e ∧ e ≤ l.length ∧ dL x ≠ 0 := by
 unfold pD at h
 have h6 : a ≤ (if cO l a 32 = true then a + 1 else a) := by split <;> omega
 simp only at h
 generalize (if cO l a 32 = true then a + 1 else a) = f at h h6
 split at h
 · cases h
 rename_i h1
 split at h
 · cases h
 rename_i nm e0 h2
 have h3 := F4 (by omega) h2
 split at h
 · cases h
 rename_i h7
 split at h
 · cases h
 rename_i h4
 simp only [Option.some.injEq, Prod.mk.injEq] at h
 obtain ⟨rfl, rfl⟩ := h
 split
 · rename_i h5
   have : cO l e0 32 = true := by
    cases hb : cO l e0 32 with
    | true => rfl
    | false => exact absurd (Or.inr ⟨h5, hb⟩) h4
   have := nP this
   exact ⟨by omega, by omega, h7⟩
 · exact ⟨by omega, by omega, h7⟩
def wL (R : kK) (l : List UInt8) : Prop := ∀ a t e, a ≤ l.length → R a = some (t, e) → a < e ∧ e ≤ l.length ∧ Dn t
theorem HQ {R : kK} {l : List UInt8} {c1 c2 : Nat} (hR : wL R l) : ∀ (n a : Nat) (acc : List Tm) (ts : List Tm) (e : Nat), a ≤ l.length → (∀ x ∈ acc, Dn x) → p6 R l c1 c2 n a acc = some (ts, e) → a < e ∧ e < l.length ∧ (∀ x ∈ ts, Dn x) ∧ ts.length ≤ acc.length + n ∧ (cO l e c1 = true ∨ cO l e c2 = true) := by
 intro n
 induction n with
 | zero => intro a acc ts e _ _ h; cases h
 | succ n ih =>
  intro a acc ts e ha nM h
  unfold p6 at h
  split at h
  · cases h
  rename_i t e1 h1
  obtain ⟨h2, h3, h4⟩ := hR a t e1 ha h1
  have DJ : ∀ x ∈ acc ++ [t], Dn x := by intro x hx; rw [fS] at hx; rcases hx with hx | hx; exact nM x hx; rw [K7] at hx; subst hx; exact h4
  split at h
  · rename_i h5
    cases h
    rw [q9] at h5
    refine ⟨h2, ?_, DJ, by rw [dQ, RM]; omega, h5⟩
    rcases h5 with h5 | h5 <;> exact nP h5
  split at h
  · rename_i h5
    have h6 := nP h5
    obtain ⟨g1, g2, g3, g4, g5⟩ := ih (e1 + 1) _ ts e (by omega) DJ h
    rw [dQ, RM] at g4
    exact ⟨by omega, g2, g3, by omega, g5⟩
  · cases h
theorem NZ {nm : ByteArray} {ts : List Tm} (hl : ts.length ≤ 1048576) (h : ∀ x ∈ ts, Dn x) : Dn (nI nm ts) := wU (by decide) hl h
theorem N1 {nm : ByteArray} {x y : Tm} (hx : Dn x) (hy : Dn y) : Dn (nI nm [x, y]) := NZ (by simp) (by intro z hz; simp only [cY, dP, d4] at hz; rcases hz with rfl | rfl; exact hx; exact hy)
theorem WB {nm : ByteArray} : Dn (nI nm []) := NZ (by simp) (by simp)
theorem OU {t : Tm} (ht : Dn t) : ∀ ts : List Tm, (∀ x ∈ ts, Dn x) → Dn (u7 ts t)
 | [], _ => ht
 | x :: xs, h => N1 (h x (by simp)) (OU ht xs fun y hy => h y (by simp [hy]))
theorem aN3 {R : kK} {l : List UInt8} (hR : wL R l) (hl : l.length ≤ 1000) {a : Nat} {t : Tm} {e : Nat} (ha : a ≤ l.length) (h : zR R l a = some (t, e)) : a < e ∧ e ≤ l.length ∧ Dn t := by
 unfold zR at h
 split at h
 · cases h
 rename_i ts e1 h1
 obtain ⟨g1, g2, g3, g4, g5⟩ := HQ hR _ _ _ _ _ ha (by simp) h1
 split at h
 · cases h
   exact ⟨by omega, by omega, OU WB _ g3⟩
 split at h
 · cases h
 rename_i t2 e2 h2
 obtain ⟨k1, k2, k3⟩ := hR _ _ _ (by omega) h2
 split at h
 · rename_i h5
   cases h
   have := nP h5
   exact ⟨by omega, by omega, OU k3 _ g3⟩
 · cases h
theorem aMO {R : Nat → kK} {l : List UInt8} (hR : ∀ d, wL (R d) l) (hl : l.length ≤ 1000) {d a : Nat} {t : Tm} {e : Nat} (h : mE R l d a = some (t, e)) : a < e ∧ e ≤ l.length ∧ Dn t := by
 unfold mE at h
 split at h
 · cases h
 rename_i h0
 have ha : a < l.length := by omega
 split at h
 · split at h
   · cases h
   rename_i t1 e1 h1
   obtain ⟨k1, k2, k3⟩ := hR _ _ _ _ (by omega) h1
   split at h
   · rename_i h5
     cases h
     have := nP h5
     exact ⟨by omega, by omega, k3⟩
   · cases h
 split at h
 · obtain ⟨k1, k2, k3⟩ := aN3 (hR _) hl (by omega) h
   exact ⟨by omega, k2, k3⟩
 split at h
 · cases h
   exact ⟨by omega, by omega, LF _⟩
 split at h
 · split at h
   · cases h
   rename_i n e1 h1
   cases h
   have := aOX (by omega) h1
   exact ⟨this.1, this.2, wU (by decide) (by simp) (by simp)⟩
 split at h
 · cases h
 rename_i nm e1 h1
 have g := F4 (by omega) h1
 split at h
 · cases h
   exact ⟨g.1, g.2, WB⟩
 split at h
 · cases h
 rename_i h6 _ ts e2 h2
 have h7 : cO l e1 40 = true := by simpa using h6
 have h8 := nP h7
 obtain ⟨k1, k2, k3, k4, k5⟩ := HQ (hR _) _ _ _ _ _ (by omega) (by simp) h2
 cases h
 refine ⟨by omega, by omega, NZ ?_ k3⟩
 rw [a7] at k4
 omega
theorem aV1 {R : kK} {l : List UInt8} (hR : wL R l) (lev : Nat) : ∀ (n : Nat) (t0 : Tm) (e0 : Nat) (t : Tm) (e : Nat), e0 ≤ l.length → Dn t0 → BS R l lev n t0 e0 = some (t, e) → e0 ≤ e ∧ e ≤ l.length ∧ Dn t := by
 intro n
 induction n with
 | zero => intro t0 e0 t e _ _ h; cases h
 | succ n ih =>
  intro t0 e0 t e h0 ht h
  unfold BS at h
  split at h
  · cases h; exact ⟨by omega, h0, ht⟩
  rename_i nm e1 h1
  have g := RQ h1
  split at h
  · cases h; exact ⟨by omega, h0, ht⟩
  split at h
  · cases h
  rename_i rt e2 h2
  obtain ⟨k1, k2, k3⟩ := hR _ _ _ g.2.1 h2
  split at h
  · cases h; exact ⟨by omega, k2, N1 ht k3⟩
  · obtain ⟨q1, q2, q3⟩ := ih _ _ _ _ k2 (N1 ht k3) h
    exact ⟨by omega, q2, q3⟩
theorem zU {l : List UInt8} (hl : l.length ≤ 1000) : ∀ (n d lv : Nat), wL (fun a => rd l n d a lv) l := by
 intro n
 induction n with
 | zero => intro d lv a t e _ h; cases h
 | succ n ih =>
  intro d lv a t e ha h
  cases lv with
  | zero =>
   simp only [rd] at h
   exact aMO (fun d => ih d 3) hl h
  | succ lv =>
   simp only [rd] at h
   split at h
   · cases h
   rename_i t1 e1 h1
   obtain ⟨k1, k2, k3⟩ := ih d lv a t1 e1 ha h1
   obtain ⟨q1, q2, q3⟩ := aV1 (ih d lv) _ _ _ _ _ _ k2 k3 h
   exact ⟨by omega, q2, q3⟩
end Go.AW
namespace Go.AW
open Go.Proofs.Tryz
def kN (a : Int) : AV := .tup [ET.av, .int .i64 (-1 - a)]
abbrev aWE := zi tI_3 (zi zI_3 (zi aX (zi tI_63 (zi zI_63 (zi bP (zi bQ (zi bT (zi bS bR))))))))
theorem A9 (a : Nat) (ha : a ≤ 1048576) (st : aB) : aD prog 220 [.int .i64 (a : Int)] st (fun r st' => r = kN a ∧ st' = st) := by
 refine aD.done ?_
 refine wF [1000000] 1 func220 ntmps220 rfl rfl ?_
 intro _
 have hw := bK (n := -1 - (a : Int))
 simp -implicitDefEqProofs only [aK, hw, aA, seval, aWE]
 intro b hb
 exact ⟨by simp only [kN, aV, kA, kF, jP, kW, mG, bA, aW, aW], (aL.refl _).aC hb⟩
def M7 (a : Nat) (o : Option (ByteArray × Nat)) : AV := match o with | some (b, e) => .tup [.str b, .int .i64 (e : Int)] | none => .tup [.str ⟨#[]⟩, .int .i64 (a : Int)]
abbrev A1 := zi tI_3 (zi zI_3 (zi aX (zi tI_4 (zi zI_4 (zi cD (zi tI_5 (zi zI_5 (zi kI (zi tI_8 (zi zI_8 (zi wC (zi xI (zi wD (zi xN (zi w5 (zi tI_9 (zi zI_9 cH)))))))))))))))))
set_option maxHeartbeats 1000000 in
theorem aUL (s : ByteArray) (hs : s.size ≤ 1000) (a : Nat) (ha : a ≤ s.size) (st : aB) : aD prog 205 [.str s, .int .i64 (a : Int)] st (fun r st' => r = M7 a (pD (sb s) a) ∧ st' = st) := by
 refine wF [1000000] 2 func205 ntmps205 rfl rfl ?_
 intro _
 simp -implicitDefEqProofs only [aA, seval]
 refine (kE s a 32 _).to ?_
 obtain ⟨f1, hf1⟩ : ∃ f, f = a + 1 := ⟨_, rfl⟩
 have hw1 := nB (x := (a : Int) + 1) (m := f1) (by omega) (by omega)
 simp -implicitDefEqProofs only [aA, seval]
 refine aQ (fun h1 => ?_) (fun h1 => ?_)
 · have hf := nP h1
   rw [cJ] at hf
   simp -implicitDefEqProofs only [hw1, aA, seval, A1]
   obtain ⟨f, rfl⟩ : ∃ f, f = f1 := ⟨_, rfl⟩
   replace hf : f ≤ s.size := by omega
   by_cases hlen : s.size ≤ f
   case pos =>
    have hrd : pD (sb s) a = none := by
     unfold pD
     simp only [h1, ↓reduceIte, ← hf1]
     rw [aG (by rw [cJ]; exact hlen)]
    rw [hrd]
    have cV : ((s.size : Int) ≤ (f : Int)) = True := dA (by omega)
    simp -implicitDefEqProofs only [cV, bM, aA, seval]
    rfl
   have cV : ((s.size : Int) ≤ (f : Int)) = False := cI (by omega)
   have hrd : pD (sb s) a = match nQ (sb s) f with
    | none => none
    | some (nm, e) => if dL nm = 0 then none else if iI nm ≠ decide (a < f) ∨ (iI nm = true ∧ cO (sb s) e 32 = false) then none else some (nm, if iI nm then e + 1 else e) := by
    unfold pD
    simp only [h1, ↓reduceIte, ← hf1]
    rw [aE (by rw [cJ]; exact hlen)]
    try rfl
   rw [hrd]
   clear hrd
   have hfa : ((a : Int) < (f : Int)) = True := dA (by omega)
   have hfn : (a < f) = True := dA (by omega)
   simp -implicitDefEqProofs only [cV, bX, aA, seval]
   refine (QI s hs f (by omega) _).to ?_
   cases hn : nQ (sb s) f with
   | none =>
    simp only [zS]
    simp -implicitDefEqProofs only [bM, aA, seval]
    rfl
   | some p =>
    obtain ⟨nm, e⟩ := p
    have he := F4 (by rw [cJ]; omega) hn
    rw [cJ] at he
    simp only [zS]
    have he0 : ((e : Int) < 0) = False := cI (by omega)
    simp -implicitDefEqProofs only [he0, bX, aA, seval]
    refine (uL nm _).to ?_
    by_cases hl0 : dL nm = 0
    case pos =>
     rw [aG hl0]
     have pC : ((dL nm : Int) = 0) = True := dA (by omega)
     simp -implicitDefEqProofs only [pC, bM, aA, seval]
     rfl
    rw [aE hl0]
    have pC : ((dL nm : Int) = 0) = False := cI (by omega)
    simp only [hfn, bM]
    have hw1 := bK (n := (e : Int) + 1)
    by_cases hi : nm = ⟨#[105, 115]⟩
    case' pos =>
     have hi' := dA hi
     have hm' : (nm = ⟨#[109, 111, 100]⟩) = False := cI (by rw [hi]; decide)
     have hW : iI nm = true := by unfold iI; rw [gD hi]; try rfl
    case' neg =>
     have hi' := cI hi
     by_cases hm : nm = ⟨#[109, 111, 100]⟩
     case' pos =>
      have hm' := dA hm
      have hW : iI nm = true := by unfold iI; rw [gD hm]; exact AC _
     case' neg =>
      have hm' := cI hm
      have hW : iI nm = false := by unfold iI; rw [fJ hm, fJ hi]; try rfl
    all_goals
     rw [hW]
     simp -implicitDefEqProofs only [pC, hfa, hi', hm', bM, bX, aA, seval, A1]
     first
      | (rw [aG (Or.inl trivial)]; rfl)
      | (rw [aE fun h => h.1]; rfl)
      | skip
     try
      refine (kE s e 32 _).to ?_
      cases hb : cO (sb s) e 32 with
      | false =>
       simp -implicitDefEqProofs only [aA, seval]
       rfl
      | true =>
       simp -implicitDefEqProofs only [hw1, aA, seval]
       rfl
 · skip
   simp -implicitDefEqProofs only [aA, seval, A1]
   obtain ⟨f, rfl⟩ : ∃ f, f = a := ⟨_, rfl⟩
   have hf := ha
   by_cases hlen : s.size ≤ f
   case pos =>
    have hrd : pD (sb s) f = none := by
     unfold pD
     simp only [h1, ↓reduceIte, jD]
     rw [aG (by rw [cJ]; exact hlen)]
    rw [hrd]
    have cV : ((s.size : Int) ≤ (f : Int)) = True := dA (by omega)
    simp -implicitDefEqProofs only [cV, bM, aA, seval]
    rfl
   have cV : ((s.size : Int) ≤ (f : Int)) = False := cI (by omega)
   have hrd : pD (sb s) f = match nQ (sb s) f with
    | none => none
    | some (nm, e) => if dL nm = 0 then none else if iI nm ≠ decide (f < f) ∨ (iI nm = true ∧ cO (sb s) e 32 = false) then none else some (nm, if iI nm then e + 1 else e) := by
    unfold pD
    simp only [h1, ↓reduceIte, jD]
    rw [aE (by rw [cJ]; exact hlen)]
    try rfl
   rw [hrd]
   clear hrd
   have hfa : ((f : Int) < (f : Int)) = False := cI (by omega)
   have hfn : (f < f) = False := cI (by omega)
   simp -implicitDefEqProofs only [cV, bX, aA, seval]
   refine (QI s hs f (by omega) _).to ?_
   cases hn : nQ (sb s) f with
   | none =>
    simp only [zS]
    simp -implicitDefEqProofs only [bM, aA, seval]
    rfl
   | some p =>
    obtain ⟨nm, e⟩ := p
    have he := F4 (by rw [cJ]; omega) hn
    rw [cJ] at he
    simp only [zS]
    have he0 : ((e : Int) < 0) = False := cI (by omega)
    simp -implicitDefEqProofs only [he0, bX, aA, seval]
    refine (uL nm _).to ?_
    by_cases hl0 : dL nm = 0
    case pos =>
     rw [aG hl0]
     have pC : ((dL nm : Int) = 0) = True := dA (by omega)
     simp -implicitDefEqProofs only [pC, bM, aA, seval]
     rfl
    rw [aE hl0]
    have pC : ((dL nm : Int) = 0) = False := cI (by omega)
    simp only [hfn, bX]
    have hw1 := bK (n := (e : Int) + 1)
    by_cases hi : nm = ⟨#[105, 115]⟩
    case' pos =>
     have hi' := dA hi
     have hm' : (nm = ⟨#[109, 111, 100]⟩) = False := cI (by rw [hi]; decide)
     have hW : iI nm = true := by unfold iI; rw [gD hi]; try rfl
    case' neg =>
     have hi' := cI hi
     by_cases hm : nm = ⟨#[109, 111, 100]⟩
     case' pos =>
      have hm' := dA hm
      have hW : iI nm = true := by unfold iI; rw [gD hm]; exact AC _
     case' neg =>
      have hm' := cI hm
      have hW : iI nm = false := by unfold iI; rw [fJ hm, fJ hi]; try rfl
    all_goals
     rw [hW]
     simp -implicitDefEqProofs only [pC, hfa, hi', hm', bM, bX, aA, seval, A1]
     first
      | (rw [aG (Or.inl trivial)]; rfl)
      | (rw [aE fun h => h.1]; rfl)
      | skip
     try
      refine (kE s e 32 _).to ?_
      cases hb : cO (sb s) e 32 with
      | false =>
       simp -implicitDefEqProofs only [pC, hfa, hi', hm', hw1, bM, bX, aA, ↓aU, seval, A1]
       rfl
      | true =>
       simp -implicitDefEqProofs only [pC, hfa, hi', hm', hw1, bM, bX, aA, ↓aU, seval, A1]
       rfl
theorem aWN {ts : List Tm} {i : Nat} {x t : Tm} (hx : ts[i]? = some x) : u7 (ts.drop i) t = nI ⟨#[46]⟩ [x, u7 (ts.drop (i + 1)) t] := by
 obtain ⟨h1, h2⟩ := gS.1 hx
 rw [qY h1, h2]
 try rfl
abbrev II := zi tI_3 (zi zI_3 (zi aX (zi tI_9 (zi zI_9 (zi cH (zi tI_31 (zi zI_31 (zi aN (zi bE (zi bF (zi b9 (zi tI_63 (zi zI_63 (zi bP (zi bQ (zi bT (zi bS bR)))))))))))))))))
set_option maxHeartbeats 1000000 in
theorem aK1 (ts : List Tm) (tl : Tm) (hl : ts.length ≤ 1048576) (st : aB) : aD prog 236 [.slice (ts.map Tm.av), tl.av] st (fun r st' => r = (u7 ts tl).av ∧ st' = st) := by
 refine aD.done ?_
 refine wF [1000000, 5] 2 func236 ntmps236 rfl rfl ?_
 intro _
 have hw0 := bK (n := (ts.length : Int) - 1)
 simp -implicitDefEqProofs only [aK, aT, aH, bZ, cG, bO, aF, hw0, aA, ↓aU, seval, II]
 intro b hb b5 hb5
 have hbb : b5 ≠ b := fun h => by rw [h, aB.aP] at hb5; cases hb5
 refine gZ (σ := Nat) [1000000] [0, 4, 5] (fun i => i ≤ ts.length) (fun i => [(6, .int .i64 ((i : Int) - 1))]) (fun i => (st.aC b (.cells [.int .i64 0, .int .i64 0, .str ⟨#[]⟩, .fslice []])).aC b5 (.cells (u7 (ts.drop i) tl).av.cells)) (fun i => i) (by decide +kernel) ⟨ts.length, by omega, by rw [kH]; exact aO.mk (by simp -implicitDefEqProofs only [aA, seval])⟩ ?_
 intro i hi
 simp -implicitDefEqProofs only [aA, seval]
 refine aQ (fun h1 => ?_) (fun h1 => ?_)
 · simp only [bJ] at h1
   obtain ⟨k, rfl⟩ : ∃ k, i = k + 1 := ⟨i - 1, by omega⟩
   obtain ⟨x, hx⟩ : ∃ x, ts[k]? = some x := ⟨_, fH (by omega)⟩
   have hk : ((k + 1 : Nat) : Int) - 1 = (k : Int) := by omega
   have hw := bK (n := (k : Int) - 1)
   have hst := aWN (t := tl) hx
   have hat := bL (av := Tm.av) aN hx (aH x)
   rw [hk]
   generalize u7 (ts.drop (k + 1)) tl = y at *
   have hax := bO x
   have hay := bO y
   simp -implicitDefEqProofs only [aA, seval]
   refine wP [(0, 1), (1, 1), (2, 1), (3, 2), (4, 2), (5, 1), (6, 2), (7, 0)] [0, 1, 2, 3, 4, 5, 6] mixed ?_
   simp -implicitDefEqProofs only [aT, aH, cG, bO, d9 (bO _), d8 (aT _), hat, aA, seval, II]
   refine jC (rH ⟨#[46]⟩ [x, y] (by simp) _) ?_
   simp -implicitDefEqProofs only [aK, bZ, bO, hw, aA, seval, II]
   refine ⟨k, by omega, by omega, ?_⟩
   rw [hst]
   exact aO.mk (by simp -implicitDefEqProofs only [aA, seval])
 · simp only [dH] at h1
   obtain rfl : i = 0 := by omega
   rw [tT]
   simp -implicitDefEqProofs only [aK, bZ, bO, d9 (bO _), d8 (aT _), hbb.symm, aA, ↓aU, seval, II]
   exact ⟨Tm.soft _, (((aL.refl _).aC hb).aC (by rwa [aB.aM _ _ hbb] at hb5)).aC hb⟩
def lK (o : Option (Tm × Nat)) (r : AV) : Prop := match o with | some (t, e) => r = .tup [t.av, .int .i64 (e : Int)] | none => ∃ k : Nat, k ≤ 1048576 ∧ r = kN k
def uX (o : Option (List Tm × Nat)) (r : AV) : Prop := match o with | some (ts, e) => r = .tup [.slice (ts.map Tm.av), .int .i64 (e : Int)] | none => ∃ k : Nat, k ≤ 1048576 ∧ r = .tup [.slice [], .int .i64 (-1 - (k : Int))]
abbrev OF (s : ByteArray) (R : kK) (d lv lo : Nat) : Prop := ∀ (a : Nat) (st : aB), lo ≤ a → a ≤ s.size → aD prog 165 [.str s, .int .i64 (a : Int), .int .i64 (d : Int), .int .i64 (lv : Int)] st (fun r st' => lK (R a) r ∧ st' = st)
abbrev MZ := zi tI_3 (zi zI_3 (zi aX (zi tI_4 (zi zI_4 (zi cD (zi tI_5 (zi zI_5 (zi kI (zi tI_8 (zi zI_8 (zi wC (zi xI (zi wD (zi xN (zi w5 (zi tI_9 (zi zI_9 (zi cH (zi tI_31 (zi zI_31 (zi aN (zi bE (zi bF (zi b9 (zi tI_44 (zi zI_44 (zi aI3 (zi VY (zi aEF (zi aIL (zi aGH (zi aG0 (zi aBO (zi tI_63 (zi zI_63 (zi bP (zi bQ (zi bT (zi bS bR)))))))))))))))))))))))))))))))))))))))
set_option maxHeartbeats 1000000 in
theorem aAZ {s : ByteArray} {R : kK} {d lo c1 c2 : Nat} (hR : OF s R d 3 lo) (hok : wL R (sb s)) (hs : s.size ≤ 1000) (a : Nat) (ha : lo ≤ a) (ha' : a ≤ s.size) (st : aB) :
 aD prog 225 [.str s, .int .i64 (a : Int), .int .i64 (d : Int), .int .u8 (c1 : Int), .int .u8 (c2 : Int)] st (fun r st' => uX (p6 R (sb s) c1 c2 ((sb s).length + 1) a []) r ∧ st' = st) := by
 generalize hT : p6 R (sb s) c1 c2 ((sb s).length + 1) a [] = T
 rw [cJ] at hT
 refine aD.drop (Q := uX T) (aD.fin ?_)
 refine wF [1000000] 5 func225 ntmps225 rfl rfl ?_
 intro _
 simp -implicitDefEqProofs only [aA, seval, MZ]
 refine gZ (σ := Nat × List Tm × Nat × Nat) [1000000] [0, 2, 3, 4] (fun x => p6 R (sb s) c1 c2 x.2.2.1 x.1 x.2.1 = T ∧ lo ≤ x.1 ∧ x.1 ≤ s.size ∧ s.size < x.2.2.1 + x.1 ∧ x.2.1.length + x.2.2.1 ≤ 1001 ∧ (x.2.1.map Tm.av ≠ [] → st x.2.2.2 = none)) (fun x => [(1, .int .i64 (x.1 : Int)), (10, .fslice []), (11, .int .i64 0), (12, a9 4 x.2.2.2 (x.2.1.map Tm.av))]) (fun x => aZ st x.2.2.2 (x.2.1.map Tm.av)) (fun x => x.2.2.1) (by decide +kernel) ⟨(a, [], s.size + 1, 0), ⟨hT, ha, ha', by simp only; omega, by simp only [a7]; omega, by simp⟩, aO.mk (by simp -implicitDefEqProofs only [aW, jG, aA, seval])⟩ ?_
 rintro ⟨i, acc, m, b⟩ ⟨ht, hlo, hi, hm, hlen, hb⟩
 simp only at ht hlo hi hm hlen hb ⊢
 obtain ⟨m, rfl⟩ : ∃ m', m = m' + 1 := ⟨m - 1, by omega⟩
 simp only [p6] at ht
 simp -implicitDefEqProofs only [aA, seval]
 refine (hR i _ hlo hi).mono ?_
 rintro r _ ⟨hr, rfl⟩
 have fin : ∀ (l : List Tm) (b' : Nat) (r' : AV), (l.map Tm.av ≠ [] → st b' = none) → uX T (r'.fin b' (l.map Tm.av)) → ∃ b2 l2 s0, aZ st b' (l.map Tm.av) = aZ s0 b2 l2 ∧ (l2 ≠ [] → s0 b2 = none) ∧ (∀ e ∈ l2, e.cB = false) ∧ gX l2 ∧ aL s0 st ∧ uX T (r'.fin b2 l2) := fun l b' r' h1 h2 => ⟨b', _, st, rfl, h1, iB _, ⟨4, dR _⟩, aL.refl _, h2⟩
 have hTn : T = none → ∀ k : Nat, k ≤ 1048576 → ∀ (b' : Nat) (l : List AV), uX T ((AV.tup [.fslice [], .int .i64 (-1 - (k : Int))]).fin b' l) := by
  rintro rfl k hk b' l
  exact ⟨k, hk, by simp only [jL, eC, oC, bA, aW]⟩
 cases hRi : R i with
 | none =>
  rw [hRi] at ht hr
  obtain ⟨k, hk, rfl⟩ := hr
  have hk0 : ((-1 - (k : Int)) < 0) = True := dA (by omega)
  simp -implicitDefEqProofs only [aH, bZ, cG, hk0, kN, bM, aA, ↓aU, seval, MZ]
  exact fin _ _ _ hb (hTn ht.symm k hk _ _)
 | some p =>
  obtain ⟨t, e⟩ := p
  rw [hRi] at ht hr
  simp only at ht
  obtain ⟨g1, g2, g3⟩ := hok i t e (by rw [cJ]; exact hi) hRi
  rw [cJ] at g2
  simp only [lK] at hr
  subst hr
  have he0 : ((e : Int) < 0) = False := cI (by omega)
  simp -implicitDefEqProofs only [aT, aH, bZ, cG, he0, n0, sP, bX, aA, ↓aU, seval, MZ]
  refine eO aN bE bF rfl rfl (fB (aH _) (bZ _)) (dR _) hb (by simp only [aF, aS, a7]; omega) (by simp only [aF, aS, a7]; omega) (fun b' hb' => ?_)
  rw [show acc.map Tm.av ++ [t.av] = (acc ++ [t]).map Tm.av by simp] at hb' ⊢
  simp -implicitDefEqProofs only [aA, seval]
  have vQ : T = some (acc ++ [t], e) → uX T ((AV.tup [a9 4 b' ((acc ++ [t]).map Tm.av), .int .i64 (e : Int)]).fin b' ((acc ++ [t]).map Tm.av)) := by
   rintro rfl
   simp only [uX, jL, eC, lI, bA, aW]
  have hw1 := bK (n := (e : Int) + 1)
  have hw2 := bK (n := -1 - (e : Int))
  refine (kE s e c1 _).to ?_
  cases h1 : cO (sb s) e c1 with
  | true =>
   rw [h1, xS, aG rfl] at ht
   simp -implicitDefEqProofs only [mZ, n0, sP, aA, seval]
   exact fin _ _ _ hb' (vQ ht.symm)
  | false =>
  simp -implicitDefEqProofs only [aA, seval]
  refine (kE s e c2 _).to ?_
  cases h2 : cO (sb s) e c2 with
  | true =>
   rw [h2, AC, aG rfl] at ht
   simp -implicitDefEqProofs only [mZ, n0, sP, aA, seval]
   exact fin _ _ _ hb' (vQ ht.symm)
  | false =>
  rw [h1, h2, GX, aE (by decide)] at ht
  simp -implicitDefEqProofs only [aA, seval]
  refine (kE s e 44 _).to ?_
  cases h3 : cO (sb s) e 44 with
  | true =>
   have h4 := nP h3
   rw [cJ] at h4
   rw [h3, aG rfl] at ht
   simp -implicitDefEqProofs only [hw1, aA, seval]
   refine ⟨(e + 1, acc ++ [t], m, b'), by simp only; omega, ⟨ht, by simp only; omega, by simp only; omega, by simp only; omega, by simp only [dQ, aS, a7]; omega, hb'⟩, aO.mk (by simp -implicitDefEqProofs only [aA, seval] <;> rfl)⟩
  | false =>
   rw [h3, aE (by decide)] at ht
   simp -implicitDefEqProofs only [hw2, aA, seval]
   exact fin _ _ _ hb' (hTn ht.symm e (by omega) _ _)
theorem aD.N7 {P : Program} {g : FuncId} {args : List AV} {st : aB} {Q : AV → Prop} (x : aD P g args st (fun r' st' => Q r'.soft ∧ aL st' st)) : aD P g args st (fun r' st' => Q r' ∧ st' = st) :=
 aD.drop (aD.soft (x.mono fun _ _ h => ⟨h.2, h.1⟩))
theorem A2 {k : Nat} (hk : k ≤ 1048576) : lK none (AV.tup [.agg [.int .i64 0, .int .i64 0, .str ⟨#[]⟩, .fslice []], .int .i64 (-1 - (k : Int))]).soft :=
 ⟨k, hk, by simp only [kN, aV, kA, kF, jP, kW, mG, bA, aW]⟩
theorem qI {t : Tm} {e : Nat} {x : Int} (h : x = (e : Int)) : lK (some (t, e)) (AV.tup [t.av, .int .i64 x]).soft := by
 subst h
 simp only [lK, kF, jP, Tm.soft, bA, aW]
theorem wV {k : Nat} (hk : k ≤ 1048576) : lK none (AV.tup [ET.av, .int .i64 (-1 - (k : Int))]).soft :=
 ⟨k, hk, by simp only [kN, kF, jP, Tm.soft, bA, aW]⟩
abbrev w6 := zi tI_3 (zi zI_3 (zi aX (zi tI_4 (zi zI_4 (zi cD (zi tI_5 (zi zI_5 (zi kI (zi tI_8 (zi zI_8 (zi wC (zi xI (zi wD (zi xN (zi w5 (zi tI_9 (zi zI_9 (zi cH (zi tI_31 (zi zI_31 (zi aN (zi bE (zi bF (zi b9 (zi tI_63 (zi zI_63 (zi bP (zi bQ (zi bT (zi bS (zi bR (zi tI_124 (zi zI_124 (zi OZ (zi P3 PC)))))))))))))))))))))))))))))))))))
set_option maxHeartbeats 1000000 in
theorem aSM {s : ByteArray} {R : kK} {d lo : Nat} (hR : OF s R d 3 lo) (hok : wL R (sb s)) (hs : s.size ≤ 1000) (a : Nat) (ha : lo ≤ a) (ha' : a ≤ s.size) (st : aB) :
 aD prog 221 [.str s, .int .i64 (a : Int), .int .i64 (d : Int)] st (fun r st' => lK (zR R (sb s) a) r ∧ st' = st) := by
 refine aD.N7 ?_
 refine wF [1000000] 3 func221 ntmps221 rfl rfl ?_
 intro _
 simp -implicitDefEqProofs only [aA, seval, w6]
 intro b hb
 unfold zR
 refine (aAZ hR hok hs a ha ha' _ (c1 := 93) (c2 := 124)).mono ?_
 rintro r _ ⟨hr, rfl⟩
 have hD := fun (o : AO) => (aL.refl st).aC (o := o) hb
 cases hT : p6 R (sb s) 93 124 ((sb s).length + 1) a [] with
 | none =>
  rw [hT] at hr
  obtain ⟨k, hk, rfl⟩ := hr
  have hk0 : ((-1 - (k : Int)) < 0) = True := dA (by omega)
  simp -implicitDefEqProofs only [aK, hk0, bM, aA, seval, w6]
  exact ⟨A2 hk, hD _⟩
 | some p =>
  obtain ⟨ts, e⟩ := p
  rw [hT] at hr
  simp only [uX] at hr
  subst hr
  obtain ⟨g1, g2, g3, g4, g5⟩ := HQ hok _ _ _ _ _ (by rw [cJ]; exact ha') (by simp) hT
  rw [cJ] at g2 g4
  rw [a7] at g4
  have he0 : ((e : Int) < 0) = False := cI (by omega)
  obtain ⟨f, hf⟩ : ∃ f, f = e + 1 := ⟨_, rfl⟩
  have hw := nB (x := (e : Int) + 1) (m := f) (by omega) (by omega)
  simp -implicitDefEqProofs only [he0, bX, aA, seval]
  refine (kE s e 93 _).to ?_
  cases h1 : cO (sb s) e 93 with
  | true =>
   simp -implicitDefEqProofs only [aA, seval]
   refine (rH ⟨#[91, 93]⟩ [] (by simp) _).to ?_
   simp -implicitDefEqProofs only [aA, seval]
   refine (aK1 ts (nI ⟨#[91, 93]⟩ []) (by omega) _).to ?_
   simp -implicitDefEqProofs only [aK, bZ, cG, bO, d9 (bO _), d8 (aT _), hw, aA, seval, w6]
   exact ⟨qI (by omega), hD _⟩
  | false =>
   simp -implicitDefEqProofs only [hw, aA, seval]
   refine (hR f _ (by omega) (by omega)).mono ?_
   rintro r _ ⟨hr, rfl⟩
   rw [← hf]
   cases hRi : R f with
   | none =>
    rw [hRi] at hr
    obtain ⟨k, hk, rfl⟩ := hr
    have hk0 : ((-1 - (k : Int)) < 0) = True := dA (by omega)
    simp -implicitDefEqProofs only [aK, aH, bZ, cG, hk0, kN, bM, aA, ↓aU, seval, w6]
    exact ⟨A2 hk, hD _⟩
   | some p =>
    obtain ⟨t, e2⟩ := p
    rw [hRi] at hr
    simp only [lK] at hr
    subst hr
    obtain ⟨k1, k2, k3⟩ := hok f t e2 (by rw [cJ]; omega) hRi
    rw [cJ] at k2
    have he2 : ((e2 : Int) < 0) = False := cI (by omega)
    have hw2 := bK (n := (e2 : Int) + 1)
    simp -implicitDefEqProofs only [aH, bZ, cG, he2, bX, aA, ↓aU, seval, w6]
    refine (kE s e2 93 _).to ?_
    cases h2 : cO (sb s) e2 93 with
    | true =>
     simp -implicitDefEqProofs only [aT, aH, aA, seval, w6]
     refine (aK1 ts t (by omega) _).to ?_
     simp -implicitDefEqProofs only [aK, bZ, cG, bO, d9 (bO _), d8 (aT _), hw2, aA, seval, w6]
     exact ⟨qI rfl, hD _⟩
    | false =>
     simp -implicitDefEqProofs only [aA, seval]
     refine (A9 e2 (by omega) _).to ?_
     simp -implicitDefEqProofs only [aK, bZ, cG, bO, d9 (bO _), d8 (aT _), kN, aA, seval, w6]
     exact ⟨wV (by omega), hD _⟩
theorem aW0 {R : Nat → kK} {l : List UInt8} {d a : Nat} (h : d < 1 ∨ l.length ≤ a) : mE R l d a = none := by unfold mE; rw [aG h]
theorem aZZ {R : Nat → kK} {l : List UInt8} {d a : Nat} (h : ¬(d < 1 ∨ l.length ≤ a)) (h1 : cO l a 40 = true) : mE R l d a = match R d (a + 1) with
 | none => none
 | some (t, e) => if cO l e 41 then some (t, e + 1) else none := by unfold mE; rw [aE h, aG h1]; try rfl
theorem aX9 {R : Nat → kK} {l : List UInt8} {d a : Nat} (h : ¬(d < 1 ∨ l.length ≤ a)) (h1 : cO l a 40 = false) (h2 : cO l a 91 = true) (h3 : cO l (a + 1) 93 = false) : mE R l d a = zR (R (d - 1)) l (a + 1) := by
 unfold mE; rw [aE h, aE (by simp [h1]), aG (by simp [h2, h3])]
theorem aPA {R : Nat → kK} {l : List UInt8} {d a : Nat} (h : ¬(d < 1 ∨ l.length ≤ a)) (h1 : cO l a 40 = false) (h2 : (cO l a 91 && !cO l (a + 1) 93) = false) (h3 : fR l a rA = true) : mE R l d a = some (vr ((KC l a - 65 : Nat) : Int), a + 1) := by
 unfold mE; rw [aE h, aE (by simp [h1]), aE (by simp [h2]), aG h3]
theorem a0L {R : Nat → kK} {l : List UInt8} {d a : Nat} (h : ¬(d < 1 ∨ l.length ≤ a)) (h1 : cO l a 40 = false) (h2 : (cO l a 91 && !cO l (a + 1) 93) = false) (h3 : fR l a rA = false) (h4 : (fR l a dN || (cO l a 45 && fR l (a + 1) dN)) = true) : mE R l d a = match tF l a with
 | none => none
 | some (n, e) => some (.mk 2 n ⟨#[]⟩ [], e) := by
 unfold mE; rw [aE h, aE (by simp [h1]), aE (by simp [h2]), aE (by simp [h3]), aG h4]; try rfl
theorem aZH {R : Nat → kK} {l : List UInt8} {d a : Nat} (h : ¬(d < 1 ∨ l.length ≤ a)) (h1 : cO l a 40 = false) (h2 : (cO l a 91 && !cO l (a + 1) 93) = false) (h3 : fR l a rA = false) (h4 : (fR l a dN || (cO l a 45 && fR l (a + 1) dN)) = false) : mE R l d a = match nQ l a with
 | none => none
 | some (nm, e) => if cO l e 40 = false then some (nI nm [], e) else match p6 (R (d - 1)) l 41 41 (l.length + 1) (e + 1) [] with
  | none => none
  | some (ts, e') => some (nI nm ts, e' + 1) := by
 unfold mE; rw [aE h, aE (by simp [h1]), aE (by simp [h2]), aE (by simp [h3]), aE (by simp [h4])]; try rfl
abbrev j5 := zi tI_3 (zi zI_3 (zi aX (zi tI_4 (zi zI_4 (zi cD (zi tI_5 (zi zI_5 (zi kI (zi tI_8 (zi zI_8 (zi wC (zi xI (zi wD (zi xN (zi w5 (zi tI_9 (zi zI_9 (zi cH (zi tI_31 (zi zI_31 (zi aN (zi bE (zi bF (zi b9 (zi tI_40 (zi zI_40 (zi WF (zi TQ (zi SY (zi aCH (zi aIG (zi aJN (zi SS (zi tI_41 (zi zI_41 (zi aTD (zi aN8 (zi aX4 (zi aR1 (zi aRL (zi aOF (zi aR9 (zi tI_63 (zi zI_63 (zi bP (zi bQ (zi bT (zi bS bR))))))))))))))))))))))))))))))))))))))))))))))))
set_option maxHeartbeats 2000000 in
theorem aT1 {s : ByteArray} {R : Nat → kK} {a : Nat} (hR : ∀ d, d ≤ 1048576 → OF s (R d) d 3 (a + 1)) (hok : ∀ d, wL (R d) (sb s)) (hs : s.size ≤ 1000) (ha : a ≤ s.size) (d : Nat) (hd : d ≤ 1048576) (st : aB) :
 aD prog 204 [.str s, .int .i64 (a : Int), .int .i64 (d : Int)] st (fun r st' => lK (mE R (sb s) d a) r ∧ st' = st) := by
 refine aD.N7 ?_
 refine wF [1000000] 3 func204 ntmps204 rfl rfl ?_
 intro _
 generalize hP : mE R (sb s) d a = o
 simp -implicitDefEqProofs only [aA, seval, j5]
 intro b hb
 have hD := fun (o : AO) => (aL.refl st).aC (o := o) hb
 by_cases h0 : d < 1 ∨ s.size ≤ a
 case pos =>
  rw [aW0 (by rw [cJ]; exact h0)] at hP
  subst hP
  by_cases h01 : d < 1
  case pos =>
   have uD : ((d : Int) < 1) = True := dA (by omega)
   simp -implicitDefEqProofs only [uD, bM, aA, seval]
   refine (A9 a (by omega) _).to ?_
   simp -implicitDefEqProofs only [aK, bZ, cG, bO, d9 (bO _), d8 (aT _), kN, aA, seval, j5]
   exact ⟨wV (by omega), hD _⟩
  case neg =>
   have uD : ((d : Int) < 1) = False := cI (by omega)
   have yG : ((s.size : Int) ≤ (a : Int)) = True := dA (by omega)
   simp -implicitDefEqProofs only [uD, yG, bM, bX, aA, seval, j5]
   refine (A9 a (by omega) _).to ?_
   simp -implicitDefEqProofs only [aK, bZ, cG, bO, d9 (bO _), d8 (aT _), kN, aA, seval, j5]
   exact ⟨wV (by omega), hD _⟩
 have h0' : ¬(d < 1 ∨ (sb s).length ≤ a) := by rw [cJ]; exact h0
 have uD : ((d : Int) < 1) = False := cI (by omega)
 have yG : ((s.size : Int) ≤ (a : Int)) = False := cI (by omega)
 obtain ⟨x, hx⟩ := vG (s := s) (n := a) (by omega)
 have hix := sL (P := prog) (t := 9) cH hx
 obtain ⟨f, hf⟩ : ∃ f, f = a + 1 := ⟨_, rfl⟩
 have hw := nB (x := (a : Int) + 1) (m := f) (by omega) (by omega)
 obtain ⟨d1, hd1⟩ : ∃ d1, d1 = d - 1 := ⟨_, rfl⟩
 have hwd := nB (x := (d : Int) - 1) (m := d1) (by omega) (by omega)
 by_cases h40 : x.toNat = 40
 case pos =>
  rw [aZZ h0' (by rw [rT hx, h40]; try rfl), ← hf] at hP
  have CQ : ((x.toNat : Int) = 40) = True := dA (by omega)
  simp -implicitDefEqProofs only [uD, yG, hix, CQ, hw, bM, bX, aA, seval, j5]
  refine (hR d hd f _ (by omega) (by omega)).mono ?_
  rintro r _ ⟨hr, rfl⟩
  cases hRi : R d f with
  | none =>
   rw [hRi] at hr hP
   subst hP
   obtain ⟨k, hk, rfl⟩ := hr
   have hk0 : ((-1 - (k : Int)) < 0) = True := dA (by omega)
   simp -implicitDefEqProofs only [aK, aH, bZ, cG, hk0, kN, bM, aA, ↓aU, seval, j5]
   exact ⟨A2 hk, hD _⟩
  | some p =>
   obtain ⟨t, e2⟩ := p
   rw [hRi] at hr hP
   simp only [lK] at hr
   subst hr
   obtain ⟨k1, k2, k3⟩ := hok d f t e2 (by rw [cJ]; omega) hRi
   rw [cJ] at k2
   have he2 : ((e2 : Int) < 0) = False := cI (by omega)
   have hw2 := bK (n := (e2 : Int) + 1)
   simp -implicitDefEqProofs only [aH, bZ, cG, he2, bX, aA, ↓aU, seval, j5]
   refine (kE s e2 41 _).to ?_
   cases h2 : cO (sb s) e2 41 with
   | true =>
    simp only [h2, ↓reduceIte] at hP
    subst hP
    simp -implicitDefEqProofs only [aK, aT, aH, bZ, cG, bO, d9 (bO _), d8 (aT _), hw2, aA, seval, j5]
    exact ⟨qI rfl, hD _⟩
   | false =>
    simp only [h2, ↓reduceIte, jD] at hP
    subst hP
    simp -implicitDefEqProofs only [aA, seval]
    refine (A9 e2 (by omega) _).to ?_
    simp -implicitDefEqProofs only [aK, bZ, cG, bO, d9 (bO _), d8 (aT _), kN, aA, seval, j5]
    exact ⟨wV (by omega), hD _⟩
 have g40 : cO (sb s) a 40 = false := by rw [rT hx]; exact fJ h40
 have CQ : ((x.toNat : Int) = 40) = False := cI (by omega)
 -- a list
 by_cases hL : x.toNat = 91 ∧ cO (sb s) f 93 = false
 case pos =>
  obtain ⟨h91, h93⟩ := hL
  rw [aX9 h0' g40 (by rw [rT hx, h91]; try rfl) (by rw [← hf]; exact h93), ← hf, ← hd1] at hP
  subst hP
  have sJ : ((x.toNat : Int) = 91) = True := dA (by omega)
  simp -implicitDefEqProofs only [uD, yG, hix, CQ, sJ, hw, bM, bX, aA, seval, j5]
  refine (kE s f 93 _).to ?_
  rw [h93]
  simp -implicitDefEqProofs only [hw, hwd, aA, seval]
  refine (aSM (hR d1 (by omega)) (hok d1) hs f (by omega) (by omega) _).mono ?_
  rintro r _ ⟨hr, rfl⟩
  cases hI : zR (R d1) (sb s) f with
  | none =>
   rw [hI] at hr
   obtain ⟨k, hk, rfl⟩ := hr
   simp -implicitDefEqProofs only [aK, bZ, cG, bO, d9 (bO _), d8 (aT _), kN, aA, seval, j5]
   exact ⟨wV hk, hD _⟩
  | some p =>
   obtain ⟨t, e2⟩ := p
   rw [hI] at hr
   simp only [lK] at hr
   subst hr
   simp -implicitDefEqProofs only [aK, bZ, cG, bO, d9 (bO _), d8 (aT _), aA, seval, j5]
   exact ⟨qI rfl, hD _⟩
 have gL : (cO (sb s) a 91 && !cO (sb s) (a + 1) 93) = false := by
  rw [← hf, rT hx]
  rcases Nat.decEq x.toNat 91 with h | h
  · rw [fJ h, gN]
  · rw [gD h, eT]
    cases h93 : cO (sb s) f 93 with
    | true => rfl
    | false => exact absurd ⟨h, h93⟩ hL
 by_cases hU : rA x = true
 case pos =>
  have hP' := aPA (R := R) h0' g40 gL (by rw [vL hx]; exact hU)
  rw [hP'] at hP
  subst hP
  have hbn : KC (sb s) a = x.toNat := by unfold KC; rw [hx]
  simp only [rA, cM, bJ] at hU
  have sJ : ((x.toNat : Int) = 91) = False := cI (by omega)
  have h65 : ((65 : Int) ≤ (x.toNat : Int)) = True := dA (by omega)
  have h90 : ((x.toNat : Int) ≤ 90) = True := dA (by omega)
  obtain ⟨y, hy⟩ : ∃ y, y = x.toNat - 65 := ⟨_, rfl⟩
  have hw2 : IntKind.wrap .u8 ((x.toNat : Int) - 65) = (y : Int) := by rw [IntKind.wrap_u8]; omega
  have hw3 := bK (n := (y : Int))
  simp -implicitDefEqProofs only [uD, yG, hix, CQ, sJ, h65, h90, hw2, hw3, sV, bM, bX, aA, seval, j5]
  refine (JX (y : Int) _).to ?_
  simp -implicitDefEqProofs only [aK, bZ, cG, bO, d9 (bO _), d8 (aT _), hw, aA, seval, j5]
  rw [hbn, ← hy, ← hf]
  exact ⟨qI rfl, hD _⟩
 have gU : fR (sb s) a rA = false := by rw [vL hx]; simpa using hU
 cases hdg : (fR (sb s) a dN || (cO (sb s) a 45 && fR (sb s) (a + 1) dN)) with
 | true =>
  have hP' := a0L (R := R) h0' g40 gL gU hdg
  rw [hP'] at hP
  by_cases hdx : dN x = true
  case' pos => have BY := hdx
  case' neg =>
   have hdx : dN x = false := by simpa using hdx
   rw [vL hx, hdx, qX, cM, rT hx, bJ] at hdg
   have BY : ((x.toNat : Int) = 45) = True := dA (by omega)
  all_goals
   by_cases h91 : x.toNat = 91
   case' pos =>
    have sJ : ((x.toNat : Int) = 91) = True := dA (by omega)
    have h93 : cO (sb s) f 93 = true := by rw [rT hx, gD h91, eT, ← hf] at gL; simpa using gL
   case' neg =>
    have sJ : ((x.toNat : Int) = 91) = False := cI (by omega)
    have h93 := sJ
   all_goals
    by_cases h65 : 65 ≤ x.toNat
    case' pos =>
     have tY : ((65 : Int) ≤ (x.toNat : Int)) = True := dA (by omega)
     have zZ : ((x.toNat : Int) ≤ 90) = False := cI (by intro h; exact hU (by simp only [rA, cM, bJ]; omega))
    case' neg =>
     have tY : ((65 : Int) ≤ (x.toNat : Int)) = False := cI (by omega)
     have zZ := tY
   all_goals
    simp -implicitDefEqProofs only [uD, yG, hix, CQ, sJ, tY, zZ, hw, bM, bX, aA, seval, j5]
    try
     refine (kE s f 93 _).to ?_
     rw [h93]
     simp -implicitDefEqProofs only [hix, tY, zZ, bM, bX, aA, seval]
    refine (z8 s a _).to ?_
    rw [vL hx]
   all_goals
    simp -implicitDefEqProofs only [hix, hdx, BY, hw, bM, aA, seval]
    try
     refine (z8 s f _).to ?_
     rw [hf, hdg.2]
     simp -implicitDefEqProofs only [aA, seval]
    refine (aOQ s hs a ha _).to ?_
    cases hn : tF (sb s) a with
    | none =>
     rw [hn] at hP
     subst hP
     simp -implicitDefEqProofs only [aH, bZ, cG, zJ, bM, aA, ↓aU, seval, j5]
     refine (A9 a (by omega) _).to ?_
     simp -implicitDefEqProofs only [aK, bZ, cG, bO, d9 (bO _), d8 (aT _), kN, aA, seval, j5]
     exact ⟨wV (by omega), hD _⟩
    | some p =>
     obtain ⟨n, e⟩ := p
     rw [hn] at hP
     subst hP
     have he0 : ((e : Int) < 0) = False := cI (by omega)
     simp -implicitDefEqProofs only [aK, aT, aH, bZ, cG, bO, d9 (bO _), d8 (aT _), zJ, he0, bX, aA, ↓aU, seval, j5]
     exact ⟨qI rfl, hD _⟩
 | false =>
  have hP' := aZH (R := R) h0' g40 gL gU hdg
  rw [hP', ← hd1] at hP
  rw [vL hx, Bool.or_eq_false_iff, rT hx, ← hf] at hdg
  have hdx := hdg.1
  by_cases h45 : x.toNat = 45
  case' pos =>
   have BY : ((x.toNat : Int) = 45) = True := dA (by omega)
   have hfd : fR (sb s) f dN = false := by have := hdg.2; rwa [gD h45, eT] at this
  case' neg =>
   have BY : ((x.toNat : Int) = 45) = False := cI (by omega)
   have hfd := BY
  all_goals
   by_cases h91 : x.toNat = 91
   case' pos =>
    have sJ : ((x.toNat : Int) = 91) = True := dA (by omega)
    have h93 : cO (sb s) f 93 = true := by rw [rT hx, gD h91, eT, ← hf] at gL; simpa using gL
   case' neg =>
    have sJ : ((x.toNat : Int) = 91) = False := cI (by omega)
    have h93 := sJ
   all_goals
    by_cases h65 : 65 ≤ x.toNat
    case' pos =>
     have tY : ((65 : Int) ≤ (x.toNat : Int)) = True := dA (by omega)
     have zZ : ((x.toNat : Int) ≤ 90) = False := cI (by intro h; exact hU (by simp only [rA, cM, bJ]; omega))
    case' neg =>
     have tY : ((65 : Int) ≤ (x.toNat : Int)) = False := cI (by omega)
     have zZ := tY
   all_goals
    simp -implicitDefEqProofs only [uD, yG, hix, CQ, sJ, tY, zZ, hw, bM, bX, aA, seval, j5]
    try
     refine (kE s f 93 _).to ?_
     rw [h93]
     simp -implicitDefEqProofs only [hix, tY, zZ, bM, bX, aA, seval]
    refine (z8 s a _).to ?_
    rw [vL hx]
   all_goals
    simp -implicitDefEqProofs only [hix, hdx, BY, hw, bM, bX, aA, seval]
    try
     refine (z8 s f _).to ?_
     rw [hfd]
     simp -implicitDefEqProofs only [aA, seval]
    refine (QI s hs a ha _).to ?_
    cases hn : nQ (sb s) a with
    | none =>
     rw [hn] at hP
     subst hP
     simp -implicitDefEqProofs only [zS, bM, aA, seval]
     refine (A9 a (by omega) _).to ?_
     simp -implicitDefEqProofs only [aK, bZ, cG, bO, d9 (bO _), d8 (aT _), kN, aA, seval, j5]
     exact ⟨wV (by omega), hD _⟩
    | some p =>
     obtain ⟨nm, e⟩ := p
     rw [hn] at hP
     simp only at hP
     have hel := F4 (by rw [cJ]; exact ha) hn
     rw [cJ] at hel
     have he0 : ((e : Int) < 0) = False := cI (by omega)
     obtain ⟨f2, hf2⟩ : ∃ f2, f2 = e + 1 := ⟨_, rfl⟩
     have hwe := nB (x := (e : Int) + 1) (m := f2) (by omega) (by omega)
     simp -implicitDefEqProofs only [zS, he0, bX, aA, seval]
     refine (kE s e 40 _).to ?_
     cases h4 : cO (sb s) e 40 with
     | false =>
      rw [aG h4] at hP
      subst hP
      simp -implicitDefEqProofs only [aA, seval]
      refine (rH nm [] (by simp) _).to ?_
      simp -implicitDefEqProofs only [aK, bZ, cG, bO, d9 (bO _), d8 (aT _), aA, seval, j5]
      exact ⟨qI rfl, hD _⟩
     | true =>
      rw [aE (by simp [h4]), ← hf2] at hP
      have h5 := nP h4
      rw [cJ] at h5
      simp -implicitDefEqProofs only [hwd, hwe, aA, seval]
      refine (aAZ (hR d1 (by omega)) (hok d1) hs f2 (by omega) (by omega) _ (c1 := 41) (c2 := 41)).mono ?_
      rintro r _ ⟨hr, rfl⟩
      cases hT : p6 (R d1) (sb s) 41 41 ((sb s).length + 1) f2 [] with
      | none =>
       rw [hT] at hr hP
       subst hP
       obtain ⟨k, hk, rfl⟩ := hr
       have hk0 : ((-1 - (k : Int)) < 0) = True := dA (by omega)
       simp -implicitDefEqProofs only [aK, hk0, bM, aA, seval, j5]
       exact ⟨A2 hk, hD _⟩
      | some p =>
       obtain ⟨ts, e3⟩ := p
       rw [hT] at hr hP
       simp only [uX] at hr hP
       subst hr hP
       obtain ⟨g1, g2, g3, g4, g5⟩ := HQ (hok d1) _ _ _ _ _ (by rw [cJ]; omega) (by simp) hT
       rw [cJ] at g2
       have he3 : ((e3 : Int) < 0) = False := cI (by omega)
       have hw3 := bK (n := (e3 : Int) + 1)
       simp -implicitDefEqProofs only [aK, he3, hw3, bX, aA, seval, j5]
       exact ⟨by rw [show (AV.agg [.int .i64 3, .int .i64 0, .str nm, .slice (ts.map Tm.av)]) = (nI nm ts).av from (aV ..).symm]; exact qI rfl, hD _⟩
end Go.AW
