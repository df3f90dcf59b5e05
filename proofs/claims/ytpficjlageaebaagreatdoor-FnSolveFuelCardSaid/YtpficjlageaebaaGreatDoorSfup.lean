/- The answers of a search are valid terms. -/
import Derived.Test.YtpficjlageaebaaGreatDoorSfun
import Derived.Test.YtpficjlageaebaaGreatDoorSfuo
import Derived.Test.YtpficjlageaebaaGreatDoorSfui
import Derived.Test.YtpficjlageaebaaGreatDoorSfuf
import Derived.Test.YtpficjlageaebaaGreatDoorSfuh
import Derived.Test.YtpficjlageaebaaGreatDoorSfuk
import Derived.Test.YtpficjlageaebaaGreatDoorSful
import Derived.Test.YtpficjlageaebaaGreatDoorSfum
set_option linter.unusedSimpArgs false
set_option linter.unusedVariables false
set_option maxRecDepth 100000
namespace Go.AW
def WE (vars : List Int) (a : List Tm) : Prop := a.length = vars.length ∧ a.all Tm.valid = true
theorem aRN {N : Nat} {σ : Sub} (hg : cK σ) (ho : cP (bD N) σ) {vars : List Int} (hv : ∀ v ∈ vars, 0 ≤ v ∧ v < (N : Int)) {a : List Tm} (h : iY σ vars = some a) : WE vars a := by
 obtain ⟨rk, B, G⟩ := hg.rs
 unfold iY at h
 split at h
 · rename_i hh
   cases h
   obtain ⟨h1, h2⟩ := hh
   have hok : ∀ t ∈ vars.map (rs σ), bD N t := fun t ht => by
    obtain ⟨v, hvm, rfl⟩ := cV.1 ht
    have hf := eW.1 h1 _ ht
    unfold eL at hf
    simp only [cM, bJ] at hf
    exact ⟨G.kZ ho.kZ v (hv v hvm).1 (hv v hvm).2, hf.2⟩
   exact ⟨by rw [aSX hok, aF], by rw [aDL hok h1, bJ]; exact h2⟩
 · cases h
theorem aRM {p : List Cl} (hp : ∀ c ∈ p, gB c ∧ c.2.length ≤ 6) (hpl : p.length ≤ 20) {cnd : Tm → List Nat → List Nat} (hd : ∀ t l, (∀ i ∈ cnd t l, i ∈ l) ∧ (cnd t l).length ≤ l.length) {vars : List Int} (hv : ∀ v ∈ vars, 0 ≤ v ∧ v < 26) :
 ∀ (n most fuel : Nat) (s : RS) (B : Nat), most + fuel ≤ n → lI p B s → B + 26 * fuel ≤ 8000 → (iE p cnd vars most fuel s).1.length ≤ most ∧ ∀ a ∈ (iE p cnd vars most fuel s).1, WE vars a := by
 intro n
 induction n with
 | zero =>
  intro most fuel s B hn hs hB
  obtain rfl : most = 0 := by omega
  obtain rfl : fuel = 0 := by omega
  cases hg : s.goals with
  | nil => rw [uQ hg]; simp
  | cons g rest => rw [tD hg]; simp
 | succ n ih =>
  intro most fuel s B hn hs hB
  cases hg : s.goals with
  | nil =>
   rw [uQ hg]
   by_cases hm : most = 0
   · rw [aG hm]; simp
   rw [aE hm]
   cases ha : iY s.σ vars with
   | none => simp
   | some a =>
    have hok := aRN hs.a.gI hs.a.ok (fun v h => ⟨(hv v h).1, by have := (hv v h).2; have := hs.l.1; omega⟩) ha
    simp only
    cases hb : fP p s.chs.length s.chs with
    | none =>
     simp only [aS, aZ, cZ, dQ, dY]
     exact ⟨by omega, fun x hx => by rw [hx]; exact hok⟩
    | some s' =>
     obtain ⟨h1, h2⟩ := ih (most - 1) fuel s' B (by omega) (hs.back hp (by omega) hb) hB
     simp only [aS, cZ]
     refine ⟨by omega, fun x hx => ?_⟩
     rcases hx with rfl | hx
     · exact hok
     · exact h2 x hx
  | cons g rest =>
   rw [tD hg]
   by_cases hf : fuel = 0
   · rw [aG hf]; simp
   rw [aE hf]
   cases hst : jK p cnd s g rest with
   | stop e => simp
   | go s' => exact ih most (fuel - 1) s' (B + 26) (by omega) (hs.step hp (by omega) (by omega) hd hg hst) (by omega)
   | fail =>
    simp only
    cases hb : fP p s.chs.length s.chs with
    | none => simp
    | some s' => exact ih most (fuel - 1) s' B (by omega) (hs.back hp (by omega) hb) (by omega)
theorem aTB {q : List Tm} (hq : ∀ t ∈ q, bD 26 t ∧ t.k = 3) : (∀ v ∈ bZ q [], 0 ≤ v ∧ v < 26) ∧ (bZ q []).length ≤ 26 := by
 have hv : ∀ v ∈ bZ q [], 0 ≤ v ∧ v < 26 := fun v hv => by
  rcases (v5 q [] fun t ht => (hq t ht).1.1.2.1).1 hv with h | ⟨t, ht, h⟩
  · cases h
  · exact (hq t ht).1.1.2.2 v h
 refine ⟨hv, ?_⟩
 have hnd := IL q [] (fun t ht => Tm.sS t (hq t ht).1.1.2.1) pU
 exact CA (N := 26) hnd fun n hn => hv n hn
theorem aR2 (p : List Cl) {cnd : Tm → List Nat → List Nat} (hd : ∀ t l, (∀ i ∈ cnd t l, i ∈ l) ∧ (cnd t l).length ≤ l.length) (q : List Tm) (most fuel : Int) : (gT p cnd q most fuel).1.length ≤ 20 ∧ ∀ a ∈ (gT p cnd q most fuel).1, a.length ≤ 26 ∧ a.all Tm.valid = true := by
 unfold gT
 split
 · rename_i h
   simp only [iX, cM, bJ] at h
   obtain ⟨hp, hq, h1, h2, h3, h4⟩ := h
   obtain ⟨p1, p2⟩ := MA hp
   obtain ⟨q1, q2⟩ := J5 hq
   obtain ⟨v1, v2⟩ := aTB q2
   obtain ⟨r1, r2⟩ := aRM p2 p1 hd v1 _ most.toNat fuel.toNat (lO q) 26 (cY _) (lI.start q2 q1) (by omega)
   unfold wO
   refine ⟨by omega, fun a ha => ?_⟩
   obtain ⟨h5, h6⟩ := r2 a ha
   exact ⟨by omega, h6⟩
 · simp
end Go.AW
namespace Go.AW
open Go.Proofs.Tryz
theorem FM.aMN {st st' : aB} {a o : AV} {k : IntKind} {n : Int} (h : Made st a o st') : FM st [a, .int k n] (.tup [o, .int k n]) st' := by
 obtain ⟨bs, h1, h2, h3, h4⟩ := h
 exact ⟨_, bs, rfl, h1, h2, aPR.2 ⟨o, .int k n, bs, [], rfl, by simp, h3, ⟨rfl, rfl⟩⟩, h4⟩
def aGT (st : aB) (L : List AV) (e : Int) (r : AV) (st' : aB) : Prop := ∃ o, r = .tup [o, .int .i64 e] ∧ Made st (.slice L) o st' ∧ (L = [] → o = .fslice [])
structure sI (st : aB) (L : List AV) (b i : Nat) (os : List AV) (bs : List Nat) (s : aB) : Prop where
 len : os.length = i
 own : cI s (L.take i) os bs
 nd : bs.Nodup
 new : ∀ q ∈ bs, st q = none
 bn : L ≠ [] → b ∉ bs
 cell : L ≠ [] → s b = some (.cells (os.flatMap AV.cells ++ (L.drop i).flatMap AV.cells))
 a8 : ∀ q, q ∉ bs → (L ≠ [] → q ≠ b) → s q = st q
theorem sI.start {st : aB} {L : List AV} {b : Nat} : sI st L b 0 [] [] (aY st b L) := by
 refine ⟨rfl, by simp [cI], pU, by simp, by simp, fun h => ?_, fun q _ h => ?_⟩
 · rw [jH h, aB.aQ]; try rfl
 · cases L with
   | nil => rfl
   | cons x l => exact oZ (h (by simp))
theorem sI.done {st s : aB} {L os : List AV} {b w : Nat} {bs : List Nat} (h : sI st L b L.length os bs s) (hb : L ≠ [] → st b = none) (hw : ∀ e ∈ L, e.width = w) : Made st (.slice L) (a9 w b L) s := by
 obtain ⟨h1, h2, h3, h4, h5, h6, h7⟩ := h
 rw [eS] at h2
 by_cases hL : L = []
 · subst hL
   simp only [cI] at h2
   obtain ⟨rfl, rfl⟩ := h2
   exact ⟨[], pU, by simp, .inl ⟨rfl, rfl, rfl⟩, fun q hq => h7 q hq (fun h => absurd rfl h)⟩
 · refine ⟨b :: bs, List.nodup_cons.2 ⟨h5 hL, h3⟩, fun q hq => ?_, ?_, fun q hq => ?_⟩
   · rcases cZ.1 hq with rfl | hq
     · exact hb hL
     · exact h4 q hq
   · rw [oP hL]
     refine .inr ⟨b, bs, os, w, rfl, rfl, ?_, h2, hw⟩
     have := h6 hL
     rw [kE] at this
     simpa using this
   · simp only [cZ, not_or] at hq
     exact h7 q hq.2 fun _ => hq.1
theorem sI.step {st s s2 : aB} {L os B : List AV} {b i : Nat} {bs bx : List Nat} {e r : AV} (h : sI st L b i os bs s) (he : L[i]? = some (.agg [e])) (hB : (L.drop (i + 1)).flatMap AV.cells = B) (m1 : bx.Nodup) (m2 : ∀ q ∈ bx, s q = none) (m3 : cL s2 e r bx) (m4 : ∀ q, q ∉ bx → s2 q = s q) :
 sI st L b (i + 1) (os ++ [.agg [r]]) (bs ++ bx) (s2.aC b (.cells (os.flatMap AV.cells ++ [r] ++ B))) := by
 obtain ⟨h1, h2, h3, h4, h5, h6, h7⟩ := h
 have hi : i < L.length := (gQ.1 he).1
 have hL : L ≠ [] := by rintro rfl; simp at hi
 have CB := cI.iB _ _ _ h2
 have wN : ∀ q ∈ bs, s q ≠ none := fun q hq => by obtain ⟨cs, e1, _⟩ := CB.2 q hq; rw [e1]; simp
 have hsb := h6 hL
 have hbx : b ∉ bx := fun hq => by have := m2 b hq; rw [hsb] at this; cases this
 have BR : ∀ q ∈ bs, q ∉ bx := fun q hq hq' => wN q hq (m2 q hq')
 have hbs : ∀ q ∈ bs, (s2.aC b (.cells (os.flatMap AV.cells ++ [r] ++ B))) q = s q := fun q hq => by
  rw [aB.aL _ _ (by rintro rfl; exact h5 hL hq), m4 q (BR q hq)]
 refine ⟨by simp [h1], ?_, tP.2 ⟨h3, m1, fun a ha c hc e => BR a ha (e ▸ hc)⟩, fun q hq => ?_, fun _ hq => ?_, fun _ => ?_, fun q hq hne => ?_⟩
 · rw [fM, he, GV]
   refine h2.snoc hbs ?_
   refine aY8.2 ⟨r, rfl, cL.a8 _ _ _ (fun x hx => ?_) m3⟩
   exact aB.aL _ _ (by rintro rfl; exact hbx hx)
 · rcases fS.1 hq with hq | hq
   · exact h4 q hq
   · have h8 : q ∉ bs := fun h => BR q h hq
     have h9 : q ≠ b := by rintro rfl; exact hbx hq
     rw [← h7 q h8 fun _ => h9]
     exact m2 q hq
 · rcases fS.1 hq with hq | hq
   · exact h5 hL hq
   · exact hbx hq
 · rw [aB.aQ, hB]
   simp [AV.cells]
 · simp only [fS, not_or] at hq
   rw [aB.aL _ _ (hne hL), m4 q hq.2, h7 q hq.1 hne]
abbrev ZI := zi tI_3 (zi zI_3 (zi aX (zi tI_4 (zi zI_4 (zi cE (zi tI_26 (zi zI_26 (zi o7 (zi s9 (zi sR (zi w8 (zi tI_29 (zi zI_29 (zi g8 (zi j8 (zi kA (zi k6 (zi tI_31 (zi zI_31 (zi aN (zi bE (zi bF (zi cA (zi tI_82 (zi zI_82 (zi A6 (zi AC (zi tI_112 zI_112))))))))))))))))))))))))))))
set_option maxHeartbeats 2000000 in
theorem aSU (p : List Cl) {cnd : Tm → List Nat → List Nat} (hc : ∀ (ρ : Int → Int) (t : Tm) (l : List Nat), cnd (bV ρ t) l = cnd t l) (hd : ∀ t l, (∀ i ∈ cnd t l, i ∈ l) ∧ (cnd t l).length ≤ l.length) {idx : Bool} (B6 : O9 p idx cnd) (xR : idx = false)
 (q : List Tm) (most fuel : Int) (st : aB) :
 aD prog 46 [.slice (p.map bY), .slice (q.map Tm.av), .int .i64 most, .int .i64 fuel, .bool idx] st (aGT st ((gT p cnd q most fuel).1.map cX) (gT p cnd q most fuel).2) := by
 have SJ := aQN p q most fuel
 have EW := aR2 p hd q most fuel
 refine wF [1000000] 5 func46 ntmps46 rfl rfl ?_
 intro _
 simp -implicitDefEqProofs only [aA, seval]
 refine (SJ _).to ?_
 simp -implicitDefEqProofs only [aA, seval]
 refine aP (fun h => ?_) (fun h => ?_)
 · have hS : gT p cnd q most fuel = ([], 9) := by
    unfold gT
    rw [aE (by rw [show iX p q most fuel = false from by unfold iX; simpa only [lX] using h]; simp)]
   rw [hS]
   simp -implicitDefEqProofs only [aA, seval]
   exact ⟨_, rfl, ⟨[], pU, by simp, .inl ⟨rfl, rfl, rfl⟩, fun _ _ => rfl⟩, fun _ => rfl⟩
 have hok : iX p q most fuel = true := by unfold iX; simpa using h
 have hk := hok
 simp only [iX, cM, bJ] at hk
 obtain ⟨kp, kq, k1, k2, k3, k4⟩ := hk
 obtain ⟨p1, p2⟩ := MA kp
 obtain ⟨q1, q2⟩ := J5 kq
 have hTT : gT p cnd q most fuel = iZ p cnd (bZ q []) most.toNat fuel.toNat (nF q) := by
  unfold gT
  rw [aG hok, aZG (fun c h => (p2 c h).1) hc q2]
 rw [hTT] at EW ⊢
 clear hTT SJ hok h
 obtain ⟨mo, rfl⟩ := tO k1
 obtain ⟨fu, rfl⟩ := tO k3
 rw [lC, lC] at EW ⊢
 simp -implicitDefEqProofs only [aA, seval]
 refine (aZ8 p q (fu : Int) idx (by omega) st).mono ?_
 rintro _ s1 ⟨S, c, m, rfl, hA⟩
 simp -implicitDefEqProofs only [aA, seval]
 refine (aUM p2 p1 hc hd B6 xR q2 q1 (most := mo) (fuel := fu) (by omega) (by omega) hA).mono ?_
 generalize iZ p cnd (bZ q []) mo fu (nF q) = T at EW ⊢
 rintro _ _ ⟨b, s2, rfl, rfl, hb, hD⟩
 obtain ⟨L, e⟩ := T
 simp only at EW hb ⊢
 have hb' : L.map cX ≠ [] → st b = none := fun h => (hD b).1 (hb h)
 have hun : prog.underlying 26 = some (.slice 82) := by kernel_rfl
 have tA := sU (w := 1) (b := b) (l := L.map cX) hun
 rw [aF] at tA
 have hwd : ∀ e ∈ L.map cX, e.width = 1 := fun e he => by simp only [cV] at he; obtain ⟨t, _, rfl⟩ := he; rfl
 simp -implicitDefEqProofs only [tA, aA, seval]
 refine eH (σ := List AV × List Nat × aB) [1000000] [10, 11, 12, 13, 32, 33] L (fun j x => sI st (L.map cX) b j x.1 x.2.1 x.2.2) (fun j x => [(34, .int .i64 j)]) (fun j x => x.2.2) (by decide +kernel) ⟨([], [], aY st b (L.map cX)), sI.start, aO.drop (O5 hD) (by simp -implicitDefEqProofs only [aA, ↓aU, seval])⟩ (fun j a x hx hlt bS hdr hinv => ?_) (fun x hge hinv => ?_)
 case refine_2 =>
  simp -implicitDefEqProofs only [hge, mR, aA, seval]
  have aWM : sI st (L.map cX) b (L.map cX).length x.1 x.2.1 x.2.2 := by rw [aF]; exact hinv
  exact ⟨_, rfl, aWM.done hb' hwd, fun h => by rw [h]; try rfl⟩
 obtain ⟨os, bs, s⟩ := x
 simp only at hinv
 have hw := bK (n := (j : Int) + 1)
 have hne : L.map cX ≠ [] := by intro h; have := nX List.length h; simp at this; subst this; simp at hlt
 have vS : (L.map cX)[j]? = some (.agg [.slice (a.map Tm.av)]) := by rw [oR, hx]; try rfl
 have hc2 := hinv.cell hne
 have aY5 : ((L.map cX).drop j).flatMap AV.cells = [.slice (a.map Tm.av)] ++ ((L.map cX).drop (j + 1)).flatMap AV.cells := by
  rw [← List.map_drop, hdr, bA, tM, List.map_drop]; try rfl
 rw [aY5, ← nV] at hc2
 have hA2 : (os.flatMap AV.cells).length = j * 1 := by
  rw [hinv.own.aFV (fun q hq => hwd q (lW hq)), d5, aF, lB (by omega)]
 obtain ⟨e1, e2, e3, e4, e5, e6⟩ := PI (B := ((L.map cX).drop (j + 1)).flatMap AV.cells) hA2
 have hat := x6 (P := prog) (b := b) (w := 1) (i := j) o7 (len := (L.map cX).length) (by rw [aF]; omega)
 have htk : List.take 1 (List.drop (j * 1) (os.flatMap AV.cells ++ [.slice (a.map Tm.av)] ++ ((L.map cX).drop (j + 1)).flatMap AV.cells)) = [.slice (a.map Tm.av)] := by
  rw [nV, List.drop_append, List.drop_of_length_le (by omega), hA2]
  simp
 obtain ⟨hal, hav⟩ := EW.2 a (cU hx)
 rw [oP hne] at tA ⊢
 rw [aF] at hat tA ⊢
 simp -implicitDefEqProofs only [bS, hat, hc2, htk, e5, aA, ↓aU, seval, ZI]
 refine (aA6 a _ (by omega) fun x hx s => aI7 x s (Tm.aMW (eW.1 hav x hx))).mono ?_
 rintro r s3 ⟨bx, m1, m2, m3, m4⟩
 have hbx : b ∉ bx := fun h => by have := m2 b h; rw [hc2] at this; cases this
 have f1 := (m4 b hbx).trans hc2
 obtain ⟨hqc, hqs, hqa, hqw, hqj⟩ := cL.SK m3
 simp -implicitDefEqProofs only [hat, f1, hqc, hqs, e4, e5, GQ, List.set_cons_zero, aA, seval, ZI]
 exact ⟨(os ++ [.agg [r]], bs ++ bx, s3.aC b (.cells (os.flatMap AV.cells ++ [r] ++ ((L.map cX).drop (j + 1)).flatMap AV.cells))), hinv.step vS rfl m1 m2 m3 m4, aO.mk (by simp -implicitDefEqProofs only [hw, aA, seval])⟩
theorem aOY (p : List Cl) (q : List Tm) (most fuel : Int) (st : aB) :
 aD prog 36 [.slice (p.map bY), .slice (q.map Tm.av), .int .i64 most, .int .i64 fuel] st (aGT st ((gT p (fun _ l => l) q most fuel).1.map cX) (gT p (fun _ l => l) q most fuel).2) := by
 refine wF [1000000] 4 func36 ntmps36 rfl rfl ?_
 intro _
 simp -implicitDefEqProofs only [aA, seval]
 refine (aSU p (cnd := fun _ l => l) (fun _ _ _ => rfl) (fun _ l => ⟨fun _ h => h, cY _⟩) (idx := false) (fun _ => rfl) rfl q most fuel st).mono ?_
 intro r s1 h
 obtain ⟨o, rfl, hM, hN⟩ := h
 obtain ⟨hqc, hqs, hqa, hqw, hqj⟩ := cL.SK hM.choose_spec.2.2.1
 simp -implicitDefEqProofs only [hqj, aA, seval]
 exact ⟨_, rfl, hM, hN⟩
theorem VH (p : List Cl) (q : List Tm) (most fuel : Int) (st : aB) :
 aD prog 36 [.slice (p.map bY), .slice (q.map Tm.av), .int .i64 most, .int .i64 fuel] st (FM st [.slice ((gT p (fun _ l => l) q most fuel).1.map cX), .int .i64 (gT p (fun _ l => l) q most fuel).2]) :=
 (aOY p q most fuel st).mono fun _ _ ⟨o, h1, h2, _⟩ => by subst h1; exact FM.aMN h2





end Go.AW
namespace Go.AW
section
variable {h : bH} {st : aB}
end
end Go.AW
namespace Go.AW
open Go.Proofs.Tryz
theorem aO8 (l : List Tm) : k9 Tm.same l l = true := (OV (fun x _ y => Tm.KD x y)).2 rfl
abbrev aP1 := zi tI_4 (zi zI_4 (zi cE (zi tI_31 (zi zI_31 (zi aN (zi bE (zi bF (zi cA (zi tI_82 (zi zI_82 (zi A6 AC)))))))))))
theorem aQZ (l l' : List Tm) (st : aB) : aD prog 66 [cX l, cX l'] st (fun r st' => r = .bool (k9 Tm.same l l') ∧ st' = st) := by
 refine wF [1000000] 2 func66 ntmps66 rfl rfl ?_
 intro _
 simp -implicitDefEqProofs only [cX, aA, seval, aP1]
 refine (SO l l' 99 _ fun x _ y s => LX x y s).to ?_
 simp -implicitDefEqProofs only [aA, seval]
abbrev HL := zi tI_3 (zi zI_3 (zi aX (zi tI_4 (zi zI_4 (zi cE (zi tI_26 (zi zI_26 (zi o7 (zi s9 (zi sR (zi w8 (zi tI_82 (zi zI_82 (zi A6 AC))))))))))))))
theorem IF (L : List (List Tm)) (st : aB) : aD prog 38 [.slice (L.map cX), .slice (L.map cX)] st (fun r st' => r = .bool true ∧ st' = st) := by
 refine wF [1000000] 2 func38 ntmps38 rfl rfl ?_
 simp only [eD, AV.fits, eM, aF]
 intro ⟨⟨hl, _⟩, _⟩
 simp -implicitDefEqProofs only [bM, aF, aA, seval, HL]
 refine eH (σ := Unit) [1000000] [0, 1] L (fun _ _ => True) (fun i _ => [(4, .bool false), (5, .int .i64 i)]) (fun _ _ => st) (by decide +kernel) ⟨(), trivial, aO.mk (by simp -implicitDefEqProofs only [aA, ↓aU, seval])⟩ (fun i x _ hx hlt bS hdr _ => ?_) (fun _ hge _ => ?_)
 case refine_2 =>
  simp -implicitDefEqProofs only [hge, aF, aA, seval, HL]
 have hw := bK (n := (i : Int) + 1)
 have hat : dJ prog 26 (.slice (L.map cX)) (.int .i64 (i : Int)) = some (.pptr (cX x)) := bL (av := cX) o7 hx rfl
 simp -implicitDefEqProofs only [bS, aF, aA, seval, HL]
 refine wX [(0, 1), (1, 1), (2, 1), (3, 1), (4, 1), (5, 1), (6, 1), (7, 1), (8, 0), (9, 1)] [0, 1, 2, 3, 4, 5, 6, 7, 9] eJ mixed rfl fY ?_
 simp -implicitDefEqProofs only [hat, aA, seval, HL]
 refine (aQZ x x _).to ?_
 rw [aO8]
 simp -implicitDefEqProofs only [hw, aA, seval]
 refine ⟨fY, ?_⟩
 exact ⟨(), aO.mk (by simp -implicitDefEqProofs only [aA, seval])⟩

def oE (s : ByteArray) (a : Int) (p : UInt8 → Bool) : Bool := decide (0 ≤ a) && (decide (a < (s.size : Int)) && (match (sb s)[a.toNat]? with | some x => p x | none => false))
def v6 (s : ByteArray) (a : Int) (c : Nat) : Bool := oE s a fun x => decide (x.toNat = c)
def w6 (s : ByteArray) (a : Int) : Bool := oE s a fun x => decide (48 ≤ x.toNat) && decide (x.toNat ≤ 57)
def vY (s : ByteArray) (a : Int) : Bool := oE s a letter
theorem uM {s : ByteArray} {n : Nat} (h : n < s.size) : ∃ x, (sb s)[n]? = some x := ⟨_, fG (by rw [cJ]; exact h)⟩
abbrev aED := zi tI_3 (zi zI_3 (zi aX (zi tI_4 (zi zI_4 (zi cE (zi tI_5 (zi zI_5 (zi kF (zi tI_9 (zi zI_9 cG))))))))))
theorem aWT (s : ByteArray) (a : Int) (c : Nat) (st : aB) : aD prog 166 [.str s, .int .i64 a, .int .u8 (c : Int)] st (fun r st' => r = .bool (v6 s a c) ∧ st' = st) := by
 by_cases h : 0 ≤ a ∧ a < (s.size : Int)
 · obtain ⟨n, rfl⟩ := tO h.1
   obtain ⟨x, hx⟩ := uM (s := s) (n := n) (by omega)
   have hix := rW (P := prog) (t := 9) cG hx
   have hv : v6 s (n : Int) c = decide (x.toNat = c) := by simp only [v6, oE, lC, hx, gA h.1, gA h.2, eT]
   rw [hv]
   refine wF [1000000] 3 func166 ntmps166 rfl rfl ?_
   intro _
   repeat' (first
    | (simp -implicitDefEqProofs only [*, aA, seval, aED])
    | (refine cS (fun h => ?_) (fun h => ?_))
    | (refine aP (fun h => ?_) (fun h => ?_)))
   all_goals simp_all
   omega
 · by_cases h1 : 0 ≤ a
   · have h2 : ¬ a < (s.size : Int) := fun h2 => h ⟨h1, h2⟩
     have hv : v6 s a c = false := by simp only [v6, oE, fH h2, gK, tQ]
     rw [hv]
     clear hv h
     refine wF [1000000] 3 func166 ntmps166 rfl rfl ?_
     intro _
     simp -implicitDefEqProofs only [h1, h2, bM, bX, aA, seval, aED]
   · have hv : v6 s a c = false := by simp only [v6, oE, fH h1, gK]
     rw [hv]
     clear hv h
     refine wF [1000000] 3 func166 ntmps166 rfl rfl ?_
     intro _
     simp -implicitDefEqProofs only [h1, bX, aA, seval]
abbrev aD5 := zi tI_3 (zi zI_3 (zi aX (zi tI_4 (zi zI_4 (zi cE (zi tI_5 (zi zI_5 (zi kF (zi tI_9 (zi zI_9 cG))))))))))
theorem aRH (s : ByteArray) (a : Int) (st : aB) : aD prog 222 [.str s, .int .i64 a] st (fun r st' => r = .bool (w6 s a) ∧ st' = st) := by
 by_cases h : 0 ≤ a ∧ a < (s.size : Int)
 · obtain ⟨n, rfl⟩ := tO h.1
   obtain ⟨x, hx⟩ := uM (s := s) (n := n) (by omega)
   have hix := rW (P := prog) (t := 9) cG hx
   have hv : w6 s (n : Int) = (decide (48 ≤ x.toNat) && decide (x.toNat ≤ 57)) := by simp only [w6, oE, lC, hx, gA h.1, gA h.2, eT]
   rw [hv]
   refine wF [1000000] 2 func222 ntmps222 rfl rfl ?_
   intro _
   repeat' (first
    | (simp -implicitDefEqProofs only [*, aA, seval, aD5])
    | (refine cS (fun h => ?_) (fun h => ?_))
    | (refine aP (fun h => ?_) (fun h => ?_)))
   all_goals clear hix hv hx
   all_goals (congr 1; rw [vJ]; simp only [cM, bJ, dG, oS, jM, false_iff, not_and] at *; omega)
 · by_cases h1 : 0 ≤ a
   · have h2 : ¬ a < (s.size : Int) := fun h2 => h ⟨h1, h2⟩
     have hv : w6 s a = false := by simp only [w6, oE, fH h2, gK, tQ]
     rw [hv]
     clear hv h
     refine wF [1000000] 2 func222 ntmps222 rfl rfl ?_
     intro _
     simp -implicitDefEqProofs only [h1, h2, bM, bX, aA, seval, aD5]
   · have hv : w6 s a = false := by simp only [w6, oE, fH h1, gK]
     rw [hv]
     clear hv h
     refine wF [1000000] 2 func222 ntmps222 rfl rfl ?_
     intro _
     simp -implicitDefEqProofs only [h1, bX, aA, seval]
abbrev Z2 := zi tI_3 (zi zI_3 (zi aX (zi tI_4 (zi zI_4 (zi cE (zi tI_5 (zi zI_5 (zi kF (zi tI_9 (zi zI_9 cG))))))))))
theorem aST (s : ByteArray) (a : Int) (st : aB) : aD prog 238 [.str s, .int .i64 a] st (fun r st' => r = .bool (vY s a) ∧ st' = st) := by
 by_cases h : 0 ≤ a ∧ a < (s.size : Int)
 · obtain ⟨n, rfl⟩ := tO h.1
   obtain ⟨x, hx⟩ := uM (s := s) (n := n) (by omega)
   have hix := rW (P := prog) (t := 9) cG hx
   have hv : vY s (n : Int) = (decide (97 ≤ x.toNat) && decide (x.toNat ≤ 122)) := by simp only [vY, oE, letter, lC, hx, gA h.1, gA h.2, eT]
   rw [hv]
   refine wF [1000000] 2 func238 ntmps238 rfl rfl ?_
   intro _
   repeat' (first
    | (simp -implicitDefEqProofs only [*, aA, seval, Z2])
    | (refine cS (fun h => ?_) (fun h => ?_))
    | (refine aP (fun h => ?_) (fun h => ?_)))
   all_goals clear hix hv hx
   all_goals (congr 1; rw [vJ]; simp only [cM, bJ, dG, oS, jM, false_iff, not_and] at *; omega)
 · by_cases h1 : 0 ≤ a
   · have h2 : ¬ a < (s.size : Int) := fun h2 => h ⟨h1, h2⟩
     have hv : vY s a = false := by simp only [vY, oE, fH h2, gK, tQ]
     rw [hv]
     clear hv h
     refine wF [1000000] 2 func238 ntmps238 rfl rfl ?_
     intro _
     simp -implicitDefEqProofs only [h1, h2, bM, bX, aA, seval, Z2]
   · have hv : vY s a = false := by simp only [vY, oE, fH h1, gK]
     rw [hv]
     clear hv h
     refine wF [1000000] 2 func238 ntmps238 rfl rfl ?_
     intro _
     simp -implicitDefEqProofs only [h1, bX, aA, seval]
end Go.AW
namespace Go.AW
abbrev ba (l : List UInt8) : ByteArray := ⟨⟨l⟩⟩
def dN (x : UInt8) : Bool := decide (48 ≤ x.toNat) && decide (x.toNat ≤ 57)
def r8 (x : UInt8) : Bool := decide (65 ≤ x.toNat) && decide (x.toNat ≤ 90)
def cO (l : List UInt8) (n c : Nat) : Bool := match l[n]? with | some x => decide (x.toNat = c) | none => false
def fR (l : List UInt8) (n : Nat) (p : UInt8 → Bool) : Bool := match l[n]? with | some x => p x | none => false
def mZ (l : List UInt8) : Nat := l.foldl (fun n x => n * 10 + (x.toNat - 48)) 0
def gY (l : List UInt8) : Nat × Bool := if l.length = 0 ∨ (cO l 0 48 = true ∧ 1 < l.length) then (0, false) else (mZ l, true)
def tF (l : List UInt8) (a : Nat) : Option (Int × Nat) :=
 let f := if cO l a 45 then a + 1 else a
 let t := ((l.drop f).takeWhile dN).take 4
 if (gY t).2 = false ∨ (a < f ∧ (gY t).1 = 0) ∨ 999 < (gY t).1 then none else some (if a < f then -((gY t).1 : Int) else ((gY t).1 : Int), f + t.length)
def jZ (l : List UInt8) (b g : ByteArray) : ByteArray := if l.take g.size = sb g ∧ b.size < g.size then g else b
def nG (l : List UInt8) (a : Nat) : Option (ByteArray × Nat) :=
 let t := (l.drop a).takeWhile letter
 if 6 < t.length then none else if 0 < t.length then some (ba t, a + t.length)
 else let b := iO.foldl (jZ (l.drop a)) ⟨#[]⟩
  if b.size = 0 then none else some (b, a + b.size)
theorem aGE {l : List UInt8} {i : Nat} {x : UInt8} (h : l[i]? = some x) : mZ (l.take (i + 1)) = mZ (l.take i) * 10 + (x.toNat - 48) := by
 simp [mZ, fM, h, List.foldl_append]
theorem aFW : ∀ (l : List UInt8) (n : Nat), (∀ x ∈ l, dN x = true) → l.foldl (fun n x => n * 10 + (x.toNat - 48)) n + 1 ≤ (n + 1) * 10 ^ l.length
 | [], n, _ => by simp
 | x :: l, n, h => by
  have hx := h x (by simp)
  simp only [dN, cM, bJ] at hx
  have := aFW l (n * 10 + (x.toNat - 48)) (fun y hy => h y (by simp [hy]))
  simp only [zX, aS, Nat.pow_succ]
  refine nB this ?_
  rw [Nat.mul_comm (10 ^ l.length) 10, ← Nat.mul_assoc]
  exact sF _ (by omega)
theorem QK {l : List UInt8} (h : ∀ x ∈ l, dN x = true) : mZ l < 10 ^ l.length := Nat.lt_of_succ_le (by have := aFW l 0 h; simpa [mZ] using this)
theorem aV3 (s : ByteArray) (a b : Nat) : sb (s.extract a b) = ((sb s).drop a).take (b - a) := by
 simp only [sb, ByteArray.data_extract, Array.toList_extract, List.extract_eq_take_drop]
theorem aWQ {g : ByteArray} (h : g.size = 0) : g = ⟨#[]⟩ := by
 obtain ⟨⟨l⟩⟩ := g
 have : l.length = 0 := h
 rw [List.length_eq_zero_iff.1 this]
theorem WT (s : ByteArray) : ba (sb s) = s := rfl
theorem EA (s : ByteArray) (a b : Nat) : s.extract a b = ba (((sb s).drop a).take (b - a)) := by rw [← aV3]
theorem nE {l : List UInt8} {n c : Nat} (h : cO l n c = true) : n < l.length := by
 unfold cO at h
 rcases kP n l.length with h1 | h1
 · exact h1
 · rw [xN h1] at h; cases h
theorem aP2 {l : List UInt8} {n : Nat} {p : UInt8 → Bool} (h : fR l n p = true) : n < l.length := by
 unfold fR at h
 rcases kP n l.length with h1 | h1
 · exact h1
 · rw [xN h1] at h; cases h
theorem rV {l : List UInt8} {n c : Nat} {x : UInt8} (h : l[n]? = some x) : cO l n c = decide (x.toNat = c) := by simp only [cO, h]
theorem uJ {l : List UInt8} {n : Nat} {p : UInt8 → Bool} {x : UInt8} (h : l[n]? = some x) : fR l n p = p x := by simp only [fR, h]
theorem aK5 {l : List UInt8} (h : ∀ x ∈ l, dN x = true) (hl : l.length ≤ 4) : (gY l).1 < 10000 := by
 unfold gY
 split
 · simp
 · exact vH (QK h) (nB (RB (by omega) hl) (by decide))
theorem NQ {p : UInt8 → Bool} {l : List UInt8} {i : Nat} (hi : i ≤ (l.takeWhile p).length) (h : fR l i p = true) : i < (l.takeWhile p).length := by
 induction l generalizing i with
 | nil => simp [fR] at h
 | cons x l ih =>
  cases i with
  | zero => simp [fR] at h; simp [GW, h]
  | succ i =>
   rw [GW] at hi ⊢
   split at hi
   · rename_i hx
     rw [aG hx]
     simp only [aS] at hi ⊢
     have := ih (i := i) (by omega) (by simpa [fR] using h)
     omega
   · simp at hi
theorem P9 {p : UInt8 → Bool} {l : List UInt8} {i : Nat} (hi : i ≤ (l.takeWhile p).length) (h : fR l i p = false) : i = (l.takeWhile p).length := by
 induction l generalizing i with
 | nil => simp at hi; simp [hi]
 | cons x l ih =>
  cases i with
  | zero => simp [fR] at h; simp [GW, h]
  | succ i =>
   rw [GW] at hi ⊢
   split at hi
   · rename_i hx
     rw [aG hx]
     simp only [aS] at hi ⊢
     have := ih (i := i) (by omega) (by simpa [fR] using h)
     omega
   · simp at hi
theorem aK7 (p : UInt8 → Bool) (l : List UInt8) : l.take (l.takeWhile p).length = l.takeWhile p := by
 induction l with
 | nil => rfl
 | cons x l ih =>
  rw [GW]
  split
  · simp [ih]
  · rfl
theorem BA (l : List UInt8) (a i : Nat) (p : UInt8 → Bool) : fR (l.drop a) i p = fR l (a + i) p := by simp only [fR, Q6]
theorem WZ {p : UInt8 → Bool} {l : List UInt8} : ∀ x ∈ l.takeWhile p, p x = true := by
 induction l with
 | nil => simp
 | cons y l ih =>
  rw [GW]
  split
  · rename_i h; intro x hx; simp only [cZ] at hx; rcases hx with rfl | hx; exact h; exact ih x hx
  · simp
theorem XS {p : UInt8 → Bool} {l : List UInt8} {k : Nat} (hk : k ≤ (l.takeWhile p).length) : l.take k = (l.takeWhile p).take k := by
 rw [← aK7 p l, xJ, lB hk]
theorem DE (p : UInt8 → Bool) (l : List UInt8) : (l.takeWhile p).length ≤ l.length := (List.takeWhile_sublist p).length_le
theorem WR (L : List UInt8) : ∀ (gs : List ByteArray) (b : ByteArray), b.size ≤ 3 → (∀ g ∈ gs, g.size ≤ 3) → (gs.foldl (jZ L) b).size ≤ 3
 | [], b, h, _ => h
 | g :: gs, b, h, hg => by
  rw [zX]
  refine WR L gs _ ?_ fun x hx => hg x (by simp [hx])
  unfold jZ
  split
  · exact hg g (by simp)
  · exact h
theorem aBW : ∀ g ∈ iO, g.size ≤ 3 := by decide
theorem aWS (L : List UInt8) (i : Nat) : ((iO.take i).foldl (jZ L) ⟨#[]⟩).size ≤ 3 := WR L _ _ (by decide) fun g hg => aBW g (lW hg)
end Go.AW
namespace Go.AW
open Go.Proofs.Tryz
theorem FG {φ : AF} {y z : Operand} {s : ByteArray} {k m : Nat} (h : φ.eval y = .int .i64 (k : Int)) (h' : φ.eval z = .int .i64 (m : Int)) (hk : k ≤ m) (hm : m ≤ s.size) : gW prog φ 9 (.str s) (some y) (some z) none = some (.str (s.extract k m)) := by
 unfold gW oL
 rw [aE (by simp [qK])]
 simp only [show prog.underlying 9 = some .string from cG, dR, h, h']
 rw [aG (by omega)]
 simp only [lC]
 rw [aG (by omega)]
 try simp
theorem LO (s : ByteArray) (n : Nat) (p : UInt8 → Bool) : oE s (n : Int) p = fR (sb s) n p := by
 unfold oE fR
 rw [lC]
 by_cases h : n < s.size
 · rw [gA (by omega : (0 : Int) ≤ (n : Int)), gA (by omega : (n : Int) < (s.size : Int))]; try rfl
 · rw [fH (by omega : ¬ (n : Int) < (s.size : Int)), xN (by rw [cJ]; omega)]; simp
theorem kB (s : ByteArray) (n c : Nat) (st : aB) : aD prog 166 [.str s, .int .i64 (n : Int), .int .u8 (c : Int)] st (fun r st' => r = .bool (cO (sb s) n c) ∧ st' = st) := by
 have h := aWT s n c st
 rwa [show v6 s n c = cO (sb s) n c from LO s n _] at h
theorem xU (s : ByteArray) (n : Nat) (st : aB) : aD prog 222 [.str s, .int .i64 (n : Int)] st (fun r st' => r = .bool (fR (sb s) n dN) ∧ st' = st) := by
 have h := aRH s n st
 rwa [show w6 s n = fR (sb s) n dN from LO s n _] at h
theorem aFP (s : ByteArray) (n : Nat) (st : aB) : aD prog 238 [.str s, .int .i64 (n : Int)] st (fun r st' => r = .bool (fR (sb s) n letter) ∧ st' = st) := by
 have h := aST s n st
 rwa [show vY s n = fR (sb s) n letter from LO s n _] at h
theorem aHJ {n k : Nat} (h : n ≤ 1048576) (hk : k ≤ 1048576) : IntKind.wrap .i64 ((n : Int) + (k : Int)) = ((n + k : Nat) : Int) := by
 rw [wrap64 (by omega) (by omega)]; try rfl
abbrev BK := zi tI_3 (zi zI_3 (zi aX (zi tI_4 (zi zI_4 (zi cE (zi tI_5 (zi zI_5 (zi kF (zi tI_9 (zi zI_9 cG))))))))))
theorem XX (s : ByteArray) (hd : ∀ x ∈ sb s, dN x = true) (hl : s.size ≤ 4) (st : aB) : aD prog 237 [.str s] st (fun r st' => r = .tup [.int .i64 ((gY (sb s)).1 : Int), .bool (gY (sb s)).2] ∧ st' = st) := by
 refine wF [1000000] 1 func237 ntmps237 rfl rfl ?_
 intro _
 by_cases hs : s.size = 0
 · have e : gY (sb s) = (0, false) := by unfold gY; rw [aG (Or.inl (by rw [cJ]; exact hs))]
   rw [e]
   simp -implicitDefEqProofs only [hs, aA, ↓aU, seval, BK]
 have BV : (0 : Int) < (s.size : Int) := by omega
 obtain ⟨x0, hx0⟩ := uM (s := s) (n := 0) (by omega)
 have hix := rW (P := prog) (t := 9) cG hx0
 rw [show ((0 : Nat) : Int) = 0 from rfl] at hix
 have hdx := hd x0 (cU hx0)
 simp only [dN, cM, bJ] at hdx
 have h45 : ((x0.toNat : Int) = 45) = False := cH (by omega)
 have h0 : ((s.size : Int) = 0) = False := cH (by omega)
 have h17 : ((17 : Int) < (s.size : Int)) = False := cH (by omega)
 simp -implicitDefEqProofs only [BV, hix, h45, h0, h17, bM, bX, aA, seval, BK]
 by_cases h48 : x0.toNat = 48
 case pos =>
  have CO : ((x0.toNat : Int) = 48) = True := c7 (by omega)
  by_cases h1 : 1 < s.size
  case pos =>
   have h1' : ((1 : Int) < (s.size : Int)) = True := c7 (by omega)
   have e : gY (sb s) = (0, false) := by unfold gY; rw [aG (Or.inr ⟨by rw [rV hx0, h48]; try rfl, by rw [cJ]; exact h1⟩)]
   rw [e]
   simp -implicitDefEqProofs only [CO, h1', bM, aA, ↓aU, seval, BK]
  have h1' : ((1 : Int) < (s.size : Int)) = False := cH (by omega)
  have hnd : gY (sb s) = (mZ (sb s), true) := by unfold gY; rw [aE (by rw [cJ]; rintro (h | ⟨_, h⟩) <;> omega)]
  simp -implicitDefEqProofs only [CO, h1', bM, bX, aA, seval, BK]
  rw [hnd]
  refine gX (σ := Nat) [1000000] [0, 4] (fun i => i ≤ s.size) (fun i => [(5, .int .i64 (mZ ((sb s).take i) : Int)), (6, .int .i64 (i : Int))]) (fun _ => st) (fun i => s.size - i) (by decide +kernel) ⟨0, by omega, aO.mk (by simp -implicitDefEqProofs only [kQ, aA, ↓aU, seval]; rfl)⟩ ?_
  intro i hi
  have hb : mZ ((sb s).take i) < 10000 := vH (QK fun x hx => hd x (lW hx)) (nB (RB (by omega) (by rw [d5]; omega : ((sb s).take i).length ≤ 4)) (by decide))
  simp -implicitDefEqProofs only [aA, seval, BK]
  refine aP (fun h5 => ?_) (fun h5 => ?_)
  case refine_2 =>
   simp only [dG] at h5
   obtain rfl : i = s.size := by omega
   rw [mO (by rw [cJ]; omega)]
   simp -implicitDefEqProofs only [aA, seval]
  simp only [bJ] at h5
  obtain ⟨c, hc⟩ := uM (s := s) (n := i) (by omega)
  have hic := rW (P := prog) (t := 9) cG hc
  have hdc := hd c (cU hc)
  simp only [dN, cM, bJ] at hdc
  have c48 : ((c.toNat : Int) < 48) = False := cH (by omega)
  have c57 : ((57 : Int) < (c.toNat : Int)) = False := cH (by omega)
  have hw0 := aHJ (n := i) (k := 1) (by omega) (by omega)
  rw [show ((1 : Nat) : Int) = 1 from rfl] at hw0
  have hw1 := bK (n := (mZ ((sb s).take i) : Int) * 10)
  have hw2 : IntKind.wrap .u8 ((c.toNat : Int) - 48) = ((c.toNat - 48 : Nat) : Int) := by rw [IntKind.wrap_u8]; omega
  have hw3 := bK (n := ((c.toNat - 48 : Nat) : Int))
  have hw4 := bK (n := (mZ ((sb s).take i) : Int) * 10 + ((c.toNat - 48 : Nat) : Int))
  have iK := aGE hc
  simp -implicitDefEqProofs only [hic, c48, c57, hw1, hw2, bX, aA, seval]
  refine ⟨i + 1, by omega, by omega, aO.mk ?_⟩
  rw [iK]
  simp -implicitDefEqProofs only [hw0, hw3, hw4, aA, seval]
  rfl
 have CO : ((x0.toNat : Int) = 48) = False := cH (by omega)
 have hnd : gY (sb s) = (mZ (sb s), true) := by unfold gY; rw [aE (by rw [cJ, rV hx0]; rintro (h | ⟨h, _⟩); omega; exact h48 (of_decide_eq_true h))]
 simp -implicitDefEqProofs only [CO, bX, aA, seval]
 rw [hnd]
 refine gX (σ := Nat) [1000000] [0, 4] (fun i => i ≤ s.size) (fun i => [(5, .int .i64 (mZ ((sb s).take i) : Int)), (6, .int .i64 (i : Int))]) (fun _ => st) (fun i => s.size - i) (by decide +kernel) ⟨0, by omega, aO.mk (by simp -implicitDefEqProofs only [kQ, aA, ↓aU, seval]; rfl)⟩ ?_
 intro i hi
 have hb : mZ ((sb s).take i) < 10000 := vH (QK fun x hx => hd x (lW hx)) (nB (RB (by omega) (by rw [d5]; omega : ((sb s).take i).length ≤ 4)) (by decide))
 simp -implicitDefEqProofs only [aA, seval, BK]
 refine aP (fun h5 => ?_) (fun h5 => ?_)
 case refine_2 =>
  simp only [dG] at h5
  obtain rfl : i = s.size := by omega
  rw [mO (by rw [cJ]; omega)]
  simp -implicitDefEqProofs only [aA, seval]
 simp only [bJ] at h5
 obtain ⟨c, hc⟩ := uM (s := s) (n := i) (by omega)
 have hic := rW (P := prog) (t := 9) cG hc
 have hdc := hd c (cU hc)
 simp only [dN, cM, bJ] at hdc
 have c48 : ((c.toNat : Int) < 48) = False := cH (by omega)
 have c57 : ((57 : Int) < (c.toNat : Int)) = False := cH (by omega)
 have hw0 := aHJ (n := i) (k := 1) (by omega) (by omega)
 rw [show ((1 : Nat) : Int) = 1 from rfl] at hw0
 have hw1 := bK (n := (mZ ((sb s).take i) : Int) * 10)
 have hw2 : IntKind.wrap .u8 ((c.toNat : Int) - 48) = ((c.toNat - 48 : Nat) : Int) := by rw [IntKind.wrap_u8]; omega
 have hw3 := bK (n := ((c.toNat - 48 : Nat) : Int))
 have hw4 := bK (n := (mZ ((sb s).take i) : Int) * 10 + ((c.toNat - 48 : Nat) : Int))
 have iK := aGE hc
 simp -implicitDefEqProofs only [hic, c48, c57, hw1, hw2, bX, aA, seval]
 refine ⟨i + 1, by omega, by omega, aO.mk ?_⟩
 rw [iK]
 simp -implicitDefEqProofs only [hw0, hw3, hw4, aA, seval]
 rfl
theorem nA {x : Int} {m : Nat} (h : x = (m : Int)) (hm : m ≤ 1099511627776) : IntKind.wrap .i64 x = (m : Int) := by rw [wrap64 (by omega) (by omega)]; exact h
abbrev FD : Tm := .mk 0 0 ⟨#[]⟩ []
def yS (o : Option (Int × Nat)) : AV := match o with | some (n, e) => .tup [(Tm.mk 2 n ⟨#[]⟩ []).av, .int .i64 (e : Int)] | none => .tup [FD.av, .int .i64 (-1)]
abbrev zR := zi tI_3 (zi zI_3 (zi aX (zi tI_4 (zi zI_4 (zi cE (zi tI_5 (zi zI_5 (zi kF (zi tI_8 (zi zI_8 (zi vR (zi vQ (zi vU (zi vL (zi wC (zi tI_9 (zi zI_9 (zi cG (zi tI_63 (zi zI_63 (zi bR (zi bQ (zi bP (zi bT bU))))))))))))))))))))))))
set_option maxHeartbeats 1000000 in
theorem aTV (s : ByteArray) (hs : s.size ≤ 1000) (a : Nat) (ha : a ≤ s.size) (st : aB) : aD prog 223 [.str s, .int .i64 (a : Int)] st (fun r st' => r = yS (tF (sb s) a) ∧ st' = st) := by
 refine aD.done ?_
 refine wF [1000000] 2 func223 ntmps223 rfl rfl ?_
 intro _
 simp -implicitDefEqProofs only [aA, seval, zR]
 intro b hb
 refine (kB s a 45 _).to ?_
 obtain ⟨f1, hf1⟩ : ∃ f, f = a + 1 := ⟨_, rfl⟩
 have hw1 := nA (x := (a : Int) + 1) (m := f1) (by omega) (by omega)
 simp -implicitDefEqProofs only [aA, seval]
 refine aP (fun h1 => ?_) (fun h1 => ?_)
 · have hf := nE h1
   rw [cJ] at hf
   simp -implicitDefEqProofs only [hw1, aA, seval]
   obtain ⟨f, rfl⟩ : ∃ f, f = f1 := ⟨_, rfl⟩
   replace hf : f ≤ s.size := by omega
   refine gX (σ := Nat) [1000000] [0, 1, 4, 5, 7] (fun j => f ≤ j ∧ j ≤ f + 4 ∧ j - f ≤ (((sb s).drop f).takeWhile dN).length) (fun j => [(6, .int .i64 (j : Int))]) (fun _ => st.aC b (.cells [.int .i64 0, .int .i64 0, .str ⟨#[]⟩, .fslice []])) (fun j => f + 4 - j) (by decide +kernel) ⟨f, ⟨by omega, by omega, by omega⟩, aO.mk (by simp -implicitDefEqProofs only [aA, seval])⟩ ?_
   rintro j ⟨hj1, hj4, hj⟩
   have hfi : j ≤ s.size := by have := DE dN ((sb s).drop f); rw [nD, cJ] at this; omega
   simp -implicitDefEqProofs only [aA, seval]
   refine (xU s j _).to ?_
   have hw4 := bK (n := (f : Int) + 4)
   have GD := bK (n := (j : Int) + 1)
   simp -implicitDefEqProofs only [aA, seval]
   refine cS (fun h5 => ?_) (fun h5 => ?_)
   simp -implicitDefEqProofs only [h5, hw4, aA, seval]
   refine aP (fun h6 => ?_) (fun h6 => ?_)
   case' refine_1.refine_1 =>
    rw [show j = f + (j - f) by omega, ← BA] at h5
    simp only [bJ] at h6
    simp -implicitDefEqProofs only [GD, aA, seval]
    exact ⟨j + 1, by omega, ⟨by omega, by omega, by have := NQ hj h5; omega⟩, aO.mk (by simp -implicitDefEqProofs only [aA, seval] <;> rfl)⟩
   all_goals
    have ht : (((sb s).drop f).takeWhile dN).take 4 = ((sb s).drop f).take (j - f) := by
     rw [XS hj]
     rcases kP (j - f) 4 with h7 | h7
     · have h8 : j - f = (((sb s).drop f).takeWhile dN).length := by
        refine P9 hj ?_
        rw [BA, show f + (j - f) = j by omega]
        first | exact h5 | (simp only [dG] at h6; omega)
       rw [h8, eS, mO (by omega)]
     · rw [show j - f = 4 by omega]
    have hex : s.extract f j = ba ((((sb s).drop f).takeWhile dN).take 4) := by rw [EA, ht]
    have hln : ((((sb s).drop f).takeWhile dN).take 4).length = j - f := by rw [ht, d5, nD, cJ]; omega
    have hdg : ∀ x ∈ (((sb s).drop f).takeWhile dN).take 4, dN x = true := fun x hx => WZ x (lW hx)
    have hsl := fun (φ : AF) (y z : Operand) (h : φ.eval y = .int .i64 (f : Int)) (h' : φ.eval z = .int .i64 (j : Int)) => FG (s := s) h h' hj1 hfi
    rw [hex] at hsl
    have hrd : tF (sb s) a = if (gY ((((sb s).drop f).takeWhile dN).take 4)).2 = false ∨ (a < f ∧ (gY ((((sb s).drop f).takeWhile dN).take 4)).1 = 0) ∨ 999 < (gY ((((sb s).drop f).takeWhile dN).take 4)).1 then none else some (if a < f then -((gY ((((sb s).drop f).takeWhile dN).take 4)).1 : Int) else ((gY ((((sb s).drop f).takeWhile dN).take 4)).1 : Int), f + ((((sb s).drop f).takeWhile dN).take 4).length) := by
     unfold tF
     simp only [h1, ↓reduceIte, ← hf1]
    rw [hrd]
    clear hrd
    generalize (((sb s).drop f).takeWhile dN).take 4 = t at *
    simp -implicitDefEqProofs only [hsl, h5, aA, seval]
    refine (XX (ba t) hdg (by show t.length ≤ 4; omega) _).to ?_
    have hn := aK5 hdg (by omega)
    rw [show sb (ba t) = t from rfl]
    generalize gY t = nd at *
    obtain ⟨n, ok⟩ := nd
    simp only at hn ⊢
    have hw5 := bK (n := 0 - (n : Int))
    have hw6 := bK (n := -(n : Int))
    have hfa : ((a : Int) < (f : Int)) = True := c7 (by omega)
    have hfn : (a < f) = True := c7 (by omega)
    cases ok
    case false =>
     simp -implicitDefEqProofs only [aK, aA, seval, zR]
     refine ⟨?_, (aM.refl _).aC hb⟩
     rw [aG (Or.inl trivial)]
     simp only [yS, aV, j9, kC, jV, kY, lY, bA, aW, aW]
    by_cases hz : (n : Int) = 0
    case' pos => have hz' : n = 0 := by omega
    case' neg => have hz' : n ≠ 0 := by omega
    all_goals
     by_cases h9 : (999 : Int) < (n : Int)
     case' pos => have h9' : 999 < n := by omega
     case' neg => have h9' : ¬ 999 < n := by omega
     all_goals try (exfalso; omega)
     all_goals
      simp -implicitDefEqProofs only [aK, hw5, hz, h9, hfa, aA, seval, zR]
      try
       refine (B3 _ _).to ?_
       simp -implicitDefEqProofs only [aK, aA, seval, zR]
      refine ⟨?_, (aM.refl _).aC hb⟩
      first
       | rw [aG (by omega)]
       | rw [aE (by omega), aG (by omega), show f + t.length = j by omega]
       | rw [aE (by omega), aE (by omega), show f + t.length = j by omega]
      simp only [yS, aV, j9, kC, jV, kY, qA, lY, bA, aW, aW, Int.zero_sub]
 · skip
   simp -implicitDefEqProofs only [aA, seval]
   obtain ⟨f, rfl⟩ : ∃ f, f = a := ⟨_, rfl⟩
   have hf := ha
   refine gX (σ := Nat) [1000000] [0, 1, 4, 5, 7] (fun j => f ≤ j ∧ j ≤ f + 4 ∧ j - f ≤ (((sb s).drop f).takeWhile dN).length) (fun j => [(6, .int .i64 (j : Int))]) (fun _ => st.aC b (.cells [.int .i64 0, .int .i64 0, .str ⟨#[]⟩, .fslice []])) (fun j => f + 4 - j) (by decide +kernel) ⟨f, ⟨by omega, by omega, by omega⟩, aO.mk (by simp -implicitDefEqProofs only [aA, seval])⟩ ?_
   rintro j ⟨hj1, hj4, hj⟩
   have hfi : j ≤ s.size := by have := DE dN ((sb s).drop f); rw [nD, cJ] at this; omega
   simp -implicitDefEqProofs only [aA, seval]
   refine (xU s j _).to ?_
   have hw4 := bK (n := (f : Int) + 4)
   have GD := bK (n := (j : Int) + 1)
   simp -implicitDefEqProofs only [aA, seval]
   refine cS (fun h5 => ?_) (fun h5 => ?_)
   simp -implicitDefEqProofs only [h5, hw4, aA, seval]
   refine aP (fun h6 => ?_) (fun h6 => ?_)
   case' refine_1.refine_1 =>
    rw [show j = f + (j - f) by omega, ← BA] at h5
    simp only [bJ] at h6
    simp -implicitDefEqProofs only [GD, aA, seval]
    exact ⟨j + 1, by omega, ⟨by omega, by omega, by have := NQ hj h5; omega⟩, aO.mk (by simp -implicitDefEqProofs only [aA, seval] <;> rfl)⟩
   all_goals
    have ht : (((sb s).drop f).takeWhile dN).take 4 = ((sb s).drop f).take (j - f) := by
     rw [XS hj]
     rcases kP (j - f) 4 with h7 | h7
     · have h8 : j - f = (((sb s).drop f).takeWhile dN).length := by
        refine P9 hj ?_
        rw [BA, show f + (j - f) = j by omega]
        first | exact h5 | (simp only [dG] at h6; omega)
       rw [h8, eS, mO (by omega)]
     · rw [show j - f = 4 by omega]
    have hex : s.extract f j = ba ((((sb s).drop f).takeWhile dN).take 4) := by rw [EA, ht]
    have hln : ((((sb s).drop f).takeWhile dN).take 4).length = j - f := by rw [ht, d5, nD, cJ]; omega
    have hdg : ∀ x ∈ (((sb s).drop f).takeWhile dN).take 4, dN x = true := fun x hx => WZ x (lW hx)
    have hsl := fun (φ : AF) (y z : Operand) (h : φ.eval y = .int .i64 (f : Int)) (h' : φ.eval z = .int .i64 (j : Int)) => FG (s := s) h h' hj1 hfi
    rw [hex] at hsl
    have hrd : tF (sb s) f = if (gY ((((sb s).drop f).takeWhile dN).take 4)).2 = false ∨ (f < f ∧ (gY ((((sb s).drop f).takeWhile dN).take 4)).1 = 0) ∨ 999 < (gY ((((sb s).drop f).takeWhile dN).take 4)).1 then none else some (if f < f then -((gY ((((sb s).drop f).takeWhile dN).take 4)).1 : Int) else ((gY ((((sb s).drop f).takeWhile dN).take 4)).1 : Int), f + ((((sb s).drop f).takeWhile dN).take 4).length) := by
     unfold tF
     simp only [h1, ↓reduceIte, jM]
    rw [hrd]
    clear hrd
    generalize (((sb s).drop f).takeWhile dN).take 4 = t at *
    simp -implicitDefEqProofs only [hsl, h5, aA, seval]
    refine (XX (ba t) hdg (by show t.length ≤ 4; omega) _).to ?_
    have hn := aK5 hdg (by omega)
    rw [show sb (ba t) = t from rfl]
    generalize gY t = nd at *
    obtain ⟨n, ok⟩ := nd
    simp only at hn ⊢
    have hw5 := bK (n := 0 - (n : Int))
    have hw6 := bK (n := -(n : Int))
    have hfa : ((f : Int) < (f : Int)) = False := cH (by omega)
    have hfn : (f < f) = False := cH (by omega)
    cases ok
    case false =>
     simp -implicitDefEqProofs only [aK, aA, seval, zR]
     refine ⟨?_, (aM.refl _).aC hb⟩
     rw [aG (Or.inl trivial)]
     simp only [yS, aV, j9, kC, jV, kY, lY, bA, aW, aW]
    by_cases hz : (n : Int) = 0
    case' pos => have hz' : n = 0 := by omega
    case' neg => have hz' : n ≠ 0 := by omega
    all_goals
     by_cases h9 : (999 : Int) < (n : Int)
     case' pos => have h9' : 999 < n := by omega
     case' neg => have h9' : ¬ 999 < n := by omega
     all_goals try (exfalso; omega)
     all_goals
      simp -implicitDefEqProofs only [aK, hz, h9, hfa, aA, seval, zR]
      try
       refine (B3 _ _).to ?_
       simp -implicitDefEqProofs only [aK, aA, seval, zR]
      refine ⟨?_, (aM.refl _).aC hb⟩
      first
       | rw [aG (by omega)]
       | rw [aE (by omega), aG (by omega), show f + t.length = j by omega]
       | rw [aE (by omega), aE (by omega), show f + t.length = j by omega]
      simp only [yS, aV, j9, kC, jV, kY, qA, lY, bA, aW, aW]
def y8 (o : Option (ByteArray × Nat)) : AV := match o with | some (b, e) => .tup [.str b, .int .i64 (e : Int)] | none => .tup [.str ⟨#[]⟩, .int .i64 (-1)]
theorem aSP (st : aB) : aD prog 231 [] st (fun r st' => r = .slice (iO.map .str) ∧ st' = st) := aD.done ((WP st).mono (by rintro _ _ ⟨rfl, rfl⟩; exact ⟨rfl, aM.refl _⟩))
abbrev zC := zi tI_3 (zi zI_3 (zi aX (zi tI_9 (zi zI_9 (zi cG (zi tI_125 (zi zI_125 (zi iP (zi lL (zi lK mC))))))))))
set_option maxHeartbeats 1000000 in
theorem QV (s : ByteArray) (hs : s.size ≤ 1000) (a : Nat) (ha : a ≤ s.size) (st : aB) : aD prog 224 [.str s, .int .i64 (a : Int)] st (fun r st' => r = y8 (nG (sb s) a) ∧ st' = st) := by
 refine wF [1000000] 2 func224 ntmps224 rfl rfl ?_
 intro _
 simp -implicitDefEqProofs only [aA, seval]
 refine gX (σ := Nat) [1000000] [0, 1, 4, 5] (fun j => a ≤ j ∧ j - a ≤ (((sb s).drop a).takeWhile letter).length) (fun j => [(6, .int .i64 (j : Int))]) (fun _ => st) (fun j => s.size - j) (by decide +kernel) ⟨a, ⟨by omega, by omega⟩, aO.mk (by simp -implicitDefEqProofs only [aA, seval])⟩ ?_
 rintro j ⟨hj1, hj⟩
 have hfi : j ≤ s.size := by have := DE letter ((sb s).drop a); rw [nD, cJ] at this; omega
 simp -implicitDefEqProofs only [aA, seval]
 refine (aFP s j _).to ?_
 have hw6 := bK (n := (a : Int) + 6)
 have GD := bK (n := (j : Int) + 1)
 simp -implicitDefEqProofs only [aA, seval]
 refine aP (fun h5 => ?_) (fun h5 => ?_)
 · have hlt := aP2 h5
   rw [show j = a + (j - a) by omega, ← BA] at h5
   simp -implicitDefEqProofs only [GD, aA, seval]
   exact ⟨j + 1, by rw [cJ] at hlt; omega, ⟨by omega, by have := NQ hj h5; omega⟩, aO.mk (by simp -implicitDefEqProofs only [aA, seval] <;> rfl)⟩
 rw [show j = a + (j - a) by omega, ← BA] at h5
 have he := P9 hj h5
 have hex : s.extract a j = ba (((sb s).drop a).takeWhile letter) := by rw [EA, he, aK7]
 have hsl := fun (φ : AF) (y z : Operand) (h : φ.eval y = .int .i64 (a : Int)) (h' : φ.eval z = .int .i64 (j : Int)) => FG (s := s) h h' hj1 hfi
 rw [hex] at hsl
 simp -implicitDefEqProofs only [hw6, aA, seval]
 refine aP (fun h6 => ?_) (fun h6 => ?_)
 · simp only [bJ] at h6
   simp -implicitDefEqProofs only [aA, seval]
   unfold nG
   rw [aG (by omega)]
   try rfl
 simp only [dG] at h6
 simp -implicitDefEqProofs only [aA, seval]
 refine aP (fun h7 => ?_) (fun h7 => ?_)
 · simp only [bJ] at h7
   simp -implicitDefEqProofs only [hsl, aA, seval]
   unfold nG
   rw [aE (by omega), aG (by omega), ← he, show a + (j - a) = j by omega]
   try rfl
 simp only [dG] at h7
 obtain rfl : j = a := by omega
 have hrd : nG (sb s) j = if (iO.foldl (jZ ((sb s).drop j)) ⟨#[]⟩).size = 0 then none else some (iO.foldl (jZ ((sb s).drop j)) ⟨#[]⟩, j + (iO.foldl (jZ ((sb s).drop j)) ⟨#[]⟩).size) := by
  unfold nG
  rw [aE (by omega), aE (by omega)]
 rw [hrd]
 clear hrd
 simp -implicitDefEqProofs only [aA, seval]
 refine (aSP _).to ?_
 simp -implicitDefEqProofs only [aA, seval]
 refine gX (σ := Nat) [1000000] [0, 1, 4, 5, 8] (fun i => i ≤ iO.length) (fun i => [(7, .str ((iO.take i).foldl (jZ ((sb s).drop j)) ⟨#[]⟩)), (9, .int .i64 (i : Int))]) (fun _ => st) (fun i => iO.length - i) (by decide +kernel) ⟨0, by omega, aO.mk (by simp -implicitDefEqProofs only [kQ, List.foldl_nil, aA, ↓aU, seval])⟩ ?_
 intro i hi
 have hbl := aWS ((sb s).drop j) i
 simp -implicitDefEqProofs only [aF, aA, seval, zC]
 refine aP (fun h8 => ?_) (fun h8 => ?_)
 case refine_2 =>
  simp only [dG] at h8
  rw [show i = iO.length by omega, eS] at hbl ⊢
  generalize iO.foldl (jZ ((sb s).drop j)) ⟨#[]⟩ = g at *
  have hw7 := bK (n := (j : Int) + (g.size : Int))
  simp -implicitDefEqProofs only [aA, seval]
  refine aP (fun h9 => ?_) (fun h9 => ?_)
  · simp only [bJ] at h9
    subst h9
    simp -implicitDefEqProofs only [aA, seval]
    rfl
  · simp only [dG] at h9
    simp -implicitDefEqProofs only [hw7, aA, seval, zC]
    rw [aE fun h => h9 (aWQ h)]
    try rfl
 simp only [bJ] at h8
 obtain ⟨g, hg⟩ : ∃ g, iO[i]? = some g := ⟨_, fG (by omega)⟩
 have hat := bL (av := AV.str) iP hg rfl
 have hgl := aBW g (cU hg)
 have h15 : iO.length = 15 := rfl
 obtain ⟨m, hm⟩ : ∃ m, m = j + g.size := ⟨_, rfl⟩
 have hwn := nA (x := (j : Int) + (g.size : Int)) (m := m) (by omega) (by omega)
 have hw1 := bK (n := (i : Int) + 1)
 have iK : (iO.take (i + 1)).foldl (jZ ((sb s).drop j)) ⟨#[]⟩ = jZ ((sb s).drop j) ((iO.take i).foldl (jZ ((sb s).drop j)) ⟨#[]⟩) g := by
  rw [fM, hg, List.foldl_append]; try rfl
 generalize hB : (iO.take i).foldl (jZ ((sb s).drop j)) ⟨#[]⟩ = B at *
 simp -implicitDefEqProofs only [hat, aA, seval, zC]
 refine wP [(0, 1), (1, 1), (2, 1), (3, 1), (4, 1), (5, 1), (6, 1), (7, 1), (8, 1), (9, 1), (10, 1), (11, 1), (12, 1), (13, 1), (14, 1), (15, 1), (16, 2), (17, 1), (18, 1), (19, 1), (20, 1), (21, 1), (22, 1), (23, 1), (24, 1)] [0, 1, 2, 3, 4, 5, 6, 7, 8, 9, 10, 11, 12, 13, 14, 15, 16, 17, 18, 19, 20, 21, 22, 23, 24] mixed ?_
 by_cases hle : m ≤ s.size
 · have hex : s.extract j m = ba (((sb s).drop j).take g.size) := by rw [EA, hm, Nat.add_sub_cancel_left]
   have hsl := fun (φ : AF) (y z : Operand) (h : φ.eval y = .int .i64 (j : Int)) (h' : φ.eval z = .int .i64 (m : Int)) => FG (s := s) h h' (by omega) hle
   rw [hex] at hsl
   have DX : ((m : Int) ≤ (s.size : Int)) = True := c7 (by omega)
   by_cases heq : ba (((sb s).drop j).take g.size) = g
   · by_cases hlt : B.size < g.size
     · have bS : ((B.size : Int) < (g.size : Int)) = True := c7 (by omega)
       have hb : jZ ((sb s).drop j) B g = g := by unfold jZ; rw [aG ⟨nX sb heq, hlt⟩]
       simp -implicitDefEqProofs only [hat, hwn, hw1, DX, hsl, heq, bS, bM, aA, seval, zC]
       exact ⟨i + 1, by omega, by omega, aO.mk (by simp -implicitDefEqProofs only [iK, hb, aA, seval])⟩
     · have bS : ((B.size : Int) < (g.size : Int)) = False := cH (by omega)
       have hb : jZ ((sb s).drop j) B g = B := by unfold jZ; rw [aE fun h => hlt h.2]
       simp -implicitDefEqProofs only [hat, hwn, hw1, DX, hsl, heq, bS, bM, bX, aA, seval, zC]
       exact ⟨i + 1, by omega, by omega, aO.mk (by simp -implicitDefEqProofs only [iK, hb, aA, seval])⟩
   · have hb : jZ ((sb s).drop j) B g = B := by unfold jZ; rw [aE fun h => heq (by rw [h.1])]
     simp -implicitDefEqProofs only [hat, hwn, hw1, DX, hsl, heq, bM, bX, aA, seval, zC]
     exact ⟨i + 1, by omega, by omega, aO.mk (by simp -implicitDefEqProofs only [iK, hb, aA, seval])⟩
 · have DX : ((m : Int) ≤ (s.size : Int)) = False := cH (by omega)
   have hb : jZ ((sb s).drop j) B g = B := by
    unfold jZ
    rw [aE]
    rintro ⟨h, _⟩
    have := nX List.length h
    rw [d5, nD, cJ, cJ] at this
    omega
   simp -implicitDefEqProofs only [hwn, hw1, DX, bX, aA, seval, zC]
   exact ⟨i + 1, by omega, by omega, aO.mk (by simp -implicitDefEqProofs only [iK, hb, aA, seval])⟩
end Go.AW
namespace Go.AW
def iL (nm : ByteArray) : Bool := decide (nm = ⟨#[105, 115]⟩) || decide (nm = ⟨#[109, 111, 100]⟩)
def oV (l : List UInt8) (a : Nat) : Option (ByteArray × Nat) :=
 let f := if cO l a 32 then a + 1 else a
 if l.length ≤ f then none else match nG l f with
 | none => none
 | some (nm, e) => if dL nm = 0 then none else if iL nm ≠ decide (a < f) ∨ (iL nm = true ∧ cO l e 32 = false) then none else some (nm, if iL nm then e + 1 else e)
abbrev kJ := Nat → Option (Tm × Nat)
def qO (R : kJ) (l : List UInt8) (c1 c2 : Nat) : Nat → Nat → List Tm → Option (List Tm × Nat)
 | 0, _, _ => none
 | n + 1, a, acc => match R a with
  | none => none
  | some (t, e) => if (cO l e c1 || cO l e c2) = true then some (acc ++ [t], e) else if cO l e 44 then qO R l c1 c2 n (e + 1) (acc ++ [t]) else none
abbrev nR (nm : ByteArray) (ts : List Tm) : Tm := .mk 3 0 nm ts
def tW : List Tm → Tm → Tm
 | [], t => t
 | x :: xs, t => nR ⟨#[46]⟩ [x, tW xs t]
def yT (R : kJ) (l : List UInt8) (a : Nat) : Option (Tm × Nat) :=
 match qO R l 93 124 (l.length + 1) a [] with
 | none => none
 | some (ts, e) => if cO l e 93 then some (tW ts (nR ⟨#[91, 93]⟩ []), e + 1) else match R (e + 1) with
  | none => none
  | some (t, e') => if cO l e' 93 then some (tW ts t, e' + 1) else none
def I8 (l : List UInt8) (a : Nat) : Nat := match l[a]? with | some x => x.toNat | none => 0
def mN (R : Nat → kJ) (l : List UInt8) (d a : Nat) : Option (Tm × Nat) :=
 if d < 1 ∨ l.length ≤ a then none
 else if cO l a 40 then match R d (a + 1) with
  | none => none
  | some (t, e) => if cO l e 41 then some (t, e + 1) else none
 else if (cO l a 91 && !cO l (a + 1) 93) = true then yT (R (d - 1)) l (a + 1)
 else if fR l a r8 then some (vr ((I8 l a - 65 : Nat) : Int), a + 1)
 else if (fR l a dN || (cO l a 45 && fR l (a + 1) dN)) = true then match tF l a with
  | none => none
  | some (n, e) => some (.mk 2 n ⟨#[]⟩ [], e)
 else match nG l a with
  | none => none
  | some (nm, e) => if cO l e 40 = false then some (nR nm [], e) else match qO (R (d - 1)) l 41 41 (l.length + 1) (e + 1) [] with
   | none => none
   | some (ts, e') => some (nR nm ts, e' + 1)
def CG (R : kJ) (l : List UInt8) (lev : Nat) : Nat → Tm → Nat → Option (Tm × Nat)
 | 0, _, _ => none
 | n + 1, left, e => match oV l e with
  | none => some (left, e)
  | some (nm, e1) => if dL nm ≠ lev then some (left, e) else match R e1 with
   | none => none
   | some (rt, e2) => if lev = 3 then some (nR nm [left, rt], e2) else CG R l lev n (nR nm [left, rt]) e2
def rd (l : List UInt8) : Nat → Nat → Nat → Nat → Option (Tm × Nat)
 | 0, _, _, _ => none
 | n + 1, d, a, 0 => mN (fun d a => rd l n d a 3) l d a
 | n + 1, d, a, lv + 1 => match rd l n d a lv with
  | none => none
  | some (t, e) => CG (fun a => rd l n d a lv) l (lv + 1) (l.length + 1) t e
theorem aR7 {l : List UInt8} {a c : Nat} (ha : a ≤ l.length) : a ≤ (if cO l a c = true then a + 1 else a) ∧ (if cO l a c = true then a + 1 else a) ≤ l.length := by
 split
 · have := nE ‹_›; omega
 · omega
theorem aTZ {l : List UInt8} {a : Nat} {x : Int} {e : Nat} (ha : a ≤ l.length) (h : tF l a = some (x, e)) : a < e ∧ e ≤ l.length := by
 unfold tF at h
 have hf := aR7 (c := 45) ha
 simp only at h
 generalize (if cO l a 45 = true then a + 1 else a) = f at h hf
 split at h
 · cases h
 rename_i h1
 simp only [Option.some.injEq, Prod.mk.injEq] at h
 obtain ⟨_, rfl⟩ := h
 have h2 : (((l.drop f).takeWhile dN).take 4).length ≠ 0 := by
  intro h0
  refine h1 (Or.inl ?_)
  unfold gY
  rw [aG (Or.inl h0)]
 have h3 := DE dN (l.drop f)
 rw [nD] at h3
 have h4 : (((l.drop f).takeWhile dN).take 4).length ≤ ((l.drop f).takeWhile dN).length := by rw [d5]; omega
 omega
theorem aDG (L : List UInt8) : ∀ (gs : List ByteArray) (b : ByteArray), b.size ≤ L.length → (gs.foldl (jZ L) b).size ≤ L.length
 | [], b, h => h
 | g :: gs, b, h => by
  rw [zX]
  refine aDG L gs _ ?_
  unfold jZ
  split
  · rename_i h1
    have := nX List.length h1.1
    rw [d5, cJ] at this
    omega
  · exact h
theorem DG {l : List UInt8} {a : Nat} {x : ByteArray} {e : Nat} (ha : a ≤ l.length) (h : nG l a = some (x, e)) : a < e ∧ e ≤ l.length := by
 unfold nG at h
 simp only at h
 have h3 := DE letter (l.drop a)
 rw [nD] at h3
 split at h
 · cases h
 split at h
 · cases h; omega
 split at h
 · cases h
 · have := aDG (l.drop a) iO ⟨#[]⟩ (jC _)
   rw [nD] at this
   cases h; omega
theorem YB {l : List UInt8} {a : Nat} {x : ByteArray} {e : Nat} (h : oV l a = some (x, e)) : a < e ∧ e ≤ l.length ∧ dL x ≠ 0 := by
 unfold oV at h
 have h6 : a ≤ (if cO l a 32 = true then a + 1 else a) := by split <;> omega
 simp only at h
 generalize (if cO l a 32 = true then a + 1 else a) = f at h h6
 split at h
 · cases h
 rename_i h1
 split at h
 · cases h
 rename_i nm e0 h2
 have h3 := DG (by omega) h2
 split at h
 · cases h
 rename_i h7
 split at h
 · cases h
 rename_i h4
 simp only [Option.some.injEq, Prod.mk.injEq] at h
 obtain ⟨rfl, rfl⟩ := h
 split
 · rename_i h5
   have : cO l e0 32 = true := by
    cases hb : cO l e0 32 with
    | true => rfl
    | false => exact absurd (Or.inr ⟨h5, hb⟩) h4
   have := nE this
   exact ⟨by omega, by omega, h7⟩
 · exact ⟨by omega, by omega, h7⟩
def wV (R : kJ) (l : List UInt8) : Prop := ∀ a t e, a ≤ l.length → R a = some (t, e) → a < e ∧ e ≤ l.length ∧ Dn t
theorem HI {R : kJ} {l : List UInt8} {c1 c2 : Nat} (hR : wV R l) : ∀ (n a : Nat) (acc : List Tm) (ts : List Tm) (e : Nat), a ≤ l.length → (∀ x ∈ acc, Dn x) → qO R l c1 c2 n a acc = some (ts, e) → a < e ∧ e < l.length ∧ (∀ x ∈ ts, Dn x) ∧ ts.length ≤ acc.length + n ∧ (cO l e c1 = true ∨ cO l e c2 = true) := by
 intro n
 induction n with
 | zero => intro a acc ts e _ _ h; cases h
 | succ n ih =>
  intro a acc ts e ha nK h
  unfold qO at h
  split at h
  · cases h
  rename_i t e1 h1
  obtain ⟨h2, h3, h4⟩ := hR a t e1 ha h1
  have ED : ∀ x ∈ acc ++ [t], Dn x := by intro x hx; rw [fS] at hx; rcases hx with hx | hx; exact nK x hx; rw [K1] at hx; subst hx; exact h4
  split at h
  · rename_i h5
    cases h
    rw [qY] at h5
    refine ⟨h2, ?_, ED, by rw [dP, RF]; omega, h5⟩
    rcases h5 with h5 | h5 <;> exact nE h5
  split at h
  · rename_i h5
    have h6 := nE h5
    obtain ⟨g1, g2, g3, g4, g5⟩ := ih (e1 + 1) _ ts e (by omega) ED h
    rw [dP, RF] at g4
    exact ⟨by omega, g2, g3, by omega, g5⟩
  · cases h
theorem MJ {nm : ByteArray} {ts : List Tm} (hl : ts.length ≤ 1048576) (h : ∀ x ∈ ts, Dn x) : Dn (nR nm ts) := wS (by decide) hl h
theorem LC {nm : ByteArray} {x y : Tm} (hx : Dn x) (hy : Dn y) : Dn (nR nm [x, y]) := MJ (by simp) (by intro z hz; simp only [cZ, dQ, dY] at hz; rcases hz with rfl | rfl; exact hx; exact hy)
theorem aAF {nm : ByteArray} : Dn (nR nm []) := MJ (by simp) (by simp)
theorem O3 {t : Tm} (ht : Dn t) : ∀ ts : List Tm, (∀ x ∈ ts, Dn x) → Dn (tW ts t)
 | [], _ => ht
 | x :: xs, h => LC (h x (by simp)) (O3 ht xs fun y hy => h y (by simp [hy]))
theorem aXX {R : kJ} {l : List UInt8} (hR : wV R l) (hl : l.length ≤ 1000) {a : Nat} {t : Tm} {e : Nat} (ha : a ≤ l.length) (h : yT R l a = some (t, e)) : a < e ∧ e ≤ l.length ∧ Dn t := by
 unfold yT at h
 split at h
 · cases h
 rename_i ts e1 h1
 obtain ⟨g1, g2, g3, g4, g5⟩ := HI hR _ _ _ _ _ ha (by simp) h1
 split at h
 · cases h
   exact ⟨by omega, by omega, O3 aAF _ g3⟩
 split at h
 · cases h
 rename_i t2 e2 h2
 obtain ⟨k1, k2, k3⟩ := hR _ _ _ (by omega) h2
 split at h
 · rename_i h5
   cases h
   have := nE h5
   exact ⟨by omega, by omega, O3 k3 _ g3⟩
 · cases h
theorem aPA {R : Nat → kJ} {l : List UInt8} (hR : ∀ d, wV (R d) l) (hl : l.length ≤ 1000) {d a : Nat} {t : Tm} {e : Nat} (h : mN R l d a = some (t, e)) : a < e ∧ e ≤ l.length ∧ Dn t := by
 unfold mN at h
 split at h
 · cases h
 rename_i h0
 have ha : a < l.length := by omega
 split at h
 · split at h
   · cases h
   rename_i t1 e1 h1
   obtain ⟨k1, k2, k3⟩ := hR _ _ _ _ (by omega) h1
   split at h
   · rename_i h5
     cases h
     have := nE h5
     exact ⟨by omega, by omega, k3⟩
   · cases h
 split at h
 · obtain ⟨k1, k2, k3⟩ := aXX (hR _) hl (by omega) h
   exact ⟨by omega, k2, k3⟩
 split at h
 · cases h
   exact ⟨by omega, by omega, OS _⟩
 split at h
 · split at h
   · cases h
   rename_i n e1 h1
   cases h
   have := aTZ (by omega) h1
   exact ⟨this.1, this.2, wS (by decide) (by simp) (by simp)⟩
 split at h
 · cases h
 rename_i nm e1 h1
 have g := DG (by omega) h1
 split at h
 · cases h
   exact ⟨g.1, g.2, aAF⟩
 split at h
 · cases h
 rename_i h6 _ ts e2 h2
 have h7 : cO l e1 40 = true := by simpa using h6
 have h8 := nE h7
 obtain ⟨k1, k2, k3, k4, k5⟩ := HI (hR _) _ _ _ _ _ (by omega) (by simp) h2
 cases h
 refine ⟨by omega, by omega, MJ ?_ k3⟩
 rw [aZ] at k4
 omega
theorem aYL {R : kJ} {l : List UInt8} (hR : wV R l) (lev : Nat) : ∀ (n : Nat) (t0 : Tm) (e0 : Nat) (t : Tm) (e : Nat), e0 ≤ l.length → Dn t0 → CG R l lev n t0 e0 = some (t, e) → e0 ≤ e ∧ e ≤ l.length ∧ Dn t := by
 intro n
 induction n with
 | zero => intro t0 e0 t e _ _ h; cases h
 | succ n ih =>
  intro t0 e0 t e h0 ht h
  unfold CG at h
  split at h
  · cases h; exact ⟨by omega, h0, ht⟩
  rename_i nm e1 h1
  have g := YB h1
  split at h
  · cases h; exact ⟨by omega, h0, ht⟩
  split at h
  · cases h
  rename_i rt e2 h2
  obtain ⟨k1, k2, k3⟩ := hR _ _ _ g.2.1 h2
  split at h
  · cases h; exact ⟨by omega, k2, LC ht k3⟩
  · obtain ⟨q1, q2, q3⟩ := ih _ _ _ _ k2 (LC ht k3) h
    exact ⟨by omega, q2, q3⟩
theorem zW {l : List UInt8} (hl : l.length ≤ 1000) : ∀ (n d lv : Nat), wV (fun a => rd l n d a lv) l := by
 intro n
 induction n with
 | zero => intro d lv a t e _ h; cases h
 | succ n ih =>
  intro d lv a t e ha h
  cases lv with
  | zero =>
   simp only [rd] at h
   exact aPA (fun d => ih d 3) hl h
  | succ lv =>
   simp only [rd] at h
   split at h
   · cases h
   rename_i t1 e1 h1
   obtain ⟨k1, k2, k3⟩ := ih d lv a t1 e1 ha h1
   obtain ⟨q1, q2, q3⟩ := aYL (ih d lv) _ _ _ _ _ _ k2 k3 h
   exact ⟨by omega, q2, q3⟩
end Go.AW
namespace Go.AW
open Go.Proofs.Tryz
def kN (a : Int) : AV := .tup [FD.av, .int .i64 (-1 - a)]
abbrev aX8 := zi tI_3 (zi zI_3 (zi aX (zi tI_63 (zi zI_63 (zi bR (zi bQ (zi bP (zi bT bU))))))))
theorem BP (a : Nat) (ha : a ≤ 1048576) (st : aB) : aD prog 220 [.int .i64 (a : Int)] st (fun r st' => r = kN a ∧ st' = st) := by
 refine aD.done ?_
 refine wF [1000000] 1 func220 ntmps220 rfl rfl ?_
 intro _
 have hw := bK (n := -1 - (a : Int))
 simp -implicitDefEqProofs only [aK, hw, aA, seval, aX8]
 intro b hb
 exact ⟨by simp only [kN, aV, j9, kC, jV, kY, lY, bA, aW, aW], (aM.refl _).aC hb⟩
def LD (a : Nat) (o : Option (ByteArray × Nat)) : AV := match o with | some (b, e) => .tup [.str b, .int .i64 (e : Int)] | none => .tup [.str ⟨#[]⟩, .int .i64 (a : Int)]
abbrev CW := zi tI_3 (zi zI_3 (zi aX (zi tI_4 (zi zI_4 (zi cE (zi tI_5 (zi zI_5 (zi kF (zi tI_8 (zi zI_8 (zi vR (zi vQ (zi vU (zi vL (zi wC (zi tI_9 (zi zI_9 cG)))))))))))))))))
set_option maxHeartbeats 1000000 in
theorem aN3 (s : ByteArray) (hs : s.size ≤ 1000) (a : Nat) (ha : a ≤ s.size) (st : aB) : aD prog 205 [.str s, .int .i64 (a : Int)] st (fun r st' => r = LD a (oV (sb s) a) ∧ st' = st) := by
 refine wF [1000000] 2 func205 ntmps205 rfl rfl ?_
 intro _
 simp -implicitDefEqProofs only [aA, seval]
 refine (kB s a 32 _).to ?_
 obtain ⟨f1, hf1⟩ : ∃ f, f = a + 1 := ⟨_, rfl⟩
 have hw1 := nA (x := (a : Int) + 1) (m := f1) (by omega) (by omega)
 simp -implicitDefEqProofs only [aA, seval]
 refine aP (fun h1 => ?_) (fun h1 => ?_)
 · have hf := nE h1
   rw [cJ] at hf
   simp -implicitDefEqProofs only [hw1, aA, seval, CW]
   obtain ⟨f, rfl⟩ : ∃ f, f = f1 := ⟨_, rfl⟩
   replace hf : f ≤ s.size := by omega
   by_cases hlen : s.size ≤ f
   case pos =>
    have hrd : oV (sb s) a = none := by
     unfold oV
     simp only [h1, ↓reduceIte, ← hf1]
     rw [aG (by rw [cJ]; exact hlen)]
    rw [hrd]
    have cT : ((s.size : Int) ≤ (f : Int)) = True := c7 (by omega)
    simp -implicitDefEqProofs only [cT, bM, aA, seval]
    rfl
   have cT : ((s.size : Int) ≤ (f : Int)) = False := cH (by omega)
   have hrd : oV (sb s) a = match nG (sb s) f with
    | none => none
    | some (nm, e) => if dL nm = 0 then none else if iL nm ≠ decide (a < f) ∨ (iL nm = true ∧ cO (sb s) e 32 = false) then none else some (nm, if iL nm then e + 1 else e) := by
    unfold oV
    simp only [h1, ↓reduceIte, ← hf1]
    rw [aE (by rw [cJ]; exact hlen)]
    try rfl
   rw [hrd]
   clear hrd
   have hfa : ((a : Int) < (f : Int)) = True := c7 (by omega)
   have hfn : (a < f) = True := c7 (by omega)
   simp -implicitDefEqProofs only [cT, bX, aA, seval]
   refine (QV s hs f (by omega) _).to ?_
   cases hn : nG (sb s) f with
   | none =>
    simp only [y8]
    simp -implicitDefEqProofs only [bM, aA, seval]
    rfl
   | some p =>
    obtain ⟨nm, e⟩ := p
    have he := DG (by rw [cJ]; omega) hn
    rw [cJ] at he
    simp only [y8]
    have he0 : ((e : Int) < 0) = False := cH (by omega)
    simp -implicitDefEqProofs only [he0, bX, aA, seval]
    refine (vB nm _).to ?_
    by_cases hl0 : dL nm = 0
    case pos =>
     rw [aG hl0]
     have oW : ((dL nm : Int) = 0) = True := c7 (by omega)
     simp -implicitDefEqProofs only [oW, bM, aA, seval]
     rfl
    rw [aE hl0]
    have oW : ((dL nm : Int) = 0) = False := cH (by omega)
    simp only [hfn, bM]
    have hw1 := bK (n := (e : Int) + 1)
    by_cases hi : nm = ⟨#[105, 115]⟩
    case' pos =>
     have hi' := c7 hi
     have hm' : (nm = ⟨#[109, 111, 100]⟩) = False := cH (by rw [hi]; decide)
     have hW : iL nm = true := by unfold iL; rw [gA hi]; try rfl
    case' neg =>
     have hi' := cH hi
     by_cases hm : nm = ⟨#[109, 111, 100]⟩
     case' pos =>
      have hm' := c7 hm
      have hW : iL nm = true := by unfold iL; rw [gA hm]; exact z0 _
     case' neg =>
      have hm' := cH hm
      have hW : iL nm = false := by unfold iL; rw [fH hm, fH hi]; try rfl
    all_goals
     rw [hW]
     simp -implicitDefEqProofs only [oW, hfa, hi', hm', bM, bX, aA, seval, CW]
     first
      | (rw [aG (Or.inl trivial)]; rfl)
      | (rw [aE fun h => h.1]; rfl)
      | skip
     try
      refine (kB s e 32 _).to ?_
      cases hb : cO (sb s) e 32 with
      | false =>
       simp -implicitDefEqProofs only [aA, seval]
       rfl
      | true =>
       simp -implicitDefEqProofs only [hw1, aA, seval]
       rfl
 · skip
   simp -implicitDefEqProofs only [aA, seval, CW]
   obtain ⟨f, rfl⟩ : ∃ f, f = a := ⟨_, rfl⟩
   have hf := ha
   by_cases hlen : s.size ≤ f
   case pos =>
    have hrd : oV (sb s) f = none := by
     unfold oV
     simp only [h1, ↓reduceIte, jM]
     rw [aG (by rw [cJ]; exact hlen)]
    rw [hrd]
    have cT : ((s.size : Int) ≤ (f : Int)) = True := c7 (by omega)
    simp -implicitDefEqProofs only [cT, bM, aA, seval]
    rfl
   have cT : ((s.size : Int) ≤ (f : Int)) = False := cH (by omega)
   have hrd : oV (sb s) f = match nG (sb s) f with
    | none => none
    | some (nm, e) => if dL nm = 0 then none else if iL nm ≠ decide (f < f) ∨ (iL nm = true ∧ cO (sb s) e 32 = false) then none else some (nm, if iL nm then e + 1 else e) := by
    unfold oV
    simp only [h1, ↓reduceIte, jM]
    rw [aE (by rw [cJ]; exact hlen)]
    try rfl
   rw [hrd]
   clear hrd
   have hfa : ((f : Int) < (f : Int)) = False := cH (by omega)
   have hfn : (f < f) = False := cH (by omega)
   simp -implicitDefEqProofs only [cT, bX, aA, seval]
   refine (QV s hs f (by omega) _).to ?_
   cases hn : nG (sb s) f with
   | none =>
    simp only [y8]
    simp -implicitDefEqProofs only [bM, aA, seval]
    rfl
   | some p =>
    obtain ⟨nm, e⟩ := p
    have he := DG (by rw [cJ]; omega) hn
    rw [cJ] at he
    simp only [y8]
    have he0 : ((e : Int) < 0) = False := cH (by omega)
    simp -implicitDefEqProofs only [he0, bX, aA, seval]
    refine (vB nm _).to ?_
    by_cases hl0 : dL nm = 0
    case pos =>
     rw [aG hl0]
     have oW : ((dL nm : Int) = 0) = True := c7 (by omega)
     simp -implicitDefEqProofs only [oW, bM, aA, seval]
     rfl
    rw [aE hl0]
    have oW : ((dL nm : Int) = 0) = False := cH (by omega)
    simp only [hfn, bX]
    have hw1 := bK (n := (e : Int) + 1)
    by_cases hi : nm = ⟨#[105, 115]⟩
    case' pos =>
     have hi' := c7 hi
     have hm' : (nm = ⟨#[109, 111, 100]⟩) = False := cH (by rw [hi]; decide)
     have hW : iL nm = true := by unfold iL; rw [gA hi]; try rfl
    case' neg =>
     have hi' := cH hi
     by_cases hm : nm = ⟨#[109, 111, 100]⟩
     case' pos =>
      have hm' := c7 hm
      have hW : iL nm = true := by unfold iL; rw [gA hm]; exact z0 _
     case' neg =>
      have hm' := cH hm
      have hW : iL nm = false := by unfold iL; rw [fH hm, fH hi]; try rfl
    all_goals
     rw [hW]
     simp -implicitDefEqProofs only [oW, hfa, hi', hm', bM, bX, aA, seval, CW]
     first
      | (rw [aG (Or.inl trivial)]; rfl)
      | (rw [aE fun h => h.1]; rfl)
      | skip
     try
      refine (kB s e 32 _).to ?_
      cases hb : cO (sb s) e 32 with
      | false =>
       simp -implicitDefEqProofs only [oW, hfa, hi', hm', hw1, bM, bX, aA, ↓aU, seval, CW]
       rfl
      | true =>
       simp -implicitDefEqProofs only [oW, hfa, hi', hm', hw1, bM, bX, aA, ↓aU, seval, CW]
       rfl
theorem aX7 {ts : List Tm} {i : Nat} {x t : Tm} (hx : ts[i]? = some x) : tW (ts.drop i) t = nR ⟨#[46]⟩ [x, tW (ts.drop (i + 1)) t] := by
 obtain ⟨h1, h2⟩ := gQ.1 hx
 rw [qV h1, h2]
 try rfl
abbrev HH := zi tI_3 (zi zI_3 (zi aX (zi tI_9 (zi zI_9 (zi cG (zi tI_31 (zi zI_31 (zi aN (zi bE (zi bF (zi cA (zi tI_63 (zi zI_63 (zi bR (zi bQ (zi bP (zi bT bU)))))))))))))))))
set_option maxHeartbeats 1000000 in
theorem aKY (ts : List Tm) (tl : Tm) (hl : ts.length ≤ 1048576) (st : aB) : aD prog 236 [.slice (ts.map Tm.av), tl.av] st (fun r st' => r = (tW ts tl).av ∧ st' = st) := by
 refine aD.done ?_
 refine wF [1000000, 5] 2 func236 ntmps236 rfl rfl ?_
 intro _
 have hw0 := bK (n := (ts.length : Int) - 1)
 simp -implicitDefEqProofs only [aK, aT, aH, b7, cF, bO, aF, hw0, aA, ↓aU, seval, HH]
 intro b hb b5 hb5
 have hbb : b5 ≠ b := fun h => by rw [h, aB.aQ] at hb5; cases hb5
 refine gX (σ := Nat) [1000000] [0, 4, 5] (fun i => i ≤ ts.length) (fun i => [(6, .int .i64 ((i : Int) - 1))]) (fun i => (st.aC b (.cells [.int .i64 0, .int .i64 0, .str ⟨#[]⟩, .fslice []])).aC b5 (.cells (tW (ts.drop i) tl).av.cells)) (fun i => i) (by decide +kernel) ⟨ts.length, by omega, by rw [kE]; exact aO.mk (by simp -implicitDefEqProofs only [aA, seval])⟩ ?_
 intro i hi
 simp -implicitDefEqProofs only [aA, seval]
 refine aP (fun h1 => ?_) (fun h1 => ?_)
 · simp only [bJ] at h1
   obtain ⟨k, rfl⟩ : ∃ k, i = k + 1 := ⟨i - 1, by omega⟩
   obtain ⟨x, hx⟩ : ∃ x, ts[k]? = some x := ⟨_, fG (by omega)⟩
   have hk : ((k + 1 : Nat) : Int) - 1 = (k : Int) := by omega
   have hw := bK (n := (k : Int) - 1)
   have hst := aX7 (t := tl) hx
   have hat := bL (av := Tm.av) aN hx (aH x)
   rw [hk]
   generalize tW (ts.drop (k + 1)) tl = y at *
   have hax := bO x
   have hay := bO y
   simp -implicitDefEqProofs only [aA, seval]
   refine wP [(0, 1), (1, 1), (2, 1), (3, 2), (4, 2), (5, 1), (6, 2), (7, 0)] [0, 1, 2, 3, 4, 5, 6] mixed ?_
   simp -implicitDefEqProofs only [aT, aH, cF, bO, d9 (bO _), d7 (aT _), hat, aA, seval, HH]
   refine i8 (rE ⟨#[46]⟩ [x, y] (by simp) _) ?_
   simp -implicitDefEqProofs only [aK, b7, bO, hw, aA, seval, HH]
   refine ⟨k, by omega, by omega, ?_⟩
   rw [hst]
   exact aO.mk (by simp -implicitDefEqProofs only [aA, seval])
 · simp only [dG] at h1
   obtain rfl : i = 0 := by omega
   rw [tN]
   simp -implicitDefEqProofs only [aK, b7, bO, d9 (bO _), d7 (aT _), hbb.symm, aA, ↓aU, seval, HH]
   exact ⟨Tm.soft _, (((aM.refl _).aC hb).aC (by rwa [aB.aL _ _ hbb] at hb5)).aC hb⟩
def lF (o : Option (Tm × Nat)) (r : AV) : Prop := match o with | some (t, e) => r = .tup [t.av, .int .i64 (e : Int)] | none => ∃ k : Nat, k ≤ 1048576 ∧ r = kN k
def uL (o : Option (List Tm × Nat)) (r : AV) : Prop := match o with | some (ts, e) => r = .tup [.slice (ts.map Tm.av), .int .i64 (e : Int)] | none => ∃ k : Nat, k ≤ 1048576 ∧ r = .tup [.slice [], .int .i64 (-1 - (k : Int))]
abbrev NM (s : ByteArray) (R : kJ) (d lv lo : Nat) : Prop := ∀ (a : Nat) (st : aB), lo ≤ a → a ≤ s.size → aD prog 165 [.str s, .int .i64 (a : Int), .int .i64 (d : Int), .int .i64 (lv : Int)] st (fun r st' => lF (R a) r ∧ st' = st)
abbrev N4 := zi tI_3 (zi zI_3 (zi aX (zi tI_4 (zi zI_4 (zi cE (zi tI_5 (zi zI_5 (zi kF (zi tI_8 (zi zI_8 (zi vR (zi vQ (zi vU (zi vL (zi wC (zi tI_9 (zi zI_9 (zi cG (zi tI_31 (zi zI_31 (zi aN (zi bE (zi bF (zi cA (zi tI_44 (zi zI_44 (zi YP (zi aC3 (zi UI (zi aCX (zi TX (zi aCY (zi S4 (zi tI_63 (zi zI_63 (zi bR (zi bQ (zi bP (zi bT bU)))))))))))))))))))))))))))))))))))))))
set_option maxHeartbeats 1000000 in
theorem aCG {s : ByteArray} {R : kJ} {d lo c1 c2 : Nat} (hR : NM s R d 3 lo) (hok : wV R (sb s)) (hs : s.size ≤ 1000) (a : Nat) (ha : lo ≤ a) (ha' : a ≤ s.size) (st : aB) :
 aD prog 225 [.str s, .int .i64 (a : Int), .int .i64 (d : Int), .int .u8 (c1 : Int), .int .u8 (c2 : Int)] st (fun r st' => uL (qO R (sb s) c1 c2 ((sb s).length + 1) a []) r ∧ st' = st) := by
 generalize hT : qO R (sb s) c1 c2 ((sb s).length + 1) a [] = T
 rw [cJ] at hT
 refine aD.drop (Q := uL T) (aD.fin ?_)
 refine wF [1000000] 5 func225 ntmps225 rfl rfl ?_
 intro _
 simp -implicitDefEqProofs only [aA, seval, N4]
 refine gX (σ := Nat × List Tm × Nat × Nat) [1000000] [0, 2, 3, 4] (fun x => qO R (sb s) c1 c2 x.2.2.1 x.1 x.2.1 = T ∧ lo ≤ x.1 ∧ x.1 ≤ s.size ∧ s.size < x.2.2.1 + x.1 ∧ x.2.1.length + x.2.2.1 ≤ 1001 ∧ (x.2.1.map Tm.av ≠ [] → st x.2.2.2 = none)) (fun x => [(1, .int .i64 (x.1 : Int)), (10, .fslice []), (11, .int .i64 0), (12, a9 4 x.2.2.2 (x.2.1.map Tm.av))]) (fun x => aY st x.2.2.2 (x.2.1.map Tm.av)) (fun x => x.2.2.1) (by decide +kernel) ⟨(a, [], s.size + 1, 0), ⟨hT, ha, ha', by simp only; omega, by simp only [aZ]; omega, by simp⟩, aO.mk (by simp -implicitDefEqProofs only [aW, jF, aA, seval])⟩ ?_
 rintro ⟨i, acc, m, b⟩ ⟨ht, hlo, hi, hm, hlen, hb⟩
 simp only at ht hlo hi hm hlen hb ⊢
 obtain ⟨m, rfl⟩ : ∃ m', m = m' + 1 := ⟨m - 1, by omega⟩
 simp only [qO] at ht
 simp -implicitDefEqProofs only [aA, seval]
 refine (hR i _ hlo hi).mono ?_
 rintro r _ ⟨hr, rfl⟩
 have fin : ∀ (l : List Tm) (b' : Nat) (r' : AV), (l.map Tm.av ≠ [] → st b' = none) → uL T (r'.fin b' (l.map Tm.av)) → ∃ b2 l2 s0, aY st b' (l.map Tm.av) = aY s0 b2 l2 ∧ (l2 ≠ [] → s0 b2 = none) ∧ (∀ e ∈ l2, e.cC = false) ∧ g9 l2 ∧ aM s0 st ∧ uL T (r'.fin b2 l2) := fun l b' r' h1 h2 => ⟨b', _, st, rfl, h1, iF _, ⟨4, dT _⟩, aM.refl _, h2⟩
 have hTn : T = none → ∀ k : Nat, k ≤ 1048576 → ∀ (b' : Nat) (l : List AV), uL T ((AV.tup [.fslice [], .int .i64 (-1 - (k : Int))]).fin b' l) := by
  rintro rfl k hk b' l
  exact ⟨k, hk, by simp only [jG, eC, oK, bA, aW]⟩
 cases hRi : R i with
 | none =>
  rw [hRi] at ht hr
  obtain ⟨k, hk, rfl⟩ := hr
  have hk0 : ((-1 - (k : Int)) < 0) = True := c7 (by omega)
  simp -implicitDefEqProofs only [aH, b7, cF, hk0, kN, bM, aA, ↓aU, seval, N4]
  exact fin _ _ _ hb (hTn ht.symm k hk _ _)
 | some p =>
  obtain ⟨t, e⟩ := p
  rw [hRi] at ht hr
  simp only at ht
  obtain ⟨g1, g2, g3⟩ := hok i t e (by rw [cJ]; exact hi) hRi
  rw [cJ] at g2
  simp only [lF] at hr
  subst hr
  have he0 : ((e : Int) < 0) = False := cH (by omega)
  simp -implicitDefEqProofs only [aT, aH, b7, cF, he0, nW, sH, bX, aA, ↓aU, seval, N4]
  refine eN aN bE bF rfl rfl (eY (aH _) (b7 _)) (dT _) hb (by simp only [aF, aS, aZ]; omega) (by simp only [aF, aS, aZ]; omega) (fun b' hb' => ?_)
  rw [show acc.map Tm.av ++ [t.av] = (acc ++ [t]).map Tm.av by simp] at hb' ⊢
  simp -implicitDefEqProofs only [aA, seval]
  have wN : T = some (acc ++ [t], e) → uL T ((AV.tup [a9 4 b' ((acc ++ [t]).map Tm.av), .int .i64 (e : Int)]).fin b' ((acc ++ [t]).map Tm.av)) := by
   rintro rfl
   simp only [uL, jG, eC, lT, bA, aW]
  have hw1 := bK (n := (e : Int) + 1)
  have hw2 := bK (n := -1 - (e : Int))
  refine (kB s e c1 _).to ?_
  cases h1 : cO (sb s) e c1 with
  | true =>
   rw [h1, xL, aG rfl] at ht
   simp -implicitDefEqProofs only [mR, nW, sH, aA, seval]
   exact fin _ _ _ hb' (wN ht.symm)
  | false =>
  simp -implicitDefEqProofs only [aA, seval]
  refine (kB s e c2 _).to ?_
  cases h2 : cO (sb s) e c2 with
  | true =>
   rw [h2, z0, aG rfl] at ht
   simp -implicitDefEqProofs only [mR, nW, sH, aA, seval]
   exact fin _ _ _ hb' (wN ht.symm)
  | false =>
  rw [h1, h2, GR, aE (by decide)] at ht
  simp -implicitDefEqProofs only [aA, seval]
  refine (kB s e 44 _).to ?_
  cases h3 : cO (sb s) e 44 with
  | true =>
   have h4 := nE h3
   rw [cJ] at h4
   rw [h3, aG rfl] at ht
   simp -implicitDefEqProofs only [hw1, aA, seval]
   refine ⟨(e + 1, acc ++ [t], m, b'), by simp only; omega, ⟨ht, by simp only; omega, by simp only; omega, by simp only; omega, by simp only [dP, aS, aZ]; omega, hb'⟩, aO.mk (by simp -implicitDefEqProofs only [aA, seval] <;> rfl)⟩
  | false =>
   rw [h3, aE (by decide)] at ht
   simp -implicitDefEqProofs only [hw2, aA, seval]
   exact fin _ _ _ hb' (hTn ht.symm e (by omega) _ _)
theorem aD.QT {P : Program} {g : FuncId} {args : List AV} {st : aB} {Q : AV → Prop} (x : aD P g args st (fun r' st' => Q r'.soft ∧ aM st' st)) : aD P g args st (fun r' st' => Q r' ∧ st' = st) :=
 aD.drop (aD.soft (x.mono fun _ _ h => ⟨h.2, h.1⟩))
theorem CM {k : Nat} (hk : k ≤ 1048576) : lF none (AV.tup [.agg [.int .i64 0, .int .i64 0, .str ⟨#[]⟩, .fslice []], .int .i64 (-1 - (k : Int))]).soft :=
 ⟨k, hk, by simp only [kN, aV, j9, kC, jV, kY, lY, bA, aW]⟩
theorem qM {t : Tm} {e : Nat} {x : Int} (h : x = (e : Int)) : lF (some (t, e)) (AV.tup [t.av, .int .i64 x]).soft := by
 subst h
 simp only [lF, kC, jV, Tm.soft, bA, aW]
theorem wY {k : Nat} (hk : k ≤ 1048576) : lF none (AV.tup [FD.av, .int .i64 (-1 - (k : Int))]).soft :=
 ⟨k, hk, by simp only [kN, kC, jV, Tm.soft, bA, aW]⟩
abbrev wW := zi tI_3 (zi zI_3 (zi aX (zi tI_4 (zi zI_4 (zi cE (zi tI_5 (zi zI_5 (zi kF (zi tI_8 (zi zI_8 (zi vR (zi vQ (zi vU (zi vL (zi wC (zi tI_9 (zi zI_9 (zi cG (zi tI_31 (zi zI_31 (zi aN (zi bE (zi bF (zi cA (zi tI_63 (zi zI_63 (zi bR (zi bQ (zi bP (zi bT (zi bU (zi tI_124 (zi zI_124 (zi PO (zi NL OX)))))))))))))))))))))))))))))))))))
set_option maxHeartbeats 1000000 in
theorem aOZ {s : ByteArray} {R : kJ} {d lo : Nat} (hR : NM s R d 3 lo) (hok : wV R (sb s)) (hs : s.size ≤ 1000) (a : Nat) (ha : lo ≤ a) (ha' : a ≤ s.size) (st : aB) :
 aD prog 221 [.str s, .int .i64 (a : Int), .int .i64 (d : Int)] st (fun r st' => lF (yT R (sb s) a) r ∧ st' = st) := by
 refine aD.QT ?_
 refine wF [1000000] 3 func221 ntmps221 rfl rfl ?_
 intro _
 simp -implicitDefEqProofs only [aA, seval, wW]
 intro b hb
 unfold yT
 refine (aCG hR hok hs a ha ha' _ (c1 := 93) (c2 := 124)).mono ?_
 rintro r _ ⟨hr, rfl⟩
 have hD := fun (o : AO) => (aM.refl st).aC (o := o) hb
 cases hT : qO R (sb s) 93 124 ((sb s).length + 1) a [] with
 | none =>
  rw [hT] at hr
  obtain ⟨k, hk, rfl⟩ := hr
  have hk0 : ((-1 - (k : Int)) < 0) = True := c7 (by omega)
  simp -implicitDefEqProofs only [aK, hk0, bM, aA, seval, wW]
  exact ⟨CM hk, hD _⟩
 | some p =>
  obtain ⟨ts, e⟩ := p
  rw [hT] at hr
  simp only [uL] at hr
  subst hr
  obtain ⟨g1, g2, g3, g4, g5⟩ := HI hok _ _ _ _ _ (by rw [cJ]; exact ha') (by simp) hT
  rw [cJ] at g2 g4
  rw [aZ] at g4
  have he0 : ((e : Int) < 0) = False := cH (by omega)
  obtain ⟨f, hf⟩ : ∃ f, f = e + 1 := ⟨_, rfl⟩
  have hw := nA (x := (e : Int) + 1) (m := f) (by omega) (by omega)
  simp -implicitDefEqProofs only [he0, bX, aA, seval]
  refine (kB s e 93 _).to ?_
  cases h1 : cO (sb s) e 93 with
  | true =>
   simp -implicitDefEqProofs only [aA, seval]
   refine (rE ⟨#[91, 93]⟩ [] (by simp) _).to ?_
   simp -implicitDefEqProofs only [aA, seval]
   refine (aKY ts (nR ⟨#[91, 93]⟩ []) (by omega) _).to ?_
   simp -implicitDefEqProofs only [aK, b7, cF, bO, d9 (bO _), d7 (aT _), hw, aA, seval, wW]
   exact ⟨qM (by omega), hD _⟩
  | false =>
   simp -implicitDefEqProofs only [hw, aA, seval]
   refine (hR f _ (by omega) (by omega)).mono ?_
   rintro r _ ⟨hr, rfl⟩
   rw [← hf]
   cases hRi : R f with
   | none =>
    rw [hRi] at hr
    obtain ⟨k, hk, rfl⟩ := hr
    have hk0 : ((-1 - (k : Int)) < 0) = True := c7 (by omega)
    simp -implicitDefEqProofs only [aK, aH, b7, cF, hk0, kN, bM, aA, ↓aU, seval, wW]
    exact ⟨CM hk, hD _⟩
   | some p =>
    obtain ⟨t, e2⟩ := p
    rw [hRi] at hr
    simp only [lF] at hr
    subst hr
    obtain ⟨k1, k2, k3⟩ := hok f t e2 (by rw [cJ]; omega) hRi
    rw [cJ] at k2
    have he2 : ((e2 : Int) < 0) = False := cH (by omega)
    have hw2 := bK (n := (e2 : Int) + 1)
    simp -implicitDefEqProofs only [aH, b7, cF, he2, bX, aA, ↓aU, seval, wW]
    refine (kB s e2 93 _).to ?_
    cases h2 : cO (sb s) e2 93 with
    | true =>
     simp -implicitDefEqProofs only [aT, aH, aA, seval, wW]
     refine (aKY ts t (by omega) _).to ?_
     simp -implicitDefEqProofs only [aK, b7, cF, bO, d9 (bO _), d7 (aT _), hw2, aA, seval, wW]
     exact ⟨qM rfl, hD _⟩
    | false =>
     simp -implicitDefEqProofs only [aA, seval]
     refine (BP e2 (by omega) _).to ?_
     simp -implicitDefEqProofs only [aK, b7, cF, bO, d9 (bO _), d7 (aT _), kN, aA, seval, wW]
     exact ⟨wY (by omega), hD _⟩
theorem aVA {R : Nat → kJ} {l : List UInt8} {d a : Nat} (h : d < 1 ∨ l.length ≤ a) : mN R l d a = none := by unfold mN; rw [aG h]
theorem aO7 {R : Nat → kJ} {l : List UInt8} {d a : Nat} (h : ¬(d < 1 ∨ l.length ≤ a)) (h1 : cO l a 40 = true) : mN R l d a = match R d (a + 1) with
 | none => none
 | some (t, e) => if cO l e 41 then some (t, e + 1) else none := by unfold mN; rw [aE h, aG h1]; try rfl
theorem aWO {R : Nat → kJ} {l : List UInt8} {d a : Nat} (h : ¬(d < 1 ∨ l.length ≤ a)) (h1 : cO l a 40 = false) (h2 : cO l a 91 = true) (h3 : cO l (a + 1) 93 = false) : mN R l d a = yT (R (d - 1)) l (a + 1) := by
 unfold mN; rw [aE h, aE (by simp [h1]), aG (by simp [h2, h3])]
theorem aM4 {R : Nat → kJ} {l : List UInt8} {d a : Nat} (h : ¬(d < 1 ∨ l.length ≤ a)) (h1 : cO l a 40 = false) (h2 : (cO l a 91 && !cO l (a + 1) 93) = false) (h3 : fR l a r8 = true) : mN R l d a = some (vr ((I8 l a - 65 : Nat) : Int), a + 1) := by
 unfold mN; rw [aE h, aE (by simp [h1]), aE (by simp [h2]), aG h3]
theorem aZJ {R : Nat → kJ} {l : List UInt8} {d a : Nat} (h : ¬(d < 1 ∨ l.length ≤ a)) (h1 : cO l a 40 = false) (h2 : (cO l a 91 && !cO l (a + 1) 93) = false) (h3 : fR l a r8 = false) (h4 : (fR l a dN || (cO l a 45 && fR l (a + 1) dN)) = true) : mN R l d a = match tF l a with
 | none => none
 | some (n, e) => some (.mk 2 n ⟨#[]⟩ [], e) := by
 unfold mN; rw [aE h, aE (by simp [h1]), aE (by simp [h2]), aE (by simp [h3]), aG h4]; try rfl
theorem aZS {R : Nat → kJ} {l : List UInt8} {d a : Nat} (h : ¬(d < 1 ∨ l.length ≤ a)) (h1 : cO l a 40 = false) (h2 : (cO l a 91 && !cO l (a + 1) 93) = false) (h3 : fR l a r8 = false) (h4 : (fR l a dN || (cO l a 45 && fR l (a + 1) dN)) = false) : mN R l d a = match nG l a with
 | none => none
 | some (nm, e) => if cO l e 40 = false then some (nR nm [], e) else match qO (R (d - 1)) l 41 41 (l.length + 1) (e + 1) [] with
  | none => none
  | some (ts, e') => some (nR nm ts, e' + 1) := by
 unfold mN; rw [aE h, aE (by simp [h1]), aE (by simp [h2]), aE (by simp [h3]), aE (by simp [h4])]; try rfl
abbrev j0 := zi tI_3 (zi zI_3 (zi aX (zi tI_4 (zi zI_4 (zi cE (zi tI_5 (zi zI_5 (zi kF (zi tI_8 (zi zI_8 (zi vR (zi vQ (zi vU (zi vL (zi wC (zi tI_9 (zi zI_9 (zi cG (zi tI_31 (zi zI_31 (zi aN (zi bE (zi bF (zi cA (zi tI_40 (zi zI_40 (zi aB4 (zi aHM (zi aI0 (zi TZ (zi aGW (zi XG (zi aCL (zi tI_41 (zi zI_41 (zi aV6 (zi aO9 (zi aMZ (zi aSA (zi aQP (zi aOE (zi aPQ (zi tI_63 (zi zI_63 (zi bR (zi bQ (zi bP (zi bT bU))))))))))))))))))))))))))))))))))))))))))))))))
set_option maxHeartbeats 2000000 in
theorem aUB {s : ByteArray} {R : Nat → kJ} {a : Nat} (hR : ∀ d, d ≤ 1048576 → NM s (R d) d 3 (a + 1)) (hok : ∀ d, wV (R d) (sb s)) (hs : s.size ≤ 1000) (ha : a ≤ s.size) (d : Nat) (hd : d ≤ 1048576) (st : aB) :
 aD prog 204 [.str s, .int .i64 (a : Int), .int .i64 (d : Int)] st (fun r st' => lF (mN R (sb s) d a) r ∧ st' = st) := by
 refine aD.QT ?_
 refine wF [1000000] 3 func204 ntmps204 rfl rfl ?_
 intro _
 generalize hP : mN R (sb s) d a = o
 simp -implicitDefEqProofs only [aA, seval, j0]
 intro b hb
 have hD := fun (o : AO) => (aM.refl st).aC (o := o) hb
 by_cases h0 : d < 1 ∨ s.size ≤ a
 case pos =>
  rw [aVA (by rw [cJ]; exact h0)] at hP
  subst hP
  by_cases h01 : d < 1
  case pos =>
   have uY : ((d : Int) < 1) = True := c7 (by omega)
   simp -implicitDefEqProofs only [uY, bM, aA, seval]
   refine (BP a (by omega) _).to ?_
   simp -implicitDefEqProofs only [aK, b7, cF, bO, d9 (bO _), d7 (aT _), kN, aA, seval, j0]
   exact ⟨wY (by omega), hD _⟩
  case neg =>
   have uY : ((d : Int) < 1) = False := cH (by omega)
   have xY : ((s.size : Int) ≤ (a : Int)) = True := c7 (by omega)
   simp -implicitDefEqProofs only [uY, xY, bM, bX, aA, seval, j0]
   refine (BP a (by omega) _).to ?_
   simp -implicitDefEqProofs only [aK, b7, cF, bO, d9 (bO _), d7 (aT _), kN, aA, seval, j0]
   exact ⟨wY (by omega), hD _⟩
 have h0' : ¬(d < 1 ∨ (sb s).length ≤ a) := by rw [cJ]; exact h0
 have uY : ((d : Int) < 1) = False := cH (by omega)
 have xY : ((s.size : Int) ≤ (a : Int)) = False := cH (by omega)
 obtain ⟨x, hx⟩ := uM (s := s) (n := a) (by omega)
 have hix := rW (P := prog) (t := 9) cG hx
 obtain ⟨f, hf⟩ : ∃ f, f = a + 1 := ⟨_, rfl⟩
 have hw := nA (x := (a : Int) + 1) (m := f) (by omega) (by omega)
 obtain ⟨d1, hd1⟩ : ∃ d1, d1 = d - 1 := ⟨_, rfl⟩
 have hwd := nA (x := (d : Int) - 1) (m := d1) (by omega) (by omega)
 by_cases h40 : x.toNat = 40
 case pos =>
  rw [aO7 h0' (by rw [rV hx, h40]; try rfl), ← hf] at hP
  have BX : ((x.toNat : Int) = 40) = True := c7 (by omega)
  simp -implicitDefEqProofs only [uY, xY, hix, BX, hw, bM, bX, aA, seval, j0]
  refine (hR d hd f _ (by omega) (by omega)).mono ?_
  rintro r _ ⟨hr, rfl⟩
  cases hRi : R d f with
  | none =>
   rw [hRi] at hr hP
   subst hP
   obtain ⟨k, hk, rfl⟩ := hr
   have hk0 : ((-1 - (k : Int)) < 0) = True := c7 (by omega)
   simp -implicitDefEqProofs only [aK, aH, b7, cF, hk0, kN, bM, aA, ↓aU, seval, j0]
   exact ⟨CM hk, hD _⟩
  | some p =>
   obtain ⟨t, e2⟩ := p
   rw [hRi] at hr hP
   simp only [lF] at hr
   subst hr
   obtain ⟨k1, k2, k3⟩ := hok d f t e2 (by rw [cJ]; omega) hRi
   rw [cJ] at k2
   have he2 : ((e2 : Int) < 0) = False := cH (by omega)
   have hw2 := bK (n := (e2 : Int) + 1)
   simp -implicitDefEqProofs only [aH, b7, cF, he2, bX, aA, ↓aU, seval, j0]
   refine (kB s e2 41 _).to ?_
   cases h2 : cO (sb s) e2 41 with
   | true =>
    simp only [h2, ↓reduceIte] at hP
    subst hP
    simp -implicitDefEqProofs only [aK, aT, aH, b7, cF, bO, d9 (bO _), d7 (aT _), hw2, aA, seval, j0]
    exact ⟨qM rfl, hD _⟩
   | false =>
    simp only [h2, ↓reduceIte, jM] at hP
    subst hP
    simp -implicitDefEqProofs only [aA, seval]
    refine (BP e2 (by omega) _).to ?_
    simp -implicitDefEqProofs only [aK, b7, cF, bO, d9 (bO _), d7 (aT _), kN, aA, seval, j0]
    exact ⟨wY (by omega), hD _⟩
 have g40 : cO (sb s) a 40 = false := by rw [rV hx]; exact fH h40
 have BX : ((x.toNat : Int) = 40) = False := cH (by omega)
 -- a list
 by_cases hL : x.toNat = 91 ∧ cO (sb s) f 93 = false
 case pos =>
  obtain ⟨h91, h93⟩ := hL
  rw [aWO h0' g40 (by rw [rV hx, h91]; try rfl) (by rw [← hf]; exact h93), ← hf, ← hd1] at hP
  subst hP
  have rD : ((x.toNat : Int) = 91) = True := c7 (by omega)
  simp -implicitDefEqProofs only [uY, xY, hix, BX, rD, hw, bM, bX, aA, seval, j0]
  refine (kB s f 93 _).to ?_
  rw [h93]
  simp -implicitDefEqProofs only [hw, hwd, aA, seval]
  refine (aOZ (hR d1 (by omega)) (hok d1) hs f (by omega) (by omega) _).mono ?_
  rintro r _ ⟨hr, rfl⟩
  cases hI : yT (R d1) (sb s) f with
  | none =>
   rw [hI] at hr
   obtain ⟨k, hk, rfl⟩ := hr
   simp -implicitDefEqProofs only [aK, b7, cF, bO, d9 (bO _), d7 (aT _), kN, aA, seval, j0]
   exact ⟨wY hk, hD _⟩
  | some p =>
   obtain ⟨t, e2⟩ := p
   rw [hI] at hr
   simp only [lF] at hr
   subst hr
   simp -implicitDefEqProofs only [aK, b7, cF, bO, d9 (bO _), d7 (aT _), aA, seval, j0]
   exact ⟨qM rfl, hD _⟩
 have gL : (cO (sb s) a 91 && !cO (sb s) (a + 1) 93) = false := by
  rw [← hf, rV hx]
  rcases Nat.decEq x.toNat 91 with h | h
  · rw [fH h, gK]
  · rw [gA h, eT]
    cases h93 : cO (sb s) f 93 with
    | true => rfl
    | false => exact absurd ⟨h, h93⟩ hL
 by_cases hU : r8 x = true
 case pos =>
  have hP' := aM4 (R := R) h0' g40 gL (by rw [uJ hx]; exact hU)
  rw [hP'] at hP
  subst hP
  have hbn : I8 (sb s) a = x.toNat := by unfold I8; rw [hx]
  simp only [r8, cM, bJ] at hU
  have rD : ((x.toNat : Int) = 91) = False := cH (by omega)
  have h65 : ((65 : Int) ≤ (x.toNat : Int)) = True := c7 (by omega)
  have h90 : ((x.toNat : Int) ≤ 90) = True := c7 (by omega)
  obtain ⟨y, hy⟩ : ∃ y, y = x.toNat - 65 := ⟨_, rfl⟩
  have hw2 : IntKind.wrap .u8 ((x.toNat : Int) - 65) = (y : Int) := by rw [IntKind.wrap_u8]; omega
  have hw3 := bK (n := (y : Int))
  simp -implicitDefEqProofs only [uY, xY, hix, BX, rD, h65, h90, hw2, hw3, sT, bM, bX, aA, seval, j0]
  refine (H0 (y : Int) _).to ?_
  simp -implicitDefEqProofs only [aK, b7, cF, bO, d9 (bO _), d7 (aT _), hw, aA, seval, j0]
  rw [hbn, ← hy, ← hf]
  exact ⟨qM rfl, hD _⟩
 have gU : fR (sb s) a r8 = false := by rw [uJ hx]; simpa using hU
 cases hdg : (fR (sb s) a dN || (cO (sb s) a 45 && fR (sb s) (a + 1) dN)) with
 | true =>
  have hP' := aZJ (R := R) h0' g40 gL gU hdg
  rw [hP'] at hP
  by_cases hdx : dN x = true
  case' pos => have BF := hdx
  case' neg =>
   have hdx : dN x = false := by simpa using hdx
   rw [uJ hx, hdx, qU, cM, rV hx, bJ] at hdg
   have BF : ((x.toNat : Int) = 45) = True := c7 (by omega)
  all_goals
   by_cases h91 : x.toNat = 91
   case' pos =>
    have rD : ((x.toNat : Int) = 91) = True := c7 (by omega)
    have h93 : cO (sb s) f 93 = true := by rw [rV hx, gA h91, eT, ← hf] at gL; simpa using gL
   case' neg =>
    have rD : ((x.toNat : Int) = 91) = False := cH (by omega)
    have h93 := rD
   all_goals
    by_cases h65 : 65 ≤ x.toNat
    case' pos =>
     have vC : ((65 : Int) ≤ (x.toNat : Int)) = True := c7 (by omega)
     have zT : ((x.toNat : Int) ≤ 90) = False := cH (by intro h; exact hU (by simp only [r8, cM, bJ]; omega))
    case' neg =>
     have vC : ((65 : Int) ≤ (x.toNat : Int)) = False := cH (by omega)
     have zT := vC
   all_goals
    simp -implicitDefEqProofs only [uY, xY, hix, BX, rD, vC, zT, hw, bM, bX, aA, seval, j0]
    try
     refine (kB s f 93 _).to ?_
     rw [h93]
     simp -implicitDefEqProofs only [hix, vC, zT, bM, bX, aA, seval]
    refine (xU s a _).to ?_
    rw [uJ hx]
   all_goals
    simp -implicitDefEqProofs only [hix, hdx, BF, hw, bM, aA, seval]
    try
     refine (xU s f _).to ?_
     rw [hf, hdg.2]
     simp -implicitDefEqProofs only [aA, seval]
    refine (aTV s hs a ha _).to ?_
    cases hn : tF (sb s) a with
    | none =>
     rw [hn] at hP
     subst hP
     simp -implicitDefEqProofs only [aH, b7, cF, yS, bM, aA, ↓aU, seval, j0]
     refine (BP a (by omega) _).to ?_
     simp -implicitDefEqProofs only [aK, b7, cF, bO, d9 (bO _), d7 (aT _), kN, aA, seval, j0]
     exact ⟨wY (by omega), hD _⟩
    | some p =>
     obtain ⟨n, e⟩ := p
     rw [hn] at hP
     subst hP
     have he0 : ((e : Int) < 0) = False := cH (by omega)
     simp -implicitDefEqProofs only [aK, aT, aH, b7, cF, bO, d9 (bO _), d7 (aT _), yS, he0, bX, aA, ↓aU, seval, j0]
     exact ⟨qM rfl, hD _⟩
 | false =>
  have hP' := aZS (R := R) h0' g40 gL gU hdg
  rw [hP', ← hd1] at hP
  rw [uJ hx, Bool.or_eq_false_iff, rV hx, ← hf] at hdg
  have hdx := hdg.1
  by_cases h45 : x.toNat = 45
  case' pos =>
   have BF : ((x.toNat : Int) = 45) = True := c7 (by omega)
   have hfd : fR (sb s) f dN = false := by have := hdg.2; rwa [gA h45, eT] at this
  case' neg =>
   have BF : ((x.toNat : Int) = 45) = False := cH (by omega)
   have hfd := BF
  all_goals
   by_cases h91 : x.toNat = 91
   case' pos =>
    have rD : ((x.toNat : Int) = 91) = True := c7 (by omega)
    have h93 : cO (sb s) f 93 = true := by rw [rV hx, gA h91, eT, ← hf] at gL; simpa using gL
   case' neg =>
    have rD : ((x.toNat : Int) = 91) = False := cH (by omega)
    have h93 := rD
   all_goals
    by_cases h65 : 65 ≤ x.toNat
    case' pos =>
     have vC : ((65 : Int) ≤ (x.toNat : Int)) = True := c7 (by omega)
     have zT : ((x.toNat : Int) ≤ 90) = False := cH (by intro h; exact hU (by simp only [r8, cM, bJ]; omega))
    case' neg =>
     have vC : ((65 : Int) ≤ (x.toNat : Int)) = False := cH (by omega)
     have zT := vC
   all_goals
    simp -implicitDefEqProofs only [uY, xY, hix, BX, rD, vC, zT, hw, bM, bX, aA, seval, j0]
    try
     refine (kB s f 93 _).to ?_
     rw [h93]
     simp -implicitDefEqProofs only [hix, vC, zT, bM, bX, aA, seval]
    refine (xU s a _).to ?_
    rw [uJ hx]
   all_goals
    simp -implicitDefEqProofs only [hix, hdx, BF, hw, bM, bX, aA, seval]
    try
     refine (xU s f _).to ?_
     rw [hfd]
     simp -implicitDefEqProofs only [aA, seval]
    refine (QV s hs a ha _).to ?_
    cases hn : nG (sb s) a with
    | none =>
     rw [hn] at hP
     subst hP
     simp -implicitDefEqProofs only [y8, bM, aA, seval]
     refine (BP a (by omega) _).to ?_
     simp -implicitDefEqProofs only [aK, b7, cF, bO, d9 (bO _), d7 (aT _), kN, aA, seval, j0]
     exact ⟨wY (by omega), hD _⟩
    | some p =>
     obtain ⟨nm, e⟩ := p
     rw [hn] at hP
     simp only at hP
     have hel := DG (by rw [cJ]; exact ha) hn
     rw [cJ] at hel
     have he0 : ((e : Int) < 0) = False := cH (by omega)
     obtain ⟨f2, hf2⟩ : ∃ f2, f2 = e + 1 := ⟨_, rfl⟩
     have hwe := nA (x := (e : Int) + 1) (m := f2) (by omega) (by omega)
     simp -implicitDefEqProofs only [y8, he0, bX, aA, seval]
     refine (kB s e 40 _).to ?_
     cases h4 : cO (sb s) e 40 with
     | false =>
      rw [aG h4] at hP
      subst hP
      simp -implicitDefEqProofs only [aA, seval]
      refine (rE nm [] (by simp) _).to ?_
      simp -implicitDefEqProofs only [aK, b7, cF, bO, d9 (bO _), d7 (aT _), aA, seval, j0]
      exact ⟨qM rfl, hD _⟩
     | true =>
      rw [aE (by simp [h4]), ← hf2] at hP
      have h5 := nE h4
      rw [cJ] at h5
      simp -implicitDefEqProofs only [hwd, hwe, aA, seval]
      refine (aCG (hR d1 (by omega)) (hok d1) hs f2 (by omega) (by omega) _ (c1 := 41) (c2 := 41)).mono ?_
      rintro r _ ⟨hr, rfl⟩
      cases hT : qO (R d1) (sb s) 41 41 ((sb s).length + 1) f2 [] with
      | none =>
       rw [hT] at hr hP
       subst hP
       obtain ⟨k, hk, rfl⟩ := hr
       have hk0 : ((-1 - (k : Int)) < 0) = True := c7 (by omega)
       simp -implicitDefEqProofs only [aK, hk0, bM, aA, seval, j0]
       exact ⟨CM hk, hD _⟩
      | some p =>
       obtain ⟨ts, e3⟩ := p
       rw [hT] at hr hP
       simp only [uL] at hr hP
       subst hr hP
       obtain ⟨g1, g2, g3, g4, g5⟩ := HI (hok d1) _ _ _ _ _ (by rw [cJ]; omega) (by simp) hT
       rw [cJ] at g2
       have he3 : ((e3 : Int) < 0) = False := cH (by omega)
       have hw3 := bK (n := (e3 : Int) + 1)
       simp -implicitDefEqProofs only [aK, he3, hw3, bX, aA, seval, j0]
       exact ⟨by rw [show (AV.agg [.int .i64 3, .int .i64 0, .str nm, .slice (ts.map Tm.av)]) = (nR nm ts).av from (aV ..).symm]; exact qM rfl, hD _⟩
theorem aSN {nm : ByteArray} (h : dL nm ≠ 0) : nm ≠ ⟨#[]⟩ := by rintro rfl; exact h (by decide)
abbrev qG := zi tI_3 (zi zI_3 (zi aX (zi tI_9 (zi zI_9 (zi cG (zi tI_31 (zi zI_31 (zi aN (zi bE (zi bF (zi cA (zi tI_63 (zi zI_63 (zi bR (zi bQ (zi bP (zi bT bU)))))))))))))))))
set_option maxHeartbeats 2000000 in
theorem aS2 {s : ByteArray} (hs : s.size ≤ 1000) : ∀ (n d a lv : Nat) (st : aB), a ≤ s.size → lv ≤ 3 → d ≤ 1048576 → (s.size - a) * 4 + lv < n →
 aD prog 165 [.str s, .int .i64 (a : Int), .int .i64 (d : Int), .int .i64 (lv : Int)] st (fun r st' => lF (rd (sb s) n d a lv) r ∧ st' = st) := by
 intro n
 induction n with
 | zero => intro d a lv st _ _ _ h; omega
 | succ n IH =>
 intro d a lv st ha hlv hd hn
 have hl1 : (sb s).length ≤ 1000 := by rw [cJ]; exact hs
 refine aD.QT ?_
 refine wF [1000000, 10] 4 func165 ntmps165 rfl rfl ?_
 intro _
 generalize hP : rd (sb s) (n + 1) d a lv = o
 simp -implicitDefEqProofs only [aA, seval, qG]
 intro b hb
 have hD := fun (o : AO) => (aM.refl st).aC (o := o) hb
 cases lv with
 | zero =>
  simp only [rd] at hP
  have h0 : (((0 : Nat) : Int) = 0) = True := c7 rfl
  simp -implicitDefEqProofs only [bM, aA, ↓aU, seval]
  refine (aUB (R := fun d a => rd (sb s) n d a 3) (a := a) (fun d hd a' st' h1 h2 => IH d a' 3 st' h2 (by omega) hd (by omega)) (fun d => zW hl1 n d 3) hs ha d hd _).mono ?_
  rintro r _ ⟨hr, rfl⟩
  rw [hP] at hr
  cases o with
  | none =>
   obtain ⟨k, hk, rfl⟩ := hr
   simp -implicitDefEqProofs only [aK, b7, cF, bO, d9 (bO _), d7 (aT _), kN, aA, seval, qG]
   exact ⟨wY hk, hD _⟩
  | some p =>
   obtain ⟨t, e⟩ := p
   simp only [lF] at hr
   subst hr
   simp -implicitDefEqProofs only [aK, b7, cF, bO, d9 (bO _), d7 (aT _), aA, seval, qG]
   exact ⟨qM rfl, hD _⟩
 | succ lv =>
  simp only [rd] at hP
  have h0 : (((lv + 1 : Nat) : Int) = 0) = False := cH (by omega)
  obtain ⟨lw, hlw⟩ : ∃ lw, lw = lv + 1 := ⟨_, rfl⟩
  rw [← hlw] at hP h0 ⊢
  have hwl := nA (x := (lw : Int) - 1) (m := lv) (by omega) (by omega)
  simp -implicitDefEqProofs only [h0, hwl, bX, aA, seval]
  refine (IH d a lv _ ha (by omega) hd (by omega)).mono ?_
  rintro r _ ⟨hr, rfl⟩
  cases hRi : rd (sb s) n d a lv with
  | none =>
   rw [hRi] at hr hP
   simp only at hP
   subst hP
   obtain ⟨k, hk, rfl⟩ := hr
   have hk0 : ((0 : Int) ≤ (-1 - (k : Int))) = False := cH (by omega)
   simp -implicitDefEqProofs only [aK, b7, bO, kN, aA, ↓aU, seval, qG]
   intro b10 h10
   have hbb : b10 ≠ b := fun h => by rw [h, aB.aQ] at h10; cases h10
   have L3 : st b10 = none := by rwa [aB.aL _ _ hbb] at h10
   refine gX (σ := Unit) [1000000, 10] [0, 2, 3, 8, 10] (fun _ => True) (fun _ => [(9, .int .i64 0), (11, .int .i64 (-1 - (k : Int)))]) (fun _ => (st.aC b (.cells [.int .i64 0, .int .i64 0, .str ⟨#[]⟩, .fslice []])).aC b10 (.cells FD.av.cells)) (fun _ => 0) (by decide +kernel) ⟨(), trivial, aO.mk (by simp -implicitDefEqProofs only [aA, seval])⟩ ?_
   rintro _ _
   simp -implicitDefEqProofs only [aK, hk0, hbb.symm, bX, aA, seval, qG]
   exact ⟨CM hk, ((hD _).aC L3).aC hb⟩
  | some p =>
   obtain ⟨t, e⟩ := p
   rw [hRi] at hr hP
   simp only [lF] at hr hP
   subst hr
   obtain ⟨g1, g2, g3⟩ := zW hl1 n d lv a t e (by rw [cJ]; exact ha) hRi
   rw [cJ] at g2 hP
   simp -implicitDefEqProofs only [aK, b7, bO, aA, ↓aU, seval, qG]
   intro b10 h10
   have hbb : b10 ≠ b := fun h => by rw [h, aB.aQ] at h10; cases h10
   have L3 : st b10 = none := by rwa [aB.aL _ _ hbb] at h10
   have hE : ∀ o1 o2 o3, aM (((st.aC b o1).aC b10 o2).aC b o3) st := fun o1 o2 o3 => ((hD _).aC L3).aC hb
   refine gX (σ := Tm × Nat × Nat) [1000000, 10] [0, 2, 3, 8, 10] (fun x => CG (fun a => rd (sb s) n d a lv) (sb s) lw x.2.2 x.1 x.2.1 = o ∧ a < x.2.1 ∧ x.2.1 ≤ s.size ∧ s.size < x.2.2 + x.2.1) (fun x => [(9, .int .i64 0), (11, .int .i64 (x.2.1 : Int))]) (fun x => (st.aC b (.cells [.int .i64 0, .int .i64 0, .str ⟨#[]⟩, .fslice []])).aC b10 (.cells x.1.av.cells)) (fun x => x.2.2) (by decide +kernel) ⟨(t, e, s.size + 1), ⟨hP, g1, g2, by simp only; omega⟩, aO.mk (by simp -implicitDefEqProofs only [aA, seval])⟩ ?_
   rintro ⟨t, e, m⟩ ⟨ht, hae, hes, hm⟩
   simp only at ht hae hes hm ⊢
   obtain ⟨m, rfl⟩ : ∃ m', m = m' + 1 := ⟨m - 1, by omega⟩
   simp only [CG] at ht
   have he0 : ((0 : Int) ≤ (e : Int)) = True := c7 (by omega)
   simp -implicitDefEqProofs only [he0, bM, aA, seval]
   refine (aN3 s hs e hes _).to ?_
   cases hop : oV (sb s) e with
   | none =>
    rw [hop] at ht
    simp only at ht
    subst ht
    simp -implicitDefEqProofs only [aK, b7, cF, bO, d9 (bO _), d7 (aT _), LD, hbb.symm, bM, aA, seval, qG]
    exact ⟨qM rfl, hE _ _ _⟩
   | some p =>
    obtain ⟨nm, e1⟩ := p
    rw [hop] at ht
    simp only at ht
    obtain ⟨k1, k2, k3⟩ := YB hop
    rw [cJ] at k2
    have hnm := cH (aSN k3)
    simp -implicitDefEqProofs only [LD, hnm, bX, aA, seval]
    refine (vB nm _).to ?_
    by_cases aDB : dL nm = lw
    case neg =>
     rw [aG aDB] at ht
     subst ht
     have hne : ((dL nm : Int) = (lw : Int)) = False := cH (by omega)
     simp -implicitDefEqProofs only [aK, b7, cF, bO, d9 (bO _), d7 (aT _), hne, hbb.symm, bX, aA, seval, qG]
     exact ⟨qM rfl, hE _ _ _⟩
    rw [aE (by simpa using aDB)] at ht
    have hne : ((dL nm : Int) = (lw : Int)) = True := c7 (by omega)
    simp -implicitDefEqProofs only [hne, hwl, bM, aA, seval]
    refine (IH d e1 lv _ k2 (by omega) hd (by omega)).mono ?_
    rintro r _ ⟨hr, rfl⟩
    cases hRj : rd (sb s) n d e1 lv with
    | none =>
     rw [hRj] at hr ht
     simp only at ht
     subst ht
     obtain ⟨k, hk, rfl⟩ := hr
     have hk0 : ((-1 - (k : Int)) < 0) = True := c7 (by omega)
     simp -implicitDefEqProofs only [aK, aH, b7, cF, hk0, kN, hbb.symm, bM, aA, ↓aU, seval, qG]
     exact ⟨CM hk, hE _ _ _⟩
    | some p =>
     obtain ⟨t2, e2⟩ := p
     rw [hRj] at hr ht
     simp only [lF] at hr ht
     subst hr
     obtain ⟨q1, q2, q3⟩ := zW hl1 n d lv e1 t2 e2 (by rw [cJ]; exact k2) hRj
     rw [cJ] at q2
     have he2 : ((e2 : Int) < 0) = False := cH (by omega)
     simp -implicitDefEqProofs only [aT, aH, b7, cF, bO, d9 (bO _), d7 (aT _), he2, bX, aA, ↓aU, seval, qG]
     refine (rE nm [t, t2] (by simp) _).to ?_
     by_cases h3 : lw = 3
     · rw [aG h3] at ht
       subst ht
       have h3' : ((lw : Int) = 3) = True := c7 (by omega)
       simp -implicitDefEqProofs only [aK, b7, cF, bO, d9 (bO _), d7 (aT _), h3', hbb.symm, bM, aA, seval, qG]
       exact ⟨qM rfl, hE _ _ _⟩
     · rw [aE h3] at ht
       have h3' : ((lw : Int) = 3) = False := cH (by omega)
       simp -implicitDefEqProofs only [aK, b7, bO, h3', bX, aA, seval, qG]
       exact ⟨(nR nm [t, t2], e2, m), by simp only; omega, ⟨ht, by simp only; omega, q2, by simp only; omega⟩, aO.mk (by simp -implicitDefEqProofs only [aA, seval])⟩
end Go.AW
