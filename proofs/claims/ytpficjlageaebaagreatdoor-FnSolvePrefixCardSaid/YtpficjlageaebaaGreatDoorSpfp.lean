/- The answers of a search are valid terms. -/
import Derived.Test.YtpficjlageaebaaGreatDoorSpfn
import Derived.Test.YtpficjlageaebaaGreatDoorSpfo
import Derived.Test.YtpficjlageaebaaGreatDoorSpfi
import Derived.Test.YtpficjlageaebaaGreatDoorSpff
import Derived.Test.YtpficjlageaebaaGreatDoorSpfh
import Derived.Test.YtpficjlageaebaaGreatDoorSpfk
import Derived.Test.YtpficjlageaebaaGreatDoorSpfl
import Derived.Test.YtpficjlageaebaaGreatDoorSpfm
set_option linter.unusedSimpArgs false
set_option linter.unusedVariables false
set_option maxRecDepth 100000
namespace Go.AW
def aLU (vars : List Int) (a : List Tm) : Prop := a.length = vars.length ∧ a.all Tm.valid = true
theorem aSC {N : Nat} {σ : Sub} (hg : cL σ) (ho : cP (bD N) σ) {vars : List Int} (hv : ∀ v ∈ vars, 0 ≤ v ∧ v < (N : Int)) {a : List Tm} (h : iZ σ vars = some a) : aLU vars a := by
 obtain ⟨rk, B, G⟩ := hg.rs
 unfold iZ at h
 split at h
 · rename_i hh
   cases h
   obtain ⟨h1, h2⟩ := hh
   have hok : ∀ t ∈ vars.map (rs σ), bD N t := fun t ht => by
    obtain ⟨v, hvm, rfl⟩ := cV.1 ht
    have hf := eW.1 h1 _ ht
    unfold eK at hf
    simp only [cM, bJ] at hf
    exact ⟨G.kT ho.kT v (hv v hvm).1 (hv v hvm).2, hf.2⟩
   exact ⟨by rw [aZA hok, aF], by rw [VB hok h1, bJ]; exact h2⟩
 · cases h
theorem aR6 {p : List Cl} (hp : ∀ c ∈ p, gG c ∧ c.2.length ≤ 6) (hpl : p.length ≤ 20) {cnd : Tm → List Nat → List Nat} (hd : ∀ t l, (∀ i ∈ cnd t l, i ∈ l) ∧ (cnd t l).length ≤ l.length) {vars : List Int} (hv : ∀ v ∈ vars, 0 ≤ v ∧ v < 26) :
 ∀ (n most fuel : Nat) (s : RS) (B : Nat), most + fuel ≤ n → lD p B s → B + 26 * fuel ≤ 8000 → (gX p cnd vars most fuel s).1.length ≤ most ∧ ∀ a ∈ (gX p cnd vars most fuel s).1, aLU vars a := by
 intro n
 induction n with
 | zero =>
  intro most fuel s B hn hs hB
  obtain rfl : most = 0 := by omega
  obtain rfl : fuel = 0 := by omega
  cases hg : s.goals with
  | nil => rw [wU hg]; simp
  | cons g rest => rw [tO hg]; simp
 | succ n ih =>
  intro most fuel s B hn hs hB
  cases hg : s.goals with
  | nil =>
   rw [wU hg]
   by_cases hm : most = 0
   · rw [aG hm]; simp
   rw [aE hm]
   cases ha : iZ s.σ vars with
   | none => simp
   | some a =>
    have hok := aSC hs.a.gJ hs.a.ok (fun v h => ⟨(hv v h).1, by have := (hv v h).2; have := hs.l.1; omega⟩) ha
    simp only
    cases hb : fP p s.chs.length s.chs with
    | none =>
     simp only [aS, aZ, c7, dP, dY]
     exact ⟨by omega, fun x hx => by rw [hx]; exact hok⟩
    | some s' =>
     obtain ⟨h1, h2⟩ := ih (most - 1) fuel s' B (by omega) (hs.back hp (by omega) hb) hB
     simp only [aS, c7]
     refine ⟨by omega, fun x hx => ?_⟩
     rcases hx with rfl | hx
     · exact hok
     · exact h2 x hx
  | cons g rest =>
   rw [tO hg]
   by_cases hf : fuel = 0
   · rw [aG hf]; simp
   rw [aE hf]
   cases hst : jI p cnd s g rest with
   | stop e => simp
   | go s' => exact ih most (fuel - 1) s' (B + 26) (by omega) (hs.step hp (by omega) (by omega) hd hg hst) (by omega)
   | fail =>
    simp only
    cases hb : fP p s.chs.length s.chs with
    | none => simp
    | some s' => exact ih most (fuel - 1) s' B (by omega) (hs.back hp (by omega) hb) (by omega)
theorem aME {q : List Tm} (hq : ∀ t ∈ q, bD 26 t ∧ t.k = 3) : (∀ v ∈ bY q [], 0 ≤ v ∧ v < 26) ∧ (bY q []).length ≤ 26 := by
 have hv : ∀ v ∈ bY q [], 0 ≤ v ∧ v < 26 := fun v hv => by
  rcases (wA q [] fun t ht => (hq t ht).1.1.2.1).1 hv with h | ⟨t, ht, h⟩
  · cases h
  · exact (hq t ht).1.1.2.2 v h
 refine ⟨hv, ?_⟩
 have hnd := HO q [] (fun t ht => Tm.tE t (hq t ht).1.1.2.1) pT
 exact AL (N := 26) hnd fun n hn => hv n hn
theorem aW5 (p : List Cl) {cnd : Tm → List Nat → List Nat} (hd : ∀ t l, (∀ i ∈ cnd t l, i ∈ l) ∧ (cnd t l).length ≤ l.length) (q : List Tm) (most fuel : Int) : (gI p cnd q most fuel).1.length ≤ 20 ∧ ∀ a ∈ (gI p cnd q most fuel).1, a.length ≤ 26 ∧ a.all Tm.valid = true := by
 unfold gI
 split
 · rename_i h
   simp only [iP, cM, bJ] at h
   obtain ⟨hp, hq, h1, h2, h3, h4⟩ := h
   obtain ⟨p1, p2⟩ := PT hp
   obtain ⟨q1, q2⟩ := HA hq
   obtain ⟨v1, v2⟩ := aME q2
   obtain ⟨r1, r2⟩ := aR6 p2 p1 hd v1 _ most.toNat fuel.toNat (kS q) 26 (cY _) (lD.start q2 q1) (by omega)
   unfold vF
   refine ⟨by omega, fun a ha => ?_⟩
   obtain ⟨h5, h6⟩ := r2 a ha
   exact ⟨by omega, h6⟩
 · simp
end Go.AW
namespace Go.AW
open Go.Proofs.Tryz
theorem GB.aT5 {st st' : aB} {a o : AV} {k : IntKind} {n : Int} (h : Made st a o st') : GB st [a, .int k n] (.tup [o, .int k n]) st' := by
 obtain ⟨bs, h1, h2, h3, h4⟩ := h
 exact ⟨_, bs, rfl, h1, h2, aR4.2 ⟨o, .int k n, bs, [], rfl, by simp, h3, ⟨rfl, rfl⟩⟩, h4⟩
def aJ9 (st : aB) (L : List AV) (e : Int) (r : AV) (st' : aB) : Prop := ∃ o, r = .tup [o, .int .i64 e] ∧ Made st (.slice L) o st' ∧ (L = [] → o = .fslice [])
structure sL (st : aB) (L : List AV) (b i : Nat) (os : List AV) (bs : List Nat) (s : aB) : Prop where
 len : os.length = i
 own : cJ s (L.take i) os bs
 nd : bs.Nodup
 new : ∀ q ∈ bs, st q = none
 bn : L ≠ [] → b ∉ bs
 cell : L ≠ [] → s b = some (.cells (os.flatMap AV.cells ++ (L.drop i).flatMap AV.cells))
 a8 : ∀ q, q ∉ bs → (L ≠ [] → q ≠ b) → s q = st q
theorem sL.start {st : aB} {L : List AV} {b : Nat} : sL st L b 0 [] [] (aY st b L) := by
 refine ⟨rfl, by simp [cJ], pT, by simp, by simp, fun h => ?_, fun q _ h => ?_⟩
 · rw [jF h, aB.aP]; try rfl
 · cases L with
   | nil => rfl
   | cons x l => exact pN (h (by simp))
theorem sL.done {st s : aB} {L os : List AV} {b w : Nat} {bs : List Nat} (h : sL st L b L.length os bs s) (hb : L ≠ [] → st b = none) (hw : ∀ e ∈ L, e.width = w) : Made st (.slice L) (a9 w b L) s := by
 obtain ⟨h1, h2, h3, h4, h5, h6, h7⟩ := h
 rw [eS] at h2
 by_cases hL : L = []
 · subst hL
   simp only [cJ] at h2
   obtain ⟨rfl, rfl⟩ := h2
   exact ⟨[], pT, by simp, .inl ⟨rfl, rfl, rfl⟩, fun q hq => h7 q hq (fun h => absurd rfl h)⟩
 · refine ⟨b :: bs, List.nodup_cons.2 ⟨h5 hL, h3⟩, fun q hq => ?_, ?_, fun q hq => ?_⟩
   · rcases c7.1 hq with rfl | hq
     · exact hb hL
     · exact h4 q hq
   · rw [oH hL]
     refine .inr ⟨b, bs, os, w, rfl, rfl, ?_, h2, hw⟩
     have := h6 hL
     rw [kE] at this
     simpa using this
   · simp only [c7, not_or] at hq
     exact h7 q hq.2 fun _ => hq.1
theorem sL.step {st s s2 : aB} {L os B : List AV} {b i : Nat} {bs bx : List Nat} {e r : AV} (h : sL st L b i os bs s) (he : L[i]? = some (.agg [e])) (hB : (L.drop (i + 1)).flatMap AV.cells = B) (m1 : bx.Nodup) (m2 : ∀ q ∈ bx, s q = none) (m3 : cK s2 e r bx) (m4 : ∀ q, q ∉ bx → s2 q = s q) :
 sL st L b (i + 1) (os ++ [.agg [r]]) (bs ++ bx) (s2.aC b (.cells (os.flatMap AV.cells ++ [r] ++ B))) := by
 obtain ⟨h1, h2, h3, h4, h5, h6, h7⟩ := h
 have hi : i < L.length := (gR.1 he).1
 have hL : L ≠ [] := by rintro rfl; simp at hi
 have A1 := cJ.iG _ _ _ h2
 have vS : ∀ q ∈ bs, s q ≠ none := fun q hq => by obtain ⟨cs, e1, _⟩ := A1.2 q hq; rw [e1]; simp
 have hsb := h6 hL
 have hbx : b ∉ bx := fun hq => by have := m2 b hq; rw [hsb] at this; cases this
 have CT : ∀ q ∈ bs, q ∉ bx := fun q hq hq' => vS q hq (m2 q hq')
 have hbs : ∀ q ∈ bs, (s2.aC b (.cells (os.flatMap AV.cells ++ [r] ++ B))) q = s q := fun q hq => by
  rw [aB.aL _ _ (by rintro rfl; exact h5 hL hq), m4 q (CT q hq)]
 refine ⟨by simp [h1], ?_, tL.2 ⟨h3, m1, fun a ha c hc e => CT a ha (e ▸ hc)⟩, fun q hq => ?_, fun _ hq => ?_, fun _ => ?_, fun q hq hne => ?_⟩
 · rw [fM, he, GW]
   refine h2.snoc hbs ?_
   refine aO9.2 ⟨r, rfl, cK.a8 _ _ _ (fun x hx => ?_) m3⟩
   exact aB.aL _ _ (by rintro rfl; exact hbx hx)
 · rcases fS.1 hq with hq | hq
   · exact h4 q hq
   · have h8 : q ∉ bs := fun h => CT q h hq
     have h9 : q ≠ b := by rintro rfl; exact hbx hq
     rw [← h7 q h8 fun _ => h9]
     exact m2 q hq
 · rcases fS.1 hq with hq | hq
   · exact h5 hL hq
   · exact hbx hq
 · rw [aB.aP, hB]
   simp [AV.cells]
 · simp only [fS, not_or] at hq
   rw [aB.aL _ _ (hne hL), m4 q hq.2, h7 q hq.1 hne]
abbrev aDC := zi tI_3 (zi zI_3 (zi aX (zi tI_4 (zi zI_4 (zi cG (zi tI_26 (zi zI_26 (zi pU (zi uO (zi tV (zi xU (zi tI_29 (zi zI_29 (zi iA (zi j9 (zi kA (zi lS (zi tI_31 (zi zI_31 (zi aN (zi bF (zi bE (zi cA (zi tI_82 (zi zI_82 (zi CV (zi BL (zi tI_112 zI_112))))))))))))))))))))))))))))
set_option maxHeartbeats 2000000 in
theorem aS5 (p : List Cl) {cnd : Tm → List Nat → List Nat} (hc : ∀ (ρ : Int → Int) (t : Tm) (l : List Nat), cnd (bV ρ t) l = cnd t l) (hd : ∀ t l, (∀ i ∈ cnd t l, i ∈ l) ∧ (cnd t l).length ≤ l.length) {idx : Bool} (CH : OH p idx cnd) (yT : idx = false)
 (q : List Tm) (most fuel : Int) (st : aB) :
 aD prog 46 [.slice (p.map bZ), .slice (q.map Tm.av), .int .i64 most, .int .i64 fuel, .bool idx] st (aJ9 st ((gI p cnd q most fuel).1.map cZ) (gI p cnd q most fuel).2) := by
 have aA6 := aWC p q most fuel
 have DS := aW5 p hd q most fuel
 refine wF [1000000] 5 func46 ntmps46 rfl rfl ?_
 intro _
 simp -implicitDefEqProofs only [aA, seval]
 refine (aA6 _).to ?_
 simp -implicitDefEqProofs only [aA, seval]
 refine aQ (fun h => ?_) (fun h => ?_)
 · have hS : gI p cnd q most fuel = ([], 9) := by
    unfold gI
    rw [aE (by rw [show iP p q most fuel = false from by unfold iP; simpa only [lX] using h]; simp)]
   rw [hS]
   simp -implicitDefEqProofs only [aA, seval]
   exact ⟨_, rfl, ⟨[], pT, by simp, .inl ⟨rfl, rfl, rfl⟩, fun _ _ => rfl⟩, fun _ => rfl⟩
 have hok : iP p q most fuel = true := by unfold iP; simpa using h
 have hk := hok
 simp only [iP, cM, bJ] at hk
 obtain ⟨kp, kq, k1, k2, k3, k4⟩ := hk
 obtain ⟨p1, p2⟩ := PT kp
 obtain ⟨q1, q2⟩ := HA kq
 have hTT : gI p cnd q most fuel = jC p cnd (bY q []) most.toNat fuel.toNat (nK q) := by
  unfold gI
  rw [aG hok, aNU (fun c h => (p2 c h).1) hc q2]
 rw [hTT] at DS ⊢
 clear hTT aA6 hok h
 obtain ⟨mo, rfl⟩ := tK k1
 obtain ⟨fu, rfl⟩ := tK k3
 rw [kQ, kQ] at DS ⊢
 simp -implicitDefEqProofs only [aA, seval]
 refine (aR5 p q (fu : Int) idx (by omega) st).mono ?_
 rintro _ s1 ⟨S, c, m, rfl, hA⟩
 simp -implicitDefEqProofs only [aA, seval]
 refine (aZD p2 p1 hc hd CH yT q2 q1 (most := mo) (fuel := fu) (by omega) (by omega) hA).mono ?_
 generalize jC p cnd (bY q []) mo fu (nK q) = T at DS ⊢
 rintro _ _ ⟨b, s2, rfl, rfl, hb, hD⟩
 obtain ⟨L, e⟩ := T
 simp only at DS hb ⊢
 have hb' : L.map cZ ≠ [] → st b = none := fun h => (hD b).1 (hb h)
 have hun : prog.underlying 26 = some (.slice 82) := by kernel_rfl
 have sN := sK (w := 1) (b := b) (l := L.map cZ) hun
 rw [aF] at sN
 have hwd : ∀ e ∈ L.map cZ, e.width = 1 := fun e he => by simp only [cV] at he; obtain ⟨t, _, rfl⟩ := he; rfl
 simp -implicitDefEqProofs only [sN, aA, seval]
 refine eM (σ := List AV × List Nat × aB) [1000000] [10, 11, 12, 13, 32, 33] L (fun j x => sL st (L.map cZ) b j x.1 x.2.1 x.2.2) (fun j x => [(34, .int .i64 j)]) (fun j x => x.2.2) (by decide +kernel) ⟨([], [], aY st b (L.map cZ)), sL.start, aO.drop (NR hD) (by simp -implicitDefEqProofs only [aA, ↓aU, seval])⟩ (fun j a x hx hlt bR hdr hinv => ?_) (fun x hge hinv => ?_)
 case refine_2 =>
  simp -implicitDefEqProofs only [hge, m8, aA, seval]
  have aRV : sL st (L.map cZ) b (L.map cZ).length x.1 x.2.1 x.2.2 := by rw [aF]; exact hinv
  exact ⟨_, rfl, aRV.done hb' hwd, fun h => by rw [h]; try rfl⟩
 obtain ⟨os, bs, s⟩ := x
 simp only at hinv
 have hw := bK (n := (j : Int) + 1)
 have hne : L.map cZ ≠ [] := by intro h; have := nX List.length h; simp at this; subst this; simp at hlt
 have xD : (L.map cZ)[j]? = some (.agg [.slice (a.map Tm.av)]) := by rw [oR, hx]; try rfl
 have hc2 := hinv.cell hne
 have aQL : ((L.map cZ).drop j).flatMap AV.cells = [.slice (a.map Tm.av)] ++ ((L.map cZ).drop (j + 1)).flatMap AV.cells := by
  rw [← List.map_drop, hdr, bA, tH, List.map_drop]; try rfl
 rw [aQL, ← nV] at hc2
 have hA2 : (os.flatMap AV.cells).length = j * 1 := by
  rw [hinv.own.aDP (fun q hq => hwd q (lW hq)), d5, aF, lC (by omega)]
 obtain ⟨e1, e2, e3, e4, e5, e6⟩ := OT (B := ((L.map cZ).drop (j + 1)).flatMap AV.cells) hA2
 have hat := zR (P := prog) (b := b) (w := 1) (i := j) pU (len := (L.map cZ).length) (by rw [aF]; omega)
 have htk : List.take 1 (List.drop (j * 1) (os.flatMap AV.cells ++ [.slice (a.map Tm.av)] ++ ((L.map cZ).drop (j + 1)).flatMap AV.cells)) = [.slice (a.map Tm.av)] := by
  rw [nV, List.drop_append, List.drop_of_length_le (by omega), hA2]
  simp
 obtain ⟨hal, hav⟩ := DS.2 a (cU hx)
 rw [oH hne] at sN ⊢
 rw [aF] at hat sN ⊢
 simp -implicitDefEqProofs only [bR, hat, hc2, htk, e5, aA, ↓aU, seval, aDC]
 refine (aDJ a _ (by omega) fun x hx s => aDS x s (Tm.aPG (eW.1 hav x hx))).mono ?_
 rintro r s3 ⟨bx, m1, m2, m3, m4⟩
 have hbx : b ∉ bx := fun h => by have := m2 b h; rw [hc2] at this; cases this
 have f1 := (m4 b hbx).trans hc2
 obtain ⟨hqc, hqs, hqa, hqw, hqj⟩ := cK.aH0 m3
 simp -implicitDefEqProofs only [hat, f1, hqc, hqs, e4, e5, GQ, List.set_cons_zero, aA, seval, aDC]
 exact ⟨(os ++ [.agg [r]], bs ++ bx, s3.aC b (.cells (os.flatMap AV.cells ++ [r] ++ ((L.map cZ).drop (j + 1)).flatMap AV.cells))), hinv.step xD rfl m1 m2 m3 m4, aO.mk (by simp -implicitDefEqProofs only [hw, aA, seval])⟩
theorem aQP (p : List Cl) (q : List Tm) (most fuel : Int) (st : aB) :
 aD prog 36 [.slice (p.map bZ), .slice (q.map Tm.av), .int .i64 most, .int .i64 fuel] st (aJ9 st ((gI p (fun _ l => l) q most fuel).1.map cZ) (gI p (fun _ l => l) q most fuel).2) := by
 refine wF [1000000] 4 func36 ntmps36 rfl rfl ?_
 intro _
 simp -implicitDefEqProofs only [aA, seval]
 refine (aS5 p (cnd := fun _ l => l) (fun _ _ _ => rfl) (fun _ l => ⟨fun _ h => h, cY _⟩) (idx := false) (fun _ => rfl) rfl q most fuel st).mono ?_
 intro r s1 h
 obtain ⟨o, rfl, hM, hN⟩ := h
 obtain ⟨hqc, hqs, hqa, hqw, hqj⟩ := cK.aH0 hM.choose_spec.2.2.1
 simp -implicitDefEqProofs only [hqj, aA, seval]
 exact ⟨_, rfl, hM, hN⟩
theorem YI (p : List Cl) (q : List Tm) (most fuel : Int) (st : aB) :
 aD prog 36 [.slice (p.map bZ), .slice (q.map Tm.av), .int .i64 most, .int .i64 fuel] st (GB st [.slice ((gI p (fun _ l => l) q most fuel).1.map cZ), .int .i64 (gI p (fun _ l => l) q most fuel).2]) :=
 (aQP p q most fuel st).mono fun _ _ ⟨o, h1, h2, _⟩ => by subst h1; exact GB.aT5 h2





end Go.AW
namespace Go.AW
section
variable {h : bH} {st : aB}
end
end Go.AW
namespace Go.AW
open Go.Proofs.Tryz
theorem aPL (l : List Tm) : kV Tm.same l l = true := (MG (fun x _ y => Tm.KZ x y)).2 rfl
abbrev aS2 := zi tI_4 (zi zI_4 (zi cG (zi tI_31 (zi zI_31 (zi aN (zi bF (zi bE (zi cA (zi tI_82 (zi zI_82 (zi CV BL)))))))))))
theorem aL9 (l l' : List Tm) (st : aB) : aD prog 66 [cZ l, cZ l'] st (fun r st' => r = .bool (kV Tm.same l l') ∧ st' = st) := by
 refine wF [1000000] 2 func66 ntmps66 rfl rfl ?_
 intro _
 simp -implicitDefEqProofs only [cZ, aA, seval, aS2]
 refine (RM l l' 99 _ fun x _ y s => P0 x y s).to ?_
 simp -implicitDefEqProofs only [aA, seval]
abbrev IU := zi tI_3 (zi zI_3 (zi aX (zi tI_4 (zi zI_4 (zi cG (zi tI_26 (zi zI_26 (zi pU (zi uO (zi tV (zi xU (zi tI_82 (zi zI_82 (zi CV BL))))))))))))))
theorem MH (L : List (List Tm)) (st : aB) : aD prog 38 [.slice (L.map cZ), .slice (L.map cZ)] st (fun r st' => r = .bool true ∧ st' = st) := by
 refine wF [1000000] 2 func38 ntmps38 rfl rfl ?_
 simp only [eA, AV.fits, eG, aF]
 intro ⟨⟨hl, _⟩, _⟩
 simp -implicitDefEqProofs only [bL, aF, aA, seval, IU]
 refine eM (σ := Unit) [1000000] [0, 1] L (fun _ _ => True) (fun i _ => [(4, .bool false), (5, .int .i64 i)]) (fun _ _ => st) (by decide +kernel) ⟨(), trivial, aO.mk (by simp -implicitDefEqProofs only [aA, ↓aU, seval])⟩ (fun i x _ hx hlt bR hdr _ => ?_) (fun _ hge _ => ?_)
 case refine_2 =>
  simp -implicitDefEqProofs only [hge, aF, aA, seval, IU]
 have hw := bK (n := (i : Int) + 1)
 have hat : dJ prog 26 (.slice (L.map cZ)) (.int .i64 (i : Int)) = some (.pptr (cZ x)) := bM (av := cZ) pU hx rfl
 simp -implicitDefEqProofs only [bR, aF, aA, seval, IU]
 refine wX [(0, 1), (1, 1), (2, 1), (3, 1), (4, 1), (5, 1), (6, 1), (7, 1), (8, 0), (9, 1)] [0, 1, 2, 3, 4, 5, 6, 7, 9] eH mixed rfl fZ ?_
 simp -implicitDefEqProofs only [hat, aA, seval, IU]
 refine (aL9 x x _).to ?_
 rw [aPL]
 simp -implicitDefEqProofs only [hw, aA, seval]
 refine ⟨fZ, ?_⟩
 exact ⟨(), aO.mk (by simp -implicitDefEqProofs only [aA, seval])⟩

def oA (s : ByteArray) (a : Int) (p : UInt8 → Bool) : Bool := decide (0 ≤ a) && (decide (a < (s.size : Int)) && (match (sb s)[a.toNat]? with | some x => p x | none => false))
def wE (s : ByteArray) (a : Int) (c : Nat) : Bool := oA s a fun x => decide (x.toNat = c)
def wZ (s : ByteArray) (a : Int) : Bool := oA s a fun x => decide (48 ≤ x.toNat) && decide (x.toNat ≤ 57)
def vZ (s : ByteArray) (a : Int) : Bool := oA s a letter
theorem u9 {s : ByteArray} {n : Nat} (h : n < s.size) : ∃ x, (sb s)[n]? = some x := ⟨_, fG (by rw [cI]; exact h)⟩
abbrev Y7 := zi tI_3 (zi zI_3 (zi aX (zi tI_4 (zi zI_4 (zi cG (zi tI_5 (zi zI_5 (zi kK (zi tI_9 (zi zI_9 cH))))))))))
theorem aQI (s : ByteArray) (a : Int) (c : Nat) (st : aB) : aD prog 166 [.str s, .int .i64 a, .int .u8 (c : Int)] st (fun r st' => r = .bool (wE s a c) ∧ st' = st) := by
 by_cases h : 0 ≤ a ∧ a < (s.size : Int)
 · obtain ⟨n, rfl⟩ := tK h.1
   obtain ⟨x, hx⟩ := u9 (s := s) (n := n) (by omega)
   have hix := rK (P := prog) (t := 9) cH hx
   have hv : wE s (n : Int) c = decide (x.toNat = c) := by simp only [wE, oA, kQ, hx, gA h.1, gA h.2, eT]
   rw [hv]
   refine wF [1000000] 3 func166 ntmps166 rfl rfl ?_
   intro _
   repeat' (first
    | (simp -implicitDefEqProofs only [*, aA, seval, Y7])
    | (refine cQ (fun h => ?_) (fun h => ?_))
    | (refine aQ (fun h => ?_) (fun h => ?_)))
   all_goals simp_all
   omega
 · by_cases h1 : 0 ≤ a
   · have h2 : ¬ a < (s.size : Int) := fun h2 => h ⟨h1, h2⟩
     have hv : wE s a c = false := by simp only [wE, oA, fH h2, gM, tM]
     rw [hv]
     clear hv h
     refine wF [1000000] 3 func166 ntmps166 rfl rfl ?_
     intro _
     simp -implicitDefEqProofs only [h1, h2, bL, bX, aA, seval, Y7]
   · have hv : wE s a c = false := by simp only [wE, oA, fH h1, gM]
     rw [hv]
     clear hv h
     refine wF [1000000] 3 func166 ntmps166 rfl rfl ?_
     intro _
     simp -implicitDefEqProofs only [h1, bX, aA, seval]
abbrev RR := zi tI_3 (zi zI_3 (zi aX (zi tI_4 (zi zI_4 (zi cG (zi tI_5 (zi zI_5 (zi kK (zi tI_9 (zi zI_9 cH))))))))))
theorem aMU (s : ByteArray) (a : Int) (st : aB) : aD prog 222 [.str s, .int .i64 a] st (fun r st' => r = .bool (wZ s a) ∧ st' = st) := by
 by_cases h : 0 ≤ a ∧ a < (s.size : Int)
 · obtain ⟨n, rfl⟩ := tK h.1
   obtain ⟨x, hx⟩ := u9 (s := s) (n := n) (by omega)
   have hix := rK (P := prog) (t := 9) cH hx
   have hv : wZ s (n : Int) = (decide (48 ≤ x.toNat) && decide (x.toNat ≤ 57)) := by simp only [wZ, oA, kQ, hx, gA h.1, gA h.2, eT]
   rw [hv]
   refine wF [1000000] 2 func222 ntmps222 rfl rfl ?_
   intro _
   repeat' (first
    | (simp -implicitDefEqProofs only [*, aA, seval, RR])
    | (refine cQ (fun h => ?_) (fun h => ?_))
    | (refine aQ (fun h => ?_) (fun h => ?_)))
   all_goals clear hix hv hx
   all_goals (congr 1; rw [vJ]; simp only [cM, bJ, dG, oS, jM, false_iff, not_and] at *; omega)
 · by_cases h1 : 0 ≤ a
   · have h2 : ¬ a < (s.size : Int) := fun h2 => h ⟨h1, h2⟩
     have hv : wZ s a = false := by simp only [wZ, oA, fH h2, gM, tM]
     rw [hv]
     clear hv h
     refine wF [1000000] 2 func222 ntmps222 rfl rfl ?_
     intro _
     simp -implicitDefEqProofs only [h1, h2, bL, bX, aA, seval, RR]
   · have hv : wZ s a = false := by simp only [wZ, oA, fH h1, gM]
     rw [hv]
     clear hv h
     refine wF [1000000] 2 func222 ntmps222 rfl rfl ?_
     intro _
     simp -implicitDefEqProofs only [h1, bX, aA, seval]
abbrev YQ := zi tI_3 (zi zI_3 (zi aX (zi tI_4 (zi zI_4 (zi cG (zi tI_5 (zi zI_5 (zi kK (zi tI_9 (zi zI_9 cH))))))))))
theorem aY5 (s : ByteArray) (a : Int) (st : aB) : aD prog 238 [.str s, .int .i64 a] st (fun r st' => r = .bool (vZ s a) ∧ st' = st) := by
 by_cases h : 0 ≤ a ∧ a < (s.size : Int)
 · obtain ⟨n, rfl⟩ := tK h.1
   obtain ⟨x, hx⟩ := u9 (s := s) (n := n) (by omega)
   have hix := rK (P := prog) (t := 9) cH hx
   have hv : vZ s (n : Int) = (decide (97 ≤ x.toNat) && decide (x.toNat ≤ 122)) := by simp only [vZ, oA, letter, kQ, hx, gA h.1, gA h.2, eT]
   rw [hv]
   refine wF [1000000] 2 func238 ntmps238 rfl rfl ?_
   intro _
   repeat' (first
    | (simp -implicitDefEqProofs only [*, aA, seval, YQ])
    | (refine cQ (fun h => ?_) (fun h => ?_))
    | (refine aQ (fun h => ?_) (fun h => ?_)))
   all_goals clear hix hv hx
   all_goals (congr 1; rw [vJ]; simp only [cM, bJ, dG, oS, jM, false_iff, not_and] at *; omega)
 · by_cases h1 : 0 ≤ a
   · have h2 : ¬ a < (s.size : Int) := fun h2 => h ⟨h1, h2⟩
     have hv : vZ s a = false := by simp only [vZ, oA, fH h2, gM, tM]
     rw [hv]
     clear hv h
     refine wF [1000000] 2 func238 ntmps238 rfl rfl ?_
     intro _
     simp -implicitDefEqProofs only [h1, h2, bL, bX, aA, seval, YQ]
   · have hv : vZ s a = false := by simp only [vZ, oA, fH h1, gM]
     rw [hv]
     clear hv h
     refine wF [1000000] 2 func238 ntmps238 rfl rfl ?_
     intro _
     simp -implicitDefEqProofs only [h1, bX, aA, seval]
end Go.AW
namespace Go.AW
abbrev ba (l : List UInt8) : ByteArray := ⟨⟨l⟩⟩
def dN (x : UInt8) : Bool := decide (48 ≤ x.toNat) && decide (x.toNat ≤ 57)
def rU (x : UInt8) : Bool := decide (65 ≤ x.toNat) && decide (x.toNat ≤ 90)
def cO (l : List UInt8) (n c : Nat) : Bool := match l[n]? with | some x => decide (x.toNat = c) | none => false
def fO (l : List UInt8) (n : Nat) (p : UInt8 → Bool) : Bool := match l[n]? with | some x => p x | none => false
def m7 (l : List UInt8) : Nat := l.foldl (fun n x => n * 10 + (x.toNat - 48)) 0
def g8 (l : List UInt8) : Nat × Bool := if l.length = 0 ∨ (cO l 0 48 = true ∧ 1 < l.length) then (0, false) else (m7 l, true)
def tC (l : List UInt8) (a : Nat) : Option (Int × Nat) :=
 let f := if cO l a 45 then a + 1 else a
 let t := ((l.drop f).takeWhile dN).take 4
 if (g8 t).2 = false ∨ (a < f ∧ (g8 t).1 = 0) ∨ 999 < (g8 t).1 then none else some (if a < f then -((g8 t).1 : Int) else ((g8 t).1 : Int), f + t.length)
def jW (l : List UInt8) (b g : ByteArray) : ByteArray := if l.take g.size = sb g ∧ b.size < g.size then g else b
def nL (l : List UInt8) (a : Nat) : Option (ByteArray × Nat) :=
 let t := (l.drop a).takeWhile letter
 if 6 < t.length then none else if 0 < t.length then some (ba t, a + t.length)
 else let b := iV.foldl (jW (l.drop a)) ⟨#[]⟩
  if b.size = 0 then none else some (b, a + b.size)
theorem aAK {l : List UInt8} {i : Nat} {x : UInt8} (h : l[i]? = some x) : m7 (l.take (i + 1)) = m7 (l.take i) * 10 + (x.toNat - 48) := by
 simp [m7, fM, h, List.foldl_append]
theorem aCK : ∀ (l : List UInt8) (n : Nat), (∀ x ∈ l, dN x = true) → l.foldl (fun n x => n * 10 + (x.toNat - 48)) n + 1 ≤ (n + 1) * 10 ^ l.length
 | [], n, _ => by simp
 | x :: l, n, h => by
  have hx := h x (by simp)
  simp only [dN, cM, bJ] at hx
  have := aCK l (n * 10 + (x.toNat - 48)) (fun y hy => h y (by simp [hy]))
  simp only [zX, aS, Nat.pow_succ]
  refine nB this ?_
  rw [Nat.mul_comm (10 ^ l.length) 10, ← Nat.mul_assoc]
  exact sF _ (by omega)
theorem LB {l : List UInt8} (h : ∀ x ∈ l, dN x = true) : m7 l < 10 ^ l.length := Nat.lt_of_succ_le (by have := aCK l 0 h; simpa [m7] using this)
theorem aUO (s : ByteArray) (a b : Nat) : sb (s.extract a b) = ((sb s).drop a).take (b - a) := by
 simp only [sb, ByteArray.data_extract, Array.toList_extract, List.extract_eq_take_drop]
theorem aUF {g : ByteArray} (h : g.size = 0) : g = ⟨#[]⟩ := by
 obtain ⟨⟨l⟩⟩ := g
 have : l.length = 0 := h
 rw [List.length_eq_zero_iff.1 this]
theorem aK1 (s : ByteArray) : ba (sb s) = s := rfl
theorem DD (s : ByteArray) (a b : Nat) : s.extract a b = ba (((sb s).drop a).take (b - a)) := by rw [← aUO]
theorem nT {l : List UInt8} {n c : Nat} (h : cO l n c = true) : n < l.length := by
 unfold cO at h
 rcases kP n l.length with h1 | h1
 · exact h1
 · rw [xM h1] at h; cases h
theorem aT2 {l : List UInt8} {n : Nat} {p : UInt8 → Bool} (h : fO l n p = true) : n < l.length := by
 unfold fO at h
 rcases kP n l.length with h1 | h1
 · exact h1
 · rw [xM h1] at h; cases h
theorem rW {l : List UInt8} {n c : Nat} {x : UInt8} (h : l[n]? = some x) : cO l n c = decide (x.toNat = c) := by simp only [cO, h]
theorem tU {l : List UInt8} {n : Nat} {p : UInt8 → Bool} {x : UInt8} (h : l[n]? = some x) : fO l n p = p x := by simp only [fO, h]
theorem U3 {l : List UInt8} (h : ∀ x ∈ l, dN x = true) (hl : l.length ≤ 4) : (g8 l).1 < 10000 := by
 unfold g8
 split
 · simp
 · exact vH (LB h) (nB (RD (by omega) hl) (by decide))
theorem PQ {p : UInt8 → Bool} {l : List UInt8} {i : Nat} (hi : i ≤ (l.takeWhile p).length) (h : fO l i p = true) : i < (l.takeWhile p).length := by
 induction l generalizing i with
 | nil => simp [fO] at h
 | cons x l ih =>
  cases i with
  | zero => simp [fO] at h; simp [GX, h]
  | succ i =>
   rw [GX] at hi ⊢
   split at hi
   · rename_i hx
     rw [aG hx]
     simp only [aS] at hi ⊢
     have := ih (i := i) (by omega) (by simpa [fO] using h)
     omega
   · simp at hi
theorem OS {p : UInt8 → Bool} {l : List UInt8} {i : Nat} (hi : i ≤ (l.takeWhile p).length) (h : fO l i p = false) : i = (l.takeWhile p).length := by
 induction l generalizing i with
 | nil => simp at hi; simp [hi]
 | cons x l ih =>
  cases i with
  | zero => simp [fO] at h; simp [GX, h]
  | succ i =>
   rw [GX] at hi ⊢
   split at hi
   · rename_i hx
     rw [aG hx]
     simp only [aS] at hi ⊢
     have := ih (i := i) (by omega) (by simpa [fO] using h)
     omega
   · simp at hi
theorem SV (p : UInt8 → Bool) (l : List UInt8) : l.take (l.takeWhile p).length = l.takeWhile p := by
 induction l with
 | nil => rfl
 | cons x l ih =>
  rw [GX]
  split
  · simp [ih]
  · rfl
theorem BW (l : List UInt8) (a i : Nat) (p : UInt8 → Bool) : fO (l.drop a) i p = fO l (a + i) p := by simp only [fO, Q7]
theorem aIQ {p : UInt8 → Bool} {l : List UInt8} : ∀ x ∈ l.takeWhile p, p x = true := by
 induction l with
 | nil => simp
 | cons y l ih =>
  rw [GX]
  split
  · rename_i h; intro x hx; simp only [c7] at hx; rcases hx with rfl | hx; exact h; exact ih x hx
  · simp
theorem S6 {p : UInt8 → Bool} {l : List UInt8} {k : Nat} (hk : k ≤ (l.takeWhile p).length) : l.take k = (l.takeWhile p).take k := by
 rw [← SV p l, xI, lC hk]
theorem GG (p : UInt8 → Bool) (l : List UInt8) : (l.takeWhile p).length ≤ l.length := (List.takeWhile_sublist p).length_le
theorem XC (L : List UInt8) : ∀ (gs : List ByteArray) (b : ByteArray), b.size ≤ 3 → (∀ g ∈ gs, g.size ≤ 3) → (gs.foldl (jW L) b).size ≤ 3
 | [], b, h, _ => h
 | g :: gs, b, h, hg => by
  rw [zX]
  refine XC L gs _ ?_ fun x hx => hg x (by simp [hx])
  unfold jW
  split
  · exact hg g (by simp)
  · exact h
theorem aKK : ∀ g ∈ iV, g.size ≤ 3 := by decide
theorem aSL (L : List UInt8) (i : Nat) : ((iV.take i).foldl (jW L) ⟨#[]⟩).size ≤ 3 := XC L _ _ (by decide) fun g hg => aKK g (lW hg)
end Go.AW
namespace Go.AW
open Go.Proofs.Tryz
theorem FH {φ : AF} {y z : Operand} {s : ByteArray} {k m : Nat} (h : φ.eval y = .int .i64 (k : Int)) (h' : φ.eval z = .int .i64 (m : Int)) (hk : k ≤ m) (hm : m ≤ s.size) : gW prog φ 9 (.str s) (some y) (some z) none = some (.str (s.extract k m)) := by
 unfold gW oG
 rw [aE (by simp [qJ])]
 simp only [show prog.underlying 9 = some .string from cH, dQ, h, h']
 rw [aG (by omega)]
 simp only [kQ]
 rw [aG (by omega)]
 try simp
theorem QY (s : ByteArray) (n : Nat) (p : UInt8 → Bool) : oA s (n : Int) p = fO (sb s) n p := by
 unfold oA fO
 rw [kQ]
 by_cases h : n < s.size
 · rw [gA (by omega : (0 : Int) ≤ (n : Int)), gA (by omega : (n : Int) < (s.size : Int))]; try rfl
 · rw [fH (by omega : ¬ (n : Int) < (s.size : Int)), xM (by rw [cI]; omega)]; simp
theorem kC (s : ByteArray) (n c : Nat) (st : aB) : aD prog 166 [.str s, .int .i64 (n : Int), .int .u8 (c : Int)] st (fun r st' => r = .bool (cO (sb s) n c) ∧ st' = st) := by
 have h := aQI s n c st
 rwa [show wE s n c = cO (sb s) n c from QY s n _] at h
theorem xQ (s : ByteArray) (n : Nat) (st : aB) : aD prog 222 [.str s, .int .i64 (n : Int)] st (fun r st' => r = .bool (fO (sb s) n dN) ∧ st' = st) := by
 have h := aMU s n st
 rwa [show wZ s n = fO (sb s) n dN from QY s n _] at h
theorem UP (s : ByteArray) (n : Nat) (st : aB) : aD prog 238 [.str s, .int .i64 (n : Int)] st (fun r st' => r = .bool (fO (sb s) n letter) ∧ st' = st) := by
 have h := aY5 s n st
 rwa [show vZ s n = fO (sb s) n letter from QY s n _] at h
theorem XA {n k : Nat} (h : n ≤ 1048576) (hk : k ≤ 1048576) : IntKind.wrap .i64 ((n : Int) + (k : Int)) = ((n + k : Nat) : Int) := by
 rw [wrap64 (by omega) (by omega)]; try rfl
abbrev A4 := zi tI_3 (zi zI_3 (zi aX (zi tI_4 (zi zI_4 (zi cG (zi tI_5 (zi zI_5 (zi kK (zi tI_9 (zi zI_9 cH))))))))))
theorem aBZ (s : ByteArray) (hd : ∀ x ∈ sb s, dN x = true) (hl : s.size ≤ 4) (st : aB) : aD prog 237 [.str s] st (fun r st' => r = .tup [.int .i64 ((g8 (sb s)).1 : Int), .bool (g8 (sb s)).2] ∧ st' = st) := by
 refine wF [1000000] 1 func237 ntmps237 rfl rfl ?_
 intro _
 by_cases hs : s.size = 0
 · have e : g8 (sb s) = (0, false) := by unfold g8; rw [aG (Or.inl (by rw [cI]; exact hs))]
   rw [e]
   simp -implicitDefEqProofs only [hs, aA, ↓aU, seval, A4]
 have B4 : (0 : Int) < (s.size : Int) := by omega
 obtain ⟨x0, hx0⟩ := u9 (s := s) (n := 0) (by omega)
 have hix := rK (P := prog) (t := 9) cH hx0
 rw [show ((0 : Nat) : Int) = 0 from rfl] at hix
 have hdx := hd x0 (cU hx0)
 simp only [dN, cM, bJ] at hdx
 have h45 : ((x0.toNat : Int) = 45) = False := cF (by omega)
 have h0 : ((s.size : Int) = 0) = False := cF (by omega)
 have h17 : ((17 : Int) < (s.size : Int)) = False := cF (by omega)
 simp -implicitDefEqProofs only [B4, hix, h45, h0, h17, bL, bX, aA, seval, A4]
 by_cases h48 : x0.toNat = 48
 case pos =>
  have BP : ((x0.toNat : Int) = 48) = True := cW (by omega)
  by_cases h1 : 1 < s.size
  case pos =>
   have h1' : ((1 : Int) < (s.size : Int)) = True := cW (by omega)
   have e : g8 (sb s) = (0, false) := by unfold g8; rw [aG (Or.inr ⟨by rw [rW hx0, h48]; try rfl, by rw [cI]; exact h1⟩)]
   rw [e]
   simp -implicitDefEqProofs only [BP, h1', bL, aA, ↓aU, seval, A4]
  have h1' : ((1 : Int) < (s.size : Int)) = False := cF (by omega)
  have hnd : g8 (sb s) = (m7 (sb s), true) := by unfold g8; rw [aE (by rw [cI]; rintro (h | ⟨_, h⟩) <;> omega)]
  simp -implicitDefEqProofs only [BP, h1', bL, bX, aA, seval, A4]
  rw [hnd]
  refine gY (σ := Nat) [1000000] [0, 4] (fun i => i ≤ s.size) (fun i => [(5, .int .i64 (m7 ((sb s).take i) : Int)), (6, .int .i64 (i : Int))]) (fun _ => st) (fun i => s.size - i) (by decide +kernel) ⟨0, by omega, aO.mk (by simp -implicitDefEqProofs only [kR, aA, ↓aU, seval]; rfl)⟩ ?_
  intro i hi
  have hb : m7 ((sb s).take i) < 10000 := vH (LB fun x hx => hd x (lW hx)) (nB (RD (by omega) (by rw [d5]; omega : ((sb s).take i).length ≤ 4)) (by decide))
  simp -implicitDefEqProofs only [aA, seval, A4]
  refine aQ (fun h5 => ?_) (fun h5 => ?_)
  case refine_2 =>
   simp only [dG] at h5
   obtain rfl : i = s.size := by omega
   rw [mO (by rw [cI]; omega)]
   simp -implicitDefEqProofs only [aA, seval]
  simp only [bJ] at h5
  obtain ⟨c, hc⟩ := u9 (s := s) (n := i) (by omega)
  have hic := rK (P := prog) (t := 9) cH hc
  have hdc := hd c (cU hc)
  simp only [dN, cM, bJ] at hdc
  have c48 : ((c.toNat : Int) < 48) = False := cF (by omega)
  have c57 : ((57 : Int) < (c.toNat : Int)) = False := cF (by omega)
  have hw0 := XA (n := i) (k := 1) (by omega) (by omega)
  rw [show ((1 : Nat) : Int) = 1 from rfl] at hw0
  have hw1 := bK (n := (m7 ((sb s).take i) : Int) * 10)
  have hw2 : IntKind.wrap .u8 ((c.toNat : Int) - 48) = ((c.toNat - 48 : Nat) : Int) := by rw [IntKind.wrap_u8]; omega
  have hw3 := bK (n := ((c.toNat - 48 : Nat) : Int))
  have hw4 := bK (n := (m7 ((sb s).take i) : Int) * 10 + ((c.toNat - 48 : Nat) : Int))
  have iI := aAK hc
  simp -implicitDefEqProofs only [hic, c48, c57, hw1, hw2, bX, aA, seval]
  refine ⟨i + 1, by omega, by omega, aO.mk ?_⟩
  rw [iI]
  simp -implicitDefEqProofs only [hw0, hw3, hw4, aA, seval]
  rfl
 have BP : ((x0.toNat : Int) = 48) = False := cF (by omega)
 have hnd : g8 (sb s) = (m7 (sb s), true) := by unfold g8; rw [aE (by rw [cI, rW hx0]; rintro (h | ⟨h, _⟩); omega; exact h48 (of_decide_eq_true h))]
 simp -implicitDefEqProofs only [BP, bX, aA, seval]
 rw [hnd]
 refine gY (σ := Nat) [1000000] [0, 4] (fun i => i ≤ s.size) (fun i => [(5, .int .i64 (m7 ((sb s).take i) : Int)), (6, .int .i64 (i : Int))]) (fun _ => st) (fun i => s.size - i) (by decide +kernel) ⟨0, by omega, aO.mk (by simp -implicitDefEqProofs only [kR, aA, ↓aU, seval]; rfl)⟩ ?_
 intro i hi
 have hb : m7 ((sb s).take i) < 10000 := vH (LB fun x hx => hd x (lW hx)) (nB (RD (by omega) (by rw [d5]; omega : ((sb s).take i).length ≤ 4)) (by decide))
 simp -implicitDefEqProofs only [aA, seval, A4]
 refine aQ (fun h5 => ?_) (fun h5 => ?_)
 case refine_2 =>
  simp only [dG] at h5
  obtain rfl : i = s.size := by omega
  rw [mO (by rw [cI]; omega)]
  simp -implicitDefEqProofs only [aA, seval]
 simp only [bJ] at h5
 obtain ⟨c, hc⟩ := u9 (s := s) (n := i) (by omega)
 have hic := rK (P := prog) (t := 9) cH hc
 have hdc := hd c (cU hc)
 simp only [dN, cM, bJ] at hdc
 have c48 : ((c.toNat : Int) < 48) = False := cF (by omega)
 have c57 : ((57 : Int) < (c.toNat : Int)) = False := cF (by omega)
 have hw0 := XA (n := i) (k := 1) (by omega) (by omega)
 rw [show ((1 : Nat) : Int) = 1 from rfl] at hw0
 have hw1 := bK (n := (m7 ((sb s).take i) : Int) * 10)
 have hw2 : IntKind.wrap .u8 ((c.toNat : Int) - 48) = ((c.toNat - 48 : Nat) : Int) := by rw [IntKind.wrap_u8]; omega
 have hw3 := bK (n := ((c.toNat - 48 : Nat) : Int))
 have hw4 := bK (n := (m7 ((sb s).take i) : Int) * 10 + ((c.toNat - 48 : Nat) : Int))
 have iI := aAK hc
 simp -implicitDefEqProofs only [hic, c48, c57, hw1, hw2, bX, aA, seval]
 refine ⟨i + 1, by omega, by omega, aO.mk ?_⟩
 rw [iI]
 simp -implicitDefEqProofs only [hw0, hw3, hw4, aA, seval]
 rfl
theorem mY {x : Int} {m : Nat} (h : x = (m : Int)) (hm : m ≤ 1099511627776) : IntKind.wrap .i64 x = (m : Int) := by rw [wrap64 (by omega) (by omega)]; exact h
abbrev F8 : Tm := .mk 0 0 ⟨#[]⟩ []
def zB (o : Option (Int × Nat)) : AV := match o with | some (n, e) => .tup [(Tm.mk 2 n ⟨#[]⟩ []).av, .int .i64 (e : Int)] | none => .tup [F8.av, .int .i64 (-1)]
abbrev yH := zi tI_3 (zi zI_3 (zi aX (zi tI_4 (zi zI_4 (zi cG (zi tI_5 (zi zI_5 (zi kK (zi tI_8 (zi zI_8 (zi wV (zi wQ (zi v6 (zi wD (zi wR (zi tI_9 (zi zI_9 (zi cH (zi tI_63 (zi zI_63 (zi bT (zi bP (zi bS (zi bQ bU))))))))))))))))))))))))
set_option maxHeartbeats 1000000 in
theorem aXU (s : ByteArray) (hs : s.size ≤ 1000) (a : Nat) (ha : a ≤ s.size) (st : aB) : aD prog 223 [.str s, .int .i64 (a : Int)] st (fun r st' => r = zB (tC (sb s) a) ∧ st' = st) := by
 refine aD.done ?_
 refine wF [1000000] 2 func223 ntmps223 rfl rfl ?_
 intro _
 simp -implicitDefEqProofs only [aA, seval, yH]
 intro b hb
 refine (kC s a 45 _).to ?_
 obtain ⟨f1, hf1⟩ : ∃ f, f = a + 1 := ⟨_, rfl⟩
 have hw1 := mY (x := (a : Int) + 1) (m := f1) (by omega) (by omega)
 simp -implicitDefEqProofs only [aA, seval]
 refine aQ (fun h1 => ?_) (fun h1 => ?_)
 · have hf := nT h1
   rw [cI] at hf
   simp -implicitDefEqProofs only [hw1, aA, seval]
   obtain ⟨f, rfl⟩ : ∃ f, f = f1 := ⟨_, rfl⟩
   replace hf : f ≤ s.size := by omega
   refine gY (σ := Nat) [1000000] [0, 1, 4, 5, 7] (fun j => f ≤ j ∧ j ≤ f + 4 ∧ j - f ≤ (((sb s).drop f).takeWhile dN).length) (fun j => [(6, .int .i64 (j : Int))]) (fun _ => st.aC b (.cells [.int .i64 0, .int .i64 0, .str ⟨#[]⟩, .fslice []])) (fun j => f + 4 - j) (by decide +kernel) ⟨f, ⟨by omega, by omega, by omega⟩, aO.mk (by simp -implicitDefEqProofs only [aA, seval])⟩ ?_
   rintro j ⟨hj1, hj4, hj⟩
   have hfi : j ≤ s.size := by have := GG dN ((sb s).drop f); rw [nD, cI] at this; omega
   simp -implicitDefEqProofs only [aA, seval]
   refine (xQ s j _).to ?_
   have hw4 := bK (n := (f : Int) + 4)
   have FN := bK (n := (j : Int) + 1)
   simp -implicitDefEqProofs only [aA, seval]
   refine cQ (fun h5 => ?_) (fun h5 => ?_)
   simp -implicitDefEqProofs only [h5, hw4, aA, seval]
   refine aQ (fun h6 => ?_) (fun h6 => ?_)
   case' refine_1.refine_1 =>
    rw [show j = f + (j - f) by omega, ← BW] at h5
    simp only [bJ] at h6
    simp -implicitDefEqProofs only [FN, aA, seval]
    exact ⟨j + 1, by omega, ⟨by omega, by omega, by have := PQ hj h5; omega⟩, aO.mk (by simp -implicitDefEqProofs only [aA, seval] <;> rfl)⟩
   all_goals
    have ht : (((sb s).drop f).takeWhile dN).take 4 = ((sb s).drop f).take (j - f) := by
     rw [S6 hj]
     rcases kP (j - f) 4 with h7 | h7
     · have h8 : j - f = (((sb s).drop f).takeWhile dN).length := by
        refine OS hj ?_
        rw [BW, show f + (j - f) = j by omega]
        first | exact h5 | (simp only [dG] at h6; omega)
       rw [h8, eS, mO (by omega)]
     · rw [show j - f = 4 by omega]
    have hex : s.extract f j = ba ((((sb s).drop f).takeWhile dN).take 4) := by rw [DD, ht]
    have hln : ((((sb s).drop f).takeWhile dN).take 4).length = j - f := by rw [ht, d5, nD, cI]; omega
    have hdg : ∀ x ∈ (((sb s).drop f).takeWhile dN).take 4, dN x = true := fun x hx => aIQ x (lW hx)
    have hsl := fun (φ : AF) (y z : Operand) (h : φ.eval y = .int .i64 (f : Int)) (h' : φ.eval z = .int .i64 (j : Int)) => FH (s := s) h h' hj1 hfi
    rw [hex] at hsl
    have hrd : tC (sb s) a = if (g8 ((((sb s).drop f).takeWhile dN).take 4)).2 = false ∨ (a < f ∧ (g8 ((((sb s).drop f).takeWhile dN).take 4)).1 = 0) ∨ 999 < (g8 ((((sb s).drop f).takeWhile dN).take 4)).1 then none else some (if a < f then -((g8 ((((sb s).drop f).takeWhile dN).take 4)).1 : Int) else ((g8 ((((sb s).drop f).takeWhile dN).take 4)).1 : Int), f + ((((sb s).drop f).takeWhile dN).take 4).length) := by
     unfold tC
     simp only [h1, ↓reduceIte, ← hf1]
    rw [hrd]
    clear hrd
    generalize (((sb s).drop f).takeWhile dN).take 4 = t at *
    simp -implicitDefEqProofs only [hsl, h5, aA, seval]
    refine (aBZ (ba t) hdg (by show t.length ≤ 4; omega) _).to ?_
    have hn := U3 hdg (by omega)
    rw [show sb (ba t) = t from rfl]
    generalize g8 t = nd at *
    obtain ⟨n, ok⟩ := nd
    simp only at hn ⊢
    have hw5 := bK (n := 0 - (n : Int))
    have hw6 := bK (n := -(n : Int))
    have hfa : ((a : Int) < (f : Int)) = True := cW (by omega)
    have hfn : (a < f) = True := cW (by omega)
    cases ok
    case false =>
     simp -implicitDefEqProofs only [aK, aA, seval, yH]
     refine ⟨?_, (aM.refl _).aC hb⟩
     rw [aG (Or.inl trivial)]
     simp only [zB, aV, j7, kB, jR, k0, mM, bA, aW, aW]
    by_cases hz : (n : Int) = 0
    case' pos => have hz' : n = 0 := by omega
    case' neg => have hz' : n ≠ 0 := by omega
    all_goals
     by_cases h9 : (999 : Int) < (n : Int)
     case' pos => have h9' : 999 < n := by omega
     case' neg => have h9' : ¬ 999 < n := by omega
     all_goals try (exfalso; omega)
     all_goals
      simp -implicitDefEqProofs only [aK, hw5, hz, h9, hfa, aA, seval, yH]
      try
       refine (CG _ _).to ?_
       simp -implicitDefEqProofs only [aK, aA, seval, yH]
      refine ⟨?_, (aM.refl _).aC hb⟩
      first
       | rw [aG (by omega)]
       | rw [aE (by omega), aG (by omega), show f + t.length = j by omega]
       | rw [aE (by omega), aE (by omega), show f + t.length = j by omega]
      simp only [zB, aV, j7, kB, jR, k0, qL, mM, bA, aW, aW, Int.zero_sub]
 · skip
   simp -implicitDefEqProofs only [aA, seval]
   obtain ⟨f, rfl⟩ : ∃ f, f = a := ⟨_, rfl⟩
   have hf := ha
   refine gY (σ := Nat) [1000000] [0, 1, 4, 5, 7] (fun j => f ≤ j ∧ j ≤ f + 4 ∧ j - f ≤ (((sb s).drop f).takeWhile dN).length) (fun j => [(6, .int .i64 (j : Int))]) (fun _ => st.aC b (.cells [.int .i64 0, .int .i64 0, .str ⟨#[]⟩, .fslice []])) (fun j => f + 4 - j) (by decide +kernel) ⟨f, ⟨by omega, by omega, by omega⟩, aO.mk (by simp -implicitDefEqProofs only [aA, seval])⟩ ?_
   rintro j ⟨hj1, hj4, hj⟩
   have hfi : j ≤ s.size := by have := GG dN ((sb s).drop f); rw [nD, cI] at this; omega
   simp -implicitDefEqProofs only [aA, seval]
   refine (xQ s j _).to ?_
   have hw4 := bK (n := (f : Int) + 4)
   have FN := bK (n := (j : Int) + 1)
   simp -implicitDefEqProofs only [aA, seval]
   refine cQ (fun h5 => ?_) (fun h5 => ?_)
   simp -implicitDefEqProofs only [h5, hw4, aA, seval]
   refine aQ (fun h6 => ?_) (fun h6 => ?_)
   case' refine_1.refine_1 =>
    rw [show j = f + (j - f) by omega, ← BW] at h5
    simp only [bJ] at h6
    simp -implicitDefEqProofs only [FN, aA, seval]
    exact ⟨j + 1, by omega, ⟨by omega, by omega, by have := PQ hj h5; omega⟩, aO.mk (by simp -implicitDefEqProofs only [aA, seval] <;> rfl)⟩
   all_goals
    have ht : (((sb s).drop f).takeWhile dN).take 4 = ((sb s).drop f).take (j - f) := by
     rw [S6 hj]
     rcases kP (j - f) 4 with h7 | h7
     · have h8 : j - f = (((sb s).drop f).takeWhile dN).length := by
        refine OS hj ?_
        rw [BW, show f + (j - f) = j by omega]
        first | exact h5 | (simp only [dG] at h6; omega)
       rw [h8, eS, mO (by omega)]
     · rw [show j - f = 4 by omega]
    have hex : s.extract f j = ba ((((sb s).drop f).takeWhile dN).take 4) := by rw [DD, ht]
    have hln : ((((sb s).drop f).takeWhile dN).take 4).length = j - f := by rw [ht, d5, nD, cI]; omega
    have hdg : ∀ x ∈ (((sb s).drop f).takeWhile dN).take 4, dN x = true := fun x hx => aIQ x (lW hx)
    have hsl := fun (φ : AF) (y z : Operand) (h : φ.eval y = .int .i64 (f : Int)) (h' : φ.eval z = .int .i64 (j : Int)) => FH (s := s) h h' hj1 hfi
    rw [hex] at hsl
    have hrd : tC (sb s) f = if (g8 ((((sb s).drop f).takeWhile dN).take 4)).2 = false ∨ (f < f ∧ (g8 ((((sb s).drop f).takeWhile dN).take 4)).1 = 0) ∨ 999 < (g8 ((((sb s).drop f).takeWhile dN).take 4)).1 then none else some (if f < f then -((g8 ((((sb s).drop f).takeWhile dN).take 4)).1 : Int) else ((g8 ((((sb s).drop f).takeWhile dN).take 4)).1 : Int), f + ((((sb s).drop f).takeWhile dN).take 4).length) := by
     unfold tC
     simp only [h1, ↓reduceIte, jM]
    rw [hrd]
    clear hrd
    generalize (((sb s).drop f).takeWhile dN).take 4 = t at *
    simp -implicitDefEqProofs only [hsl, h5, aA, seval]
    refine (aBZ (ba t) hdg (by show t.length ≤ 4; omega) _).to ?_
    have hn := U3 hdg (by omega)
    rw [show sb (ba t) = t from rfl]
    generalize g8 t = nd at *
    obtain ⟨n, ok⟩ := nd
    simp only at hn ⊢
    have hw5 := bK (n := 0 - (n : Int))
    have hw6 := bK (n := -(n : Int))
    have hfa : ((f : Int) < (f : Int)) = False := cF (by omega)
    have hfn : (f < f) = False := cF (by omega)
    cases ok
    case false =>
     simp -implicitDefEqProofs only [aK, aA, seval, yH]
     refine ⟨?_, (aM.refl _).aC hb⟩
     rw [aG (Or.inl trivial)]
     simp only [zB, aV, j7, kB, jR, k0, mM, bA, aW, aW]
    by_cases hz : (n : Int) = 0
    case' pos => have hz' : n = 0 := by omega
    case' neg => have hz' : n ≠ 0 := by omega
    all_goals
     by_cases h9 : (999 : Int) < (n : Int)
     case' pos => have h9' : 999 < n := by omega
     case' neg => have h9' : ¬ 999 < n := by omega
     all_goals try (exfalso; omega)
     all_goals
      simp -implicitDefEqProofs only [aK, hz, h9, hfa, aA, seval, yH]
      try
       refine (CG _ _).to ?_
       simp -implicitDefEqProofs only [aK, aA, seval, yH]
      refine ⟨?_, (aM.refl _).aC hb⟩
      first
       | rw [aG (by omega)]
       | rw [aE (by omega), aG (by omega), show f + t.length = j by omega]
       | rw [aE (by omega), aE (by omega), show f + t.length = j by omega]
      simp only [zB, aV, j7, kB, jR, k0, qL, mM, bA, aW, aW]
def yA (o : Option (ByteArray × Nat)) : AV := match o with | some (b, e) => .tup [.str b, .int .i64 (e : Int)] | none => .tup [.str ⟨#[]⟩, .int .i64 (-1)]
theorem aX0 (st : aB) : aD prog 231 [] st (fun r st' => r = .slice (iV.map .str) ∧ st' = st) := aD.done ((aF7 st).mono (by rintro _ _ ⟨rfl, rfl⟩; exact ⟨rfl, aM.refl _⟩))
abbrev yO := zi tI_3 (zi zI_3 (zi aX (zi tI_9 (zi zI_9 (zi cH (zi tI_125 (zi zI_125 (zi iU (zi lL (zi lJ mH))))))))))
set_option maxHeartbeats 1000000 in
theorem P9 (s : ByteArray) (hs : s.size ≤ 1000) (a : Nat) (ha : a ≤ s.size) (st : aB) : aD prog 224 [.str s, .int .i64 (a : Int)] st (fun r st' => r = yA (nL (sb s) a) ∧ st' = st) := by
 refine wF [1000000] 2 func224 ntmps224 rfl rfl ?_
 intro _
 simp -implicitDefEqProofs only [aA, seval]
 refine gY (σ := Nat) [1000000] [0, 1, 4, 5] (fun j => a ≤ j ∧ j - a ≤ (((sb s).drop a).takeWhile letter).length) (fun j => [(6, .int .i64 (j : Int))]) (fun _ => st) (fun j => s.size - j) (by decide +kernel) ⟨a, ⟨by omega, by omega⟩, aO.mk (by simp -implicitDefEqProofs only [aA, seval])⟩ ?_
 rintro j ⟨hj1, hj⟩
 have hfi : j ≤ s.size := by have := GG letter ((sb s).drop a); rw [nD, cI] at this; omega
 simp -implicitDefEqProofs only [aA, seval]
 refine (UP s j _).to ?_
 have hw6 := bK (n := (a : Int) + 6)
 have FN := bK (n := (j : Int) + 1)
 simp -implicitDefEqProofs only [aA, seval]
 refine aQ (fun h5 => ?_) (fun h5 => ?_)
 · have hlt := aT2 h5
   rw [show j = a + (j - a) by omega, ← BW] at h5
   simp -implicitDefEqProofs only [FN, aA, seval]
   exact ⟨j + 1, by rw [cI] at hlt; omega, ⟨by omega, by have := PQ hj h5; omega⟩, aO.mk (by simp -implicitDefEqProofs only [aA, seval] <;> rfl)⟩
 rw [show j = a + (j - a) by omega, ← BW] at h5
 have he := OS hj h5
 have hex : s.extract a j = ba (((sb s).drop a).takeWhile letter) := by rw [DD, he, SV]
 have hsl := fun (φ : AF) (y z : Operand) (h : φ.eval y = .int .i64 (a : Int)) (h' : φ.eval z = .int .i64 (j : Int)) => FH (s := s) h h' hj1 hfi
 rw [hex] at hsl
 simp -implicitDefEqProofs only [hw6, aA, seval]
 refine aQ (fun h6 => ?_) (fun h6 => ?_)
 · simp only [bJ] at h6
   simp -implicitDefEqProofs only [aA, seval]
   unfold nL
   rw [aG (by omega)]
   try rfl
 simp only [dG] at h6
 simp -implicitDefEqProofs only [aA, seval]
 refine aQ (fun h7 => ?_) (fun h7 => ?_)
 · simp only [bJ] at h7
   simp -implicitDefEqProofs only [hsl, aA, seval]
   unfold nL
   rw [aE (by omega), aG (by omega), ← he, show a + (j - a) = j by omega]
   try rfl
 simp only [dG] at h7
 obtain rfl : j = a := by omega
 have hrd : nL (sb s) j = if (iV.foldl (jW ((sb s).drop j)) ⟨#[]⟩).size = 0 then none else some (iV.foldl (jW ((sb s).drop j)) ⟨#[]⟩, j + (iV.foldl (jW ((sb s).drop j)) ⟨#[]⟩).size) := by
  unfold nL
  rw [aE (by omega), aE (by omega)]
 rw [hrd]
 clear hrd
 simp -implicitDefEqProofs only [aA, seval]
 refine (aX0 _).to ?_
 simp -implicitDefEqProofs only [aA, seval]
 refine gY (σ := Nat) [1000000] [0, 1, 4, 5, 8] (fun i => i ≤ iV.length) (fun i => [(7, .str ((iV.take i).foldl (jW ((sb s).drop j)) ⟨#[]⟩)), (9, .int .i64 (i : Int))]) (fun _ => st) (fun i => iV.length - i) (by decide +kernel) ⟨0, by omega, aO.mk (by simp -implicitDefEqProofs only [kR, List.foldl_nil, aA, ↓aU, seval])⟩ ?_
 intro i hi
 have hbl := aSL ((sb s).drop j) i
 simp -implicitDefEqProofs only [aF, aA, seval, yO]
 refine aQ (fun h8 => ?_) (fun h8 => ?_)
 case refine_2 =>
  simp only [dG] at h8
  rw [show i = iV.length by omega, eS] at hbl ⊢
  generalize iV.foldl (jW ((sb s).drop j)) ⟨#[]⟩ = g at *
  have hw7 := bK (n := (j : Int) + (g.size : Int))
  simp -implicitDefEqProofs only [aA, seval]
  refine aQ (fun h9 => ?_) (fun h9 => ?_)
  · simp only [bJ] at h9
    subst h9
    simp -implicitDefEqProofs only [aA, seval]
    rfl
  · simp only [dG] at h9
    simp -implicitDefEqProofs only [hw7, aA, seval, yO]
    rw [aE fun h => h9 (aUF h)]
    try rfl
 simp only [bJ] at h8
 obtain ⟨g, hg⟩ : ∃ g, iV[i]? = some g := ⟨_, fG (by omega)⟩
 have hat := bM (av := AV.str) iU hg rfl
 have hgl := aKK g (cU hg)
 have h15 : iV.length = 15 := rfl
 obtain ⟨m, hm⟩ : ∃ m, m = j + g.size := ⟨_, rfl⟩
 have hwn := mY (x := (j : Int) + (g.size : Int)) (m := m) (by omega) (by omega)
 have hw1 := bK (n := (i : Int) + 1)
 have iI : (iV.take (i + 1)).foldl (jW ((sb s).drop j)) ⟨#[]⟩ = jW ((sb s).drop j) ((iV.take i).foldl (jW ((sb s).drop j)) ⟨#[]⟩) g := by
  rw [fM, hg, List.foldl_append]; try rfl
 generalize hB : (iV.take i).foldl (jW ((sb s).drop j)) ⟨#[]⟩ = B at *
 simp -implicitDefEqProofs only [hat, aA, seval, yO]
 refine wP [(0, 1), (1, 1), (2, 1), (3, 1), (4, 1), (5, 1), (6, 1), (7, 1), (8, 1), (9, 1), (10, 1), (11, 1), (12, 1), (13, 1), (14, 1), (15, 1), (16, 2), (17, 1), (18, 1), (19, 1), (20, 1), (21, 1), (22, 1), (23, 1), (24, 1)] [0, 1, 2, 3, 4, 5, 6, 7, 8, 9, 10, 11, 12, 13, 14, 15, 16, 17, 18, 19, 20, 21, 22, 23, 24] mixed ?_
 by_cases hle : m ≤ s.size
 · have hex : s.extract j m = ba (((sb s).drop j).take g.size) := by rw [DD, hm, Nat.add_sub_cancel_left]
   have hsl := fun (φ : AF) (y z : Operand) (h : φ.eval y = .int .i64 (j : Int)) (h' : φ.eval z = .int .i64 (m : Int)) => FH (s := s) h h' (by omega) hle
   rw [hex] at hsl
   have DB : ((m : Int) ≤ (s.size : Int)) = True := cW (by omega)
   by_cases heq : ba (((sb s).drop j).take g.size) = g
   · by_cases hlt : B.size < g.size
     · have bR : ((B.size : Int) < (g.size : Int)) = True := cW (by omega)
       have hb : jW ((sb s).drop j) B g = g := by unfold jW; rw [aG ⟨nX sb heq, hlt⟩]
       simp -implicitDefEqProofs only [hat, hwn, hw1, DB, hsl, heq, bR, bL, aA, seval, yO]
       exact ⟨i + 1, by omega, by omega, aO.mk (by simp -implicitDefEqProofs only [iI, hb, aA, seval])⟩
     · have bR : ((B.size : Int) < (g.size : Int)) = False := cF (by omega)
       have hb : jW ((sb s).drop j) B g = B := by unfold jW; rw [aE fun h => hlt h.2]
       simp -implicitDefEqProofs only [hat, hwn, hw1, DB, hsl, heq, bR, bL, bX, aA, seval, yO]
       exact ⟨i + 1, by omega, by omega, aO.mk (by simp -implicitDefEqProofs only [iI, hb, aA, seval])⟩
   · have hb : jW ((sb s).drop j) B g = B := by unfold jW; rw [aE fun h => heq (by rw [h.1])]
     simp -implicitDefEqProofs only [hat, hwn, hw1, DB, hsl, heq, bL, bX, aA, seval, yO]
     exact ⟨i + 1, by omega, by omega, aO.mk (by simp -implicitDefEqProofs only [iI, hb, aA, seval])⟩
 · have DB : ((m : Int) ≤ (s.size : Int)) = False := cF (by omega)
   have hb : jW ((sb s).drop j) B g = B := by
    unfold jW
    rw [aE]
    rintro ⟨h, _⟩
    have := nX List.length h
    rw [d5, nD, cI, cI] at this
    omega
   simp -implicitDefEqProofs only [hwn, hw1, DB, bX, aA, seval, yO]
   exact ⟨i + 1, by omega, by omega, aO.mk (by simp -implicitDefEqProofs only [iI, hb, aA, seval])⟩
end Go.AW
namespace Go.AW
def iN (nm : ByteArray) : Bool := decide (nm = ⟨#[105, 115]⟩) || decide (nm = ⟨#[109, 111, 100]⟩)
def o9 (l : List UInt8) (a : Nat) : Option (ByteArray × Nat) :=
 let f := if cO l a 32 then a + 1 else a
 if l.length ≤ f then none else match nL l f with
 | none => none
 | some (nm, e) => if dK nm = 0 then none else if iN nm ≠ decide (a < f) ∨ (iN nm = true ∧ cO l e 32 = false) then none else some (nm, if iN nm then e + 1 else e)
abbrev kJ := Nat → Option (Tm × Nat)
def pW (R : kJ) (l : List UInt8) (c1 c2 : Nat) : Nat → Nat → List Tm → Option (List Tm × Nat)
 | 0, _, _ => none
 | n + 1, a, acc => match R a with
  | none => none
  | some (t, e) => if (cO l e c1 || cO l e c2) = true then some (acc ++ [t], e) else if cO l e 44 then pW R l c1 c2 n (e + 1) (acc ++ [t]) else none
abbrev nI (nm : ByteArray) (ts : List Tm) : Tm := .mk 3 0 nm ts
def tZ : List Tm → Tm → Tm
 | [], t => t
 | x :: xs, t => nI ⟨#[46]⟩ [x, tZ xs t]
def y7 (R : kJ) (l : List UInt8) (a : Nat) : Option (Tm × Nat) :=
 match pW R l 93 124 (l.length + 1) a [] with
 | none => none
 | some (ts, e) => if cO l e 93 then some (tZ ts (nI ⟨#[91, 93]⟩ []), e + 1) else match R (e + 1) with
  | none => none
  | some (t, e') => if cO l e' 93 then some (tZ ts t, e' + 1) else none
def G9 (l : List UInt8) (a : Nat) : Nat := match l[a]? with | some x => x.toNat | none => 0
def mB (R : Nat → kJ) (l : List UInt8) (d a : Nat) : Option (Tm × Nat) :=
 if d < 1 ∨ l.length ≤ a then none
 else if cO l a 40 then match R d (a + 1) with
  | none => none
  | some (t, e) => if cO l e 41 then some (t, e + 1) else none
 else if (cO l a 91 && !cO l (a + 1) 93) = true then y7 (R (d - 1)) l (a + 1)
 else if fO l a rU then some (vr ((G9 l a - 65 : Nat) : Int), a + 1)
 else if (fO l a dN || (cO l a 45 && fO l (a + 1) dN)) = true then match tC l a with
  | none => none
  | some (n, e) => some (.mk 2 n ⟨#[]⟩ [], e)
 else match nL l a with
  | none => none
  | some (nm, e) => if cO l e 40 = false then some (nI nm [], e) else match pW (R (d - 1)) l 41 41 (l.length + 1) (e + 1) [] with
   | none => none
   | some (ts, e') => some (nI nm ts, e' + 1)
def AZ (R : kJ) (l : List UInt8) (lev : Nat) : Nat → Tm → Nat → Option (Tm × Nat)
 | 0, _, _ => none
 | n + 1, left, e => match o9 l e with
  | none => some (left, e)
  | some (nm, e1) => if dK nm ≠ lev then some (left, e) else match R e1 with
   | none => none
   | some (rt, e2) => if lev = 3 then some (nI nm [left, rt], e2) else AZ R l lev n (nI nm [left, rt]) e2
def rd (l : List UInt8) : Nat → Nat → Nat → Nat → Option (Tm × Nat)
 | 0, _, _, _ => none
 | n + 1, d, a, 0 => mB (fun d a => rd l n d a 3) l d a
 | n + 1, d, a, lv + 1 => match rd l n d a lv with
  | none => none
  | some (t, e) => AZ (fun a => rd l n d a lv) l (lv + 1) (l.length + 1) t e
theorem aYJ {l : List UInt8} {a c : Nat} (ha : a ≤ l.length) : a ≤ (if cO l a c = true then a + 1 else a) ∧ (if cO l a c = true then a + 1 else a) ≤ l.length := by
 split
 · have := nT ‹_›; omega
 · omega
theorem aPV {l : List UInt8} {a : Nat} {x : Int} {e : Nat} (ha : a ≤ l.length) (h : tC l a = some (x, e)) : a < e ∧ e ≤ l.length := by
 unfold tC at h
 have hf := aYJ (c := 45) ha
 simp only at h
 generalize (if cO l a 45 = true then a + 1 else a) = f at h hf
 split at h
 · cases h
 rename_i h1
 simp only [Option.some.injEq, Prod.mk.injEq] at h
 obtain ⟨_, rfl⟩ := h
 have h2 : (((l.drop f).takeWhile dN).take 4).length ≠ 0 := by
  intro h0
  refine h1 (Or.inl ?_)
  unfold g8
  rw [aG (Or.inl h0)]
 have h3 := GG dN (l.drop f)
 rw [nD] at h3
 have h4 : (((l.drop f).takeWhile dN).take 4).length ≤ ((l.drop f).takeWhile dN).length := by rw [d5]; omega
 omega
theorem RJ (L : List UInt8) : ∀ (gs : List ByteArray) (b : ByteArray), b.size ≤ L.length → (gs.foldl (jW L) b).size ≤ L.length
 | [], b, h => h
 | g :: gs, b, h => by
  rw [zX]
  refine RJ L gs _ ?_
  unfold jW
  split
  · rename_i h1
    have := nX List.length h1.1
    rw [d5, cI] at this
    omega
  · exact h
theorem EN {l : List UInt8} {a : Nat} {x : ByteArray} {e : Nat} (ha : a ≤ l.length) (h : nL l a = some (x, e)) : a < e ∧ e ≤ l.length := by
 unfold nL at h
 simp only at h
 have h3 := GG letter (l.drop a)
 rw [nD] at h3
 split at h
 · cases h
 split at h
 · cases h; omega
 split at h
 · cases h
 · have := RJ (l.drop a) iV ⟨#[]⟩ (jD _)
   rw [nD] at this
   cases h; omega
theorem aI8 {l : List UInt8} {a : Nat} {x : ByteArray} {e : Nat} (h : o9 l a = some (x, e)) : a < e ∧ e ≤ l.length ∧ dK x ≠ 0 := by
 unfold o9 at h
 have h6 : a ≤ (if cO l a 32 = true then a + 1 else a) := by split <;> omega
 simp only at h
 generalize (if cO l a 32 = true then a + 1 else a) = f at h h6
 split at h
 · cases h
 rename_i h1
 split at h
 · cases h
 rename_i nm e0 h2
 have h3 := EN (by omega) h2
 split at h
 · cases h
 rename_i h7
 split at h
 · cases h
 rename_i h4
 simp only [Option.some.injEq, Prod.mk.injEq] at h
 obtain ⟨rfl, rfl⟩ := h
 split
 · rename_i h5
   have : cO l e0 32 = true := by
    cases hb : cO l e0 32 with
    | true => rfl
    | false => exact absurd (Or.inr ⟨h5, hb⟩) h4
   have := nT this
   exact ⟨by omega, by omega, h7⟩
 · exact ⟨by omega, by omega, h7⟩
def v8 (R : kJ) (l : List UInt8) : Prop := ∀ a t e, a ≤ l.length → R a = some (t, e) → a < e ∧ e ≤ l.length ∧ Dn t
theorem I1 {R : kJ} {l : List UInt8} {c1 c2 : Nat} (hR : v8 R l) : ∀ (n a : Nat) (acc : List Tm) (ts : List Tm) (e : Nat), a ≤ l.length → (∀ x ∈ acc, Dn x) → pW R l c1 c2 n a acc = some (ts, e) → a < e ∧ e < l.length ∧ (∀ x ∈ ts, Dn x) ∧ ts.length ≤ acc.length + n ∧ (cO l e c1 = true ∨ cO l e c2 = true) := by
 intro n
 induction n with
 | zero => intro a acc ts e _ _ h; cases h
 | succ n ih =>
  intro a acc ts e ha nQ h
  unfold pW at h
  split at h
  · cases h
  rename_i t e1 h1
  obtain ⟨h2, h3, h4⟩ := hR a t e1 ha h1
  have GF : ∀ x ∈ acc ++ [t], Dn x := by intro x hx; rw [fS] at hx; rcases hx with hx | hx; exact nQ x hx; rw [K4] at hx; subst hx; exact h4
  split at h
  · rename_i h5
    cases h
    rw [qY] at h5
    refine ⟨h2, ?_, GF, by rw [dR, RH]; omega, h5⟩
    rcases h5 with h5 | h5 <;> exact nT h5
  split at h
  · rename_i h5
    have h6 := nT h5
    obtain ⟨g1, g2, g3, g4, g5⟩ := ih (e1 + 1) _ ts e (by omega) GF h
    rw [dR, RH] at g4
    exact ⟨by omega, g2, g3, by omega, g5⟩
  · cases h
theorem O2 {nm : ByteArray} {ts : List Tm} (hl : ts.length ≤ 1048576) (h : ∀ x ∈ ts, Dn x) : Dn (nI nm ts) := vY (by decide) hl h
theorem M7 {nm : ByteArray} {x y : Tm} (hx : Dn x) (hy : Dn y) : Dn (nI nm [x, y]) := O2 (by simp) (by intro z hz; simp only [c7, dP, dY] at hz; rcases hz with rfl | rfl; exact hx; exact hy)
theorem W2 {nm : ByteArray} : Dn (nI nm []) := O2 (by simp) (by simp)
theorem PB {t : Tm} (ht : Dn t) : ∀ ts : List Tm, (∀ x ∈ ts, Dn x) → Dn (tZ ts t)
 | [], _ => ht
 | x :: xs, h => M7 (h x (by simp)) (PB ht xs fun y hy => h y (by simp [hy]))
theorem aWN {R : kJ} {l : List UInt8} (hR : v8 R l) (hl : l.length ≤ 1000) {a : Nat} {t : Tm} {e : Nat} (ha : a ≤ l.length) (h : y7 R l a = some (t, e)) : a < e ∧ e ≤ l.length ∧ Dn t := by
 unfold y7 at h
 split at h
 · cases h
 rename_i ts e1 h1
 obtain ⟨g1, g2, g3, g4, g5⟩ := I1 hR _ _ _ _ _ ha (by simp) h1
 split at h
 · cases h
   exact ⟨by omega, by omega, PB W2 _ g3⟩
 split at h
 · cases h
 rename_i t2 e2 h2
 obtain ⟨k1, k2, k3⟩ := hR _ _ _ (by omega) h2
 split at h
 · rename_i h5
   cases h
   have := nT h5
   exact ⟨by omega, by omega, PB k3 _ g3⟩
 · cases h
theorem aNG {R : Nat → kJ} {l : List UInt8} (hR : ∀ d, v8 (R d) l) (hl : l.length ≤ 1000) {d a : Nat} {t : Tm} {e : Nat} (h : mB R l d a = some (t, e)) : a < e ∧ e ≤ l.length ∧ Dn t := by
 unfold mB at h
 split at h
 · cases h
 rename_i h0
 have ha : a < l.length := by omega
 split at h
 · split at h
   · cases h
   rename_i t1 e1 h1
   obtain ⟨k1, k2, k3⟩ := hR _ _ _ _ (by omega) h1
   split at h
   · rename_i h5
     cases h
     have := nT h5
     exact ⟨by omega, by omega, k3⟩
   · cases h
 split at h
 · obtain ⟨k1, k2, k3⟩ := aWN (hR _) hl (by omega) h
   exact ⟨by omega, k2, k3⟩
 split at h
 · cases h
   exact ⟨by omega, by omega, OR _⟩
 split at h
 · split at h
   · cases h
   rename_i n e1 h1
   cases h
   have := aPV (by omega) h1
   exact ⟨this.1, this.2, vY (by decide) (by simp) (by simp)⟩
 split at h
 · cases h
 rename_i nm e1 h1
 have g := EN (by omega) h1
 split at h
 · cases h
   exact ⟨g.1, g.2, W2⟩
 split at h
 · cases h
 rename_i h6 _ ts e2 h2
 have h7 : cO l e1 40 = true := by simpa using h6
 have h8 := nT h7
 obtain ⟨k1, k2, k3, k4, k5⟩ := I1 (hR _) _ _ _ _ _ (by omega) (by simp) h2
 cases h
 refine ⟨by omega, by omega, O2 ?_ k3⟩
 rw [aZ] at k4
 omega
theorem aT3 {R : kJ} {l : List UInt8} (hR : v8 R l) (lev : Nat) : ∀ (n : Nat) (t0 : Tm) (e0 : Nat) (t : Tm) (e : Nat), e0 ≤ l.length → Dn t0 → AZ R l lev n t0 e0 = some (t, e) → e0 ≤ e ∧ e ≤ l.length ∧ Dn t := by
 intro n
 induction n with
 | zero => intro t0 e0 t e _ _ h; cases h
 | succ n ih =>
  intro t0 e0 t e h0 ht h
  unfold AZ at h
  split at h
  · cases h; exact ⟨by omega, h0, ht⟩
  rename_i nm e1 h1
  have g := aI8 h1
  split at h
  · cases h; exact ⟨by omega, h0, ht⟩
  split at h
  · cases h
  rename_i rt e2 h2
  obtain ⟨k1, k2, k3⟩ := hR _ _ _ g.2.1 h2
  split at h
  · cases h; exact ⟨by omega, k2, M7 ht k3⟩
  · obtain ⟨q1, q2, q3⟩ := ih _ _ _ _ k2 (M7 ht k3) h
    exact ⟨by omega, q2, q3⟩
theorem x6 {l : List UInt8} (hl : l.length ≤ 1000) : ∀ (n d lv : Nat), v8 (fun a => rd l n d a lv) l := by
 intro n
 induction n with
 | zero => intro d lv a t e _ h; cases h
 | succ n ih =>
  intro d lv a t e ha h
  cases lv with
  | zero =>
   simp only [rd] at h
   exact aNG (fun d => ih d 3) hl h
  | succ lv =>
   simp only [rd] at h
   split at h
   · cases h
   rename_i t1 e1 h1
   obtain ⟨k1, k2, k3⟩ := ih d lv a t1 e1 ha h1
   obtain ⟨q1, q2, q3⟩ := aT3 (ih d lv) _ _ _ _ _ _ k2 k3 h
   exact ⟨by omega, q2, q3⟩
end Go.AW
namespace Go.AW
open Go.Proofs.Tryz
def kL (a : Int) : AV := .tup [F8.av, .int .i64 (-1 - a)]
abbrev aRT := zi tI_3 (zi zI_3 (zi aX (zi tI_63 (zi zI_63 (zi bT (zi bP (zi bS (zi bQ bU))))))))
theorem CB (a : Nat) (ha : a ≤ 1048576) (st : aB) : aD prog 220 [.int .i64 (a : Int)] st (fun r st' => r = kL a ∧ st' = st) := by
 refine aD.done ?_
 refine wF [1000000] 1 func220 ntmps220 rfl rfl ?_
 intro _
 have hw := bK (n := -1 - (a : Int))
 simp -implicitDefEqProofs only [aK, hw, aA, seval, aRT]
 intro b hb
 exact ⟨by simp only [kL, aV, j7, kB, jR, k0, mM, bA, aW, aW], (aM.refl _).aC hb⟩
def MC (a : Nat) (o : Option (ByteArray × Nat)) : AV := match o with | some (b, e) => .tup [.str b, .int .i64 (e : Int)] | none => .tup [.str ⟨#[]⟩, .int .i64 (a : Int)]
abbrev CC := zi tI_3 (zi zI_3 (zi aX (zi tI_4 (zi zI_4 (zi cG (zi tI_5 (zi zI_5 (zi kK (zi tI_8 (zi zI_8 (zi wV (zi wQ (zi v6 (zi wD (zi wR (zi tI_9 (zi zI_9 cH)))))))))))))))))
set_option maxHeartbeats 1000000 in
theorem aMI (s : ByteArray) (hs : s.size ≤ 1000) (a : Nat) (ha : a ≤ s.size) (st : aB) : aD prog 205 [.str s, .int .i64 (a : Int)] st (fun r st' => r = MC a (o9 (sb s) a) ∧ st' = st) := by
 refine wF [1000000] 2 func205 ntmps205 rfl rfl ?_
 intro _
 simp -implicitDefEqProofs only [aA, seval]
 refine (kC s a 32 _).to ?_
 obtain ⟨f1, hf1⟩ : ∃ f, f = a + 1 := ⟨_, rfl⟩
 have hw1 := mY (x := (a : Int) + 1) (m := f1) (by omega) (by omega)
 simp -implicitDefEqProofs only [aA, seval]
 refine aQ (fun h1 => ?_) (fun h1 => ?_)
 · have hf := nT h1
   rw [cI] at hf
   simp -implicitDefEqProofs only [hw1, aA, seval, CC]
   obtain ⟨f, rfl⟩ : ∃ f, f = f1 := ⟨_, rfl⟩
   replace hf : f ≤ s.size := by omega
   by_cases hlen : s.size ≤ f
   case pos =>
    have hrd : o9 (sb s) a = none := by
     unfold o9
     simp only [h1, ↓reduceIte, ← hf1]
     rw [aG (by rw [cI]; exact hlen)]
    rw [hrd]
    have cT : ((s.size : Int) ≤ (f : Int)) = True := cW (by omega)
    simp -implicitDefEqProofs only [cT, bL, aA, seval]
    rfl
   have cT : ((s.size : Int) ≤ (f : Int)) = False := cF (by omega)
   have hrd : o9 (sb s) a = match nL (sb s) f with
    | none => none
    | some (nm, e) => if dK nm = 0 then none else if iN nm ≠ decide (a < f) ∨ (iN nm = true ∧ cO (sb s) e 32 = false) then none else some (nm, if iN nm then e + 1 else e) := by
    unfold o9
    simp only [h1, ↓reduceIte, ← hf1]
    rw [aE (by rw [cI]; exact hlen)]
    try rfl
   rw [hrd]
   clear hrd
   have hfa : ((a : Int) < (f : Int)) = True := cW (by omega)
   have hfn : (a < f) = True := cW (by omega)
   simp -implicitDefEqProofs only [cT, bX, aA, seval]
   refine (P9 s hs f (by omega) _).to ?_
   cases hn : nL (sb s) f with
   | none =>
    simp only [yA]
    simp -implicitDefEqProofs only [bL, aA, seval]
    rfl
   | some p =>
    obtain ⟨nm, e⟩ := p
    have he := EN (by rw [cI]; omega) hn
    rw [cI] at he
    simp only [yA]
    have he0 : ((e : Int) < 0) = False := cF (by omega)
    simp -implicitDefEqProofs only [he0, bX, aA, seval]
    refine (uV nm _).to ?_
    by_cases hl0 : dK nm = 0
    case pos =>
     rw [aG hl0]
     have pB : ((dK nm : Int) = 0) = True := cW (by omega)
     simp -implicitDefEqProofs only [pB, bL, aA, seval]
     rfl
    rw [aE hl0]
    have pB : ((dK nm : Int) = 0) = False := cF (by omega)
    simp only [hfn, bL]
    have hw1 := bK (n := (e : Int) + 1)
    by_cases hi : nm = ⟨#[105, 115]⟩
    case' pos =>
     have hi' := cW hi
     have hm' : (nm = ⟨#[109, 111, 100]⟩) = False := cF (by rw [hi]; decide)
     have hW : iN nm = true := by unfold iN; rw [gA hi]; try rfl
    case' neg =>
     have hi' := cF hi
     by_cases hm : nm = ⟨#[109, 111, 100]⟩
     case' pos =>
      have hm' := cW hm
      have hW : iN nm = true := by unfold iN; rw [gA hm]; exact z0 _
     case' neg =>
      have hm' := cF hm
      have hW : iN nm = false := by unfold iN; rw [fH hm, fH hi]; try rfl
    all_goals
     rw [hW]
     simp -implicitDefEqProofs only [pB, hfa, hi', hm', bL, bX, aA, seval, CC]
     first
      | (rw [aG (Or.inl trivial)]; rfl)
      | (rw [aE fun h => h.1]; rfl)
      | skip
     try
      refine (kC s e 32 _).to ?_
      cases hb : cO (sb s) e 32 with
      | false =>
       simp -implicitDefEqProofs only [aA, seval]
       rfl
      | true =>
       simp -implicitDefEqProofs only [hw1, aA, seval]
       rfl
 · skip
   simp -implicitDefEqProofs only [aA, seval, CC]
   obtain ⟨f, rfl⟩ : ∃ f, f = a := ⟨_, rfl⟩
   have hf := ha
   by_cases hlen : s.size ≤ f
   case pos =>
    have hrd : o9 (sb s) f = none := by
     unfold o9
     simp only [h1, ↓reduceIte, jM]
     rw [aG (by rw [cI]; exact hlen)]
    rw [hrd]
    have cT : ((s.size : Int) ≤ (f : Int)) = True := cW (by omega)
    simp -implicitDefEqProofs only [cT, bL, aA, seval]
    rfl
   have cT : ((s.size : Int) ≤ (f : Int)) = False := cF (by omega)
   have hrd : o9 (sb s) f = match nL (sb s) f with
    | none => none
    | some (nm, e) => if dK nm = 0 then none else if iN nm ≠ decide (f < f) ∨ (iN nm = true ∧ cO (sb s) e 32 = false) then none else some (nm, if iN nm then e + 1 else e) := by
    unfold o9
    simp only [h1, ↓reduceIte, jM]
    rw [aE (by rw [cI]; exact hlen)]
    try rfl
   rw [hrd]
   clear hrd
   have hfa : ((f : Int) < (f : Int)) = False := cF (by omega)
   have hfn : (f < f) = False := cF (by omega)
   simp -implicitDefEqProofs only [cT, bX, aA, seval]
   refine (P9 s hs f (by omega) _).to ?_
   cases hn : nL (sb s) f with
   | none =>
    simp only [yA]
    simp -implicitDefEqProofs only [bL, aA, seval]
    rfl
   | some p =>
    obtain ⟨nm, e⟩ := p
    have he := EN (by rw [cI]; omega) hn
    rw [cI] at he
    simp only [yA]
    have he0 : ((e : Int) < 0) = False := cF (by omega)
    simp -implicitDefEqProofs only [he0, bX, aA, seval]
    refine (uV nm _).to ?_
    by_cases hl0 : dK nm = 0
    case pos =>
     rw [aG hl0]
     have pB : ((dK nm : Int) = 0) = True := cW (by omega)
     simp -implicitDefEqProofs only [pB, bL, aA, seval]
     rfl
    rw [aE hl0]
    have pB : ((dK nm : Int) = 0) = False := cF (by omega)
    simp only [hfn, bX]
    have hw1 := bK (n := (e : Int) + 1)
    by_cases hi : nm = ⟨#[105, 115]⟩
    case' pos =>
     have hi' := cW hi
     have hm' : (nm = ⟨#[109, 111, 100]⟩) = False := cF (by rw [hi]; decide)
     have hW : iN nm = true := by unfold iN; rw [gA hi]; try rfl
    case' neg =>
     have hi' := cF hi
     by_cases hm : nm = ⟨#[109, 111, 100]⟩
     case' pos =>
      have hm' := cW hm
      have hW : iN nm = true := by unfold iN; rw [gA hm]; exact z0 _
     case' neg =>
      have hm' := cF hm
      have hW : iN nm = false := by unfold iN; rw [fH hm, fH hi]; try rfl
    all_goals
     rw [hW]
     simp -implicitDefEqProofs only [pB, hfa, hi', hm', bL, bX, aA, seval, CC]
     first
      | (rw [aG (Or.inl trivial)]; rfl)
      | (rw [aE fun h => h.1]; rfl)
      | skip
     try
      refine (kC s e 32 _).to ?_
      cases hb : cO (sb s) e 32 with
      | false =>
       simp -implicitDefEqProofs only [pB, hfa, hi', hm', hw1, bL, bX, aA, ↓aU, seval, CC]
       rfl
      | true =>
       simp -implicitDefEqProofs only [pB, hfa, hi', hm', hw1, bL, bX, aA, ↓aU, seval, CC]
       rfl
theorem aVO {ts : List Tm} {i : Nat} {x t : Tm} (hx : ts[i]? = some x) : tZ (ts.drop i) t = nI ⟨#[46]⟩ [x, tZ (ts.drop (i + 1)) t] := by
 obtain ⟨h1, h2⟩ := gR.1 hx
 rw [qV h1, h2]
 try rfl
abbrev JS := zi tI_3 (zi zI_3 (zi aX (zi tI_9 (zi zI_9 (zi cH (zi tI_31 (zi zI_31 (zi aN (zi bF (zi bE (zi cA (zi tI_63 (zi zI_63 (zi bT (zi bP (zi bS (zi bQ bU)))))))))))))))))
set_option maxHeartbeats 1000000 in
theorem aDQ (ts : List Tm) (tl : Tm) (hl : ts.length ≤ 1048576) (st : aB) : aD prog 236 [.slice (ts.map Tm.av), tl.av] st (fun r st' => r = (tZ ts tl).av ∧ st' = st) := by
 refine aD.done ?_
 refine wF [1000000, 5] 2 func236 ntmps236 rfl rfl ?_
 intro _
 have hw0 := bK (n := (ts.length : Int) - 1)
 simp -implicitDefEqProofs only [aK, aT, aH, b7, cE, bO, aF, hw0, aA, ↓aU, seval, JS]
 intro b hb b5 hb5
 have hbb : b5 ≠ b := fun h => by rw [h, aB.aP] at hb5; cases hb5
 refine gY (σ := Nat) [1000000] [0, 4, 5] (fun i => i ≤ ts.length) (fun i => [(6, .int .i64 ((i : Int) - 1))]) (fun i => (st.aC b (.cells [.int .i64 0, .int .i64 0, .str ⟨#[]⟩, .fslice []])).aC b5 (.cells (tZ (ts.drop i) tl).av.cells)) (fun i => i) (by decide +kernel) ⟨ts.length, by omega, by rw [kE]; exact aO.mk (by simp -implicitDefEqProofs only [aA, seval])⟩ ?_
 intro i hi
 simp -implicitDefEqProofs only [aA, seval]
 refine aQ (fun h1 => ?_) (fun h1 => ?_)
 · simp only [bJ] at h1
   obtain ⟨k, rfl⟩ : ∃ k, i = k + 1 := ⟨i - 1, by omega⟩
   obtain ⟨x, hx⟩ : ∃ x, ts[k]? = some x := ⟨_, fG (by omega)⟩
   have hk : ((k + 1 : Nat) : Int) - 1 = (k : Int) := by omega
   have hw := bK (n := (k : Int) - 1)
   have hst := aVO (t := tl) hx
   have hat := bM (av := Tm.av) aN hx (aH x)
   rw [hk]
   generalize tZ (ts.drop (k + 1)) tl = y at *
   have hax := bO x
   have hay := bO y
   simp -implicitDefEqProofs only [aA, seval]
   refine wP [(0, 1), (1, 1), (2, 1), (3, 2), (4, 2), (5, 1), (6, 2), (7, 0)] [0, 1, 2, 3, 4, 5, 6] mixed ?_
   simp -implicitDefEqProofs only [aT, aH, cE, bO, eD (bO _), eC (aT _), hat, aA, seval, JS]
   refine i8 (sD ⟨#[46]⟩ [x, y] (by simp) _) ?_
   simp -implicitDefEqProofs only [aK, b7, bO, hw, aA, seval, JS]
   refine ⟨k, by omega, by omega, ?_⟩
   rw [hst]
   exact aO.mk (by simp -implicitDefEqProofs only [aA, seval])
 · simp only [dG] at h1
   obtain rfl : i = 0 := by omega
   rw [tJ]
   simp -implicitDefEqProofs only [aK, b7, bO, eD (bO _), eC (aT _), hbb.symm, aA, ↓aU, seval, JS]
   exact ⟨Tm.soft _, (((aM.refl _).aC hb).aC (by rwa [aB.aL _ _ hbb] at hb5)).aC hb⟩
def lR (o : Option (Tm × Nat)) (r : AV) : Prop := match o with | some (t, e) => r = .tup [t.av, .int .i64 (e : Int)] | none => ∃ k : Nat, k ≤ 1048576 ∧ r = kL k
def tQ (o : Option (List Tm × Nat)) (r : AV) : Prop := match o with | some (ts, e) => r = .tup [.slice (ts.map Tm.av), .int .i64 (e : Int)] | none => ∃ k : Nat, k ≤ 1048576 ∧ r = .tup [.slice [], .int .i64 (-1 - (k : Int))]
abbrev LN (s : ByteArray) (R : kJ) (d lv lo : Nat) : Prop := ∀ (a : Nat) (st : aB), lo ≤ a → a ≤ s.size → aD prog 165 [.str s, .int .i64 (a : Int), .int .i64 (d : Int), .int .i64 (lv : Int)] st (fun r st' => lR (R a) r ∧ st' = st)
abbrev NA := zi tI_3 (zi zI_3 (zi aX (zi tI_4 (zi zI_4 (zi cG (zi tI_5 (zi zI_5 (zi kK (zi tI_8 (zi zI_8 (zi wV (zi wQ (zi v6 (zi wD (zi wR (zi tI_9 (zi zI_9 (zi cH (zi tI_31 (zi zI_31 (zi aN (zi bF (zi bE (zi cA (zi tI_44 (zi zI_44 (zi aFT (zi WQ (zi aDE (zi aIC (zi UQ (zi SD (zi SE (zi tI_63 (zi zI_63 (zi bT (zi bP (zi bS (zi bQ bU)))))))))))))))))))))))))))))))))))))))
set_option maxHeartbeats 1000000 in
theorem RN {s : ByteArray} {R : kJ} {d lo c1 c2 : Nat} (hR : LN s R d 3 lo) (hok : v8 R (sb s)) (hs : s.size ≤ 1000) (a : Nat) (ha : lo ≤ a) (ha' : a ≤ s.size) (st : aB) :
 aD prog 225 [.str s, .int .i64 (a : Int), .int .i64 (d : Int), .int .u8 (c1 : Int), .int .u8 (c2 : Int)] st (fun r st' => tQ (pW R (sb s) c1 c2 ((sb s).length + 1) a []) r ∧ st' = st) := by
 generalize hT : pW R (sb s) c1 c2 ((sb s).length + 1) a [] = T
 rw [cI] at hT
 refine aD.drop (Q := tQ T) (aD.fin ?_)
 refine wF [1000000] 5 func225 ntmps225 rfl rfl ?_
 intro _
 simp -implicitDefEqProofs only [aA, seval, NA]
 refine gY (σ := Nat × List Tm × Nat × Nat) [1000000] [0, 2, 3, 4] (fun x => pW R (sb s) c1 c2 x.2.2.1 x.1 x.2.1 = T ∧ lo ≤ x.1 ∧ x.1 ≤ s.size ∧ s.size < x.2.2.1 + x.1 ∧ x.2.1.length + x.2.2.1 ≤ 1001 ∧ (x.2.1.map Tm.av ≠ [] → st x.2.2.2 = none)) (fun x => [(1, .int .i64 (x.1 : Int)), (10, .fslice []), (11, .int .i64 0), (12, a9 4 x.2.2.2 (x.2.1.map Tm.av))]) (fun x => aY st x.2.2.2 (x.2.1.map Tm.av)) (fun x => x.2.2.1) (by decide +kernel) ⟨(a, [], s.size + 1, 0), ⟨hT, ha, ha', by simp only; omega, by simp only [aZ]; omega, by simp⟩, aO.mk (by simp -implicitDefEqProofs only [aW, jH, aA, seval])⟩ ?_
 rintro ⟨i, acc, m, b⟩ ⟨ht, hlo, hi, hm, hlen, hb⟩
 simp only at ht hlo hi hm hlen hb ⊢
 obtain ⟨m, rfl⟩ : ∃ m', m = m' + 1 := ⟨m - 1, by omega⟩
 simp only [pW] at ht
 simp -implicitDefEqProofs only [aA, seval]
 refine (hR i _ hlo hi).mono ?_
 rintro r _ ⟨hr, rfl⟩
 have fin : ∀ (l : List Tm) (b' : Nat) (r' : AV), (l.map Tm.av ≠ [] → st b' = none) → tQ T (r'.fin b' (l.map Tm.av)) → ∃ b2 l2 s0, aY st b' (l.map Tm.av) = aY s0 b2 l2 ∧ (l2 ≠ [] → s0 b2 = none) ∧ (∀ e ∈ l2, e.cC = false) ∧ hH l2 ∧ aM s0 st ∧ tQ T (r'.fin b2 l2) := fun l b' r' h1 h2 => ⟨b', _, st, rfl, h1, iF _, ⟨4, dT _⟩, aM.refl _, h2⟩
 have hTn : T = none → ∀ k : Nat, k ≤ 1048576 → ∀ (b' : Nat) (l : List AV), tQ T ((AV.tup [.fslice [], .int .i64 (-1 - (k : Int))]).fin b' l) := by
  rintro rfl k hk b' l
  exact ⟨k, hk, by simp only [jG, d8, oD, bA, aW]⟩
 cases hRi : R i with
 | none =>
  rw [hRi] at ht hr
  obtain ⟨k, hk, rfl⟩ := hr
  have hk0 : ((-1 - (k : Int)) < 0) = True := cW (by omega)
  simp -implicitDefEqProofs only [aH, b7, cE, hk0, kL, bL, aA, ↓aU, seval, NA]
  exact fin _ _ _ hb (hTn ht.symm k hk _ _)
 | some p =>
  obtain ⟨t, e⟩ := p
  rw [hRi] at ht hr
  simp only at ht
  obtain ⟨g1, g2, g3⟩ := hok i t e (by rw [cI]; exact hi) hRi
  rw [cI] at g2
  simp only [lR] at hr
  subst hr
  have he0 : ((e : Int) < 0) = False := cF (by omega)
  simp -implicitDefEqProofs only [aT, aH, b7, cE, he0, nW, sH, bX, aA, ↓aU, seval, NA]
  refine eO aN bF bE rfl rfl (fA (aH _) (b7 _)) (dT _) hb (by simp only [aF, aS, aZ]; omega) (by simp only [aF, aS, aZ]; omega) (fun b' hb' => ?_)
  rw [show acc.map Tm.av ++ [t.av] = (acc ++ [t]).map Tm.av by simp] at hb' ⊢
  simp -implicitDefEqProofs only [aA, seval]
  have vS : T = some (acc ++ [t], e) → tQ T ((AV.tup [a9 4 b' ((acc ++ [t]).map Tm.av), .int .i64 (e : Int)]).fin b' ((acc ++ [t]).map Tm.av)) := by
   rintro rfl
   simp only [tQ, jG, d8, lO, bA, aW]
  have hw1 := bK (n := (e : Int) + 1)
  have hw2 := bK (n := -1 - (e : Int))
  refine (kC s e c1 _).to ?_
  cases h1 : cO (sb s) e c1 with
  | true =>
   rw [h1, xK, aG rfl] at ht
   simp -implicitDefEqProofs only [m8, nW, sH, aA, seval]
   exact fin _ _ _ hb' (vS ht.symm)
  | false =>
  simp -implicitDefEqProofs only [aA, seval]
  refine (kC s e c2 _).to ?_
  cases h2 : cO (sb s) e c2 with
  | true =>
   rw [h2, z0, aG rfl] at ht
   simp -implicitDefEqProofs only [m8, nW, sH, aA, seval]
   exact fin _ _ _ hb' (vS ht.symm)
  | false =>
  rw [h1, h2, GR, aE (by decide)] at ht
  simp -implicitDefEqProofs only [aA, seval]
  refine (kC s e 44 _).to ?_
  cases h3 : cO (sb s) e 44 with
  | true =>
   have h4 := nT h3
   rw [cI] at h4
   rw [h3, aG rfl] at ht
   simp -implicitDefEqProofs only [hw1, aA, seval]
   refine ⟨(e + 1, acc ++ [t], m, b'), by simp only; omega, ⟨ht, by simp only; omega, by simp only; omega, by simp only; omega, by simp only [dR, aS, aZ]; omega, hb'⟩, aO.mk (by simp -implicitDefEqProofs only [aA, seval] <;> rfl)⟩
  | false =>
   rw [h3, aE (by decide)] at ht
   simp -implicitDefEqProofs only [hw2, aA, seval]
   exact fin _ _ _ hb' (hTn ht.symm e (by omega) _ _)
theorem aD.MP {P : Program} {g : FuncId} {args : List AV} {st : aB} {Q : AV → Prop} (x : aD P g args st (fun r' st' => Q r'.soft ∧ aM st' st)) : aD P g args st (fun r' st' => Q r' ∧ st' = st) :=
 aD.drop (aD.soft (x.mono fun _ _ h => ⟨h.2, h.1⟩))
theorem AU {k : Nat} (hk : k ≤ 1048576) : lR none (AV.tup [.agg [.int .i64 0, .int .i64 0, .str ⟨#[]⟩, .fslice []], .int .i64 (-1 - (k : Int))]).soft :=
 ⟨k, hk, by simp only [kL, aV, j7, kB, jR, k0, mM, bA, aW]⟩
theorem qD {t : Tm} {e : Nat} {x : Int} (h : x = (e : Int)) : lR (some (t, e)) (AV.tup [t.av, .int .i64 x]).soft := by
 subst h
 simp only [lR, kB, jR, Tm.soft, bA, aW]
theorem w6 {k : Nat} (hk : k ≤ 1048576) : lR none (AV.tup [F8.av, .int .i64 (-1 - (k : Int))]).soft :=
 ⟨k, hk, by simp only [kL, kB, jR, Tm.soft, bA, aW]⟩
abbrev vM := zi tI_3 (zi zI_3 (zi aX (zi tI_4 (zi zI_4 (zi cG (zi tI_5 (zi zI_5 (zi kK (zi tI_8 (zi zI_8 (zi wV (zi wQ (zi v6 (zi wD (zi wR (zi tI_9 (zi zI_9 (zi cH (zi tI_31 (zi zI_31 (zi aN (zi bF (zi bE (zi cA (zi tI_63 (zi zI_63 (zi bT (zi bP (zi bS (zi bQ (zi bU (zi tI_124 (zi zI_124 (zi ML (zi LJ NP)))))))))))))))))))))))))))))))))))
set_option maxHeartbeats 1000000 in
theorem aYM {s : ByteArray} {R : kJ} {d lo : Nat} (hR : LN s R d 3 lo) (hok : v8 R (sb s)) (hs : s.size ≤ 1000) (a : Nat) (ha : lo ≤ a) (ha' : a ≤ s.size) (st : aB) :
 aD prog 221 [.str s, .int .i64 (a : Int), .int .i64 (d : Int)] st (fun r st' => lR (y7 R (sb s) a) r ∧ st' = st) := by
 refine aD.MP ?_
 refine wF [1000000] 3 func221 ntmps221 rfl rfl ?_
 intro _
 simp -implicitDefEqProofs only [aA, seval, vM]
 intro b hb
 unfold y7
 refine (RN hR hok hs a ha ha' _ (c1 := 93) (c2 := 124)).mono ?_
 rintro r _ ⟨hr, rfl⟩
 have hD := fun (o : AO) => (aM.refl st).aC (o := o) hb
 cases hT : pW R (sb s) 93 124 ((sb s).length + 1) a [] with
 | none =>
  rw [hT] at hr
  obtain ⟨k, hk, rfl⟩ := hr
  have hk0 : ((-1 - (k : Int)) < 0) = True := cW (by omega)
  simp -implicitDefEqProofs only [aK, hk0, bL, aA, seval, vM]
  exact ⟨AU hk, hD _⟩
 | some p =>
  obtain ⟨ts, e⟩ := p
  rw [hT] at hr
  simp only [tQ] at hr
  subst hr
  obtain ⟨g1, g2, g3, g4, g5⟩ := I1 hok _ _ _ _ _ (by rw [cI]; exact ha') (by simp) hT
  rw [cI] at g2 g4
  rw [aZ] at g4
  have he0 : ((e : Int) < 0) = False := cF (by omega)
  obtain ⟨f, hf⟩ : ∃ f, f = e + 1 := ⟨_, rfl⟩
  have hw := mY (x := (e : Int) + 1) (m := f) (by omega) (by omega)
  simp -implicitDefEqProofs only [he0, bX, aA, seval]
  refine (kC s e 93 _).to ?_
  cases h1 : cO (sb s) e 93 with
  | true =>
   simp -implicitDefEqProofs only [aA, seval]
   refine (sD ⟨#[91, 93]⟩ [] (by simp) _).to ?_
   simp -implicitDefEqProofs only [aA, seval]
   refine (aDQ ts (nI ⟨#[91, 93]⟩ []) (by omega) _).to ?_
   simp -implicitDefEqProofs only [aK, b7, cE, bO, eD (bO _), eC (aT _), hw, aA, seval, vM]
   exact ⟨qD (by omega), hD _⟩
  | false =>
   simp -implicitDefEqProofs only [hw, aA, seval]
   refine (hR f _ (by omega) (by omega)).mono ?_
   rintro r _ ⟨hr, rfl⟩
   rw [← hf]
   cases hRi : R f with
   | none =>
    rw [hRi] at hr
    obtain ⟨k, hk, rfl⟩ := hr
    have hk0 : ((-1 - (k : Int)) < 0) = True := cW (by omega)
    simp -implicitDefEqProofs only [aK, aH, b7, cE, hk0, kL, bL, aA, ↓aU, seval, vM]
    exact ⟨AU hk, hD _⟩
   | some p =>
    obtain ⟨t, e2⟩ := p
    rw [hRi] at hr
    simp only [lR] at hr
    subst hr
    obtain ⟨k1, k2, k3⟩ := hok f t e2 (by rw [cI]; omega) hRi
    rw [cI] at k2
    have he2 : ((e2 : Int) < 0) = False := cF (by omega)
    have hw2 := bK (n := (e2 : Int) + 1)
    simp -implicitDefEqProofs only [aH, b7, cE, he2, bX, aA, ↓aU, seval, vM]
    refine (kC s e2 93 _).to ?_
    cases h2 : cO (sb s) e2 93 with
    | true =>
     simp -implicitDefEqProofs only [aT, aH, aA, seval, vM]
     refine (aDQ ts t (by omega) _).to ?_
     simp -implicitDefEqProofs only [aK, b7, cE, bO, eD (bO _), eC (aT _), hw2, aA, seval, vM]
     exact ⟨qD rfl, hD _⟩
    | false =>
     simp -implicitDefEqProofs only [aA, seval]
     refine (CB e2 (by omega) _).to ?_
     simp -implicitDefEqProofs only [aK, b7, cE, bO, eD (bO _), eC (aT _), kL, aA, seval, vM]
     exact ⟨w6 (by omega), hD _⟩
theorem aWM {R : Nat → kJ} {l : List UInt8} {d a : Nat} (h : d < 1 ∨ l.length ≤ a) : mB R l d a = none := by unfold mB; rw [aG h]
theorem aZM {R : Nat → kJ} {l : List UInt8} {d a : Nat} (h : ¬(d < 1 ∨ l.length ≤ a)) (h1 : cO l a 40 = true) : mB R l d a = match R d (a + 1) with
 | none => none
 | some (t, e) => if cO l e 41 then some (t, e + 1) else none := by unfold mB; rw [aE h, aG h1]; try rfl
theorem a0E {R : Nat → kJ} {l : List UInt8} {d a : Nat} (h : ¬(d < 1 ∨ l.length ≤ a)) (h1 : cO l a 40 = false) (h2 : cO l a 91 = true) (h3 : cO l (a + 1) 93 = false) : mB R l d a = y7 (R (d - 1)) l (a + 1) := by
 unfold mB; rw [aE h, aE (by simp [h1]), aG (by simp [h2, h3])]
theorem aYU {R : Nat → kJ} {l : List UInt8} {d a : Nat} (h : ¬(d < 1 ∨ l.length ≤ a)) (h1 : cO l a 40 = false) (h2 : (cO l a 91 && !cO l (a + 1) 93) = false) (h3 : fO l a rU = true) : mB R l d a = some (vr ((G9 l a - 65 : Nat) : Int), a + 1) := by
 unfold mB; rw [aE h, aE (by simp [h1]), aE (by simp [h2]), aG h3]
theorem aYA {R : Nat → kJ} {l : List UInt8} {d a : Nat} (h : ¬(d < 1 ∨ l.length ≤ a)) (h1 : cO l a 40 = false) (h2 : (cO l a 91 && !cO l (a + 1) 93) = false) (h3 : fO l a rU = false) (h4 : (fO l a dN || (cO l a 45 && fO l (a + 1) dN)) = true) : mB R l d a = match tC l a with
 | none => none
 | some (n, e) => some (.mk 2 n ⟨#[]⟩ [], e) := by
 unfold mB; rw [aE h, aE (by simp [h1]), aE (by simp [h2]), aE (by simp [h3]), aG h4]; try rfl
theorem aPZ {R : Nat → kJ} {l : List UInt8} {d a : Nat} (h : ¬(d < 1 ∨ l.length ≤ a)) (h1 : cO l a 40 = false) (h2 : (cO l a 91 && !cO l (a + 1) 93) = false) (h3 : fO l a rU = false) (h4 : (fO l a dN || (cO l a 45 && fO l (a + 1) dN)) = false) : mB R l d a = match nL l a with
 | none => none
 | some (nm, e) => if cO l e 40 = false then some (nI nm [], e) else match pW (R (d - 1)) l 41 41 (l.length + 1) (e + 1) [] with
  | none => none
  | some (ts, e') => some (nI nm ts, e' + 1) := by
 unfold mB; rw [aE h, aE (by simp [h1]), aE (by simp [h2]), aE (by simp [h3]), aE (by simp [h4])]; try rfl
abbrev j3 := zi tI_3 (zi zI_3 (zi aX (zi tI_4 (zi zI_4 (zi cG (zi tI_5 (zi zI_5 (zi kK (zi tI_8 (zi zI_8 (zi wV (zi wQ (zi v6 (zi wD (zi wR (zi tI_9 (zi zI_9 (zi cH (zi tI_31 (zi zI_31 (zi aN (zi bF (zi bE (zi cA (zi tI_40 (zi zI_40 (zi aGP (zi aHW (zi RL (zi TI (zi aEM (zi aE2 (zi aG5 (zi tI_41 (zi zI_41 (zi aQV (zi aZC (zi aV8 (zi aQE (zi aW0 (zi aQ5 (zi aTP (zi tI_63 (zi zI_63 (zi bT (zi bP (zi bS (zi bQ bU))))))))))))))))))))))))))))))))))))))))))))))))
set_option maxHeartbeats 2000000 in
theorem aN3 {s : ByteArray} {R : Nat → kJ} {a : Nat} (hR : ∀ d, d ≤ 1048576 → LN s (R d) d 3 (a + 1)) (hok : ∀ d, v8 (R d) (sb s)) (hs : s.size ≤ 1000) (ha : a ≤ s.size) (d : Nat) (hd : d ≤ 1048576) (st : aB) :
 aD prog 204 [.str s, .int .i64 (a : Int), .int .i64 (d : Int)] st (fun r st' => lR (mB R (sb s) d a) r ∧ st' = st) := by
 refine aD.MP ?_
 refine wF [1000000] 3 func204 ntmps204 rfl rfl ?_
 intro _
 generalize hP : mB R (sb s) d a = o
 simp -implicitDefEqProofs only [aA, seval, j3]
 intro b hb
 have hD := fun (o : AO) => (aM.refl st).aC (o := o) hb
 by_cases h0 : d < 1 ∨ s.size ≤ a
 case pos =>
  rw [aWM (by rw [cI]; exact h0)] at hP
  subst hP
  by_cases h01 : d < 1
  case pos =>
   have uS : ((d : Int) < 1) = True := cW (by omega)
   simp -implicitDefEqProofs only [uS, bL, aA, seval]
   refine (CB a (by omega) _).to ?_
   simp -implicitDefEqProofs only [aK, b7, cE, bO, eD (bO _), eC (aT _), kL, aA, seval, j3]
   exact ⟨w6 (by omega), hD _⟩
  case neg =>
   have uS : ((d : Int) < 1) = False := cF (by omega)
   have x7 : ((s.size : Int) ≤ (a : Int)) = True := cW (by omega)
   simp -implicitDefEqProofs only [uS, x7, bL, bX, aA, seval, j3]
   refine (CB a (by omega) _).to ?_
   simp -implicitDefEqProofs only [aK, b7, cE, bO, eD (bO _), eC (aT _), kL, aA, seval, j3]
   exact ⟨w6 (by omega), hD _⟩
 have h0' : ¬(d < 1 ∨ (sb s).length ≤ a) := by rw [cI]; exact h0
 have uS : ((d : Int) < 1) = False := cF (by omega)
 have x7 : ((s.size : Int) ≤ (a : Int)) = False := cF (by omega)
 obtain ⟨x, hx⟩ := u9 (s := s) (n := a) (by omega)
 have hix := rK (P := prog) (t := 9) cH hx
 obtain ⟨f, hf⟩ : ∃ f, f = a + 1 := ⟨_, rfl⟩
 have hw := mY (x := (a : Int) + 1) (m := f) (by omega) (by omega)
 obtain ⟨d1, hd1⟩ : ∃ d1, d1 = d - 1 := ⟨_, rfl⟩
 have hwd := mY (x := (d : Int) - 1) (m := d1) (by omega) (by omega)
 by_cases h40 : x.toNat = 40
 case pos =>
  rw [aZM h0' (by rw [rW hx, h40]; try rfl), ← hf] at hP
  have B1 : ((x.toNat : Int) = 40) = True := cW (by omega)
  simp -implicitDefEqProofs only [uS, x7, hix, B1, hw, bL, bX, aA, seval, j3]
  refine (hR d hd f _ (by omega) (by omega)).mono ?_
  rintro r _ ⟨hr, rfl⟩
  cases hRi : R d f with
  | none =>
   rw [hRi] at hr hP
   subst hP
   obtain ⟨k, hk, rfl⟩ := hr
   have hk0 : ((-1 - (k : Int)) < 0) = True := cW (by omega)
   simp -implicitDefEqProofs only [aK, aH, b7, cE, hk0, kL, bL, aA, ↓aU, seval, j3]
   exact ⟨AU hk, hD _⟩
  | some p =>
   obtain ⟨t, e2⟩ := p
   rw [hRi] at hr hP
   simp only [lR] at hr
   subst hr
   obtain ⟨k1, k2, k3⟩ := hok d f t e2 (by rw [cI]; omega) hRi
   rw [cI] at k2
   have he2 : ((e2 : Int) < 0) = False := cF (by omega)
   have hw2 := bK (n := (e2 : Int) + 1)
   simp -implicitDefEqProofs only [aH, b7, cE, he2, bX, aA, ↓aU, seval, j3]
   refine (kC s e2 41 _).to ?_
   cases h2 : cO (sb s) e2 41 with
   | true =>
    simp only [h2, ↓reduceIte] at hP
    subst hP
    simp -implicitDefEqProofs only [aK, aT, aH, b7, cE, bO, eD (bO _), eC (aT _), hw2, aA, seval, j3]
    exact ⟨qD rfl, hD _⟩
   | false =>
    simp only [h2, ↓reduceIte, jM] at hP
    subst hP
    simp -implicitDefEqProofs only [aA, seval]
    refine (CB e2 (by omega) _).to ?_
    simp -implicitDefEqProofs only [aK, b7, cE, bO, eD (bO _), eC (aT _), kL, aA, seval, j3]
    exact ⟨w6 (by omega), hD _⟩
 have g40 : cO (sb s) a 40 = false := by rw [rW hx]; exact fH h40
 have B1 : ((x.toNat : Int) = 40) = False := cF (by omega)
 -- a list
 by_cases hL : x.toNat = 91 ∧ cO (sb s) f 93 = false
 case pos =>
  obtain ⟨h91, h93⟩ := hL
  rw [a0E h0' g40 (by rw [rW hx, h91]; try rfl) (by rw [← hf]; exact h93), ← hf, ← hd1] at hP
  subst hP
  have rG : ((x.toNat : Int) = 91) = True := cW (by omega)
  simp -implicitDefEqProofs only [uS, x7, hix, B1, rG, hw, bL, bX, aA, seval, j3]
  refine (kC s f 93 _).to ?_
  rw [h93]
  simp -implicitDefEqProofs only [hw, hwd, aA, seval]
  refine (aYM (hR d1 (by omega)) (hok d1) hs f (by omega) (by omega) _).mono ?_
  rintro r _ ⟨hr, rfl⟩
  cases hI : y7 (R d1) (sb s) f with
  | none =>
   rw [hI] at hr
   obtain ⟨k, hk, rfl⟩ := hr
   simp -implicitDefEqProofs only [aK, b7, cE, bO, eD (bO _), eC (aT _), kL, aA, seval, j3]
   exact ⟨w6 hk, hD _⟩
  | some p =>
   obtain ⟨t, e2⟩ := p
   rw [hI] at hr
   simp only [lR] at hr
   subst hr
   simp -implicitDefEqProofs only [aK, b7, cE, bO, eD (bO _), eC (aT _), aA, seval, j3]
   exact ⟨qD rfl, hD _⟩
 have gL : (cO (sb s) a 91 && !cO (sb s) (a + 1) 93) = false := by
  rw [← hf, rW hx]
  rcases Nat.decEq x.toNat 91 with h | h
  · rw [fH h, gM]
  · rw [gA h, eT]
    cases h93 : cO (sb s) f 93 with
    | true => rfl
    | false => exact absurd ⟨h, h93⟩ hL
 by_cases hU : rU x = true
 case pos =>
  have hP' := aYU (R := R) h0' g40 gL (by rw [tU hx]; exact hU)
  rw [hP'] at hP
  subst hP
  have hbn : G9 (sb s) a = x.toNat := by unfold G9; rw [hx]
  simp only [rU, cM, bJ] at hU
  have rG : ((x.toNat : Int) = 91) = False := cF (by omega)
  have h65 : ((65 : Int) ≤ (x.toNat : Int)) = True := cW (by omega)
  have h90 : ((x.toNat : Int) ≤ 90) = True := cW (by omega)
  obtain ⟨y, hy⟩ : ∃ y, y = x.toNat - 65 := ⟨_, rfl⟩
  have hw2 : IntKind.wrap .u8 ((x.toNat : Int) - 65) = (y : Int) := by rw [IntKind.wrap_u8]; omega
  have hw3 := bK (n := (y : Int))
  simp -implicitDefEqProofs only [uS, x7, hix, B1, rG, h65, h90, hw2, hw3, sI, bL, bX, aA, seval, j3]
  refine (GZ (y : Int) _).to ?_
  simp -implicitDefEqProofs only [aK, b7, cE, bO, eD (bO _), eC (aT _), hw, aA, seval, j3]
  rw [hbn, ← hy, ← hf]
  exact ⟨qD rfl, hD _⟩
 have gU : fO (sb s) a rU = false := by rw [tU hx]; simpa using hU
 cases hdg : (fO (sb s) a dN || (cO (sb s) a 45 && fO (sb s) (a + 1) dN)) with
 | true =>
  have hP' := aYA (R := R) h0' g40 gL gU hdg
  rw [hP'] at hP
  by_cases hdx : dN x = true
  case' pos => have AD := hdx
  case' neg =>
   have hdx : dN x = false := by simpa using hdx
   rw [tU hx, hdx, qU, cM, rW hx, bJ] at hdg
   have AD : ((x.toNat : Int) = 45) = True := cW (by omega)
  all_goals
   by_cases h91 : x.toNat = 91
   case' pos =>
    have rG : ((x.toNat : Int) = 91) = True := cW (by omega)
    have h93 : cO (sb s) f 93 = true := by rw [rW hx, gA h91, eT, ← hf] at gL; simpa using gL
   case' neg =>
    have rG : ((x.toNat : Int) = 91) = False := cF (by omega)
    have h93 := rG
   all_goals
    by_cases h65 : 65 ≤ x.toNat
    case' pos =>
     have t8 : ((65 : Int) ≤ (x.toNat : Int)) = True := cW (by omega)
     have yB : ((x.toNat : Int) ≤ 90) = False := cF (by intro h; exact hU (by simp only [rU, cM, bJ]; omega))
    case' neg =>
     have t8 : ((65 : Int) ≤ (x.toNat : Int)) = False := cF (by omega)
     have yB := t8
   all_goals
    simp -implicitDefEqProofs only [uS, x7, hix, B1, rG, t8, yB, hw, bL, bX, aA, seval, j3]
    try
     refine (kC s f 93 _).to ?_
     rw [h93]
     simp -implicitDefEqProofs only [hix, t8, yB, bL, bX, aA, seval]
    refine (xQ s a _).to ?_
    rw [tU hx]
   all_goals
    simp -implicitDefEqProofs only [hix, hdx, AD, hw, bL, aA, seval]
    try
     refine (xQ s f _).to ?_
     rw [hf, hdg.2]
     simp -implicitDefEqProofs only [aA, seval]
    refine (aXU s hs a ha _).to ?_
    cases hn : tC (sb s) a with
    | none =>
     rw [hn] at hP
     subst hP
     simp -implicitDefEqProofs only [aH, b7, cE, zB, bL, aA, ↓aU, seval, j3]
     refine (CB a (by omega) _).to ?_
     simp -implicitDefEqProofs only [aK, b7, cE, bO, eD (bO _), eC (aT _), kL, aA, seval, j3]
     exact ⟨w6 (by omega), hD _⟩
    | some p =>
     obtain ⟨n, e⟩ := p
     rw [hn] at hP
     subst hP
     have he0 : ((e : Int) < 0) = False := cF (by omega)
     simp -implicitDefEqProofs only [aK, aT, aH, b7, cE, bO, eD (bO _), eC (aT _), zB, he0, bX, aA, ↓aU, seval, j3]
     exact ⟨qD rfl, hD _⟩
 | false =>
  have hP' := aPZ (R := R) h0' g40 gL gU hdg
  rw [hP', ← hd1] at hP
  rw [tU hx, Bool.or_eq_false_iff, rW hx, ← hf] at hdg
  have hdx := hdg.1
  by_cases h45 : x.toNat = 45
  case' pos =>
   have AD : ((x.toNat : Int) = 45) = True := cW (by omega)
   have hfd : fO (sb s) f dN = false := by have := hdg.2; rwa [gA h45, eT] at this
  case' neg =>
   have AD : ((x.toNat : Int) = 45) = False := cF (by omega)
   have hfd := AD
  all_goals
   by_cases h91 : x.toNat = 91
   case' pos =>
    have rG : ((x.toNat : Int) = 91) = True := cW (by omega)
    have h93 : cO (sb s) f 93 = true := by rw [rW hx, gA h91, eT, ← hf] at gL; simpa using gL
   case' neg =>
    have rG : ((x.toNat : Int) = 91) = False := cF (by omega)
    have h93 := rG
   all_goals
    by_cases h65 : 65 ≤ x.toNat
    case' pos =>
     have t8 : ((65 : Int) ≤ (x.toNat : Int)) = True := cW (by omega)
     have yB : ((x.toNat : Int) ≤ 90) = False := cF (by intro h; exact hU (by simp only [rU, cM, bJ]; omega))
    case' neg =>
     have t8 : ((65 : Int) ≤ (x.toNat : Int)) = False := cF (by omega)
     have yB := t8
   all_goals
    simp -implicitDefEqProofs only [uS, x7, hix, B1, rG, t8, yB, hw, bL, bX, aA, seval, j3]
    try
     refine (kC s f 93 _).to ?_
     rw [h93]
     simp -implicitDefEqProofs only [hix, t8, yB, bL, bX, aA, seval]
    refine (xQ s a _).to ?_
    rw [tU hx]
   all_goals
    simp -implicitDefEqProofs only [hix, hdx, AD, hw, bL, bX, aA, seval]
    try
     refine (xQ s f _).to ?_
     rw [hfd]
     simp -implicitDefEqProofs only [aA, seval]
    refine (P9 s hs a ha _).to ?_
    cases hn : nL (sb s) a with
    | none =>
     rw [hn] at hP
     subst hP
     simp -implicitDefEqProofs only [yA, bL, aA, seval]
     refine (CB a (by omega) _).to ?_
     simp -implicitDefEqProofs only [aK, b7, cE, bO, eD (bO _), eC (aT _), kL, aA, seval, j3]
     exact ⟨w6 (by omega), hD _⟩
    | some p =>
     obtain ⟨nm, e⟩ := p
     rw [hn] at hP
     simp only at hP
     have hel := EN (by rw [cI]; exact ha) hn
     rw [cI] at hel
     have he0 : ((e : Int) < 0) = False := cF (by omega)
     obtain ⟨f2, hf2⟩ : ∃ f2, f2 = e + 1 := ⟨_, rfl⟩
     have hwe := mY (x := (e : Int) + 1) (m := f2) (by omega) (by omega)
     simp -implicitDefEqProofs only [yA, he0, bX, aA, seval]
     refine (kC s e 40 _).to ?_
     cases h4 : cO (sb s) e 40 with
     | false =>
      rw [aG h4] at hP
      subst hP
      simp -implicitDefEqProofs only [aA, seval]
      refine (sD nm [] (by simp) _).to ?_
      simp -implicitDefEqProofs only [aK, b7, cE, bO, eD (bO _), eC (aT _), aA, seval, j3]
      exact ⟨qD rfl, hD _⟩
     | true =>
      rw [aE (by simp [h4]), ← hf2] at hP
      have h5 := nT h4
      rw [cI] at h5
      simp -implicitDefEqProofs only [hwd, hwe, aA, seval]
      refine (RN (hR d1 (by omega)) (hok d1) hs f2 (by omega) (by omega) _ (c1 := 41) (c2 := 41)).mono ?_
      rintro r _ ⟨hr, rfl⟩
      cases hT : pW (R d1) (sb s) 41 41 ((sb s).length + 1) f2 [] with
      | none =>
       rw [hT] at hr hP
       subst hP
       obtain ⟨k, hk, rfl⟩ := hr
       have hk0 : ((-1 - (k : Int)) < 0) = True := cW (by omega)
       simp -implicitDefEqProofs only [aK, hk0, bL, aA, seval, j3]
       exact ⟨AU hk, hD _⟩
      | some p =>
       obtain ⟨ts, e3⟩ := p
       rw [hT] at hr hP
       simp only [tQ] at hr hP
       subst hr hP
       obtain ⟨g1, g2, g3, g4, g5⟩ := I1 (hok d1) _ _ _ _ _ (by rw [cI]; omega) (by simp) hT
       rw [cI] at g2
       have he3 : ((e3 : Int) < 0) = False := cF (by omega)
       have hw3 := bK (n := (e3 : Int) + 1)
       simp -implicitDefEqProofs only [aK, he3, hw3, bX, aA, seval, j3]
       exact ⟨by rw [show (AV.agg [.int .i64 3, .int .i64 0, .str nm, .slice (ts.map Tm.av)]) = (nI nm ts).av from (aV ..).symm]; exact qD rfl, hD _⟩
theorem aO6 {nm : ByteArray} (h : dK nm ≠ 0) : nm ≠ ⟨#[]⟩ := by rintro rfl; exact h (by decide)
abbrev qN := zi tI_3 (zi zI_3 (zi aX (zi tI_9 (zi zI_9 (zi cH (zi tI_31 (zi zI_31 (zi aN (zi bF (zi bE (zi cA (zi tI_63 (zi zI_63 (zi bT (zi bP (zi bS (zi bQ bU)))))))))))))))))
set_option maxHeartbeats 2000000 in
theorem aYP {s : ByteArray} (hs : s.size ≤ 1000) : ∀ (n d a lv : Nat) (st : aB), a ≤ s.size → lv ≤ 3 → d ≤ 1048576 → (s.size - a) * 4 + lv < n →
 aD prog 165 [.str s, .int .i64 (a : Int), .int .i64 (d : Int), .int .i64 (lv : Int)] st (fun r st' => lR (rd (sb s) n d a lv) r ∧ st' = st) := by
 intro n
 induction n with
 | zero => intro d a lv st _ _ _ h; omega
 | succ n IH =>
 intro d a lv st ha hlv hd hn
 have hl1 : (sb s).length ≤ 1000 := by rw [cI]; exact hs
 refine aD.MP ?_
 refine wF [1000000, 10] 4 func165 ntmps165 rfl rfl ?_
 intro _
 generalize hP : rd (sb s) (n + 1) d a lv = o
 simp -implicitDefEqProofs only [aA, seval, qN]
 intro b hb
 have hD := fun (o : AO) => (aM.refl st).aC (o := o) hb
 cases lv with
 | zero =>
  simp only [rd] at hP
  have h0 : (((0 : Nat) : Int) = 0) = True := cW rfl
  simp -implicitDefEqProofs only [bL, aA, ↓aU, seval]
  refine (aN3 (R := fun d a => rd (sb s) n d a 3) (a := a) (fun d hd a' st' h1 h2 => IH d a' 3 st' h2 (by omega) hd (by omega)) (fun d => x6 hl1 n d 3) hs ha d hd _).mono ?_
  rintro r _ ⟨hr, rfl⟩
  rw [hP] at hr
  cases o with
  | none =>
   obtain ⟨k, hk, rfl⟩ := hr
   simp -implicitDefEqProofs only [aK, b7, cE, bO, eD (bO _), eC (aT _), kL, aA, seval, qN]
   exact ⟨w6 hk, hD _⟩
  | some p =>
   obtain ⟨t, e⟩ := p
   simp only [lR] at hr
   subst hr
   simp -implicitDefEqProofs only [aK, b7, cE, bO, eD (bO _), eC (aT _), aA, seval, qN]
   exact ⟨qD rfl, hD _⟩
 | succ lv =>
  simp only [rd] at hP
  have h0 : (((lv + 1 : Nat) : Int) = 0) = False := cF (by omega)
  obtain ⟨lw, hlw⟩ : ∃ lw, lw = lv + 1 := ⟨_, rfl⟩
  rw [← hlw] at hP h0 ⊢
  have hwl := mY (x := (lw : Int) - 1) (m := lv) (by omega) (by omega)
  simp -implicitDefEqProofs only [h0, hwl, bX, aA, seval]
  refine (IH d a lv _ ha (by omega) hd (by omega)).mono ?_
  rintro r _ ⟨hr, rfl⟩
  cases hRi : rd (sb s) n d a lv with
  | none =>
   rw [hRi] at hr hP
   simp only at hP
   subst hP
   obtain ⟨k, hk, rfl⟩ := hr
   have hk0 : ((0 : Int) ≤ (-1 - (k : Int))) = False := cF (by omega)
   simp -implicitDefEqProofs only [aK, b7, bO, kL, aA, ↓aU, seval, qN]
   intro b10 h10
   have hbb : b10 ≠ b := fun h => by rw [h, aB.aP] at h10; cases h10
   have NO : st b10 = none := by rwa [aB.aL _ _ hbb] at h10
   refine gY (σ := Unit) [1000000, 10] [0, 2, 3, 8, 10] (fun _ => True) (fun _ => [(9, .int .i64 0), (11, .int .i64 (-1 - (k : Int)))]) (fun _ => (st.aC b (.cells [.int .i64 0, .int .i64 0, .str ⟨#[]⟩, .fslice []])).aC b10 (.cells F8.av.cells)) (fun _ => 0) (by decide +kernel) ⟨(), trivial, aO.mk (by simp -implicitDefEqProofs only [aA, seval])⟩ ?_
   rintro _ _
   simp -implicitDefEqProofs only [aK, hk0, hbb.symm, bX, aA, seval, qN]
   exact ⟨AU hk, ((hD _).aC NO).aC hb⟩
  | some p =>
   obtain ⟨t, e⟩ := p
   rw [hRi] at hr hP
   simp only [lR] at hr hP
   subst hr
   obtain ⟨g1, g2, g3⟩ := x6 hl1 n d lv a t e (by rw [cI]; exact ha) hRi
   rw [cI] at g2 hP
   simp -implicitDefEqProofs only [aK, b7, bO, aA, ↓aU, seval, qN]
   intro b10 h10
   have hbb : b10 ≠ b := fun h => by rw [h, aB.aP] at h10; cases h10
   have NO : st b10 = none := by rwa [aB.aL _ _ hbb] at h10
   have hE : ∀ o1 o2 o3, aM (((st.aC b o1).aC b10 o2).aC b o3) st := fun o1 o2 o3 => ((hD _).aC NO).aC hb
   refine gY (σ := Tm × Nat × Nat) [1000000, 10] [0, 2, 3, 8, 10] (fun x => AZ (fun a => rd (sb s) n d a lv) (sb s) lw x.2.2 x.1 x.2.1 = o ∧ a < x.2.1 ∧ x.2.1 ≤ s.size ∧ s.size < x.2.2 + x.2.1) (fun x => [(9, .int .i64 0), (11, .int .i64 (x.2.1 : Int))]) (fun x => (st.aC b (.cells [.int .i64 0, .int .i64 0, .str ⟨#[]⟩, .fslice []])).aC b10 (.cells x.1.av.cells)) (fun x => x.2.2) (by decide +kernel) ⟨(t, e, s.size + 1), ⟨hP, g1, g2, by simp only; omega⟩, aO.mk (by simp -implicitDefEqProofs only [aA, seval])⟩ ?_
   rintro ⟨t, e, m⟩ ⟨ht, hae, hes, hm⟩
   simp only at ht hae hes hm ⊢
   obtain ⟨m, rfl⟩ : ∃ m', m = m' + 1 := ⟨m - 1, by omega⟩
   simp only [AZ] at ht
   have he0 : ((0 : Int) ≤ (e : Int)) = True := cW (by omega)
   simp -implicitDefEqProofs only [he0, bL, aA, seval]
   refine (aMI s hs e hes _).to ?_
   cases hop : o9 (sb s) e with
   | none =>
    rw [hop] at ht
    simp only at ht
    subst ht
    simp -implicitDefEqProofs only [aK, b7, cE, bO, eD (bO _), eC (aT _), MC, hbb.symm, bL, aA, seval, qN]
    exact ⟨qD rfl, hE _ _ _⟩
   | some p =>
    obtain ⟨nm, e1⟩ := p
    rw [hop] at ht
    simp only at ht
    obtain ⟨k1, k2, k3⟩ := aI8 hop
    rw [cI] at k2
    have hnm := cF (aO6 k3)
    simp -implicitDefEqProofs only [MC, hnm, bX, aA, seval]
    refine (uV nm _).to ?_
    by_cases aGD : dK nm = lw
    case neg =>
     rw [aG aGD] at ht
     subst ht
     have hne : ((dK nm : Int) = (lw : Int)) = False := cF (by omega)
     simp -implicitDefEqProofs only [aK, b7, cE, bO, eD (bO _), eC (aT _), hne, hbb.symm, bX, aA, seval, qN]
     exact ⟨qD rfl, hE _ _ _⟩
    rw [aE (by simpa using aGD)] at ht
    have hne : ((dK nm : Int) = (lw : Int)) = True := cW (by omega)
    simp -implicitDefEqProofs only [hne, hwl, bL, aA, seval]
    refine (IH d e1 lv _ k2 (by omega) hd (by omega)).mono ?_
    rintro r _ ⟨hr, rfl⟩
    cases hRj : rd (sb s) n d e1 lv with
    | none =>
     rw [hRj] at hr ht
     simp only at ht
     subst ht
     obtain ⟨k, hk, rfl⟩ := hr
     have hk0 : ((-1 - (k : Int)) < 0) = True := cW (by omega)
     simp -implicitDefEqProofs only [aK, aH, b7, cE, hk0, kL, hbb.symm, bL, aA, ↓aU, seval, qN]
     exact ⟨AU hk, hE _ _ _⟩
    | some p =>
     obtain ⟨t2, e2⟩ := p
     rw [hRj] at hr ht
     simp only [lR] at hr ht
     subst hr
     obtain ⟨q1, q2, q3⟩ := x6 hl1 n d lv e1 t2 e2 (by rw [cI]; exact k2) hRj
     rw [cI] at q2
     have he2 : ((e2 : Int) < 0) = False := cF (by omega)
     simp -implicitDefEqProofs only [aT, aH, b7, cE, bO, eD (bO _), eC (aT _), he2, bX, aA, ↓aU, seval, qN]
     refine (sD nm [t, t2] (by simp) _).to ?_
     by_cases h3 : lw = 3
     · rw [aG h3] at ht
       subst ht
       have h3' : ((lw : Int) = 3) = True := cW (by omega)
       simp -implicitDefEqProofs only [aK, b7, cE, bO, eD (bO _), eC (aT _), h3', hbb.symm, bL, aA, seval, qN]
       exact ⟨qD rfl, hE _ _ _⟩
     · rw [aE h3] at ht
       have h3' : ((lw : Int) = 3) = False := cF (by omega)
       simp -implicitDefEqProofs only [aK, b7, bO, h3', bX, aA, seval, qN]
       exact ⟨(nI nm [t, t2], e2, m), by simp only; omega, ⟨ht, by simp only; omega, q2, by simp only; omega⟩, aO.mk (by simp -implicitDefEqProofs only [aA, seval])⟩
end Go.AW
