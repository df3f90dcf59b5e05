/- The answers of a search are valid terms. -/
import Derived.Test.YtpficjlageaebaaGreatDoorStrn
import Derived.Test.YtpficjlageaebaaGreatDoorStro
import Derived.Test.YtpficjlageaebaaGreatDoorStri
import Derived.Test.YtpficjlageaebaaGreatDoorStrf
import Derived.Test.YtpficjlageaebaaGreatDoorStrh
import Derived.Test.YtpficjlageaebaaGreatDoorStrk
import Derived.Test.YtpficjlageaebaaGreatDoorStrl
import Derived.Test.YtpficjlageaebaaGreatDoorStrm
set_option linter.unusedSimpArgs false
set_option linter.unusedVariables false
set_option maxRecDepth 100000
namespace Go.AW
def aED (vars : List Int) (a : List Tm) : Prop := a.length = vars.length ∧ a.all Tm.valid = true
theorem aPW {N : Nat} {σ : Sub} (hg : cK σ) (ho : cP (bD N) σ) {vars : List Int} (hv : ∀ v ∈ vars, 0 ≤ v ∧ v < (N : Int)) {a : List Tm} (h : jL σ vars = some a) : aED vars a := by
 obtain ⟨rk, B, G⟩ := hg.rs
 unfold jL at h
 split at h
 · rename_i hh
   cases h
   obtain ⟨h1, h2⟩ := hh
   have hok : ∀ t ∈ vars.map (rs σ), bD N t := fun t ht => by
    obtain ⟨v, hvm, rfl⟩ := cU.1 ht
    have hf := eW.1 h1 _ ht
    unfold eH at hf
    simp only [cM, bJ] at hf
    exact ⟨G.kV ho.kV v (hv v hvm).1 (hv v hvm).2, hf.2⟩
   exact ⟨by rw [aZP hok, aF], by rw [aHK hok h1, bJ]; exact h2⟩
 · cases h
theorem aXU {p : List Cl} (hp : ∀ c ∈ p, gE c ∧ c.2.length ≤ 6) (hpl : p.length ≤ 20) {cnd : Tm → List Nat → List Nat} (hd : ∀ t l, (∀ i ∈ cnd t l, i ∈ l) ∧ (cnd t l).length ≤ l.length) {vars : List Int} (hv : ∀ v ∈ vars, 0 ≤ v ∧ v < 26) :
 ∀ (n most fuel : Nat) (s : RS) (B : Nat), most + fuel ≤ n → lD p B s → B + 26 * fuel ≤ 8000 → (jX p cnd vars most fuel s).1.length ≤ most ∧ ∀ a ∈ (jX p cnd vars most fuel s).1, aED vars a := by
 intro n
 induction n with
 | zero =>
  intro most fuel s B hn hs hB
  obtain rfl : most = 0 := by omega
  obtain rfl : fuel = 0 := by omega
  cases hg : s.goals with
  | nil => rw [GA hg]; simp
  | cons g rest => rw [xW hg]; simp
 | succ n ih =>
  intro most fuel s B hn hs hB
  cases hg : s.goals with
  | nil =>
   rw [GA hg]
   by_cases hm : most = 0
   · rw [aG hm]; simp
   rw [aE hm]
   cases ha : jL s.σ vars with
   | none => simp
   | some a =>
    have hok := aPW hs.a.gI hs.a.ok (fun v h => ⟨(hv v h).1, by have := (hv v h).2; have := hs.l.1; omega⟩) ha
    simp only
    cases hb : f9 p s.chs.length s.chs with
    | none =>
     simp only [aS, a7, cY, dP, d4]
     exact ⟨by omega, fun x hx => by rw [hx]; exact hok⟩
    | some s' =>
     obtain ⟨h1, h2⟩ := ih (most - 1) fuel s' B (by omega) (hs.back hp (by omega) hb) hB
     simp only [aS, cY]
     refine ⟨by omega, fun x hx => ?_⟩
     rcases hx with rfl | hx
     · exact hok
     · exact h2 x hx
  | cons g rest =>
   rw [xW hg]
   by_cases hf : fuel = 0
   · rw [aG hf]; simp
   rw [aE hf]
   cases hst : iX p cnd s g rest with
   | stop e => simp
   | go s' => exact ih most (fuel - 1) s' (B + 26) (by omega) (hs.step hp (by omega) (by omega) hd hg hst) (by omega)
   | fail =>
    simp only
    cases hb : f9 p s.chs.length s.chs with
    | none => simp
    | some s' => exact ih most (fuel - 1) s' B (by omega) (hs.back hp (by omega) hb) (by omega)
theorem aSY {q : List Tm} (hq : ∀ t ∈ q, bD 26 t ∧ t.k = 3) : (∀ v ∈ bY q [], 0 ≤ v ∧ v < 26) ∧ (bY q []).length ≤ 26 := by
 have hv : ∀ v ∈ bY q [], 0 ≤ v ∧ v < 26 := fun v hv => by
  rcases (w6 q [] fun t ht => (hq t ht).1.1.2.1).1 hv with h | ⟨t, ht, h⟩
  · cases h
  · exact (hq t ht).1.1.2.2 v h
 refine ⟨hv, ?_⟩
 have hnd := HX q [] (fun t ht => Tm.sN t (hq t ht).1.1.2.1) pW
 exact A0 (N := 26) hnd fun n hn => hv n hn
theorem aVM (p : List Cl) {cnd : Tm → List Nat → List Nat} (hd : ∀ t l, (∀ i ∈ cnd t l, i ∈ l) ∧ (cnd t l).length ≤ l.length) (q : List Tm) (most fuel : Int) : (iJ p cnd q most fuel).1.length ≤ 20 ∧ ∀ a ∈ (iJ p cnd q most fuel).1, a.length ≤ 26 ∧ a.all Tm.valid = true := by
 unfold iJ
 split
 · rename_i h
   simp only [iF, cM, bJ] at h
   obtain ⟨hp, hq, h1, h2, h3, h4⟩ := h
   obtain ⟨p1, p2⟩ := MK hp
   obtain ⟨q1, q2⟩ := I8 hq
   obtain ⟨v1, v2⟩ := aSY q2
   obtain ⟨r1, r2⟩ := aXU p2 p1 hd v1 _ most.toNat fuel.toNat (lR q) 26 (c7 _) (lD.start q2 q1) (by omega)
   unfold rV
   refine ⟨by omega, fun a ha => ?_⟩
   obtain ⟨h5, h6⟩ := r2 a ha
   exact ⟨by omega, h6⟩
 · simp
end Go.AW
namespace Go.AW
open Go.Proofs.Tryz
theorem zB.aSV {st st' : aB} {a o : AV} {k : IntKind} {n : Int} (h : Made st a o st') : zB st [a, .int k n] (.tup [o, .int k n]) st' := by
 obtain ⟨bs, h1, h2, h3, h4⟩ := h
 exact ⟨_, bs, rfl, h1, h2, aRP.2 ⟨o, .int k n, bs, [], rfl, by simp, h3, ⟨rfl, rfl⟩⟩, h4⟩
def aA9 (st : aB) (L : List AV) (e : Int) (r : AV) (st' : aB) : Prop := ∃ o, r = .tup [o, .int .i64 e] ∧ Made st (.slice L) o st' ∧ (L = [] → o = .fslice [])
structure tM (st : aB) (L : List AV) (b i : Nat) (os : List AV) (bs : List Nat) (s : aB) : Prop where
 len : os.length = i
 own : cE s (L.take i) os bs
 nd : bs.Nodup
 new : ∀ q ∈ bs, st q = none
 bn : L ≠ [] → b ∉ bs
 cell : L ≠ [] → s b = some (.cells (os.flatMap AV.cells ++ (L.drop i).flatMap AV.cells))
 a8 : ∀ q, q ∉ bs → (L ≠ [] → q ≠ b) → s q = st q
theorem tM.start {st : aB} {L : List AV} {b : Nat} : tM st L b 0 [] [] (aZ st b L) := by
 refine ⟨rfl, by simp [cE], pW, by simp, by simp, fun h => ?_, fun q _ h => ?_⟩
 · rw [jF h, aB.aO]; try rfl
 · cases L with
   | nil => rfl
   | cons x l => exact pP (h (by simp))
theorem tM.done {st s : aB} {L os : List AV} {b w : Nat} {bs : List Nat} (h : tM st L b L.length os bs s) (hb : L ≠ [] → st b = none) (hw : ∀ e ∈ L, e.width = w) : Made st (.slice L) (a9 w b L) s := by
 obtain ⟨h1, h2, h3, h4, h5, h6, h7⟩ := h
 rw [eS] at h2
 by_cases hL : L = []
 · subst hL
   simp only [cE] at h2
   obtain ⟨rfl, rfl⟩ := h2
   exact ⟨[], pW, by simp, .inl ⟨rfl, rfl, rfl⟩, fun q hq => h7 q hq (fun h => absurd rfl h)⟩
 · refine ⟨b :: bs, List.nodup_cons.2 ⟨h5 hL, h3⟩, fun q hq => ?_, ?_, fun q hq => ?_⟩
   · rcases cY.1 hq with rfl | hq
     · exact hb hL
     · exact h4 q hq
   · rw [oE hL]
     refine .inr ⟨b, bs, os, w, rfl, rfl, ?_, h2, hw⟩
     have := h6 hL
     rw [kF] at this
     simpa using this
   · simp only [cY, not_or] at hq
     exact h7 q hq.2 fun _ => hq.1
theorem tM.step {st s s2 : aB} {L os B : List AV} {b i : Nat} {bs bx : List Nat} {e r : AV} (h : tM st L b i os bs s) (he : L[i]? = some (.agg [e])) (hB : (L.drop (i + 1)).flatMap AV.cells = B) (m1 : bx.Nodup) (m2 : ∀ q ∈ bx, s q = none) (m3 : cL s2 e r bx) (m4 : ∀ q, q ∉ bx → s2 q = s q) :
 tM st L b (i + 1) (os ++ [.agg [r]]) (bs ++ bx) (s2.aC b (.cells (os.flatMap AV.cells ++ [r] ++ B))) := by
 obtain ⟨h1, h2, h3, h4, h5, h6, h7⟩ := h
 have hi : i < L.length := (gQ.1 he).1
 have hL : L ≠ [] := by rintro rfl; simp at hi
 have CW := cE.g7 _ _ _ h2
 have v6 : ∀ q ∈ bs, s q ≠ none := fun q hq => by obtain ⟨cs, e1, _⟩ := CW.2 q hq; rw [e1]; simp
 have hsb := h6 hL
 have hbx : b ∉ bx := fun hq => by have := m2 b hq; rw [hsb] at this; cases this
 have BC : ∀ q ∈ bs, q ∉ bx := fun q hq hq' => v6 q hq (m2 q hq')
 have hbs : ∀ q ∈ bs, (s2.aC b (.cells (os.flatMap AV.cells ++ [r] ++ B))) q = s q := fun q hq => by
  rw [aB.aM _ _ (by rintro rfl; exact h5 hL hq), m4 q (BC q hq)]
 refine ⟨by simp [h1], ?_, tU.2 ⟨h3, m1, fun a ha c hc e => BC a ha (e ▸ hc)⟩, fun q hq => ?_, fun _ hq => ?_, fun _ => ?_, fun q hq hne => ?_⟩
 · rw [fM, he, G0]
   refine h2.snoc hbs ?_
   refine aNW.2 ⟨r, rfl, cL.a8 _ _ _ (fun x hx => ?_) m3⟩
   exact aB.aM _ _ (by rintro rfl; exact hbx hx)
 · rcases fR.1 hq with hq | hq
   · exact h4 q hq
   · have h8 : q ∉ bs := fun h => BC q h hq
     have h9 : q ≠ b := by rintro rfl; exact hbx hq
     rw [← h7 q h8 fun _ => h9]
     exact m2 q hq
 · rcases fR.1 hq with hq | hq
   · exact h5 hL hq
   · exact hbx hq
 · rw [aB.aO, hB]
   simp [AV.cells]
 · simp only [fR, not_or] at hq
   rw [aB.aM _ _ (hne hL), m4 q hq.2, h7 q hq.1 hne]
abbrev W2 := zi tI_3 (zi zI_3 (zi aX (zi tI_4 (zi zI_4 (zi cF (zi tI_26 (zi zI_26 (zi qR (zi tP (zi sO (zi vO (zi tI_29 (zi zI_29 (zi gZ (zi j8 (zi j6 (zi kU (zi tI_31 (zi zI_31 (zi aN (zi bF (zi bE (zi b9 (zi tI_82 (zi zI_82 (zi C3 (zi AG (zi tI_112 zI_112))))))))))))))))))))))))))))
set_option maxHeartbeats 2000000 in
theorem aSC (p : List Cl) {cnd : Tm → List Nat → List Nat} (hc : ∀ (ρ : Int → Int) (t : Tm) (l : List Nat), cnd (bV ρ t) l = cnd t l) (hd : ∀ t l, (∀ i ∈ cnd t l, i ∈ l) ∧ (cnd t l).length ≤ l.length) {idx : Bool} (AC : QL p idx cnd) (zL : idx = false)
 (q : List Tm) (most fuel : Int) (st : aB) :
 aD prog 46 [.slice (p.map b7), .slice (q.map Tm.av), .int .i64 most, .int .i64 fuel, .bool idx] st (aA9 st ((iJ p cnd q most fuel).1.map c9) (iJ p cnd q most fuel).2) := by
 have aER := aTV p q most fuel
 have DW := aVM p hd q most fuel
 refine wF [1000000] 5 func46 ntmps46 rfl rfl ?_
 intro _
 simp -implicitDefEqProofs only [aA, seval]
 refine (aER _).to ?_
 simp -implicitDefEqProofs only [aA, seval]
 refine aQ (fun h => ?_) (fun h => ?_)
 · have hS : iJ p cnd q most fuel = ([], 9) := by
    unfold iJ
    rw [aE (by rw [show iF p q most fuel = false from by unfold iF; simpa only [lX] using h]; simp)]
   rw [hS]
   simp -implicitDefEqProofs only [aA, seval]
   exact ⟨_, rfl, ⟨[], pW, by simp, .inl ⟨rfl, rfl, rfl⟩, fun _ _ => rfl⟩, fun _ => rfl⟩
 have hok : iF p q most fuel = true := by unfold iF; simpa using h
 have hk := hok
 simp only [iF, cM, bJ] at hk
 obtain ⟨kp, kq, k1, k2, k3, k4⟩ := hk
 obtain ⟨p1, p2⟩ := MK kp
 obtain ⟨q1, q2⟩ := I8 kq
 have hTT : iJ p cnd q most fuel = jA p cnd (bY q []) most.toNat fuel.toNat (nU q) := by
  unfold iJ
  rw [aG hok, aQ1 (fun c h => (p2 c h).1) hc q2]
 rw [hTT] at DW ⊢
 clear hTT aER hok h
 obtain ⟨mo, rfl⟩ := tT k1
 obtain ⟨fu, rfl⟩ := tT k3
 rw [lY, lY] at DW ⊢
 simp -implicitDefEqProofs only [aA, seval]
 refine (aW3 p q (fu : Int) idx (by omega) st).mono ?_
 rintro _ s1 ⟨S, c, m, rfl, hA⟩
 simp -implicitDefEqProofs only [aA, seval]
 refine (aVB p2 p1 hc hd AC zL q2 q1 (most := mo) (fuel := fu) (by omega) (by omega) hA).mono ?_
 generalize jA p cnd (bY q []) mo fu (nU q) = T at DW ⊢
 rintro _ _ ⟨b, s2, rfl, rfl, hb, hD⟩
 obtain ⟨L, e⟩ := T
 simp only at DW hb ⊢
 have hb' : L.map c9 ≠ [] → st b = none := fun h => (hD b).1 (hb h)
 have hun : prog.underlying 26 = some (.slice 82) := by kernel_rfl
 have sR := sU (w := 1) (b := b) (l := L.map c9) hun
 rw [aF] at sR
 have hwd : ∀ e ∈ L.map c9, e.width = 1 := fun e he => by simp only [cU] at he; obtain ⟨t, _, rfl⟩ := he; rfl
 simp -implicitDefEqProofs only [sR, aA, seval]
 refine eK (σ := List AV × List Nat × aB) [1000000] [10, 11, 12, 13, 32, 33] L (fun j x => tM st (L.map c9) b j x.1 x.2.1 x.2.2) (fun j x => [(34, .int .i64 j)]) (fun j x => x.2.2) (by decide +kernel) ⟨([], [], aZ st b (L.map c9)), tM.start, aP.drop (LY hD) (by simp -implicitDefEqProofs only [aA, ↓aU, seval])⟩ (fun j a x hx hlt bU hdr hinv => ?_) (fun x hge hinv => ?_)
 case refine_2 =>
  simp -implicitDefEqProofs only [hge, m6, aA, seval]
  have aPD : tM st (L.map c9) b (L.map c9).length x.1 x.2.1 x.2.2 := by rw [aF]; exact hinv
  exact ⟨_, rfl, aPD.done hb' hwd, fun h => by rw [h]; try rfl⟩
 obtain ⟨os, bs, s⟩ := x
 simp only at hinv
 have hw := bK (n := (j : Int) + 1)
 have hne : L.map c9 ≠ [] := by intro h; have := nZ List.length h; simp at this; subst this; simp at hlt
 have xA : (L.map c9)[j]? = some (.agg [.slice (a.map Tm.av)]) := by rw [oT, hx]; try rfl
 have hc2 := hinv.cell hne
 have aYF : ((L.map c9).drop j).flatMap AV.cells = [.slice (a.map Tm.av)] ++ ((L.map c9).drop (j + 1)).flatMap AV.cells := by
  rw [← List.map_drop, hdr, bA, tR, List.map_drop]; try rfl
 rw [aYF, ← nX] at hc2
 have hA2 : (os.flatMap AV.cells).length = j * 1 := by
  rw [hinv.own.TC (fun q hq => hwd q (lW hq)), d7, aF, lC (by omega)]
 obtain ⟨e1, e2, e3, e4, e5, e6⟩ := QM (B := ((L.map c9).drop (j + 1)).flatMap AV.cells) hA2
 have hat := zE (P := prog) (b := b) (w := 1) (i := j) qR (len := (L.map c9).length) (by rw [aF]; omega)
 have htk : List.take 1 (List.drop (j * 1) (os.flatMap AV.cells ++ [.slice (a.map Tm.av)] ++ ((L.map c9).drop (j + 1)).flatMap AV.cells)) = [.slice (a.map Tm.av)] := by
  rw [nX, List.drop_append, List.drop_of_length_le (by omega), hA2]
  simp
 obtain ⟨hal, hav⟩ := DW.2 a (cW hx)
 rw [oE hne] at sR ⊢
 rw [aF] at hat sR ⊢
 simp -implicitDefEqProofs only [bU, hat, hc2, htk, e5, aA, ↓aU, seval, W2]
 refine (aGL a _ (by omega) fun x hx s => aKY x s (Tm.aPX (eW.1 hav x hx))).mono ?_
 rintro r s3 ⟨bx, m1, m2, m3, m4⟩
 have hbx : b ∉ bx := fun h => by have := m2 b h; rw [hc2] at this; cases this
 have f1 := (m4 b hbx).trans hc2
 obtain ⟨hqc, hqs, hqa, hqw, hqj⟩ := cL.Z7 m3
 simp -implicitDefEqProofs only [hat, f1, hqc, hqs, e4, e5, GV, List.set_cons_zero, aA, seval, W2]
 exact ⟨(os ++ [.agg [r]], bs ++ bx, s3.aC b (.cells (os.flatMap AV.cells ++ [r] ++ ((L.map c9).drop (j + 1)).flatMap AV.cells))), hinv.step xA rfl m1 m2 m3 m4, aP.mk (by simp -implicitDefEqProofs only [hw, aA, seval])⟩
theorem aNT (p : List Cl) (q : List Tm) (most fuel : Int) (st : aB) :
 aD prog 36 [.slice (p.map b7), .slice (q.map Tm.av), .int .i64 most, .int .i64 fuel] st (aA9 st ((iJ p (fun _ l => l) q most fuel).1.map c9) (iJ p (fun _ l => l) q most fuel).2) := by
 refine wF [1000000] 4 func36 ntmps36 rfl rfl ?_
 intro _
 simp -implicitDefEqProofs only [aA, seval]
 refine (aSC p (cnd := fun _ l => l) (fun _ _ _ => rfl) (fun _ l => ⟨fun _ h => h, c7 _⟩) (idx := false) (fun _ => rfl) rfl q most fuel st).mono ?_
 intro r s1 h
 obtain ⟨o, rfl, hM, hN⟩ := h
 obtain ⟨hqc, hqs, hqa, hqw, hqj⟩ := cL.Z7 hM.choose_spec.2.2.1
 simp -implicitDefEqProofs only [hqj, aA, seval]
 exact ⟨_, rfl, hM, hN⟩
theorem aFA (p : List Cl) (q : List Tm) (most fuel : Int) (st : aB) :
 aD prog 36 [.slice (p.map b7), .slice (q.map Tm.av), .int .i64 most, .int .i64 fuel] st (zB st [.slice ((iJ p (fun _ l => l) q most fuel).1.map c9), .int .i64 (iJ p (fun _ l => l) q most fuel).2]) :=
 (aNT p q most fuel st).mono fun _ _ ⟨o, h1, h2, _⟩ => by subst h1; exact zB.aSV h2





end Go.AW
namespace Go.AW
mutual
def AV.deep : AV → AV
 | .fslice es => .slice (j9 es)
 | .slice es => .slice (j9 es)
 | .agg cs => .agg (j9 cs)
 | a => a
def j9 : List AV → List AV
 | [] => []
 | a :: us => a.deep :: j9 us
end
theorem xL : ∀ us : List AV, (j9 us).length = us.length
 | [] => rfl
 | a :: us => by simp [j9, xL us]
theorem YZ (a : AV) : a.deep.width = a.width := by cases a <;> simp [AV.deep, AV.width, xL]
theorem TS : ∀ {us : List AV} {e : AV}, e ∈ j9 us → ∃ x ∈ us, e = x.deep
 | [], e, h => by simp [j9] at h
 | a :: us, e, h => by
  simp only [j9, cY] at h
  rcases h with rfl | h
  · exact ⟨a, by simp, rfl⟩
  · obtain ⟨x, hx, rfl⟩ := TS h
    exact ⟨x, by simp [hx], rfl⟩
theorem PT {us : List AV} (h : gT us) : gT (j9 us) := by
 obtain ⟨k, hk⟩ := h
 refine ⟨k, fun e he => ?_⟩
 obtain ⟨x, hx, rfl⟩ := TS he
 rw [YZ]; exact hk x hx
section
variable {h : bH} {st : aB}
mutual
theorem VC.deep : ∀ (a : AV) (cs : List Value), VC h st a cs → VC h st a.deep cs
 | .fslice es, cs, x => by
  simp only [AV.deep]
  unfold VC at x ⊢
  rcases x with ⟨x, rfl⟩ | ⟨b, off, e, l, r1, r2, r3, r4⟩
  · exact .inl ⟨x, rfl⟩
  · exact .inr ⟨b, off, es.length, by rw [xL]; exact e, by rw [xL]; exact c7 _, l, r1, r2, PT r3, cX.deep es b off r4⟩
 | .slice es, cs, x => by
  simp only [AV.deep]
  unfold VC at x ⊢
  rcases x with ⟨x, rfl⟩ | ⟨b, off, cap, e, l1, l2, r1, r2, r3, r4⟩
  · exact .inl ⟨x, rfl⟩
  · exact .inr ⟨b, off, cap, by rw [xL]; exact e, by rw [xL]; exact l1, l2, r1, r2, PT r3, cX.deep es b off r4⟩
 | .agg us, cs, x => by simp only [VC, AV.deep] at x ⊢; exact aY.deep us cs x
 | .tup _, cs, x => x
 | .mslice _ _ _ _, cs, x => x
 | .junk, cs, x => x
 | .undef, cs, x => x
 | .int _ _, cs, x => x
 | .bool _, cs, x => x
 | .str _, cs, x => x
 | .nilptr, cs, x => x
 | .ptr _ _, cs, x => x
 | .pptr _, cs, x => x
 | .nilmap, cs, x => x
 | .map _, cs, x => x
 | .func _ _, cs, x => x
 | .raw _, cs, x => x
 | .eslice, cs, x => x
theorem aY.deep : ∀ (us : List AV) (cs : List Value), aY h st us cs → aY h st (j9 us) cs
 | [], _, x => x
 | a :: us, cs, x => by
  simp only [aY, j9] at x ⊢
  obtain ⟨c, r, e, x1, x2⟩ := x
  exact ⟨c, r, e, VC.deep a [c] x1, aY.deep us r x2⟩
theorem cX.deep : ∀ (us : List AV) (b off : Nat), cX h st b off us → cX h st b off (j9 us)
 | [], _, _, x => x
 | a :: us, b, off, x => by
  simp only [cX, j9, YZ] at x ⊢
  obtain ⟨⟨cs, x1, x2, x3⟩, x4⟩ := x
  exact ⟨⟨cs, x1, x2, VC.deep a cs x3⟩, cX.deep us b _ x4⟩
end
theorem aR.deep {a : AV} {v : Value} (x : aR h st a v) : aR h st a.deep v := by
 cases a
 case fslice => exact ⟨x.1, VC.deep _ _ x.2⟩
 case slice => exact ⟨x.1, VC.deep _ _ x.2⟩
 case agg => exact ⟨x.1, VC.deep _ _ x.2⟩
 all_goals exact x
end
end Go.AW
namespace Go.AW
open Go.Proofs.Tryz
mutual
theorem Tm.aMS : ∀ t : Tm, t.av.deep = t.av
 | .mk k n s ts => by rw [aV]; simp only [AV.deep, j9, P3 ts]
theorem P3 : ∀ ts : List Tm, j9 (ts.map Tm.av) = ts.map Tm.av
 | [] => rfl
 | t :: ts => by simp only [bA, j9, Tm.aMS t, P3 ts]
end
theorem aTB (l : List Tm) : kW Tm.same l l = true := (NP (fun x _ y => Tm.I9 x y)).2 rfl
abbrev aO4 := zi tI_4 (zi zI_4 (zi cF (zi tI_31 (zi zI_31 (zi aN (zi bF (zi bE (zi b9 (zi tI_82 (zi zI_82 (zi C3 AG)))))))))))
theorem aP9 (l l' : List Tm) (st : aB) : aD prog 66 [c9 l, c9 l'] st (fun r st' => r = .bool (kW Tm.same l l') ∧ st' = st) := by
 refine wF [1000000] 2 func66 ntmps66 rfl rfl ?_
 intro _
 simp -implicitDefEqProofs only [c9, aA, seval, aO4]
 refine (aAT l l' 99 _ fun x _ y s => QX x y s).to ?_
 simp -implicitDefEqProofs only [aA, seval]
abbrev I1 := zi tI_3 (zi zI_3 (zi aX (zi tI_4 (zi zI_4 (zi cF (zi tI_26 (zi zI_26 (zi qR (zi tP (zi sO (zi vO (zi tI_82 (zi zI_82 (zi C3 AG))))))))))))))
theorem KK (L : List (List Tm)) (st : aB) : aD prog 38 [.slice (L.map c9), .slice (L.map c9)] st (fun r st' => r = .bool true ∧ st' = st) := by
 refine wF [1000000] 2 func38 ntmps38 rfl rfl ?_
 simp only [eE, AV.fits, eM, aF]
 intro ⟨⟨hl, _⟩, _⟩
 simp -implicitDefEqProofs only [bM, aF, aA, seval, I1]
 refine eK (σ := Unit) [1000000] [0, 1] L (fun _ _ => True) (fun i _ => [(4, .bool false), (5, .int .i64 i)]) (fun _ _ => st) (by decide +kernel) ⟨(), trivial, aP.mk (by simp -implicitDefEqProofs only [aA, ↓aU, seval])⟩ (fun i x _ hx hlt bU hdr _ => ?_) (fun _ hge _ => ?_)
 case refine_2 =>
  simp -implicitDefEqProofs only [hge, aF, aA, seval, I1]
 have hw := bK (n := (i : Int) + 1)
 have hat : dJ prog 26 (.slice (L.map c9)) (.int .i64 (i : Int)) = some (.pptr (c9 x)) := bL (av := c9) qR hx rfl
 simp -implicitDefEqProofs only [bU, aF, aA, seval, I1]
 refine wX [(0, 1), (1, 1), (2, 1), (3, 1), (4, 1), (5, 1), (6, 1), (7, 1), (8, 0), (9, 1)] [0, 1, 2, 3, 4, 5, 6, 7, 9] dY mixed rfl f0 ?_
 simp -implicitDefEqProofs only [hat, aA, seval, I1]
 refine (aP9 x x _).to ?_
 rw [aTB]
 simp -implicitDefEqProofs only [hw, aA, seval]
 refine ⟨f0, ?_⟩
 exact ⟨(), aP.mk (by simp -implicitDefEqProofs only [aA, seval])⟩

def oH (s : ByteArray) (a : Int) (p : UInt8 → Bool) : Bool := decide (0 ≤ a) && (decide (a < (s.size : Int)) && (match (sb s)[a.toNat]? with | some x => p x | none => false))
def vU (s : ByteArray) (a : Int) (c : Nat) : Bool := oH s a fun x => decide (x.toNat = c)
def w7 (s : ByteArray) (a : Int) : Bool := oH s a fun x => decide (48 ≤ x.toNat) && decide (x.toNat ≤ 57)
def xE (s : ByteArray) (a : Int) : Bool := oH s a letter
theorem uA {s : ByteArray} {n : Nat} (h : n < s.size) : ∃ x, (sb s)[n]? = some x := ⟨_, fG (by rw [cJ]; exact h)⟩
abbrev aKJ := zi tI_3 (zi zI_3 (zi aX (zi tI_4 (zi zI_4 (zi cF (zi tI_5 (zi zI_5 (zi kN (zi tI_9 (zi zI_9 cH))))))))))
theorem aQT (s : ByteArray) (a : Int) (c : Nat) (st : aB) : aD prog 166 [.str s, .int .i64 a, .int .u8 (c : Int)] st (fun r st' => r = .bool (vU s a c) ∧ st' = st) := by
 by_cases h : 0 ≤ a ∧ a < (s.size : Int)
 · obtain ⟨n, rfl⟩ := tT h.1
   obtain ⟨x, hx⟩ := uA (s := s) (n := n) (by omega)
   have hix := rA (P := prog) (t := 9) cH hx
   have hv : vU s (n : Int) c = decide (x.toNat = c) := by simp only [vU, oH, lY, hx, gB h.1, gB h.2, eT]
   rw [hv]
   refine wF [1000000] 3 func166 ntmps166 rfl rfl ?_
   intro _
   repeat' (first
    | (simp -implicitDefEqProofs only [*, aA, seval, aKJ])
    | (refine cS (fun h => ?_) (fun h => ?_))
    | (refine aQ (fun h => ?_) (fun h => ?_)))
   all_goals simp_all
   omega
 · by_cases h1 : 0 ≤ a
   · have h2 : ¬ a < (s.size : Int) := fun h2 => h ⟨h1, h2⟩
     have hv : vU s a c = false := by simp only [vU, oH, fH h2, gK, tV]
     rw [hv]
     clear hv h
     refine wF [1000000] 3 func166 ntmps166 rfl rfl ?_
     intro _
     simp -implicitDefEqProofs only [h1, h2, bM, bX, aA, seval, aKJ]
   · have hv : vU s a c = false := by simp only [vU, oH, fH h1, gK]
     rw [hv]
     clear hv h
     refine wF [1000000] 3 func166 ntmps166 rfl rfl ?_
     intro _
     simp -implicitDefEqProofs only [h1, bX, aA, seval]
abbrev aJA := zi tI_3 (zi zI_3 (zi aX (zi tI_4 (zi zI_4 (zi cF (zi tI_5 (zi zI_5 (zi kN (zi tI_9 (zi zI_9 cH))))))))))
theorem aT4 (s : ByteArray) (a : Int) (st : aB) : aD prog 222 [.str s, .int .i64 a] st (fun r st' => r = .bool (w7 s a) ∧ st' = st) := by
 by_cases h : 0 ≤ a ∧ a < (s.size : Int)
 · obtain ⟨n, rfl⟩ := tT h.1
   obtain ⟨x, hx⟩ := uA (s := s) (n := n) (by omega)
   have hix := rA (P := prog) (t := 9) cH hx
   have hv : w7 s (n : Int) = (decide (48 ≤ x.toNat) && decide (x.toNat ≤ 57)) := by simp only [w7, oH, lY, hx, gB h.1, gB h.2, eT]
   rw [hv]
   refine wF [1000000] 2 func222 ntmps222 rfl rfl ?_
   intro _
   repeat' (first
    | (simp -implicitDefEqProofs only [*, aA, seval, aJA])
    | (refine cS (fun h => ?_) (fun h => ?_))
    | (refine aQ (fun h => ?_) (fun h => ?_)))
   all_goals clear hix hv hx
   all_goals (congr 1; rw [vM]; simp only [cM, bJ, dH, oU, jC, false_iff, not_and] at *; omega)
 · by_cases h1 : 0 ≤ a
   · have h2 : ¬ a < (s.size : Int) := fun h2 => h ⟨h1, h2⟩
     have hv : w7 s a = false := by simp only [w7, oH, fH h2, gK, tV]
     rw [hv]
     clear hv h
     refine wF [1000000] 2 func222 ntmps222 rfl rfl ?_
     intro _
     simp -implicitDefEqProofs only [h1, h2, bM, bX, aA, seval, aJA]
   · have hv : w7 s a = false := by simp only [w7, oH, fH h1, gK]
     rw [hv]
     clear hv h
     refine wF [1000000] 2 func222 ntmps222 rfl rfl ?_
     intro _
     simp -implicitDefEqProofs only [h1, bX, aA, seval]
abbrev aAW := zi tI_3 (zi zI_3 (zi aX (zi tI_4 (zi zI_4 (zi cF (zi tI_5 (zi zI_5 (zi kN (zi tI_9 (zi zI_9 cH))))))))))
theorem aPF (s : ByteArray) (a : Int) (st : aB) : aD prog 238 [.str s, .int .i64 a] st (fun r st' => r = .bool (xE s a) ∧ st' = st) := by
 by_cases h : 0 ≤ a ∧ a < (s.size : Int)
 · obtain ⟨n, rfl⟩ := tT h.1
   obtain ⟨x, hx⟩ := uA (s := s) (n := n) (by omega)
   have hix := rA (P := prog) (t := 9) cH hx
   have hv : xE s (n : Int) = (decide (97 ≤ x.toNat) && decide (x.toNat ≤ 122)) := by simp only [xE, oH, letter, lY, hx, gB h.1, gB h.2, eT]
   rw [hv]
   refine wF [1000000] 2 func238 ntmps238 rfl rfl ?_
   intro _
   repeat' (first
    | (simp -implicitDefEqProofs only [*, aA, seval, aAW])
    | (refine cS (fun h => ?_) (fun h => ?_))
    | (refine aQ (fun h => ?_) (fun h => ?_)))
   all_goals clear hix hv hx
   all_goals (congr 1; rw [vM]; simp only [cM, bJ, dH, oU, jC, false_iff, not_and] at *; omega)
 · by_cases h1 : 0 ≤ a
   · have h2 : ¬ a < (s.size : Int) := fun h2 => h ⟨h1, h2⟩
     have hv : xE s a = false := by simp only [xE, oH, fH h2, gK, tV]
     rw [hv]
     clear hv h
     refine wF [1000000] 2 func238 ntmps238 rfl rfl ?_
     intro _
     simp -implicitDefEqProofs only [h1, h2, bM, bX, aA, seval, aAW]
   · have hv : xE s a = false := by simp only [xE, oH, fH h1, gK]
     rw [hv]
     clear hv h
     refine wF [1000000] 2 func238 ntmps238 rfl rfl ?_
     intro _
     simp -implicitDefEqProofs only [h1, bX, aA, seval]
end Go.AW
namespace Go.AW
abbrev ba (l : List UInt8) : ByteArray := ⟨⟨l⟩⟩
def dN (x : UInt8) : Bool := decide (48 ≤ x.toNat) && decide (x.toNat ≤ 57)
def rW (x : UInt8) : Bool := decide (65 ≤ x.toNat) && decide (x.toNat ≤ 90)
def cO (l : List UInt8) (n c : Nat) : Bool := match l[n]? with | some x => decide (x.toNat = c) | none => false
def fN (l : List UInt8) (n : Nat) (p : UInt8 → Bool) : Bool := match l[n]? with | some x => p x | none => false
def nB (l : List UInt8) : Nat := l.foldl (fun n x => n * 10 + (x.toNat - 48)) 0
def gW (l : List UInt8) : Nat × Bool := if l.length = 0 ∨ (cO l 0 48 = true ∧ 1 < l.length) then (0, false) else (nB l, true)
def tQ (l : List UInt8) (a : Nat) : Option (Int × Nat) :=
 let f := if cO l a 45 then a + 1 else a
 let t := ((l.drop f).takeWhile dN).take 4
 if (gW t).2 = false ∨ (a < f ∧ (gW t).1 = 0) ∨ 999 < (gW t).1 then none else some (if a < f then -((gW t).1 : Int) else ((gW t).1 : Int), f + t.length)
def j4 (l : List UInt8) (b g : ByteArray) : ByteArray := if l.take g.size = sb g ∧ b.size < g.size then g else b
def nO (l : List UInt8) (a : Nat) : Option (ByteArray × Nat) :=
 let t := (l.drop a).takeWhile letter
 if 6 < t.length then none else if 0 < t.length then some (ba t, a + t.length)
 else let b := iS.foldl (j4 (l.drop a)) ⟨#[]⟩
  if b.size = 0 then none else some (b, a + b.size)
theorem aIM {l : List UInt8} {i : Nat} {x : UInt8} (h : l[i]? = some x) : nB (l.take (i + 1)) = nB (l.take i) * 10 + (x.toNat - 48) := by
 simp [nB, fM, h, List.foldl_append]
theorem UY : ∀ (l : List UInt8) (n : Nat), (∀ x ∈ l, dN x = true) → l.foldl (fun n x => n * 10 + (x.toNat - 48)) n + 1 ≤ (n + 1) * 10 ^ l.length
 | [], n, _ => by simp
 | x :: l, n, h => by
  have hx := h x (by simp)
  simp only [dN, cM, bJ] at hx
  have := UY l (n * 10 + (x.toNat - 48)) (fun y hy => h y (by simp [hy]))
  simp only [z6, aS, Nat.pow_succ]
  refine nC this ?_
  rw [Nat.mul_comm (10 ^ l.length) 10, ← Nat.mul_assoc]
  exact sJ _ (by omega)
theorem LJ {l : List UInt8} (h : ∀ x ∈ l, dN x = true) : nB l < 10 ^ l.length := Nat.lt_of_succ_le (by have := UY l 0 h; simpa [nB] using this)
theorem aQP (s : ByteArray) (a b : Nat) : sb (s.extract a b) = ((sb s).drop a).take (b - a) := by
 simp only [sb, ByteArray.data_extract, Array.toList_extract, List.extract_eq_take_drop]
theorem aW6 {g : ByteArray} (h : g.size = 0) : g = ⟨#[]⟩ := by
 obtain ⟨⟨l⟩⟩ := g
 have : l.length = 0 := h
 rw [List.length_eq_zero_iff.1 this]
theorem aEC (s : ByteArray) : ba (sb s) = s := rfl
theorem EN (s : ByteArray) (a b : Nat) : s.extract a b = ba (((sb s).drop a).take (b - a)) := by rw [← aQP]
theorem nS {l : List UInt8} {n c : Nat} (h : cO l n c = true) : n < l.length := by
 unfold cO at h
 rcases kQ n l.length with h1 | h1
 · exact h1
 · rw [xS h1] at h; cases h
theorem aM6 {l : List UInt8} {n : Nat} {p : UInt8 → Bool} (h : fN l n p = true) : n < l.length := by
 unfold fN at h
 rcases kQ n l.length with h1 | h1
 · exact h1
 · rw [xS h1] at h; cases h
theorem q9 {l : List UInt8} {n c : Nat} {x : UInt8} (h : l[n]? = some x) : cO l n c = decide (x.toNat = c) := by simp only [cO, h]
theorem uG {l : List UInt8} {n : Nat} {p : UInt8 → Bool} {x : UInt8} (h : l[n]? = some x) : fN l n p = p x := by simp only [fN, h]
theorem aJJ {l : List UInt8} (h : ∀ x ∈ l, dN x = true) (hl : l.length ≤ 4) : (gW l).1 < 10000 := by
 unfold gW
 split
 · simp
 · exact vK (LJ h) (nC (RK (by omega) hl) (by decide))
theorem L9 {p : UInt8 → Bool} {l : List UInt8} {i : Nat} (hi : i ≤ (l.takeWhile p).length) (h : fN l i p = true) : i < (l.takeWhile p).length := by
 induction l generalizing i with
 | nil => simp [fN] at h
 | cons x l ih =>
  cases i with
  | zero => simp [fN] at h; simp [G1, h]
  | succ i =>
   rw [G1] at hi ⊢
   split at hi
   · rename_i hx
     rw [aG hx]
     simp only [aS] at hi ⊢
     have := ih (i := i) (by omega) (by simpa [fN] using h)
     omega
   · simp at hi
theorem MX {p : UInt8 → Bool} {l : List UInt8} {i : Nat} (hi : i ≤ (l.takeWhile p).length) (h : fN l i p = false) : i = (l.takeWhile p).length := by
 induction l generalizing i with
 | nil => simp at hi; simp [hi]
 | cons x l ih =>
  cases i with
  | zero => simp [fN] at h; simp [G1, h]
  | succ i =>
   rw [G1] at hi ⊢
   split at hi
   · rename_i hx
     rw [aG hx]
     simp only [aS] at hi ⊢
     have := ih (i := i) (by omega) (by simpa [fN] using h)
     omega
   · simp at hi
theorem Z8 (p : UInt8 → Bool) (l : List UInt8) : l.take (l.takeWhile p).length = l.takeWhile p := by
 induction l with
 | nil => rfl
 | cons x l ih =>
  rw [G1]
  split
  · simp [ih]
  · rfl
theorem BW (l : List UInt8) (a i : Nat) (p : UInt8 → Bool) : fN (l.drop a) i p = fN l (a + i) p := by simp only [fN, RD]
theorem aDQ {p : UInt8 → Bool} {l : List UInt8} : ∀ x ∈ l.takeWhile p, p x = true := by
 induction l with
 | nil => simp
 | cons y l ih =>
  rw [G1]
  split
  · rename_i h; intro x hx; simp only [cY] at hx; rcases hx with rfl | hx; exact h; exact ih x hx
  · simp
theorem aDS {p : UInt8 → Bool} {l : List UInt8} {k : Nat} (hk : k ≤ (l.takeWhile p).length) : l.take k = (l.takeWhile p).take k := by
 rw [← Z8 p l, xO, lC hk]
theorem EL (p : UInt8 → Bool) (l : List UInt8) : (l.takeWhile p).length ≤ l.length := (List.takeWhile_sublist p).length_le
theorem aEF (L : List UInt8) : ∀ (gs : List ByteArray) (b : ByteArray), b.size ≤ 3 → (∀ g ∈ gs, g.size ≤ 3) → (gs.foldl (j4 L) b).size ≤ 3
 | [], b, h, _ => h
 | g :: gs, b, h, hg => by
  rw [z6]
  refine aEF L gs _ ?_ fun x hx => hg x (by simp [hx])
  unfold j4
  split
  · exact hg g (by simp)
  · exact h
theorem aDH : ∀ g ∈ iS, g.size ≤ 3 := by decide
theorem aYX (L : List UInt8) (i : Nat) : ((iS.take i).foldl (j4 L) ⟨#[]⟩).size ≤ 3 := aEF L _ _ (by decide) fun g hg => aDH g (lW hg)
end Go.AW
namespace Go.AW
open Go.Proofs.Tryz
theorem EB {φ : AF} {y z : Operand} {s : ByteArray} {k m : Nat} (h : φ.eval y = .int .i64 (k : Int)) (h' : φ.eval z = .int .i64 (m : Int)) (hk : k ≤ m) (hm : m ≤ s.size) : iL prog φ 9 (.str s) (some y) (some z) none = some (.str (s.extract k m)) := by
 unfold iL pN
 rw [aE (by simp [sB])]
 simp only [show prog.underlying 9 = some .string from cH, dX, h, h']
 rw [aG (by omega)]
 simp only [lY]
 rw [aG (by omega)]
 try simp
theorem MF (s : ByteArray) (n : Nat) (p : UInt8 → Bool) : oH s (n : Int) p = fN (sb s) n p := by
 unfold oH fN
 rw [lY]
 by_cases h : n < s.size
 · rw [gB (by omega : (0 : Int) ≤ (n : Int)), gB (by omega : (n : Int) < (s.size : Int))]; try rfl
 · rw [fH (by omega : ¬ (n : Int) < (s.size : Int)), xS (by rw [cJ]; omega)]; simp
theorem kD (s : ByteArray) (n c : Nat) (st : aB) : aD prog 166 [.str s, .int .i64 (n : Int), .int .u8 (c : Int)] st (fun r st' => r = .bool (cO (sb s) n c) ∧ st' = st) := by
 have h := aQT s n c st
 rwa [show vU s n c = cO (sb s) n c from MF s n _] at h
theorem yB (s : ByteArray) (n : Nat) (st : aB) : aD prog 222 [.str s, .int .i64 (n : Int)] st (fun r st' => r = .bool (fN (sb s) n dN) ∧ st' = st) := by
 have h := aT4 s n st
 rwa [show w7 s n = fN (sb s) n dN from MF s n _] at h
theorem aLH (s : ByteArray) (n : Nat) (st : aB) : aD prog 238 [.str s, .int .i64 (n : Int)] st (fun r st' => r = .bool (fN (sb s) n letter) ∧ st' = st) := by
 have h := aPF s n st
 rwa [show xE s n = fN (sb s) n letter from MF s n _] at h
theorem aDB {n k : Nat} (h : n ≤ 1048576) (hk : k ≤ 1048576) : IntKind.wrap .i64 ((n : Int) + (k : Int)) = ((n + k : Nat) : Int) := by
 rw [wrap64 (by omega) (by omega)]; try rfl
abbrev BJ := zi tI_3 (zi zI_3 (zi aX (zi tI_4 (zi zI_4 (zi cF (zi tI_5 (zi zI_5 (zi kN (zi tI_9 (zi zI_9 cH))))))))))
theorem aIJ (s : ByteArray) (hd : ∀ x ∈ sb s, dN x = true) (hl : s.size ≤ 4) (st : aB) : aD prog 237 [.str s] st (fun r st' => r = .tup [.int .i64 ((gW (sb s)).1 : Int), .bool (gW (sb s)).2] ∧ st' = st) := by
 refine wF [1000000] 1 func237 ntmps237 rfl rfl ?_
 intro _
 by_cases hs : s.size = 0
 · have e : gW (sb s) = (0, false) := by unfold gW; rw [aG (Or.inl (by rw [cJ]; exact hs))]
   rw [e]
   simp -implicitDefEqProofs only [hs, aA, ↓aU, seval, BJ]
 have A8 : (0 : Int) < (s.size : Int) := by omega
 obtain ⟨x0, hx0⟩ := uA (s := s) (n := 0) (by omega)
 have hix := rA (P := prog) (t := 9) cH hx0
 rw [show ((0 : Nat) : Int) = 0 from rfl] at hix
 have hdx := hd x0 (cW hx0)
 simp only [dN, cM, bJ] at hdx
 have h45 : ((x0.toNat : Int) = 45) = False := cI (by omega)
 have h0 : ((s.size : Int) = 0) = False := cI (by omega)
 have h17 : ((17 : Int) < (s.size : Int)) = False := cI (by omega)
 simp -implicitDefEqProofs only [A8, hix, h45, h0, h17, bM, bX, aA, seval, BJ]
 by_cases h48 : x0.toNat = 48
 case pos =>
  have CT : ((x0.toNat : Int) = 48) = True := dA (by omega)
  by_cases h1 : 1 < s.size
  case pos =>
   have h1' : ((1 : Int) < (s.size : Int)) = True := dA (by omega)
   have e : gW (sb s) = (0, false) := by unfold gW; rw [aG (Or.inr ⟨by rw [q9 hx0, h48]; try rfl, by rw [cJ]; exact h1⟩)]
   rw [e]
   simp -implicitDefEqProofs only [CT, h1', bM, aA, ↓aU, seval, BJ]
  have h1' : ((1 : Int) < (s.size : Int)) = False := cI (by omega)
  have hnd : gW (sb s) = (nB (sb s), true) := by unfold gW; rw [aE (by rw [cJ]; rintro (h | ⟨_, h⟩) <;> omega)]
  simp -implicitDefEqProofs only [CT, h1', bM, bX, aA, seval, BJ]
  rw [hnd]
  refine g9 (σ := Nat) [1000000] [0, 4] (fun i => i ≤ s.size) (fun i => [(5, .int .i64 (nB ((sb s).take i) : Int)), (6, .int .i64 (i : Int))]) (fun _ => st) (fun i => s.size - i) (by decide +kernel) ⟨0, by omega, aP.mk (by simp -implicitDefEqProofs only [kR, aA, ↓aU, seval]; rfl)⟩ ?_
  intro i hi
  have hb : nB ((sb s).take i) < 10000 := vK (LJ fun x hx => hd x (lW hx)) (nC (RK (by omega) (by rw [d7]; omega : ((sb s).take i).length ≤ 4)) (by decide))
  simp -implicitDefEqProofs only [aA, seval, BJ]
  refine aQ (fun h5 => ?_) (fun h5 => ?_)
  case refine_2 =>
   simp only [dH] at h5
   obtain rfl : i = s.size := by omega
   rw [mP (by rw [cJ]; omega)]
   simp -implicitDefEqProofs only [aA, seval]
  simp only [bJ] at h5
  obtain ⟨c, hc⟩ := uA (s := s) (n := i) (by omega)
  have hic := rA (P := prog) (t := 9) cH hc
  have hdc := hd c (cW hc)
  simp only [dN, cM, bJ] at hdc
  have c48 : ((c.toNat : Int) < 48) = False := cI (by omega)
  have c57 : ((57 : Int) < (c.toNat : Int)) = False := cI (by omega)
  have hw0 := aDB (n := i) (k := 1) (by omega) (by omega)
  rw [show ((1 : Nat) : Int) = 1 from rfl] at hw0
  have hw1 := bK (n := (nB ((sb s).take i) : Int) * 10)
  have hw2 : IntKind.wrap .u8 ((c.toNat : Int) - 48) = ((c.toNat - 48 : Nat) : Int) := by rw [IntKind.wrap_u8]; omega
  have hw3 := bK (n := ((c.toNat - 48 : Nat) : Int))
  have hw4 := bK (n := (nB ((sb s).take i) : Int) * 10 + ((c.toNat - 48 : Nat) : Int))
  have iK := aIM hc
  simp -implicitDefEqProofs only [hic, c48, c57, hw1, hw2, bX, aA, seval]
  refine ⟨i + 1, by omega, by omega, aP.mk ?_⟩
  rw [iK]
  simp -implicitDefEqProofs only [hw0, hw3, hw4, aA, seval]
  rfl
 have CT : ((x0.toNat : Int) = 48) = False := cI (by omega)
 have hnd : gW (sb s) = (nB (sb s), true) := by unfold gW; rw [aE (by rw [cJ, q9 hx0]; rintro (h | ⟨h, _⟩); omega; exact h48 (of_decide_eq_true h))]
 simp -implicitDefEqProofs only [CT, bX, aA, seval]
 rw [hnd]
 refine g9 (σ := Nat) [1000000] [0, 4] (fun i => i ≤ s.size) (fun i => [(5, .int .i64 (nB ((sb s).take i) : Int)), (6, .int .i64 (i : Int))]) (fun _ => st) (fun i => s.size - i) (by decide +kernel) ⟨0, by omega, aP.mk (by simp -implicitDefEqProofs only [kR, aA, ↓aU, seval]; rfl)⟩ ?_
 intro i hi
 have hb : nB ((sb s).take i) < 10000 := vK (LJ fun x hx => hd x (lW hx)) (nC (RK (by omega) (by rw [d7]; omega : ((sb s).take i).length ≤ 4)) (by decide))
 simp -implicitDefEqProofs only [aA, seval, BJ]
 refine aQ (fun h5 => ?_) (fun h5 => ?_)
 case refine_2 =>
  simp only [dH] at h5
  obtain rfl : i = s.size := by omega
  rw [mP (by rw [cJ]; omega)]
  simp -implicitDefEqProofs only [aA, seval]
 simp only [bJ] at h5
 obtain ⟨c, hc⟩ := uA (s := s) (n := i) (by omega)
 have hic := rA (P := prog) (t := 9) cH hc
 have hdc := hd c (cW hc)
 simp only [dN, cM, bJ] at hdc
 have c48 : ((c.toNat : Int) < 48) = False := cI (by omega)
 have c57 : ((57 : Int) < (c.toNat : Int)) = False := cI (by omega)
 have hw0 := aDB (n := i) (k := 1) (by omega) (by omega)
 rw [show ((1 : Nat) : Int) = 1 from rfl] at hw0
 have hw1 := bK (n := (nB ((sb s).take i) : Int) * 10)
 have hw2 : IntKind.wrap .u8 ((c.toNat : Int) - 48) = ((c.toNat - 48 : Nat) : Int) := by rw [IntKind.wrap_u8]; omega
 have hw3 := bK (n := ((c.toNat - 48 : Nat) : Int))
 have hw4 := bK (n := (nB ((sb s).take i) : Int) * 10 + ((c.toNat - 48 : Nat) : Int))
 have iK := aIM hc
 simp -implicitDefEqProofs only [hic, c48, c57, hw1, hw2, bX, aA, seval]
 refine ⟨i + 1, by omega, by omega, aP.mk ?_⟩
 rw [iK]
 simp -implicitDefEqProofs only [hw0, hw3, hw4, aA, seval]
 rfl
theorem mW {x : Int} {m : Nat} (h : x = (m : Int)) (hm : m ≤ 1099511627776) : IntKind.wrap .i64 x = (m : Int) := by rw [wrap64 (by omega) (by omega)]; exact h
abbrev GR : Tm := .mk 0 0 ⟨#[]⟩ []
def zQ (o : Option (Int × Nat)) : AV := match o with | some (n, e) => .tup [(Tm.mk 2 n ⟨#[]⟩ []).av, .int .i64 (e : Int)] | none => .tup [GR.av, .int .i64 (-1)]
abbrev yR := zi tI_3 (zi zI_3 (zi aX (zi tI_4 (zi zI_4 (zi cF (zi tI_5 (zi zI_5 (zi kN (zi tI_8 (zi zI_8 (zi vT (zi vX (zi wN (zi wO (zi wL (zi tI_9 (zi zI_9 (zi cH (zi tI_63 (zi zI_63 (zi bS (zi bR (zi bP (zi bQ bT))))))))))))))))))))))))
set_option maxHeartbeats 1000000 in
theorem aXL (s : ByteArray) (hs : s.size ≤ 1000) (a : Nat) (ha : a ≤ s.size) (st : aB) : aD prog 223 [.str s, .int .i64 (a : Int)] st (fun r st' => r = zQ (tQ (sb s) a) ∧ st' = st) := by
 refine aD.done ?_
 refine wF [1000000] 2 func223 ntmps223 rfl rfl ?_
 intro _
 simp -implicitDefEqProofs only [aA, seval, yR]
 intro b hb
 refine (kD s a 45 _).to ?_
 obtain ⟨f1, hf1⟩ : ∃ f, f = a + 1 := ⟨_, rfl⟩
 have hw1 := mW (x := (a : Int) + 1) (m := f1) (by omega) (by omega)
 simp -implicitDefEqProofs only [aA, seval]
 refine aQ (fun h1 => ?_) (fun h1 => ?_)
 · have hf := nS h1
   rw [cJ] at hf
   simp -implicitDefEqProofs only [hw1, aA, seval]
   obtain ⟨f, rfl⟩ : ∃ f, f = f1 := ⟨_, rfl⟩
   replace hf : f ≤ s.size := by omega
   refine g9 (σ := Nat) [1000000] [0, 1, 4, 5, 7] (fun j => f ≤ j ∧ j ≤ f + 4 ∧ j - f ≤ (((sb s).drop f).takeWhile dN).length) (fun j => [(6, .int .i64 (j : Int))]) (fun _ => st.aC b (.cells [.int .i64 0, .int .i64 0, .str ⟨#[]⟩, .fslice []])) (fun j => f + 4 - j) (by decide +kernel) ⟨f, ⟨by omega, by omega, by omega⟩, aP.mk (by simp -implicitDefEqProofs only [aA, seval])⟩ ?_
   rintro j ⟨hj1, hj4, hj⟩
   have hfi : j ≤ s.size := by have := EL dN ((sb s).drop f); rw [nE, cJ] at this; omega
   simp -implicitDefEqProofs only [aA, seval]
   refine (yB s j _).to ?_
   have hw4 := bK (n := (f : Int) + 4)
   have FF := bK (n := (j : Int) + 1)
   simp -implicitDefEqProofs only [aA, seval]
   refine cS (fun h5 => ?_) (fun h5 => ?_)
   simp -implicitDefEqProofs only [h5, hw4, aA, seval]
   refine aQ (fun h6 => ?_) (fun h6 => ?_)
   case' refine_1.refine_1 =>
    rw [show j = f + (j - f) by omega, ← BW] at h5
    simp only [bJ] at h6
    simp -implicitDefEqProofs only [FF, aA, seval]
    exact ⟨j + 1, by omega, ⟨by omega, by omega, by have := L9 hj h5; omega⟩, aP.mk (by simp -implicitDefEqProofs only [aA, seval] <;> rfl)⟩
   all_goals
    have ht : (((sb s).drop f).takeWhile dN).take 4 = ((sb s).drop f).take (j - f) := by
     rw [aDS hj]
     rcases kQ (j - f) 4 with h7 | h7
     · have h8 : j - f = (((sb s).drop f).takeWhile dN).length := by
        refine MX hj ?_
        rw [BW, show f + (j - f) = j by omega]
        first | exact h5 | (simp only [dH] at h6; omega)
       rw [h8, eS, mP (by omega)]
     · rw [show j - f = 4 by omega]
    have hex : s.extract f j = ba ((((sb s).drop f).takeWhile dN).take 4) := by rw [EN, ht]
    have hln : ((((sb s).drop f).takeWhile dN).take 4).length = j - f := by rw [ht, d7, nE, cJ]; omega
    have hdg : ∀ x ∈ (((sb s).drop f).takeWhile dN).take 4, dN x = true := fun x hx => aDQ x (lW hx)
    have hsl := fun (φ : AF) (y z : Operand) (h : φ.eval y = .int .i64 (f : Int)) (h' : φ.eval z = .int .i64 (j : Int)) => EB (s := s) h h' hj1 hfi
    rw [hex] at hsl
    have hrd : tQ (sb s) a = if (gW ((((sb s).drop f).takeWhile dN).take 4)).2 = false ∨ (a < f ∧ (gW ((((sb s).drop f).takeWhile dN).take 4)).1 = 0) ∨ 999 < (gW ((((sb s).drop f).takeWhile dN).take 4)).1 then none else some (if a < f then -((gW ((((sb s).drop f).takeWhile dN).take 4)).1 : Int) else ((gW ((((sb s).drop f).takeWhile dN).take 4)).1 : Int), f + ((((sb s).drop f).takeWhile dN).take 4).length) := by
     unfold tQ
     simp only [h1, ↓reduceIte, ← hf1]
    rw [hrd]
    clear hrd
    generalize (((sb s).drop f).takeWhile dN).take 4 = t at *
    simp -implicitDefEqProofs only [hsl, h5, aA, seval]
    refine (aIJ (ba t) hdg (by show t.length ≤ 4; omega) _).to ?_
    have hn := aJJ hdg (by omega)
    rw [show sb (ba t) = t from rfl]
    generalize gW t = nd at *
    obtain ⟨n, ok⟩ := nd
    simp only at hn ⊢
    have hw5 := bK (n := 0 - (n : Int))
    have hw6 := bK (n := -(n : Int))
    have hfa : ((a : Int) < (f : Int)) = True := dA (by omega)
    have hfn : (a < f) = True := dA (by omega)
    cases ok
    case false =>
     simp -implicitDefEqProofs only [aK, aA, seval, yR]
     refine ⟨?_, (aL.refl _).aC hb⟩
     rw [aG (Or.inl trivial)]
     simp only [zQ, aV, j5, kC, jV, lB, l9, bA, aW, aW]
    by_cases hz : (n : Int) = 0
    case' pos => have hz' : n = 0 := by omega
    case' neg => have hz' : n ≠ 0 := by omega
    all_goals
     by_cases h9 : (999 : Int) < (n : Int)
     case' pos => have h9' : 999 < n := by omega
     case' neg => have h9' : ¬ 999 < n := by omega
     all_goals try (exfalso; omega)
     all_goals
      simp -implicitDefEqProofs only [aK, hw5, hz, h9, hfa, aA, seval, yR]
      try
       refine (AZ _ _).to ?_
       simp -implicitDefEqProofs only [aK, aA, seval, yR]
      refine ⟨?_, (aL.refl _).aC hb⟩
      first
       | rw [aG (by omega)]
       | rw [aE (by omega), aG (by omega), show f + t.length = j by omega]
       | rw [aE (by omega), aE (by omega), show f + t.length = j by omega]
      simp only [zQ, aV, j5, kC, jV, lB, qC, l9, bA, aW, aW, Int.zero_sub]
 · skip
   simp -implicitDefEqProofs only [aA, seval]
   obtain ⟨f, rfl⟩ : ∃ f, f = a := ⟨_, rfl⟩
   have hf := ha
   refine g9 (σ := Nat) [1000000] [0, 1, 4, 5, 7] (fun j => f ≤ j ∧ j ≤ f + 4 ∧ j - f ≤ (((sb s).drop f).takeWhile dN).length) (fun j => [(6, .int .i64 (j : Int))]) (fun _ => st.aC b (.cells [.int .i64 0, .int .i64 0, .str ⟨#[]⟩, .fslice []])) (fun j => f + 4 - j) (by decide +kernel) ⟨f, ⟨by omega, by omega, by omega⟩, aP.mk (by simp -implicitDefEqProofs only [aA, seval])⟩ ?_
   rintro j ⟨hj1, hj4, hj⟩
   have hfi : j ≤ s.size := by have := EL dN ((sb s).drop f); rw [nE, cJ] at this; omega
   simp -implicitDefEqProofs only [aA, seval]
   refine (yB s j _).to ?_
   have hw4 := bK (n := (f : Int) + 4)
   have FF := bK (n := (j : Int) + 1)
   simp -implicitDefEqProofs only [aA, seval]
   refine cS (fun h5 => ?_) (fun h5 => ?_)
   simp -implicitDefEqProofs only [h5, hw4, aA, seval]
   refine aQ (fun h6 => ?_) (fun h6 => ?_)
   case' refine_1.refine_1 =>
    rw [show j = f + (j - f) by omega, ← BW] at h5
    simp only [bJ] at h6
    simp -implicitDefEqProofs only [FF, aA, seval]
    exact ⟨j + 1, by omega, ⟨by omega, by omega, by have := L9 hj h5; omega⟩, aP.mk (by simp -implicitDefEqProofs only [aA, seval] <;> rfl)⟩
   all_goals
    have ht : (((sb s).drop f).takeWhile dN).take 4 = ((sb s).drop f).take (j - f) := by
     rw [aDS hj]
     rcases kQ (j - f) 4 with h7 | h7
     · have h8 : j - f = (((sb s).drop f).takeWhile dN).length := by
        refine MX hj ?_
        rw [BW, show f + (j - f) = j by omega]
        first | exact h5 | (simp only [dH] at h6; omega)
       rw [h8, eS, mP (by omega)]
     · rw [show j - f = 4 by omega]
    have hex : s.extract f j = ba ((((sb s).drop f).takeWhile dN).take 4) := by rw [EN, ht]
    have hln : ((((sb s).drop f).takeWhile dN).take 4).length = j - f := by rw [ht, d7, nE, cJ]; omega
    have hdg : ∀ x ∈ (((sb s).drop f).takeWhile dN).take 4, dN x = true := fun x hx => aDQ x (lW hx)
    have hsl := fun (φ : AF) (y z : Operand) (h : φ.eval y = .int .i64 (f : Int)) (h' : φ.eval z = .int .i64 (j : Int)) => EB (s := s) h h' hj1 hfi
    rw [hex] at hsl
    have hrd : tQ (sb s) f = if (gW ((((sb s).drop f).takeWhile dN).take 4)).2 = false ∨ (f < f ∧ (gW ((((sb s).drop f).takeWhile dN).take 4)).1 = 0) ∨ 999 < (gW ((((sb s).drop f).takeWhile dN).take 4)).1 then none else some (if f < f then -((gW ((((sb s).drop f).takeWhile dN).take 4)).1 : Int) else ((gW ((((sb s).drop f).takeWhile dN).take 4)).1 : Int), f + ((((sb s).drop f).takeWhile dN).take 4).length) := by
     unfold tQ
     simp only [h1, ↓reduceIte, jC]
    rw [hrd]
    clear hrd
    generalize (((sb s).drop f).takeWhile dN).take 4 = t at *
    simp -implicitDefEqProofs only [hsl, h5, aA, seval]
    refine (aIJ (ba t) hdg (by show t.length ≤ 4; omega) _).to ?_
    have hn := aJJ hdg (by omega)
    rw [show sb (ba t) = t from rfl]
    generalize gW t = nd at *
    obtain ⟨n, ok⟩ := nd
    simp only at hn ⊢
    have hw5 := bK (n := 0 - (n : Int))
    have hw6 := bK (n := -(n : Int))
    have hfa : ((f : Int) < (f : Int)) = False := cI (by omega)
    have hfn : (f < f) = False := cI (by omega)
    cases ok
    case false =>
     simp -implicitDefEqProofs only [aK, aA, seval, yR]
     refine ⟨?_, (aL.refl _).aC hb⟩
     rw [aG (Or.inl trivial)]
     simp only [zQ, aV, j5, kC, jV, lB, l9, bA, aW, aW]
    by_cases hz : (n : Int) = 0
    case' pos => have hz' : n = 0 := by omega
    case' neg => have hz' : n ≠ 0 := by omega
    all_goals
     by_cases h9 : (999 : Int) < (n : Int)
     case' pos => have h9' : 999 < n := by omega
     case' neg => have h9' : ¬ 999 < n := by omega
     all_goals try (exfalso; omega)
     all_goals
      simp -implicitDefEqProofs only [aK, hz, h9, hfa, aA, seval, yR]
      try
       refine (AZ _ _).to ?_
       simp -implicitDefEqProofs only [aK, aA, seval, yR]
      refine ⟨?_, (aL.refl _).aC hb⟩
      first
       | rw [aG (by omega)]
       | rw [aE (by omega), aG (by omega), show f + t.length = j by omega]
       | rw [aE (by omega), aE (by omega), show f + t.length = j by omega]
      simp only [zQ, aV, j5, kC, jV, lB, qC, l9, bA, aW, aW]
def zA (o : Option (ByteArray × Nat)) : AV := match o with | some (b, e) => .tup [.str b, .int .i64 (e : Int)] | none => .tup [.str ⟨#[]⟩, .int .i64 (-1)]
theorem aY1 (st : aB) : aD prog 231 [] st (fun r st' => r = .slice (iS.map .str) ∧ st' = st) := aD.done ((US st).mono (by rintro _ _ ⟨rfl, rfl⟩; exact ⟨rfl, aL.refl _⟩))
abbrev yJ := zi tI_3 (zi zI_3 (zi aX (zi tI_9 (zi zI_9 (zi cH (zi tI_125 (zi zI_125 (zi iV (zi lO (zi lJ mO))))))))))
set_option maxHeartbeats 1000000 in
theorem MV (s : ByteArray) (hs : s.size ≤ 1000) (a : Nat) (ha : a ≤ s.size) (st : aB) : aD prog 224 [.str s, .int .i64 (a : Int)] st (fun r st' => r = zA (nO (sb s) a) ∧ st' = st) := by
 refine wF [1000000] 2 func224 ntmps224 rfl rfl ?_
 intro _
 simp -implicitDefEqProofs only [aA, seval]
 refine g9 (σ := Nat) [1000000] [0, 1, 4, 5] (fun j => a ≤ j ∧ j - a ≤ (((sb s).drop a).takeWhile letter).length) (fun j => [(6, .int .i64 (j : Int))]) (fun _ => st) (fun j => s.size - j) (by decide +kernel) ⟨a, ⟨by omega, by omega⟩, aP.mk (by simp -implicitDefEqProofs only [aA, seval])⟩ ?_
 rintro j ⟨hj1, hj⟩
 have hfi : j ≤ s.size := by have := EL letter ((sb s).drop a); rw [nE, cJ] at this; omega
 simp -implicitDefEqProofs only [aA, seval]
 refine (aLH s j _).to ?_
 have hw6 := bK (n := (a : Int) + 6)
 have FF := bK (n := (j : Int) + 1)
 simp -implicitDefEqProofs only [aA, seval]
 refine aQ (fun h5 => ?_) (fun h5 => ?_)
 · have hlt := aM6 h5
   rw [show j = a + (j - a) by omega, ← BW] at h5
   simp -implicitDefEqProofs only [FF, aA, seval]
   exact ⟨j + 1, by rw [cJ] at hlt; omega, ⟨by omega, by have := L9 hj h5; omega⟩, aP.mk (by simp -implicitDefEqProofs only [aA, seval] <;> rfl)⟩
 rw [show j = a + (j - a) by omega, ← BW] at h5
 have he := MX hj h5
 have hex : s.extract a j = ba (((sb s).drop a).takeWhile letter) := by rw [EN, he, Z8]
 have hsl := fun (φ : AF) (y z : Operand) (h : φ.eval y = .int .i64 (a : Int)) (h' : φ.eval z = .int .i64 (j : Int)) => EB (s := s) h h' hj1 hfi
 rw [hex] at hsl
 simp -implicitDefEqProofs only [hw6, aA, seval]
 refine aQ (fun h6 => ?_) (fun h6 => ?_)
 · simp only [bJ] at h6
   simp -implicitDefEqProofs only [aA, seval]
   unfold nO
   rw [aG (by omega)]
   try rfl
 simp only [dH] at h6
 simp -implicitDefEqProofs only [aA, seval]
 refine aQ (fun h7 => ?_) (fun h7 => ?_)
 · simp only [bJ] at h7
   simp -implicitDefEqProofs only [hsl, aA, seval]
   unfold nO
   rw [aE (by omega), aG (by omega), ← he, show a + (j - a) = j by omega]
   try rfl
 simp only [dH] at h7
 obtain rfl : j = a := by omega
 have hrd : nO (sb s) j = if (iS.foldl (j4 ((sb s).drop j)) ⟨#[]⟩).size = 0 then none else some (iS.foldl (j4 ((sb s).drop j)) ⟨#[]⟩, j + (iS.foldl (j4 ((sb s).drop j)) ⟨#[]⟩).size) := by
  unfold nO
  rw [aE (by omega), aE (by omega)]
 rw [hrd]
 clear hrd
 simp -implicitDefEqProofs only [aA, seval]
 refine (aY1 _).to ?_
 simp -implicitDefEqProofs only [aA, seval]
 refine g9 (σ := Nat) [1000000] [0, 1, 4, 5, 8] (fun i => i ≤ iS.length) (fun i => [(7, .str ((iS.take i).foldl (j4 ((sb s).drop j)) ⟨#[]⟩)), (9, .int .i64 (i : Int))]) (fun _ => st) (fun i => iS.length - i) (by decide +kernel) ⟨0, by omega, aP.mk (by simp -implicitDefEqProofs only [kR, List.foldl_nil, aA, ↓aU, seval])⟩ ?_
 intro i hi
 have hbl := aYX ((sb s).drop j) i
 simp -implicitDefEqProofs only [aF, aA, seval, yJ]
 refine aQ (fun h8 => ?_) (fun h8 => ?_)
 case refine_2 =>
  simp only [dH] at h8
  rw [show i = iS.length by omega, eS] at hbl ⊢
  generalize iS.foldl (j4 ((sb s).drop j)) ⟨#[]⟩ = g at *
  have hw7 := bK (n := (j : Int) + (g.size : Int))
  simp -implicitDefEqProofs only [aA, seval]
  refine aQ (fun h9 => ?_) (fun h9 => ?_)
  · simp only [bJ] at h9
    subst h9
    simp -implicitDefEqProofs only [aA, seval]
    rfl
  · simp only [dH] at h9
    simp -implicitDefEqProofs only [hw7, aA, seval, yJ]
    rw [aE fun h => h9 (aW6 h)]
    try rfl
 simp only [bJ] at h8
 obtain ⟨g, hg⟩ : ∃ g, iS[i]? = some g := ⟨_, fG (by omega)⟩
 have hat := bL (av := AV.str) iV hg rfl
 have hgl := aDH g (cW hg)
 have h15 : iS.length = 15 := rfl
 obtain ⟨m, hm⟩ : ∃ m, m = j + g.size := ⟨_, rfl⟩
 have hwn := mW (x := (j : Int) + (g.size : Int)) (m := m) (by omega) (by omega)
 have hw1 := bK (n := (i : Int) + 1)
 have iK : (iS.take (i + 1)).foldl (j4 ((sb s).drop j)) ⟨#[]⟩ = j4 ((sb s).drop j) ((iS.take i).foldl (j4 ((sb s).drop j)) ⟨#[]⟩) g := by
  rw [fM, hg, List.foldl_append]; try rfl
 generalize hB : (iS.take i).foldl (j4 ((sb s).drop j)) ⟨#[]⟩ = B at *
 simp -implicitDefEqProofs only [hat, aA, seval, yJ]
 refine wP [(0, 1), (1, 1), (2, 1), (3, 1), (4, 1), (5, 1), (6, 1), (7, 1), (8, 1), (9, 1), (10, 1), (11, 1), (12, 1), (13, 1), (14, 1), (15, 1), (16, 2), (17, 1), (18, 1), (19, 1), (20, 1), (21, 1), (22, 1), (23, 1), (24, 1)] [0, 1, 2, 3, 4, 5, 6, 7, 8, 9, 10, 11, 12, 13, 14, 15, 16, 17, 18, 19, 20, 21, 22, 23, 24] mixed ?_
 by_cases hle : m ≤ s.size
 · have hex : s.extract j m = ba (((sb s).drop j).take g.size) := by rw [EN, hm, Nat.add_sub_cancel_left]
   have hsl := fun (φ : AF) (y z : Operand) (h : φ.eval y = .int .i64 (j : Int)) (h' : φ.eval z = .int .i64 (m : Int)) => EB (s := s) h h' (by omega) hle
   rw [hex] at hsl
   have F7 : ((m : Int) ≤ (s.size : Int)) = True := dA (by omega)
   by_cases heq : ba (((sb s).drop j).take g.size) = g
   · by_cases hlt : B.size < g.size
     · have bU : ((B.size : Int) < (g.size : Int)) = True := dA (by omega)
       have hb : j4 ((sb s).drop j) B g = g := by unfold j4; rw [aG ⟨nZ sb heq, hlt⟩]
       simp -implicitDefEqProofs only [hat, hwn, hw1, F7, hsl, heq, bU, bM, aA, seval, yJ]
       exact ⟨i + 1, by omega, by omega, aP.mk (by simp -implicitDefEqProofs only [iK, hb, aA, seval])⟩
     · have bU : ((B.size : Int) < (g.size : Int)) = False := cI (by omega)
       have hb : j4 ((sb s).drop j) B g = B := by unfold j4; rw [aE fun h => hlt h.2]
       simp -implicitDefEqProofs only [hat, hwn, hw1, F7, hsl, heq, bU, bM, bX, aA, seval, yJ]
       exact ⟨i + 1, by omega, by omega, aP.mk (by simp -implicitDefEqProofs only [iK, hb, aA, seval])⟩
   · have hb : j4 ((sb s).drop j) B g = B := by unfold j4; rw [aE fun h => heq (by rw [h.1])]
     simp -implicitDefEqProofs only [hat, hwn, hw1, F7, hsl, heq, bM, bX, aA, seval, yJ]
     exact ⟨i + 1, by omega, by omega, aP.mk (by simp -implicitDefEqProofs only [iK, hb, aA, seval])⟩
 · have F7 : ((m : Int) ≤ (s.size : Int)) = False := cI (by omega)
   have hb : j4 ((sb s).drop j) B g = B := by
    unfold j4
    rw [aE]
    rintro ⟨h, _⟩
    have := nZ List.length h
    rw [d7, nE, cJ, cJ] at this
    omega
   simp -implicitDefEqProofs only [hwn, hw1, F7, bX, aA, seval, yJ]
   exact ⟨i + 1, by omega, by omega, aP.mk (by simp -implicitDefEqProofs only [iK, hb, aA, seval])⟩
end Go.AW
namespace Go.AW
def iD (nm : ByteArray) : Bool := decide (nm = ⟨#[105, 115]⟩) || decide (nm = ⟨#[109, 111, 100]⟩)
def pA (l : List UInt8) (a : Nat) : Option (ByteArray × Nat) :=
 let f := if cO l a 32 then a + 1 else a
 if l.length ≤ f then none else match nO l f with
 | none => none
 | some (nm, e) => if dK nm = 0 then none else if iD nm ≠ decide (a < f) ∨ (iD nm = true ∧ cO l e 32 = false) then none else some (nm, if iD nm then e + 1 else e)
abbrev kO := Nat → Option (Tm × Nat)
def p8 (R : kO) (l : List UInt8) (c1 c2 : Nat) : Nat → Nat → List Tm → Option (List Tm × Nat)
 | 0, _, _ => none
 | n + 1, a, acc => match R a with
  | none => none
  | some (t, e) => if (cO l e c1 || cO l e c2) = true then some (acc ++ [t], e) else if cO l e 44 then p8 R l c1 c2 n (e + 1) (acc ++ [t]) else none
abbrev nH (nm : ByteArray) (ts : List Tm) : Tm := .mk 3 0 nm ts
def tY : List Tm → Tm → Tm
 | [], t => t
 | x :: xs, t => nH ⟨#[46]⟩ [x, tY xs t]
def y9 (R : kO) (l : List UInt8) (a : Nat) : Option (Tm × Nat) :=
 match p8 R l 93 124 (l.length + 1) a [] with
 | none => none
 | some (ts, e) => if cO l e 93 then some (tY ts (nH ⟨#[91, 93]⟩ []), e + 1) else match R (e + 1) with
  | none => none
  | some (t, e') => if cO l e' 93 then some (tY ts t, e' + 1) else none
def HI (l : List UInt8) (a : Nat) : Nat := match l[a]? with | some x => x.toNat | none => 0
def mN (R : Nat → kO) (l : List UInt8) (d a : Nat) : Option (Tm × Nat) :=
 if d < 1 ∨ l.length ≤ a then none
 else if cO l a 40 then match R d (a + 1) with
  | none => none
  | some (t, e) => if cO l e 41 then some (t, e + 1) else none
 else if (cO l a 91 && !cO l (a + 1) 93) = true then y9 (R (d - 1)) l (a + 1)
 else if fN l a rW then some (vr ((HI l a - 65 : Nat) : Int), a + 1)
 else if (fN l a dN || (cO l a 45 && fN l (a + 1) dN)) = true then match tQ l a with
  | none => none
  | some (n, e) => some (.mk 2 n ⟨#[]⟩ [], e)
 else match nO l a with
  | none => none
  | some (nm, e) => if cO l e 40 = false then some (nH nm [], e) else match p8 (R (d - 1)) l 41 41 (l.length + 1) (e + 1) [] with
   | none => none
   | some (ts, e') => some (nH nm ts, e' + 1)
def BR (R : kO) (l : List UInt8) (lev : Nat) : Nat → Tm → Nat → Option (Tm × Nat)
 | 0, _, _ => none
 | n + 1, left, e => match pA l e with
  | none => some (left, e)
  | some (nm, e1) => if dK nm ≠ lev then some (left, e) else match R e1 with
   | none => none
   | some (rt, e2) => if lev = 3 then some (nH nm [left, rt], e2) else BR R l lev n (nH nm [left, rt]) e2
def rd (l : List UInt8) : Nat → Nat → Nat → Nat → Option (Tm × Nat)
 | 0, _, _, _ => none
 | n + 1, d, a, 0 => mN (fun d a => rd l n d a 3) l d a
 | n + 1, d, a, lv + 1 => match rd l n d a lv with
  | none => none
  | some (t, e) => BR (fun a => rd l n d a lv) l (lv + 1) (l.length + 1) t e
theorem aNE {l : List UInt8} {a c : Nat} (ha : a ≤ l.length) : a ≤ (if cO l a c = true then a + 1 else a) ∧ (if cO l a c = true then a + 1 else a) ≤ l.length := by
 split
 · have := nS ‹_›; omega
 · omega
theorem a0Q {l : List UInt8} {a : Nat} {x : Int} {e : Nat} (ha : a ≤ l.length) (h : tQ l a = some (x, e)) : a < e ∧ e ≤ l.length := by
 unfold tQ at h
 have hf := aNE (c := 45) ha
 simp only at h
 generalize (if cO l a 45 = true then a + 1 else a) = f at h hf
 split at h
 · cases h
 rename_i h1
 simp only [Option.some.injEq, Prod.mk.injEq] at h
 obtain ⟨_, rfl⟩ := h
 have h2 : (((l.drop f).takeWhile dN).take 4).length ≠ 0 := by
  intro h0
  refine h1 (Or.inl ?_)
  unfold gW
  rw [aG (Or.inl h0)]
 have h3 := EL dN (l.drop f)
 rw [nE] at h3
 have h4 : (((l.drop f).takeWhile dN).take 4).length ≤ ((l.drop f).takeWhile dN).length := by rw [d7]; omega
 omega
theorem aF4 (L : List UInt8) : ∀ (gs : List ByteArray) (b : ByteArray), b.size ≤ L.length → (gs.foldl (j4 L) b).size ≤ L.length
 | [], b, h => h
 | g :: gs, b, h => by
  rw [z6]
  refine aF4 L gs _ ?_
  unfold j4
  split
  · rename_i h1
    have := nZ List.length h1.1
    rw [d7, cJ] at this
    omega
  · exact h
theorem EF {l : List UInt8} {a : Nat} {x : ByteArray} {e : Nat} (ha : a ≤ l.length) (h : nO l a = some (x, e)) : a < e ∧ e ≤ l.length := by
 unfold nO at h
 simp only at h
 have h3 := EL letter (l.drop a)
 rw [nE] at h3
 split at h
 · cases h
 split at h
 · cases h; omega
 split at h
 · cases h
 · have := aF4 (l.drop a) iS ⟨#[]⟩ (jD _)
   rw [nE] at this
   cases h; omega
theorem aF7 {l : List UInt8} {a : Nat} {x : ByteArray} {e : Nat} (h : pA l a = some (x, e)) : a < e ∧ e ≤ l.length ∧ dK x ≠ 0 := by
 unfold pA at h
 have h6 : a ≤ (if cO l a 32 = true then a + 1 else a) := by split <;> omega
 simp only at h
 generalize (if cO l a 32 = true then a + 1 else a) = f at h h6
 split at h
 · cases h
 rename_i h1
 split at h
 · cases h
 rename_i nm e0 h2
 have h3 := EF (by omega) h2
 split at h
 · cases h
 rename_i h7
 split at h
 · cases h
 rename_i h4
 simp only [Option.some.injEq, Prod.mk.injEq] at h
 obtain ⟨rfl, rfl⟩ := h
 split
 · rename_i h5
   have : cO l e0 32 = true := by
    cases hb : cO l e0 32 with
    | true => rfl
    | false => exact absurd (Or.inr ⟨h5, hb⟩) h4
   have := nS this
   exact ⟨by omega, by omega, h7⟩
 · exact ⟨by omega, by omega, h7⟩
def wU (R : kO) (l : List UInt8) : Prop := ∀ a t e, a ≤ l.length → R a = some (t, e) → a < e ∧ e ≤ l.length ∧ Dn t
theorem G7 {R : kO} {l : List UInt8} {c1 c2 : Nat} (hR : wU R l) : ∀ (n a : Nat) (acc : List Tm) (ts : List Tm) (e : Nat), a ≤ l.length → (∀ x ∈ acc, Dn x) → p8 R l c1 c2 n a acc = some (ts, e) → a < e ∧ e < l.length ∧ (∀ x ∈ ts, Dn x) ∧ ts.length ≤ acc.length + n ∧ (cO l e c1 = true ∨ cO l e c2 = true) := by
 intro n
 induction n with
 | zero => intro a acc ts e _ _ h; cases h
 | succ n ih =>
  intro a acc ts e ha nI h
  unfold p8 at h
  split at h
  · cases h
  rename_i t e1 h1
  obtain ⟨h2, h3, h4⟩ := hR a t e1 ha h1
  have GJ : ∀ x ∈ acc ++ [t], Dn x := by intro x hx; rw [fR] at hx; rcases hx with hx | hx; exact nI x hx; rw [K6] at hx; subst hx; exact h4
  split at h
  · rename_i h5
    cases h
    rw [qZ] at h5
    refine ⟨h2, ?_, GJ, by rw [dQ, RN]; omega, h5⟩
    rcases h5 with h5 | h5 <;> exact nS h5
  split at h
  · rename_i h5
    have h6 := nS h5
    obtain ⟨g1, g2, g3, g4, g5⟩ := ih (e1 + 1) _ ts e (by omega) GJ h
    rw [dQ, RN] at g4
    exact ⟨by omega, g2, g3, by omega, g5⟩
  · cases h
theorem NK {nm : ByteArray} {ts : List Tm} (hl : ts.length ≤ 1048576) (h : ∀ x ∈ ts, Dn x) : Dn (nH nm ts) := vS (by decide) hl h
theorem QB {nm : ByteArray} {x y : Tm} (hx : Dn x) (hy : Dn y) : Dn (nH nm [x, y]) := NK (by simp) (by intro z hz; simp only [cY, dP, d4] at hz; rcases hz with rfl | rfl; exact hx; exact hy)
theorem aFI {nm : ByteArray} : Dn (nH nm []) := NK (by simp) (by simp)
theorem OI {t : Tm} (ht : Dn t) : ∀ ts : List Tm, (∀ x ∈ ts, Dn x) → Dn (tY ts t)
 | [], _ => ht
 | x :: xs, h => QB (h x (by simp)) (OI ht xs fun y hy => h y (by simp [hy]))
theorem aT2 {R : kO} {l : List UInt8} (hR : wU R l) (hl : l.length ≤ 1000) {a : Nat} {t : Tm} {e : Nat} (ha : a ≤ l.length) (h : y9 R l a = some (t, e)) : a < e ∧ e ≤ l.length ∧ Dn t := by
 unfold y9 at h
 split at h
 · cases h
 rename_i ts e1 h1
 obtain ⟨g1, g2, g3, g4, g5⟩ := G7 hR _ _ _ _ _ ha (by simp) h1
 split at h
 · cases h
   exact ⟨by omega, by omega, OI aFI _ g3⟩
 split at h
 · cases h
 rename_i t2 e2 h2
 obtain ⟨k1, k2, k3⟩ := hR _ _ _ (by omega) h2
 split at h
 · rename_i h5
   cases h
   have := nS h5
   exact ⟨by omega, by omega, OI k3 _ g3⟩
 · cases h
theorem aSI {R : Nat → kO} {l : List UInt8} (hR : ∀ d, wU (R d) l) (hl : l.length ≤ 1000) {d a : Nat} {t : Tm} {e : Nat} (h : mN R l d a = some (t, e)) : a < e ∧ e ≤ l.length ∧ Dn t := by
 unfold mN at h
 split at h
 · cases h
 rename_i h0
 have ha : a < l.length := by omega
 split at h
 · split at h
   · cases h
   rename_i t1 e1 h1
   obtain ⟨k1, k2, k3⟩ := hR _ _ _ _ (by omega) h1
   split at h
   · rename_i h5
     cases h
     have := nS h5
     exact ⟨by omega, by omega, k3⟩
   · cases h
 split at h
 · obtain ⟨k1, k2, k3⟩ := aT2 (hR _) hl (by omega) h
   exact ⟨by omega, k2, k3⟩
 split at h
 · cases h
   exact ⟨by omega, by omega, L6 _⟩
 split at h
 · split at h
   · cases h
   rename_i n e1 h1
   cases h
   have := a0Q (by omega) h1
   exact ⟨this.1, this.2, vS (by decide) (by simp) (by simp)⟩
 split at h
 · cases h
 rename_i nm e1 h1
 have g := EF (by omega) h1
 split at h
 · cases h
   exact ⟨g.1, g.2, aFI⟩
 split at h
 · cases h
 rename_i h6 _ ts e2 h2
 have h7 : cO l e1 40 = true := by simpa using h6
 have h8 := nS h7
 obtain ⟨k1, k2, k3, k4, k5⟩ := G7 (hR _) _ _ _ _ _ (by omega) (by simp) h2
 cases h
 refine ⟨by omega, by omega, NK ?_ k3⟩
 rw [a7] at k4
 omega
theorem aQC {R : kO} {l : List UInt8} (hR : wU R l) (lev : Nat) : ∀ (n : Nat) (t0 : Tm) (e0 : Nat) (t : Tm) (e : Nat), e0 ≤ l.length → Dn t0 → BR R l lev n t0 e0 = some (t, e) → e0 ≤ e ∧ e ≤ l.length ∧ Dn t := by
 intro n
 induction n with
 | zero => intro t0 e0 t e _ _ h; cases h
 | succ n ih =>
  intro t0 e0 t e h0 ht h
  unfold BR at h
  split at h
  · cases h; exact ⟨by omega, h0, ht⟩
  rename_i nm e1 h1
  have g := aF7 h1
  split at h
  · cases h; exact ⟨by omega, h0, ht⟩
  split at h
  · cases h
  rename_i rt e2 h2
  obtain ⟨k1, k2, k3⟩ := hR _ _ _ g.2.1 h2
  split at h
  · cases h; exact ⟨by omega, k2, QB ht k3⟩
  · obtain ⟨q1, q2, q3⟩ := ih _ _ _ _ k2 (QB ht k3) h
    exact ⟨by omega, q2, q3⟩
theorem zO {l : List UInt8} (hl : l.length ≤ 1000) : ∀ (n d lv : Nat), wU (fun a => rd l n d a lv) l := by
 intro n
 induction n with
 | zero => intro d lv a t e _ h; cases h
 | succ n ih =>
  intro d lv a t e ha h
  cases lv with
  | zero =>
   simp only [rd] at h
   exact aSI (fun d => ih d 3) hl h
  | succ lv =>
   simp only [rd] at h
   split at h
   · cases h
   rename_i t1 e1 h1
   obtain ⟨k1, k2, k3⟩ := ih d lv a t1 e1 ha h1
   obtain ⟨q1, q2, q3⟩ := aQC (ih d lv) _ _ _ _ _ _ k2 k3 h
   exact ⟨by omega, q2, q3⟩
end Go.AW
namespace Go.AW
open Go.Proofs.Tryz
def kG (a : Int) : AV := .tup [GR.av, .int .i64 (-1 - a)]
abbrev aMQ := zi tI_3 (zi zI_3 (zi aX (zi tI_63 (zi zI_63 (zi bS (zi bR (zi bP (zi bQ bT))))))))
theorem CG (a : Nat) (ha : a ≤ 1048576) (st : aB) : aD prog 220 [.int .i64 (a : Int)] st (fun r st' => r = kG a ∧ st' = st) := by
 refine aD.done ?_
 refine wF [1000000] 1 func220 ntmps220 rfl rfl ?_
 intro _
 have hw := bK (n := -1 - (a : Int))
 simp -implicitDefEqProofs only [aK, hw, aA, seval, aMQ]
 intro b hb
 exact ⟨by simp only [kG, aV, j5, kC, jV, lB, l9, bA, aW, aW], (aL.refl _).aC hb⟩
def PM (a : Nat) (o : Option (ByteArray × Nat)) : AV := match o with | some (b, e) => .tup [.str b, .int .i64 (e : Int)] | none => .tup [.str ⟨#[]⟩, .int .i64 (a : Int)]
abbrev AE := zi tI_3 (zi zI_3 (zi aX (zi tI_4 (zi zI_4 (zi cF (zi tI_5 (zi zI_5 (zi kN (zi tI_8 (zi zI_8 (zi vT (zi vX (zi wN (zi wO (zi wL (zi tI_9 (zi zI_9 cH)))))))))))))))))
set_option maxHeartbeats 1000000 in
theorem aXJ (s : ByteArray) (hs : s.size ≤ 1000) (a : Nat) (ha : a ≤ s.size) (st : aB) : aD prog 205 [.str s, .int .i64 (a : Int)] st (fun r st' => r = PM a (pA (sb s) a) ∧ st' = st) := by
 refine wF [1000000] 2 func205 ntmps205 rfl rfl ?_
 intro _
 simp -implicitDefEqProofs only [aA, seval]
 refine (kD s a 32 _).to ?_
 obtain ⟨f1, hf1⟩ : ∃ f, f = a + 1 := ⟨_, rfl⟩
 have hw1 := mW (x := (a : Int) + 1) (m := f1) (by omega) (by omega)
 simp -implicitDefEqProofs only [aA, seval]
 refine aQ (fun h1 => ?_) (fun h1 => ?_)
 · have hf := nS h1
   rw [cJ] at hf
   simp -implicitDefEqProofs only [hw1, aA, seval, AE]
   obtain ⟨f, rfl⟩ : ∃ f, f = f1 := ⟨_, rfl⟩
   replace hf : f ≤ s.size := by omega
   by_cases hlen : s.size ≤ f
   case pos =>
    have hrd : pA (sb s) a = none := by
     unfold pA
     simp only [h1, ↓reduceIte, ← hf1]
     rw [aG (by rw [cJ]; exact hlen)]
    rw [hrd]
    have cV : ((s.size : Int) ≤ (f : Int)) = True := dA (by omega)
    simp -implicitDefEqProofs only [cV, bM, aA, seval]
    rfl
   have cV : ((s.size : Int) ≤ (f : Int)) = False := cI (by omega)
   have hrd : pA (sb s) a = match nO (sb s) f with
    | none => none
    | some (nm, e) => if dK nm = 0 then none else if iD nm ≠ decide (a < f) ∨ (iD nm = true ∧ cO (sb s) e 32 = false) then none else some (nm, if iD nm then e + 1 else e) := by
    unfold pA
    simp only [h1, ↓reduceIte, ← hf1]
    rw [aE (by rw [cJ]; exact hlen)]
    try rfl
   rw [hrd]
   clear hrd
   have hfa : ((a : Int) < (f : Int)) = True := dA (by omega)
   have hfn : (a < f) = True := dA (by omega)
   simp -implicitDefEqProofs only [cV, bX, aA, seval]
   refine (MV s hs f (by omega) _).to ?_
   cases hn : nO (sb s) f with
   | none =>
    simp only [zA]
    simp -implicitDefEqProofs only [bM, aA, seval]
    rfl
   | some p =>
    obtain ⟨nm, e⟩ := p
    have he := EF (by rw [cJ]; omega) hn
    rw [cJ] at he
    simp only [zA]
    have he0 : ((e : Int) < 0) = False := cI (by omega)
    simp -implicitDefEqProofs only [he0, bX, aA, seval]
    refine (t8 nm _).to ?_
    by_cases hl0 : dK nm = 0
    case pos =>
     rw [aG hl0]
     have oW : ((dK nm : Int) = 0) = True := dA (by omega)
     simp -implicitDefEqProofs only [oW, bM, aA, seval]
     rfl
    rw [aE hl0]
    have oW : ((dK nm : Int) = 0) = False := cI (by omega)
    simp only [hfn, bM]
    have hw1 := bK (n := (e : Int) + 1)
    by_cases hi : nm = ⟨#[105, 115]⟩
    case' pos =>
     have hi' := dA hi
     have hm' : (nm = ⟨#[109, 111, 100]⟩) = False := cI (by rw [hi]; decide)
     have hW : iD nm = true := by unfold iD; rw [gB hi]; try rfl
    case' neg =>
     have hi' := cI hi
     by_cases hm : nm = ⟨#[109, 111, 100]⟩
     case' pos =>
      have hm' := dA hm
      have hW : iD nm = true := by unfold iD; rw [gB hm]; exact z9 _
     case' neg =>
      have hm' := cI hm
      have hW : iD nm = false := by unfold iD; rw [fH hm, fH hi]; try rfl
    all_goals
     rw [hW]
     simp -implicitDefEqProofs only [oW, hfa, hi', hm', bM, bX, aA, seval, AE]
     first
      | (rw [aG (Or.inl trivial)]; rfl)
      | (rw [aE fun h => h.1]; rfl)
      | skip
     try
      refine (kD s e 32 _).to ?_
      cases hb : cO (sb s) e 32 with
      | false =>
       simp -implicitDefEqProofs only [aA, seval]
       rfl
      | true =>
       simp -implicitDefEqProofs only [hw1, aA, seval]
       rfl
 · skip
   simp -implicitDefEqProofs only [aA, seval, AE]
   obtain ⟨f, rfl⟩ : ∃ f, f = a := ⟨_, rfl⟩
   have hf := ha
   by_cases hlen : s.size ≤ f
   case pos =>
    have hrd : pA (sb s) f = none := by
     unfold pA
     simp only [h1, ↓reduceIte, jC]
     rw [aG (by rw [cJ]; exact hlen)]
    rw [hrd]
    have cV : ((s.size : Int) ≤ (f : Int)) = True := dA (by omega)
    simp -implicitDefEqProofs only [cV, bM, aA, seval]
    rfl
   have cV : ((s.size : Int) ≤ (f : Int)) = False := cI (by omega)
   have hrd : pA (sb s) f = match nO (sb s) f with
    | none => none
    | some (nm, e) => if dK nm = 0 then none else if iD nm ≠ decide (f < f) ∨ (iD nm = true ∧ cO (sb s) e 32 = false) then none else some (nm, if iD nm then e + 1 else e) := by
    unfold pA
    simp only [h1, ↓reduceIte, jC]
    rw [aE (by rw [cJ]; exact hlen)]
    try rfl
   rw [hrd]
   clear hrd
   have hfa : ((f : Int) < (f : Int)) = False := cI (by omega)
   have hfn : (f < f) = False := cI (by omega)
   simp -implicitDefEqProofs only [cV, bX, aA, seval]
   refine (MV s hs f (by omega) _).to ?_
   cases hn : nO (sb s) f with
   | none =>
    simp only [zA]
    simp -implicitDefEqProofs only [bM, aA, seval]
    rfl
   | some p =>
    obtain ⟨nm, e⟩ := p
    have he := EF (by rw [cJ]; omega) hn
    rw [cJ] at he
    simp only [zA]
    have he0 : ((e : Int) < 0) = False := cI (by omega)
    simp -implicitDefEqProofs only [he0, bX, aA, seval]
    refine (t8 nm _).to ?_
    by_cases hl0 : dK nm = 0
    case pos =>
     rw [aG hl0]
     have oW : ((dK nm : Int) = 0) = True := dA (by omega)
     simp -implicitDefEqProofs only [oW, bM, aA, seval]
     rfl
    rw [aE hl0]
    have oW : ((dK nm : Int) = 0) = False := cI (by omega)
    simp only [hfn, bX]
    have hw1 := bK (n := (e : Int) + 1)
    by_cases hi : nm = ⟨#[105, 115]⟩
    case' pos =>
     have hi' := dA hi
     have hm' : (nm = ⟨#[109, 111, 100]⟩) = False := cI (by rw [hi]; decide)
     have hW : iD nm = true := by unfold iD; rw [gB hi]; try rfl
    case' neg =>
     have hi' := cI hi
     by_cases hm : nm = ⟨#[109, 111, 100]⟩
     case' pos =>
      have hm' := dA hm
      have hW : iD nm = true := by unfold iD; rw [gB hm]; exact z9 _
     case' neg =>
      have hm' := cI hm
      have hW : iD nm = false := by unfold iD; rw [fH hm, fH hi]; try rfl
    all_goals
     rw [hW]
     simp -implicitDefEqProofs only [oW, hfa, hi', hm', bM, bX, aA, seval, AE]
     first
      | (rw [aG (Or.inl trivial)]; rfl)
      | (rw [aE fun h => h.1]; rfl)
      | skip
     try
      refine (kD s e 32 _).to ?_
      cases hb : cO (sb s) e 32 with
      | false =>
       simp -implicitDefEqProofs only [oW, hfa, hi', hm', hw1, bM, bX, aA, ↓aU, seval, AE]
       rfl
      | true =>
       simp -implicitDefEqProofs only [oW, hfa, hi', hm', hw1, bM, bX, aA, ↓aU, seval, AE]
       rfl
theorem aPK {ts : List Tm} {i : Nat} {x t : Tm} (hx : ts[i]? = some x) : tY (ts.drop i) t = nH ⟨#[46]⟩ [x, tY (ts.drop (i + 1)) t] := by
 obtain ⟨h1, h2⟩ := gQ.1 hx
 rw [qW h1, h2]
 try rfl
abbrev JD := zi tI_3 (zi zI_3 (zi aX (zi tI_9 (zi zI_9 (zi cH (zi tI_31 (zi zI_31 (zi aN (zi bF (zi bE (zi b9 (zi tI_63 (zi zI_63 (zi bS (zi bR (zi bP (zi bQ bT)))))))))))))))))
set_option maxHeartbeats 1000000 in
theorem aLL (ts : List Tm) (tl : Tm) (hl : ts.length ≤ 1048576) (st : aB) : aD prog 236 [.slice (ts.map Tm.av), tl.av] st (fun r st' => r = (tY ts tl).av ∧ st' = st) := by
 refine aD.done ?_
 refine wF [1000000, 5] 2 func236 ntmps236 rfl rfl ?_
 intro _
 have hw0 := bK (n := (ts.length : Int) - 1)
 simp -implicitDefEqProofs only [aK, aT, aH, bZ, cG, bO, aF, hw0, aA, ↓aU, seval, JD]
 intro b hb b5 hb5
 have hbb : b5 ≠ b := fun h => by rw [h, aB.aO] at hb5; cases hb5
 refine g9 (σ := Nat) [1000000] [0, 4, 5] (fun i => i ≤ ts.length) (fun i => [(6, .int .i64 ((i : Int) - 1))]) (fun i => (st.aC b (.cells [.int .i64 0, .int .i64 0, .str ⟨#[]⟩, .fslice []])).aC b5 (.cells (tY (ts.drop i) tl).av.cells)) (fun i => i) (by decide +kernel) ⟨ts.length, by omega, by rw [kF]; exact aP.mk (by simp -implicitDefEqProofs only [aA, seval])⟩ ?_
 intro i hi
 simp -implicitDefEqProofs only [aA, seval]
 refine aQ (fun h1 => ?_) (fun h1 => ?_)
 · simp only [bJ] at h1
   obtain ⟨k, rfl⟩ : ∃ k, i = k + 1 := ⟨i - 1, by omega⟩
   obtain ⟨x, hx⟩ : ∃ x, ts[k]? = some x := ⟨_, fG (by omega)⟩
   have hk : ((k + 1 : Nat) : Int) - 1 = (k : Int) := by omega
   have hw := bK (n := (k : Int) - 1)
   have hst := aPK (t := tl) hx
   have hat := bL (av := Tm.av) aN hx (aH x)
   rw [hk]
   generalize tY (ts.drop (k + 1)) tl = y at *
   have hax := bO x
   have hay := bO y
   simp -implicitDefEqProofs only [aA, seval]
   refine wP [(0, 1), (1, 1), (2, 1), (3, 2), (4, 2), (5, 1), (6, 2), (7, 0)] [0, 1, 2, 3, 4, 5, 6] mixed ?_
   simp -implicitDefEqProofs only [aT, aH, cG, bO, d8 (bO _), eD (aT _), hat, aA, seval, JD]
   refine i8 (rJ ⟨#[46]⟩ [x, y] (by simp) _) ?_
   simp -implicitDefEqProofs only [aK, bZ, bO, hw, aA, seval, JD]
   refine ⟨k, by omega, by omega, ?_⟩
   rw [hst]
   exact aP.mk (by simp -implicitDefEqProofs only [aA, seval])
 · simp only [dH] at h1
   obtain rfl : i = 0 := by omega
   rw [tS]
   simp -implicitDefEqProofs only [aK, bZ, bO, d8 (bO _), eD (aT _), hbb.symm, aA, ↓aU, seval, JD]
   exact ⟨Tm.soft _, (((aL.refl _).aC hb).aC (by rwa [aB.aM _ _ hbb] at hb5)).aC hb⟩
def lL (o : Option (Tm × Nat)) (r : AV) : Prop := match o with | some (t, e) => r = .tup [t.av, .int .i64 (e : Int)] | none => ∃ k : Nat, k ≤ 1048576 ∧ r = kG k
def uI (o : Option (List Tm × Nat)) (r : AV) : Prop := match o with | some (ts, e) => r = .tup [.slice (ts.map Tm.av), .int .i64 (e : Int)] | none => ∃ k : Nat, k ≤ 1048576 ∧ r = .tup [.slice [], .int .i64 (-1 - (k : Int))]
abbrev MC (s : ByteArray) (R : kO) (d lv lo : Nat) : Prop := ∀ (a : Nat) (st : aB), lo ≤ a → a ≤ s.size → aD prog 165 [.str s, .int .i64 (a : Int), .int .i64 (d : Int), .int .i64 (lv : Int)] st (fun r st' => lL (R a) r ∧ st' = st)
abbrev MY := zi tI_3 (zi zI_3 (zi aX (zi tI_4 (zi zI_4 (zi cF (zi tI_5 (zi zI_5 (zi kN (zi tI_8 (zi zI_8 (zi vT (zi vX (zi wN (zi wO (zi wL (zi tI_9 (zi zI_9 (zi cH (zi tI_31 (zi zI_31 (zi aN (zi bF (zi bE (zi b9 (zi tI_44 (zi zI_44 (zi aAS (zi aLN (zi Z9 (zi aE8 (zi YC (zi aJ0 (zi UF (zi tI_63 (zi zI_63 (zi bS (zi bR (zi bP (zi bQ bT)))))))))))))))))))))))))))))))))))))))
set_option maxHeartbeats 1000000 in
theorem TR {s : ByteArray} {R : kO} {d lo c1 c2 : Nat} (hR : MC s R d 3 lo) (hok : wU R (sb s)) (hs : s.size ≤ 1000) (a : Nat) (ha : lo ≤ a) (ha' : a ≤ s.size) (st : aB) :
 aD prog 225 [.str s, .int .i64 (a : Int), .int .i64 (d : Int), .int .u8 (c1 : Int), .int .u8 (c2 : Int)] st (fun r st' => uI (p8 R (sb s) c1 c2 ((sb s).length + 1) a []) r ∧ st' = st) := by
 generalize hT : p8 R (sb s) c1 c2 ((sb s).length + 1) a [] = T
 rw [cJ] at hT
 refine aD.drop (Q := uI T) (aD.fin ?_)
 refine wF [1000000] 5 func225 ntmps225 rfl rfl ?_
 intro _
 simp -implicitDefEqProofs only [aA, seval, MY]
 refine g9 (σ := Nat × List Tm × Nat × Nat) [1000000] [0, 2, 3, 4] (fun x => p8 R (sb s) c1 c2 x.2.2.1 x.1 x.2.1 = T ∧ lo ≤ x.1 ∧ x.1 ≤ s.size ∧ s.size < x.2.2.1 + x.1 ∧ x.2.1.length + x.2.2.1 ≤ 1001 ∧ (x.2.1.map Tm.av ≠ [] → st x.2.2.2 = none)) (fun x => [(1, .int .i64 (x.1 : Int)), (10, .fslice []), (11, .int .i64 0), (12, a9 4 x.2.2.2 (x.2.1.map Tm.av))]) (fun x => aZ st x.2.2.2 (x.2.1.map Tm.av)) (fun x => x.2.2.1) (by decide +kernel) ⟨(a, [], s.size + 1, 0), ⟨hT, ha, ha', by simp only; omega, by simp only [a7]; omega, by simp⟩, aP.mk (by simp -implicitDefEqProofs only [aW, jH, aA, seval])⟩ ?_
 rintro ⟨i, acc, m, b⟩ ⟨ht, hlo, hi, hm, hlen, hb⟩
 simp only at ht hlo hi hm hlen hb ⊢
 obtain ⟨m, rfl⟩ : ∃ m', m = m' + 1 := ⟨m - 1, by omega⟩
 simp only [p8] at ht
 simp -implicitDefEqProofs only [aA, seval]
 refine (hR i _ hlo hi).mono ?_
 rintro r _ ⟨hr, rfl⟩
 have fin : ∀ (l : List Tm) (b' : Nat) (r' : AV), (l.map Tm.av ≠ [] → st b' = none) → uI T (r'.fin b' (l.map Tm.av)) → ∃ b2 l2 s0, aZ st b' (l.map Tm.av) = aZ s0 b2 l2 ∧ (l2 ≠ [] → s0 b2 = none) ∧ (∀ e ∈ l2, e.cB = false) ∧ gT l2 ∧ aL s0 st ∧ uI T (r'.fin b2 l2) := fun l b' r' h1 h2 => ⟨b', _, st, rfl, h1, hH _, ⟨4, dR _⟩, aL.refl _, h2⟩
 have hTn : T = none → ∀ k : Nat, k ≤ 1048576 → ∀ (b' : Nat) (l : List AV), uI T ((AV.tup [.fslice [], .int .i64 (-1 - (k : Int))]).fin b' l) := by
  rintro rfl k hk b' l
  exact ⟨k, hk, by simp only [jK, d9, oP, bA, aW]⟩
 cases hRi : R i with
 | none =>
  rw [hRi] at ht hr
  obtain ⟨k, hk, rfl⟩ := hr
  have hk0 : ((-1 - (k : Int)) < 0) = True := dA (by omega)
  simp -implicitDefEqProofs only [aH, bZ, cG, hk0, kG, bM, aA, ↓aU, seval, MY]
  exact fin _ _ _ hb (hTn ht.symm k hk _ _)
 | some p =>
  obtain ⟨t, e⟩ := p
  rw [hRi] at ht hr
  simp only at ht
  obtain ⟨g1, g2, g3⟩ := hok i t e (by rw [cJ]; exact hi) hRi
  rw [cJ] at g2
  simp only [lL] at hr
  subst hr
  have he0 : ((e : Int) < 0) = False := cI (by omega)
  simp -implicitDefEqProofs only [aT, aH, bZ, cG, he0, nY, sL, bX, aA, ↓aU, seval, MY]
  refine eN aN bF bE rfl rfl (fC (aH _) (bZ _)) (dR _) hb (by simp only [aF, aS, a7]; omega) (by simp only [aF, aS, a7]; omega) (fun b' hb' => ?_)
  rw [show acc.map Tm.av ++ [t.av] = (acc ++ [t]).map Tm.av by simp] at hb' ⊢
  simp -implicitDefEqProofs only [aA, seval]
  have v6 : T = some (acc ++ [t], e) → uI T ((AV.tup [a9 4 b' ((acc ++ [t]).map Tm.av), .int .i64 (e : Int)]).fin b' ((acc ++ [t]).map Tm.av)) := by
   rintro rfl
   simp only [uI, jK, d9, lP, bA, aW]
  have hw1 := bK (n := (e : Int) + 1)
  have hw2 := bK (n := -1 - (e : Int))
  refine (kD s e c1 _).to ?_
  cases h1 : cO (sb s) e c1 with
  | true =>
   rw [h1, xQ, aG rfl] at ht
   simp -implicitDefEqProofs only [m6, nY, sL, aA, seval]
   exact fin _ _ _ hb' (v6 ht.symm)
  | false =>
  simp -implicitDefEqProofs only [aA, seval]
  refine (kD s e c2 _).to ?_
  cases h2 : cO (sb s) e c2 with
  | true =>
   rw [h2, z9, aG rfl] at ht
   simp -implicitDefEqProofs only [m6, nY, sL, aA, seval]
   exact fin _ _ _ hb' (v6 ht.symm)
  | false =>
  rw [h1, h2, GW, aE (by decide)] at ht
  simp -implicitDefEqProofs only [aA, seval]
  refine (kD s e 44 _).to ?_
  cases h3 : cO (sb s) e 44 with
  | true =>
   have h4 := nS h3
   rw [cJ] at h4
   rw [h3, aG rfl] at ht
   simp -implicitDefEqProofs only [hw1, aA, seval]
   refine ⟨(e + 1, acc ++ [t], m, b'), by simp only; omega, ⟨ht, by simp only; omega, by simp only; omega, by simp only; omega, by simp only [dQ, aS, a7]; omega, hb'⟩, aP.mk (by simp -implicitDefEqProofs only [aA, seval] <;> rfl)⟩
  | false =>
   rw [h3, aE (by decide)] at ht
   simp -implicitDefEqProofs only [hw2, aA, seval]
   exact fin _ _ _ hb' (hTn ht.symm e (by omega) _ _)
theorem aD.PI {P : Program} {g : FuncId} {args : List AV} {st : aB} {Q : AV → Prop} (x : aD P g args st (fun r' st' => Q r'.soft ∧ aL st' st)) : aD P g args st (fun r' st' => Q r' ∧ st' = st) :=
 aD.drop (aD.soft (x.mono fun _ _ h => ⟨h.2, h.1⟩))
theorem CQ {k : Nat} (hk : k ≤ 1048576) : lL none (AV.tup [.agg [.int .i64 0, .int .i64 0, .str ⟨#[]⟩, .fslice []], .int .i64 (-1 - (k : Int))]).soft :=
 ⟨k, hk, by simp only [kG, aV, j5, kC, jV, lB, l9, bA, aW]⟩
theorem qE {t : Tm} {e : Nat} {x : Int} (h : x = (e : Int)) : lL (some (t, e)) (AV.tup [t.av, .int .i64 x]).soft := by
 subst h
 simp only [lL, kC, jV, Tm.soft, bA, aW]
theorem wC {k : Nat} (hk : k ≤ 1048576) : lL none (AV.tup [GR.av, .int .i64 (-1 - (k : Int))]).soft :=
 ⟨k, hk, by simp only [kG, kC, jV, Tm.soft, bA, aW]⟩
abbrev wE := zi tI_3 (zi zI_3 (zi aX (zi tI_4 (zi zI_4 (zi cF (zi tI_5 (zi zI_5 (zi kN (zi tI_8 (zi zI_8 (zi vT (zi vX (zi wN (zi wO (zi wL (zi tI_9 (zi zI_9 (zi cH (zi tI_31 (zi zI_31 (zi aN (zi bF (zi bE (zi b9 (zi tI_63 (zi zI_63 (zi bS (zi bR (zi bP (zi bQ (zi bT (zi tI_124 (zi zI_124 (zi MA (zi OJ OX)))))))))))))))))))))))))))))))))))
set_option maxHeartbeats 1000000 in
theorem aWC {s : ByteArray} {R : kO} {d lo : Nat} (hR : MC s R d 3 lo) (hok : wU R (sb s)) (hs : s.size ≤ 1000) (a : Nat) (ha : lo ≤ a) (ha' : a ≤ s.size) (st : aB) :
 aD prog 221 [.str s, .int .i64 (a : Int), .int .i64 (d : Int)] st (fun r st' => lL (y9 R (sb s) a) r ∧ st' = st) := by
 refine aD.PI ?_
 refine wF [1000000] 3 func221 ntmps221 rfl rfl ?_
 intro _
 simp -implicitDefEqProofs only [aA, seval, wE]
 intro b hb
 unfold y9
 refine (TR hR hok hs a ha ha' _ (c1 := 93) (c2 := 124)).mono ?_
 rintro r _ ⟨hr, rfl⟩
 have hD := fun (o : AO) => (aL.refl st).aC (o := o) hb
 cases hT : p8 R (sb s) 93 124 ((sb s).length + 1) a [] with
 | none =>
  rw [hT] at hr
  obtain ⟨k, hk, rfl⟩ := hr
  have hk0 : ((-1 - (k : Int)) < 0) = True := dA (by omega)
  simp -implicitDefEqProofs only [aK, hk0, bM, aA, seval, wE]
  exact ⟨CQ hk, hD _⟩
 | some p =>
  obtain ⟨ts, e⟩ := p
  rw [hT] at hr
  simp only [uI] at hr
  subst hr
  obtain ⟨g1, g2, g3, g4, g5⟩ := G7 hok _ _ _ _ _ (by rw [cJ]; exact ha') (by simp) hT
  rw [cJ] at g2 g4
  rw [a7] at g4
  have he0 : ((e : Int) < 0) = False := cI (by omega)
  obtain ⟨f, hf⟩ : ∃ f, f = e + 1 := ⟨_, rfl⟩
  have hw := mW (x := (e : Int) + 1) (m := f) (by omega) (by omega)
  simp -implicitDefEqProofs only [he0, bX, aA, seval]
  refine (kD s e 93 _).to ?_
  cases h1 : cO (sb s) e 93 with
  | true =>
   simp -implicitDefEqProofs only [aA, seval]
   refine (rJ ⟨#[91, 93]⟩ [] (by simp) _).to ?_
   simp -implicitDefEqProofs only [aA, seval]
   refine (aLL ts (nH ⟨#[91, 93]⟩ []) (by omega) _).to ?_
   simp -implicitDefEqProofs only [aK, bZ, cG, bO, d8 (bO _), eD (aT _), hw, aA, seval, wE]
   exact ⟨qE (by omega), hD _⟩
  | false =>
   simp -implicitDefEqProofs only [hw, aA, seval]
   refine (hR f _ (by omega) (by omega)).mono ?_
   rintro r _ ⟨hr, rfl⟩
   rw [← hf]
   cases hRi : R f with
   | none =>
    rw [hRi] at hr
    obtain ⟨k, hk, rfl⟩ := hr
    have hk0 : ((-1 - (k : Int)) < 0) = True := dA (by omega)
    simp -implicitDefEqProofs only [aK, aH, bZ, cG, hk0, kG, bM, aA, ↓aU, seval, wE]
    exact ⟨CQ hk, hD _⟩
   | some p =>
    obtain ⟨t, e2⟩ := p
    rw [hRi] at hr
    simp only [lL] at hr
    subst hr
    obtain ⟨k1, k2, k3⟩ := hok f t e2 (by rw [cJ]; omega) hRi
    rw [cJ] at k2
    have he2 : ((e2 : Int) < 0) = False := cI (by omega)
    have hw2 := bK (n := (e2 : Int) + 1)
    simp -implicitDefEqProofs only [aH, bZ, cG, he2, bX, aA, ↓aU, seval, wE]
    refine (kD s e2 93 _).to ?_
    cases h2 : cO (sb s) e2 93 with
    | true =>
     simp -implicitDefEqProofs only [aT, aH, aA, seval, wE]
     refine (aLL ts t (by omega) _).to ?_
     simp -implicitDefEqProofs only [aK, bZ, cG, bO, d8 (bO _), eD (aT _), hw2, aA, seval, wE]
     exact ⟨qE rfl, hD _⟩
    | false =>
     simp -implicitDefEqProofs only [aA, seval]
     refine (CG e2 (by omega) _).to ?_
     simp -implicitDefEqProofs only [aK, bZ, cG, bO, d8 (bO _), eD (aT _), kG, aA, seval, wE]
     exact ⟨wC (by omega), hD _⟩
theorem aYQ {R : Nat → kO} {l : List UInt8} {d a : Nat} (h : d < 1 ∨ l.length ≤ a) : mN R l d a = none := by unfold mN; rw [aG h]
theorem aTA {R : Nat → kO} {l : List UInt8} {d a : Nat} (h : ¬(d < 1 ∨ l.length ≤ a)) (h1 : cO l a 40 = true) : mN R l d a = match R d (a + 1) with
 | none => none
 | some (t, e) => if cO l e 41 then some (t, e + 1) else none := by unfold mN; rw [aE h, aG h1]; try rfl
theorem aQ9 {R : Nat → kO} {l : List UInt8} {d a : Nat} (h : ¬(d < 1 ∨ l.length ≤ a)) (h1 : cO l a 40 = false) (h2 : cO l a 91 = true) (h3 : cO l (a + 1) 93 = false) : mN R l d a = y9 (R (d - 1)) l (a + 1) := by
 unfold mN; rw [aE h, aE (by simp [h1]), aG (by simp [h2, h3])]
theorem a0D {R : Nat → kO} {l : List UInt8} {d a : Nat} (h : ¬(d < 1 ∨ l.length ≤ a)) (h1 : cO l a 40 = false) (h2 : (cO l a 91 && !cO l (a + 1) 93) = false) (h3 : fN l a rW = true) : mN R l d a = some (vr ((HI l a - 65 : Nat) : Int), a + 1) := by
 unfold mN; rw [aE h, aE (by simp [h1]), aE (by simp [h2]), aG h3]
theorem aZC {R : Nat → kO} {l : List UInt8} {d a : Nat} (h : ¬(d < 1 ∨ l.length ≤ a)) (h1 : cO l a 40 = false) (h2 : (cO l a 91 && !cO l (a + 1) 93) = false) (h3 : fN l a rW = false) (h4 : (fN l a dN || (cO l a 45 && fN l (a + 1) dN)) = true) : mN R l d a = match tQ l a with
 | none => none
 | some (n, e) => some (.mk 2 n ⟨#[]⟩ [], e) := by
 unfold mN; rw [aE h, aE (by simp [h1]), aE (by simp [h2]), aE (by simp [h3]), aG h4]; try rfl
theorem aZ6 {R : Nat → kO} {l : List UInt8} {d a : Nat} (h : ¬(d < 1 ∨ l.length ≤ a)) (h1 : cO l a 40 = false) (h2 : (cO l a 91 && !cO l (a + 1) 93) = false) (h3 : fN l a rW = false) (h4 : (fN l a dN || (cO l a 45 && fN l (a + 1) dN)) = false) : mN R l d a = match nO l a with
 | none => none
 | some (nm, e) => if cO l e 40 = false then some (nH nm [], e) else match p8 (R (d - 1)) l 41 41 (l.length + 1) (e + 1) [] with
  | none => none
  | some (ts, e') => some (nH nm ts, e' + 1) := by
 unfold mN; rw [aE h, aE (by simp [h1]), aE (by simp [h2]), aE (by simp [h3]), aE (by simp [h4])]; try rfl
abbrev j3 := zi tI_3 (zi zI_3 (zi aX (zi tI_4 (zi zI_4 (zi cF (zi tI_5 (zi zI_5 (zi kN (zi tI_8 (zi zI_8 (zi vT (zi vX (zi wN (zi wO (zi wL (zi tI_9 (zi zI_9 (zi cH (zi tI_31 (zi zI_31 (zi aN (zi bF (zi bE (zi b9 (zi tI_40 (zi zI_40 (zi aFX (zi aA2 (zi aCK (zi Y9 (zi aHO (zi aH0 (zi Y4 (zi tI_41 (zi zI_41 (zi aYH (zi aP6 (zi aXN (zi aSU (zi aP1 (zi aRX (zi aST (zi tI_63 (zi zI_63 (zi bS (zi bR (zi bP (zi bQ bT))))))))))))))))))))))))))))))))))))))))))))))))
set_option maxHeartbeats 2000000 in
theorem aYS {s : ByteArray} {R : Nat → kO} {a : Nat} (hR : ∀ d, d ≤ 1048576 → MC s (R d) d 3 (a + 1)) (hok : ∀ d, wU (R d) (sb s)) (hs : s.size ≤ 1000) (ha : a ≤ s.size) (d : Nat) (hd : d ≤ 1048576) (st : aB) :
 aD prog 204 [.str s, .int .i64 (a : Int), .int .i64 (d : Int)] st (fun r st' => lL (mN R (sb s) d a) r ∧ st' = st) := by
 refine aD.PI ?_
 refine wF [1000000] 3 func204 ntmps204 rfl rfl ?_
 intro _
 generalize hP : mN R (sb s) d a = o
 simp -implicitDefEqProofs only [aA, seval, j3]
 intro b hb
 have hD := fun (o : AO) => (aL.refl st).aC (o := o) hb
 by_cases h0 : d < 1 ∨ s.size ≤ a
 case pos =>
  rw [aYQ (by rw [cJ]; exact h0)] at hP
  subst hP
  by_cases h01 : d < 1
  case pos =>
   have vC : ((d : Int) < 1) = True := dA (by omega)
   simp -implicitDefEqProofs only [vC, bM, aA, seval]
   refine (CG a (by omega) _).to ?_
   simp -implicitDefEqProofs only [aK, bZ, cG, bO, d8 (bO _), eD (aT _), kG, aA, seval, j3]
   exact ⟨wC (by omega), hD _⟩
  case neg =>
   have vC : ((d : Int) < 1) = False := cI (by omega)
   have yM : ((s.size : Int) ≤ (a : Int)) = True := dA (by omega)
   simp -implicitDefEqProofs only [vC, yM, bM, bX, aA, seval, j3]
   refine (CG a (by omega) _).to ?_
   simp -implicitDefEqProofs only [aK, bZ, cG, bO, d8 (bO _), eD (aT _), kG, aA, seval, j3]
   exact ⟨wC (by omega), hD _⟩
 have h0' : ¬(d < 1 ∨ (sb s).length ≤ a) := by rw [cJ]; exact h0
 have vC : ((d : Int) < 1) = False := cI (by omega)
 have yM : ((s.size : Int) ≤ (a : Int)) = False := cI (by omega)
 obtain ⟨x, hx⟩ := uA (s := s) (n := a) (by omega)
 have hix := rA (P := prog) (t := 9) cH hx
 obtain ⟨f, hf⟩ : ∃ f, f = a + 1 := ⟨_, rfl⟩
 have hw := mW (x := (a : Int) + 1) (m := f) (by omega) (by omega)
 obtain ⟨d1, hd1⟩ : ∃ d1, d1 = d - 1 := ⟨_, rfl⟩
 have hwd := mW (x := (d : Int) - 1) (m := d1) (by omega) (by omega)
 by_cases h40 : x.toNat = 40
 case pos =>
  rw [aTA h0' (by rw [q9 hx, h40]; try rfl), ← hf] at hP
  have AD : ((x.toNat : Int) = 40) = True := dA (by omega)
  simp -implicitDefEqProofs only [vC, yM, hix, AD, hw, bM, bX, aA, seval, j3]
  refine (hR d hd f _ (by omega) (by omega)).mono ?_
  rintro r _ ⟨hr, rfl⟩
  cases hRi : R d f with
  | none =>
   rw [hRi] at hr hP
   subst hP
   obtain ⟨k, hk, rfl⟩ := hr
   have hk0 : ((-1 - (k : Int)) < 0) = True := dA (by omega)
   simp -implicitDefEqProofs only [aK, aH, bZ, cG, hk0, kG, bM, aA, ↓aU, seval, j3]
   exact ⟨CQ hk, hD _⟩
  | some p =>
   obtain ⟨t, e2⟩ := p
   rw [hRi] at hr hP
   simp only [lL] at hr
   subst hr
   obtain ⟨k1, k2, k3⟩ := hok d f t e2 (by rw [cJ]; omega) hRi
   rw [cJ] at k2
   have he2 : ((e2 : Int) < 0) = False := cI (by omega)
   have hw2 := bK (n := (e2 : Int) + 1)
   simp -implicitDefEqProofs only [aH, bZ, cG, he2, bX, aA, ↓aU, seval, j3]
   refine (kD s e2 41 _).to ?_
   cases h2 : cO (sb s) e2 41 with
   | true =>
    simp only [h2, ↓reduceIte] at hP
    subst hP
    simp -implicitDefEqProofs only [aK, aT, aH, bZ, cG, bO, d8 (bO _), eD (aT _), hw2, aA, seval, j3]
    exact ⟨qE rfl, hD _⟩
   | false =>
    simp only [h2, ↓reduceIte, jC] at hP
    subst hP
    simp -implicitDefEqProofs only [aA, seval]
    refine (CG e2 (by omega) _).to ?_
    simp -implicitDefEqProofs only [aK, bZ, cG, bO, d8 (bO _), eD (aT _), kG, aA, seval, j3]
    exact ⟨wC (by omega), hD _⟩
 have g40 : cO (sb s) a 40 = false := by rw [q9 hx]; exact fH h40
 have AD : ((x.toNat : Int) = 40) = False := cI (by omega)
 -- a list
 by_cases hL : x.toNat = 91 ∧ cO (sb s) f 93 = false
 case pos =>
  obtain ⟨h91, h93⟩ := hL
  rw [aQ9 h0' g40 (by rw [q9 hx, h91]; try rfl) (by rw [← hf]; exact h93), ← hf, ← hd1] at hP
  subst hP
  have r7 : ((x.toNat : Int) = 91) = True := dA (by omega)
  simp -implicitDefEqProofs only [vC, yM, hix, AD, r7, hw, bM, bX, aA, seval, j3]
  refine (kD s f 93 _).to ?_
  rw [h93]
  simp -implicitDefEqProofs only [hw, hwd, aA, seval]
  refine (aWC (hR d1 (by omega)) (hok d1) hs f (by omega) (by omega) _).mono ?_
  rintro r _ ⟨hr, rfl⟩
  cases hI : y9 (R d1) (sb s) f with
  | none =>
   rw [hI] at hr
   obtain ⟨k, hk, rfl⟩ := hr
   simp -implicitDefEqProofs only [aK, bZ, cG, bO, d8 (bO _), eD (aT _), kG, aA, seval, j3]
   exact ⟨wC hk, hD _⟩
  | some p =>
   obtain ⟨t, e2⟩ := p
   rw [hI] at hr
   simp only [lL] at hr
   subst hr
   simp -implicitDefEqProofs only [aK, bZ, cG, bO, d8 (bO _), eD (aT _), aA, seval, j3]
   exact ⟨qE rfl, hD _⟩
 have gL : (cO (sb s) a 91 && !cO (sb s) (a + 1) 93) = false := by
  rw [← hf, q9 hx]
  rcases Nat.decEq x.toNat 91 with h | h
  · rw [fH h, gK]
  · rw [gB h, eT]
    cases h93 : cO (sb s) f 93 with
    | true => rfl
    | false => exact absurd ⟨h, h93⟩ hL
 by_cases hU : rW x = true
 case pos =>
  have hP' := a0D (R := R) h0' g40 gL (by rw [uG hx]; exact hU)
  rw [hP'] at hP
  subst hP
  have hbn : HI (sb s) a = x.toNat := by unfold HI; rw [hx]
  simp only [rW, cM, bJ] at hU
  have r7 : ((x.toNat : Int) = 91) = False := cI (by omega)
  have h65 : ((65 : Int) ≤ (x.toNat : Int)) = True := dA (by omega)
  have h90 : ((x.toNat : Int) ≤ 90) = True := dA (by omega)
  obtain ⟨y, hy⟩ : ∃ y, y = x.toNat - 65 := ⟨_, rfl⟩
  have hw2 : IntKind.wrap .u8 ((x.toNat : Int) - 65) = (y : Int) := by rw [IntKind.wrap_u8]; omega
  have hw3 := bK (n := (y : Int))
  simp -implicitDefEqProofs only [vC, yM, hix, AD, r7, h65, h90, hw2, hw3, sP, bM, bX, aA, seval, j3]
  refine (H8 (y : Int) _).to ?_
  simp -implicitDefEqProofs only [aK, bZ, cG, bO, d8 (bO _), eD (aT _), hw, aA, seval, j3]
  rw [hbn, ← hy, ← hf]
  exact ⟨qE rfl, hD _⟩
 have gU : fN (sb s) a rW = false := by rw [uG hx]; simpa using hU
 cases hdg : (fN (sb s) a dN || (cO (sb s) a 45 && fN (sb s) (a + 1) dN)) with
 | true =>
  have hP' := aZC (R := R) h0' g40 gL gU hdg
  rw [hP'] at hP
  by_cases hdx : dN x = true
  case' pos => have BP := hdx
  case' neg =>
   have hdx : dN x = false := by simpa using hdx
   rw [uG hx, hdx, qV, cM, q9 hx, bJ] at hdg
   have BP : ((x.toNat : Int) = 45) = True := dA (by omega)
  all_goals
   by_cases h91 : x.toNat = 91
   case' pos =>
    have r7 : ((x.toNat : Int) = 91) = True := dA (by omega)
    have h93 : cO (sb s) f 93 = true := by rw [q9 hx, gB h91, eT, ← hf] at gL; simpa using gL
   case' neg =>
    have r7 : ((x.toNat : Int) = 91) = False := cI (by omega)
    have h93 := r7
   all_goals
    by_cases h65 : 65 ≤ x.toNat
    case' pos =>
     have vA : ((65 : Int) ≤ (x.toNat : Int)) = True := dA (by omega)
     have zS : ((x.toNat : Int) ≤ 90) = False := cI (by intro h; exact hU (by simp only [rW, cM, bJ]; omega))
    case' neg =>
     have vA : ((65 : Int) ≤ (x.toNat : Int)) = False := cI (by omega)
     have zS := vA
   all_goals
    simp -implicitDefEqProofs only [vC, yM, hix, AD, r7, vA, zS, hw, bM, bX, aA, seval, j3]
    try
     refine (kD s f 93 _).to ?_
     rw [h93]
     simp -implicitDefEqProofs only [hix, vA, zS, bM, bX, aA, seval]
    refine (yB s a _).to ?_
    rw [uG hx]
   all_goals
    simp -implicitDefEqProofs only [hix, hdx, BP, hw, bM, aA, seval]
    try
     refine (yB s f _).to ?_
     rw [hf, hdg.2]
     simp -implicitDefEqProofs only [aA, seval]
    refine (aXL s hs a ha _).to ?_
    cases hn : tQ (sb s) a with
    | none =>
     rw [hn] at hP
     subst hP
     simp -implicitDefEqProofs only [aH, bZ, cG, zQ, bM, aA, ↓aU, seval, j3]
     refine (CG a (by omega) _).to ?_
     simp -implicitDefEqProofs only [aK, bZ, cG, bO, d8 (bO _), eD (aT _), kG, aA, seval, j3]
     exact ⟨wC (by omega), hD _⟩
    | some p =>
     obtain ⟨n, e⟩ := p
     rw [hn] at hP
     subst hP
     have he0 : ((e : Int) < 0) = False := cI (by omega)
     simp -implicitDefEqProofs only [aK, aT, aH, bZ, cG, bO, d8 (bO _), eD (aT _), zQ, he0, bX, aA, ↓aU, seval, j3]
     exact ⟨qE rfl, hD _⟩
 | false =>
  have hP' := aZ6 (R := R) h0' g40 gL gU hdg
  rw [hP', ← hd1] at hP
  rw [uG hx, Bool.or_eq_false_iff, q9 hx, ← hf] at hdg
  have hdx := hdg.1
  by_cases h45 : x.toNat = 45
  case' pos =>
   have BP : ((x.toNat : Int) = 45) = True := dA (by omega)
   have hfd : fN (sb s) f dN = false := by have := hdg.2; rwa [gB h45, eT] at this
  case' neg =>
   have BP : ((x.toNat : Int) = 45) = False := cI (by omega)
   have hfd := BP
  all_goals
   by_cases h91 : x.toNat = 91
   case' pos =>
    have r7 : ((x.toNat : Int) = 91) = True := dA (by omega)
    have h93 : cO (sb s) f 93 = true := by rw [q9 hx, gB h91, eT, ← hf] at gL; simpa using gL
   case' neg =>
    have r7 : ((x.toNat : Int) = 91) = False := cI (by omega)
    have h93 := r7
   all_goals
    by_cases h65 : 65 ≤ x.toNat
    case' pos =>
     have vA : ((65 : Int) ≤ (x.toNat : Int)) = True := dA (by omega)
     have zS : ((x.toNat : Int) ≤ 90) = False := cI (by intro h; exact hU (by simp only [rW, cM, bJ]; omega))
    case' neg =>
     have vA : ((65 : Int) ≤ (x.toNat : Int)) = False := cI (by omega)
     have zS := vA
   all_goals
    simp -implicitDefEqProofs only [vC, yM, hix, AD, r7, vA, zS, hw, bM, bX, aA, seval, j3]
    try
     refine (kD s f 93 _).to ?_
     rw [h93]
     simp -implicitDefEqProofs only [hix, vA, zS, bM, bX, aA, seval]
    refine (yB s a _).to ?_
    rw [uG hx]
   all_goals
    simp -implicitDefEqProofs only [hix, hdx, BP, hw, bM, bX, aA, seval]
    try
     refine (yB s f _).to ?_
     rw [hfd]
     simp -implicitDefEqProofs only [aA, seval]
    refine (MV s hs a ha _).to ?_
    cases hn : nO (sb s) a with
    | none =>
     rw [hn] at hP
     subst hP
     simp -implicitDefEqProofs only [zA, bM, aA, seval]
     refine (CG a (by omega) _).to ?_
     simp -implicitDefEqProofs only [aK, bZ, cG, bO, d8 (bO _), eD (aT _), kG, aA, seval, j3]
     exact ⟨wC (by omega), hD _⟩
    | some p =>
     obtain ⟨nm, e⟩ := p
     rw [hn] at hP
     simp only at hP
     have hel := EF (by rw [cJ]; exact ha) hn
     rw [cJ] at hel
     have he0 : ((e : Int) < 0) = False := cI (by omega)
     obtain ⟨f2, hf2⟩ : ∃ f2, f2 = e + 1 := ⟨_, rfl⟩
     have hwe := mW (x := (e : Int) + 1) (m := f2) (by omega) (by omega)
     simp -implicitDefEqProofs only [zA, he0, bX, aA, seval]
     refine (kD s e 40 _).to ?_
     cases h4 : cO (sb s) e 40 with
     | false =>
      rw [aG h4] at hP
      subst hP
      simp -implicitDefEqProofs only [aA, seval]
      refine (rJ nm [] (by simp) _).to ?_
      simp -implicitDefEqProofs only [aK, bZ, cG, bO, d8 (bO _), eD (aT _), aA, seval, j3]
      exact ⟨qE rfl, hD _⟩
     | true =>
      rw [aE (by simp [h4]), ← hf2] at hP
      have h5 := nS h4
      rw [cJ] at h5
      simp -implicitDefEqProofs only [hwd, hwe, aA, seval]
      refine (TR (hR d1 (by omega)) (hok d1) hs f2 (by omega) (by omega) _ (c1 := 41) (c2 := 41)).mono ?_
      rintro r _ ⟨hr, rfl⟩
      cases hT : p8 (R d1) (sb s) 41 41 ((sb s).length + 1) f2 [] with
      | none =>
       rw [hT] at hr hP
       subst hP
       obtain ⟨k, hk, rfl⟩ := hr
       have hk0 : ((-1 - (k : Int)) < 0) = True := dA (by omega)
       simp -implicitDefEqProofs only [aK, hk0, bM, aA, seval, j3]
       exact ⟨CQ hk, hD _⟩
      | some p =>
       obtain ⟨ts, e3⟩ := p
       rw [hT] at hr hP
       simp only [uI] at hr hP
       subst hr hP
       obtain ⟨g1, g2, g3, g4, g5⟩ := G7 (hok d1) _ _ _ _ _ (by rw [cJ]; omega) (by simp) hT
       rw [cJ] at g2
       have he3 : ((e3 : Int) < 0) = False := cI (by omega)
       have hw3 := bK (n := (e3 : Int) + 1)
       simp -implicitDefEqProofs only [aK, he3, hw3, bX, aA, seval, j3]
       exact ⟨by rw [show (AV.agg [.int .i64 3, .int .i64 0, .str nm, .slice (ts.map Tm.av)]) = (nH nm ts).av from (aV ..).symm]; exact qE rfl, hD _⟩
end Go.AW
