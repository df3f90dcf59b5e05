import Derived.Test.YtpficjlageaebaaGreatDoorSfaj
import Derived.Test.YtpficjlageaebaaGreatDoorSfai
import Derived.Test.YtpficjlageaebaaGreatDoorSfaf
import Derived.Test.YtpficjlageaebaaGreatDoorSfah
set_option linter.unusedSimpArgs false
set_option linter.unusedVariables false
set_option maxRecDepth 100000
namespace Go.AW
open Go.Proofs.Tryz
abbrev VR := zi tI_3 (zi zI_3 (zi aX (zi tI_31 (zi zI_31 (zi aN (zi bE (zi bF (zi b9 (zi tI_63 (zi zI_63 (zi bP (zi bQ (zi bT (zi bS bR))))))))))))))
theorem aOV (l : List Tm) (g : FuncId) (dS : List AV) (p : Tm → Bool) (J E : aB → Prop) (hc : ∀ x ∈ l, ∀ s, J s → aD prog g ([Tm.av x] ++ dS) s (fun r s' => r = .bool (p x) ∧ (p x = true → E s') ∧ (p x = false → J s'))) (st : aB) (h0 : J st) :
 aD prog 203 [.slice (l.map Tm.av), .func g dS] st (fun r st' => r = .int .i64 (rW p l 0) ∧ (l.any p = true → E st') ∧ (l.any p = false → J st')) := by
 refine wF [1000000] 2 func203 ntmps203 rfl rfl ?_
 simp only [eG, AV.fits, eM, aF]
 intro ⟨hl, _⟩
 simp -implicitDefEqProofs only [aF, aA, seval, VR]
 refine eL (σ := aB) [1000000] [0, 1, 7] l (fun i s => J s ∧ rW p (l.drop i) i = rW p l 0 ∧ (l.drop i).any p = l.any p) (fun i _ => [(8, .int .i64 i)]) (fun _ s => s) (by decide +kernel) ⟨st, ⟨h0, rfl, rfl⟩, aO.mk (by simp -implicitDefEqProofs only [aA, ↓aU, seval])⟩ (fun i x s hx hlt bU hdr hinv => ?_) (fun s hge hinv => ?_)
 case refine_2 =>
  obtain ⟨i1, i2, i3⟩ := hinv
  rw [kH] at i2 i3
  simp -implicitDefEqProofs only [hge, aA, seval]
  exact ⟨by rw [← i2]; try rfl, fun h => (by rw [← i3] at h; cases h), fun _ => i1⟩
 obtain ⟨i1, i2, i3⟩ := hinv
 rw [hdr, rW] at i2
 rw [hdr, DE] at i3
 have hw := bK (n := (i : Int) + 1)
 simp -implicitDefEqProofs only [bU, bL (av := Tm.av) aN hx (aH x), aT, aH, aA, seval, VR]
 refine (hc x (cW hx) s i1).mono ?_
 rintro _ s2 ⟨rfl, hE, hJ⟩
 simp -implicitDefEqProofs only [aA, seval]
 refine aQ (fun h => ?_) (fun h => ?_)
 · rw [aG h] at i2
   rw [h, xS] at i3
   simp -implicitDefEqProofs only [aA, seval]
   exact ⟨by rw [i2], fun _ => hE h, fun h' => (by rw [← i3] at h'; cases h')⟩
 · rw [aE (by simp [h])] at i2
   rw [h, qX] at i3
   simp -implicitDefEqProofs only [aA, seval]
   exact ⟨s2, ⟨hJ h, i2, i3⟩, aO.mk (by simp -implicitDefEqProofs only [hw, aA, seval])⟩
theorem aXX (l : List Tm) (g : FuncId) (dS : List AV) (p : Tm → Bool) (J E : aB → Prop) (hc : ∀ x ∈ l, ∀ s, J s → aD prog g ([Tm.av x] ++ dS) s (fun r s' => r = .bool (p x) ∧ (p x = true → E s') ∧ (p x = false → J s'))) (st : aB) (h0 : J st) :
 aD prog 162 [.slice (l.map Tm.av), .func g dS] st (fun r st' => r = .bool (l.any p) ∧ (l.any p = true → E st') ∧ (l.any p = false → J st')) := by
 refine wF [1000000] 2 func162 ntmps162 rfl rfl ?_
 intro _
 simp -implicitDefEqProofs only [aA, seval]
 refine (aOV l g dS p J E hc st h0).mono ?_
 rintro _ s2 ⟨rfl, hE, hJ⟩
 simp -implicitDefEqProofs only [aPG, aA, seval]
 exact ⟨hE, hJ⟩
def Occ (R : Int → Tm) (n : Int) (t : Tm) (st : aB) (mm : Nat) (M : List Int) (r : AV) (st' : aB) : Prop :=
 r = .bool (decide (n ∈ (t.aJ R).vl)) ∧ ∃ M', st' = st.aC mm (.map (kZ M')) ∧ (n ∉ (t.aJ R).vl → ∀ v ∈ M', v ∈ M ∨ n ∉ (R v).vl)
abbrev aQS := zi tI_3 (zi zI_3 (zi aX (zi tI_4 (zi zI_4 (zi cD (zi tI_63 (zi zI_63 (zi bP (zi bQ (zi bT (zi bS (zi bR (zi tI_148 (zi zI_148 (zi tI_239 (zi zI_239 EB))))))))))))))))
theorem aWW {c mm : Nat} {n : Int} {t : Tm} {st : aB} {Q : AV → aB → Prop} (hc : aD prog 233 [.ptr c 0, .int .i64 n, t.av, .map mm] st Q) :
 aD prog 247 [t.av, .pptr (.ptr c 0), .pptr (.int .i64 n), .pptr (.map mm)] st Q := by
 refine wF [1000000] 4 func247 ntmps247 rfl rfl ?_
 intro _
 simp -implicitDefEqProofs only [aA, seval, aQS]
 refine hc.mono ?_
 intro r s h
 simp -implicitDefEqProofs only [aA, seval]
 exact h
abbrev xH := zi tI_3 (zi zI_3 (zi aX (zi tI_4 (zi zI_4 (zi cD (zi tI_31 (zi zI_31 (zi aN (zi bE (zi bF (zi b9 (zi tI_63 (zi zI_63 (zi bP (zi bQ (zi bT (zi bS (zi bR (zi tI_148 (zi zI_148 (zi tI_239 (zi zI_239 EB))))))))))))))))))))))
theorem QT {σ : Sub} {R : Int → Tm} {rk : Int → Nat} {B : Nat} (G : Good σ R rk B) {n : Int} (hn : σ n = none) (c m mm : Nat) (q : AV) (hmm : mm ≠ c ∧ mm ≠ m) :
 ∀ (K : Nat) (t : Tm) (M : List Int) (st : aB), iM st c m q σ → st mm = some (.map (kZ M)) → (∀ w ∈ t.vl, rk w < K) → (∀ v ∈ M, n ∉ (R v).vl ∨ ∀ w ∈ t.vl, rk w < rk v) →
 aD prog 233 [.ptr c 0, .int .i64 n, t.av, .map mm] st (Occ R n t st mm M)
 | K, .mk k x s ts, M, st, hS, hM, hK, L4 => by
  have IH1 := fun (K' : Nat) (hK' : K' < K) t M st => QT G hn c m mm q hmm K' t M st
  have IH2 := fun (y : Tm) (hy : y ∈ ts) M st => QT G hn c m mm q hmm K y M st
  have hlk := aZ2 (P := prog) (n := x) hM EB aX aTI
  simp only [aV]
  refine wF [1000000] 4 func233 ntmps233 rfl rfl ?_
  intro _
  simp -implicitDefEqProofs only [aA, seval, xH]
  refine aQ (fun h => ?_) (fun h => ?_)
  · simp only [bJ] at h
    have hvl : (Tm.mk k x s ts).vl = [x] := Tm.mI h
    have hmv : (Tm.mk k x s ts).aJ R = R x := Tm.mM R h
    have hKx : rk x < K := hK x (by rw [hvl]; simp)
    simp -implicitDefEqProofs only [hlk, aA, seval, xH]
    refine aQ (fun h2 => ?_) (fun h2 => ?_)
    · simp only [bJ] at h2
      simp -implicitDefEqProofs only [aA, seval]
      have hno : n ∉ (R x).vl := by
       rcases L4 x h2 with h | h
       · exact h
       · exact absurd (h x (by rw [hvl]; simp)) (Nat.lt_irrefl _)
      refine ⟨by rw [hmv]; simp [hno], M, ?_, fun _ v hv => .inl hv⟩
      funext y
      simp only [aB.aC]
      split
      · rename_i e; rw [e, hM]
      · rfl
    · simp only [dH] at h2
      simp -implicitDefEqProofs only [aA, seval, xH]
      refine aO1 hM EB aX ?_
      simp -implicitDefEqProofs only [aA, seval, xH]
      obtain ⟨f, hwk⟩ := G.wk (Tm.mk k x s ts)
      generalize hu : wk σ (Tm.mk k x s ts) = u at *
      have hS' := hS.HL (o := .map (kZ (x :: M))) hmm.1 hmm.2
      have hcw := I2 hwk c m q _ hS'
      rw [aV] at hcw
      refine hcw.to ?_
      have PG : u.aJ R = R x := by rw [hwk.aJ G.uR, hmv]
      have jV := hwk.end
      have hrk := hwk.DY G
      obtain ⟨k', x', s', ts'⟩ := u
      simp only [aV]
      simp -implicitDefEqProofs only [aA, ↓aU, seval, xH]
      refine aQ (fun h3 => ?_) (fun h3 => ?_)
      · simp only [bJ] at h3
        simp -implicitDefEqProofs only [aA, seval, xH]
        have pI : R x' = vr x' := G.free (jV h3)
        rw [Tm.mM R h3, pI] at PG
        refine ⟨?_, x :: M, rfl, fun hno v hv => ?_⟩
        · rw [hmv, ← PG, wG]
          simp [eq_comm]
        · rcases cY.1 hv with rfl | hv
          · exact .inr (by rw [hmv] at hno; exact hno)
          · exact .inl hv
      · simp only [dH] at h3
        simp -implicitDefEqProofs only [aA, seval, xH]
        have hf0 : f ≠ 0 := by
         rintro rfl
         cases hwk with
         | stop _ => exact h3 h
        have hr' : ∀ w ∈ (Tm.mk k' x' s' ts').vl, rk w < rk x := fun w hw => by
         obtain ⟨v, hv, _, hlt⟩ := hrk w hw
         rw [hvl] at hv
         simp only [cY, dP, d4] at hv
         subst hv
         exact hlt hf0
        have := IH1 (rk x) hKx (Tm.mk k' x' s' ts') (x :: M) _ hS' (aB.aP _ _ _) hr' (fun v hv => by
         rcases cY.1 hv with rfl | hv
         · exact .inr hr'
         · rcases L4 v hv with h5 | h5
           · exact .inl h5
           · refine .inr fun w hw => Nat.lt_trans (hr' w hw) ?_
             exact h5 x (by rw [hvl]; simp))
        rw [aV] at this
        refine this.mono ?_
        rintro _ _ ⟨rfl, M', rfl, hM'⟩
        simp -implicitDefEqProofs only [aA, seval]
        rw [PG] at hM' ⊢
        refine ⟨by rw [hmv], M', rfl, fun hno v hv => ?_⟩
        rw [hmv] at hno
        rcases hM' hno v hv with h5 | h5
        · rcases cY.1 h5 with rfl | h5
          · exact .inr hno
          · exact .inl h5
        · exact .inr h5
  · simp only [dH] at h
    simp -implicitDefEqProofs only [aA, seval, xH]
    have hmv := Tm.lB R (n := x) (s := s) (ts := ts) h
    have aV7 : ts.any (fun y => decide (n ∈ (y.aJ R).vl)) = decide (n ∈ ((Tm.mk k x s ts).aJ R).vl) := by
     rw [hmv, vO]
     simp only [List.any_eq_true, bJ]
     rw [Tm.kJ h]
     constructor
     · rintro ⟨y, hy, h2⟩; exact ⟨_, cU.2 ⟨y, hy, rfl⟩, h2⟩
     · rintro ⟨z, hz, h2⟩
       obtain ⟨y, hy, rfl⟩ := cU.1 hz
       exact ⟨y, hy, h2⟩
    refine (aXX ts _ _ (fun y => decide (n ∈ (y.aJ R).vl)) (fun s1 => ∃ M', s1 = st.aC mm (.map (kZ M')) ∧ ∀ v ∈ M', v ∈ M ∨ n ∉ (R v).vl) (fun s1 => ∃ M', s1 = st.aC mm (.map (kZ M'))) ?_ st ⟨M, ?_, fun v hv => .inl hv⟩).mono ?_
    · rintro y hy s1 ⟨M', rfl, hM'⟩
      simp only [fF, eR]
      have hc := IH2 y hy M' (st.aC mm (.map (kZ M'))) (hS.HL hmm.1 hmm.2) (aB.aP _ _ _) (fun w hw => hK w ((Tm.kJ h).2 ⟨y, hy, hw⟩)) (fun v hv => by
       rcases hM' v hv with h5 | h5
       · rcases L4 v h5 with h6 | h6
         · exact .inl h6
         · exact .inr fun w hw => h6 w ((Tm.kJ h).2 ⟨y, hy, hw⟩)
       · exact .inl h5)
      refine (aWW hc).mono ?_
      rintro _ _ ⟨rfl, M2, rfl, hM2⟩
      rw [dE]
      refine ⟨rfl, fun _ => ⟨M2, rfl⟩, fun hno => ⟨M2, rfl, fun v hv => ?_⟩⟩
      simp only [dH] at hno
      rcases hM2 hno v hv with h5 | h5
      · exact hM' v h5
      · exact .inr h5
    · funext y
      simp only [aB.aC]
      split
      · rename_i e; rw [e, hM]
      · rfl
    · rintro _ s2 ⟨rfl, hE, hJ⟩
      rw [aV7] at hE hJ ⊢
      simp -implicitDefEqProofs only [aA, seval]
      by_cases hno : n ∈ ((Tm.mk k x s ts).aJ R).vl
      · obtain ⟨M2, rfl⟩ := hE (by simp [hno])
        exact ⟨rfl, M2, rfl, fun h => absurd hno h⟩
      · obtain ⟨M2, rfl, h5⟩ := hJ (by simp [hno])
        exact ⟨rfl, M2, rfl, fun _ => h5⟩
termination_by K t => (K, SizeOf.sizeOf t)
decreasing_by
 · exact Prod.Lex.left _ _ hK'
 · have := List.sizeOf_lt_of_mem hy
   exact Prod.Lex.right _ (by simp only [Tm.mk.sizeOf_spec]; omega)
abbrev JA := zi tI_3 (zi zI_3 (zi aX (zi tI_4 (zi zI_4 (zi cD (zi tI_51 (zi zI_51 (zi dW (zi fW (zi fU (zi gA (zi tI_63 (zi zI_63 (zi bP (zi bQ (zi bT (zi bS (zi bR (zi tI_148 (zi zI_148 (zi tI_181 (zi zI_181 (zi yX (zi tI_183 (zi zI_183 (zi BR (zi AY (zi BQ (zi tI_239 (zi zI_239 EB))))))))))))))))))))))))))))))
theorem aLX {σ : Sub} (hg : cL σ) {n : Int} (hn : σ n = none) {t : Tm} {r : Bool} {σ' : Sub} {add : List Int} (hb : jU σ n t = (r, σ', add)) (c m : Nat) (q : AV) (tr : List Int) (st : aB) (hS : fT st c m q σ tr) (hl : tr.length + add.length ≤ 1099511627776) :
 aD prog 214 [.ptr c 0, .int .i64 n, t.av] st (fun r' st' => r' = .bool r ∧ vI c m st q σ' (tr ++ add) st') := by
 obtain ⟨rk, B, G⟩ := hg.rs
 refine wF [1000000] 3 func214 ntmps214 rfl rfl ?_
 intro _
 simp -implicitDefEqProofs only [aA, seval, JA]
 intro mm hmm
 obtain ⟨hmc, aMQ⟩ := hS.sub.ne hmm
 rw [← aM8]
 have hS1 := hS.BP (o := .map (kZ [])) hmm
 refine (QT G hn c m mm q ⟨hmc, aMQ⟩ B t [] _ hS1.sub (aB.aP _ _ _) (fun w _ => G.bd w) (fun v hv => absurd hv (dP))).mono ?_
 rintro _ _ ⟨rfl, M', rfl, _⟩
 have hS2 := hS.BP (o := .map (kZ M')) hmm
 have hQ2 : lP c m st q (st.aC mm (.map (kZ M'))) q := lP.BP hmm
 rw [dE]
 generalize st.aC mm (.map (kZ M')) = s2 at *
 obtain ⟨hqa, hqw, hqj, hqc, hqs⟩ := hS2.shape
 simp -implicitDefEqProofs only [aA, seval]
 unfold jU at hb
 refine aQ (fun h => ?_) (fun h => ?_)
 · simp only [bJ] at h
   rw [aG h] at hb
   obtain ⟨rfl, rfl, rfl⟩ : false = r ∧ σ = σ' ∧ [] = add := by simpa using hb
   simp -implicitDefEqProofs only [aA, seval]
   exact ⟨q, hS2, hQ2⟩
 · simp only [dH] at h
   rw [aE h] at hb
   obtain ⟨rfl, rfl, rfl⟩ : true = r ∧ σ.set n t = σ' ∧ [n] = add := by simpa using hb
   simp -implicitDefEqProofs only [aA, seval]
   refine wP [(0, 1), (1, 1), (2, 1), (4, 1), (3, 2), (5, 2), (6, 0)] [0, 1, 2, 4, 3, 5] mixed ?_
   simp -implicitDefEqProofs only [hS2.sub.cells, aA, seval, JA]
   refine aRR hS2.sub.map yX aX ?_
   have hcm := hS2.sub.cm
   have hS3 : fT (s2.aC m (.map (mapOf (σ.set n t)))) c m q (σ.set n t) tr := by
    refine ⟨⟨by rw [aB.aM _ _ hcm]; exact hS2.sub.cells, aB.aP _ _ _⟩, ?_, hS2.apart⟩
    rcases hS2.eP with h4 | ⟨b', cs, e1, e2, e3⟩
    · exact .inl h4
    · refine .inr ⟨b', cs, e1, ?_, e3⟩
      rw [aB.aM _ _ (by rintro rfl; exact hS2.IY (by rw [e1]; simp [dI]))]
      exact e2
   have hQ3 : lP c m st q (s2.aC m (.map (mapOf (σ.set n t)))) q := ⟨fun b o h h1 h2 h3 => by rw [aB.aM _ _ h2]; exact hQ2.frame b o h h1 h2 h3, fun _ h => .inl h⟩
   generalize s2.aC m (.map (mapOf (σ.set n t))) = s3 at *
   simp -implicitDefEqProofs only [hS3.sub.cells, hqa, aA, seval, JA]
   refine aX8 dW fW fU rfl (by omega) hS3 (by simpa using hl) (fun q' s4 ht hc' hm' hk hf => ?_)
   have h4c : s4 c = some (.cells [.map m, q]) := by rw [hk c hS3.apart hc']; exact hS3.sub.cells
   have h4m : s4 m = some (.map (mapOf (σ.set n t))) := by rw [hk m hS3.IY hm']; exact hS3.sub.map
   have TI : q'.cells = [q'] ∧ q'.storable = true := by
    rcases ht with ⟨rfl, _⟩ | ⟨b', cs, rfl, _⟩ <;> exact ⟨rfl, rfl⟩
   simp -implicitDefEqProofs only [aK, h4c, TI.1, TI.2, aA, seval, JA]
   refine ⟨q', ⟨⟨aB.aP _ _ _, by rw [aB.aM _ _ (dB hcm)]; exact h4m⟩, ?_, hc'⟩, ⟨fun b o h h1 h2 h3 => ?_, fun b hb => ?_⟩⟩
   · rcases ht with h4 | ⟨b', cs, e1, e2, e3⟩
     · exact .inl h4
     · refine .inr ⟨b', cs, e1, ?_, e3⟩
       rw [aB.aM _ _ (by rintro rfl; exact hc' (by rw [e1]; simp [dI]))]
       exact e2
   · rw [aB.aM _ _ h1, hk b h3 (fun h4 => ?_)]
     · exact hQ3.frame b o h h1 h2 h3
     · rcases hf b h4 with h5 | h5
       · exact h3 h5
       · rw [hQ3.frame b o h h1 h2 h3] at h5; cases h5
   · rcases hf b hb with h5 | h5
     · exact .inl h5
     · by_cases h6 : b ∈ dI q
       · exact .inl h6
       · refine .inr ?_
         cases hst : st b with
         | none => rfl
         | some o =>
          exfalso
          have h1 : b ≠ c := by rintro rfl; rw [hS3.sub.cells] at h5; cases h5
          have h2 : b ≠ m := by rintro rfl; rw [hS3.sub.map] at h5; cases h5
          rw [hQ3.frame b o hst h1 h2 h6] at h5; cases h5
abbrev Sm (t : Tm) : Prop := t.small = true
theorem aS1 : ∀ t : Tm, t.k ≠ 1 → Sm t → ∀ x ∈ t.ts, Sm x := fun t _ h x hx => by
 cases t
 exact (Tm.oE h).2 x hx
abbrev pT := zi tI_3 (zi zI_3 (zi aX (zi tI_4 (zi zI_4 (zi cD (zi tI_9 (zi zI_9 (zi cH (zi tI_31 (zi zI_31 (zi aN (zi bE (zi bF (zi b9 (zi tI_63 (zi zI_63 (zi bP (zi bQ (zi bT (zi bS (zi bR (zi tI_148 zI_148))))))))))))))))))))))
theorem aBB : ∀ (g : Nat) (σ : Sub) (a b : Tm) (r : Bool) (σ' : Sub) (add : List Int), cL σ → cP Sm σ → Sm a → Sm b → dD g σ a b = some (r, σ', add) → ∀ (c m : Nat) (q : AV) (tr : List Int) (st : aB), fT st c m q σ tr → tr.length + add.length ≤ 1099511627776 →
 aD prog 188 [.ptr c 0, a.av, b.av] st (fun r' st' => r' = .bool r ∧ vI c m st q σ' (tr ++ add) st')
 | 0, σ, a, b, r, σ', add, hg, hsm, ha0, hb0, h, c, m, q, tr, st, hS, hl => by simp only [dD] at h; cases h
 | g + 1, σ, a, b, r, σ', add, hg, hsm, ha0, hb0, h, c, m, q, tr, st, hS, hl => by
  have IH := aBB g
  obtain ⟨rk, B, G⟩ := hg.rs
  obtain ⟨fa, wa⟩ := G.wk a
  obtain ⟨fb, wb⟩ := G.wk b
  have hca := fun st (hS : iM st c m q σ) => I2 wa c m q st hS
  have hcb := fun st (hS : iM st c m q σ) => I2 wb c m q st hS
  have ea := wa.end
  have eb := wb.end
  have hsa := wa.all (p := Sm) hsm ha0
  have hsb := wb.all (p := Sm) hsm hb0
  replace h := KA h
  generalize wk σ a = a1 at *
  generalize wk σ b = b1 at *
  clear wa wb
  refine wF [1000000, 4, 5] 3 func188 ntmps188 rfl rfl ?_
  intro fY
  simp -implicitDefEqProofs only [aA, seval]
  intro b4 h4 b5 h5
  have h54 : b5 ≠ b4 := by rintro rfl; rw [aB.aP] at h5; cases h5
  have hn5 : st b5 = none := by rw [aB.aM st _ h54] at h5; exact h5
  have hS' : ∀ o o', fT ((st.aC b4 o).aC b5 o') c m q σ tr := fun o o' => (hS.BP h4).BP (by rw [aB.aM _ _ h54]; exact hn5)
  refine wP [(0, 1), (3, 1), (1, 2), (2, 2), (4, 2), (5, 2), (6, 0), (7, 0)] [0, 3, 1, 2, 4, 5] mixed ?_
  simp -implicitDefEqProofs only [h54.symm, aA, seval, pT]
  refine jC (hca _ (hS' _ _).sub) ?_
  simp -implicitDefEqProofs only [aA, seval, pT]
  refine jC (hcb _ (hS' _ _).sub) ?_
  obtain ⟨ka, na, sa, tsa⟩ := a1
  obtain ⟨kb, nb, sb', tsb⟩ := b1
  obtain ⟨hla, ZQ⟩ := Tm.oE hsa
  obtain ⟨hlb, RU⟩ := Tm.oE hsb
  simp only [aV]
  simp only [Tm.k, Tm.n, Tm.ts] at h ea eb
  have hl4 : ∀ q', q' = q → b4 ∉ dI q := fun _ _ hb => by obtain ⟨cs, e⟩ := hS.GB b4 hb; rw [h4] at e; cases e
  have hl5 : b5 ∉ dI q := fun hb => by obtain ⟨cs, e⟩ := hS.GB b5 hb; rw [hn5] at e; cases e
  obtain ⟨h4c, h4m⟩ := hS.sub.ne h4
  obtain ⟨h5c, h5m⟩ := hS.sub.ne hn5
  have hQ : ∀ o o', lP c m st q ((st.aC b4 o).aC b5 o') q := fun o o' => ⟨fun x p h _ _ _ => by
   rw [aB.aM _ _ (by rintro rfl; rw [hn5] at h; cases h), aB.aM _ _ (by rintro rfl; rw [h4] at h; cases h)]; exact h, fun _ h => .inl h⟩
  simp -implicitDefEqProofs only [aK, h54, h54.symm, aA, seval, pT]
  rw [aB.vJ h54, aB.vJ h54.symm]
  have gW : ∀ o o', vI c m st q σ tr ((st.aC b4 o).aC b5 o') := fun o o' => ⟨q, hS' _ _, hQ _ _⟩
  rcases h with ⟨h1, h2, h3, rfl, rfl, rfl⟩ | ⟨h1, h2, h3⟩ | ⟨h1, h2, h3⟩ | ⟨h1, h2, h3, h4⟩ | ⟨h1, h2, h3, rfl, rfl, rfl⟩
  · subst h1 h2 h3
    simp -implicitDefEqProofs only [bM, h54.symm, aA, seval, pT]
    exact gW _ _
  · subst h1
    have hcb := aLX hg (ea rfl) h3 c m q tr _ (hS' (.cells [.int .i64 1, .int .i64 na, .str sa, .slice (tsa.map Tm.av)]) (.cells [.int .i64 kb, .int .i64 nb, .str sb', .slice (tsb.map Tm.av)])) hl
    rw [aV] at hcb
    by_cases h5 : kb = 1
    · subst h5
      have h6 : ¬ na = nb := fun e => h2 ⟨rfl, e⟩
      simp -implicitDefEqProofs only [bM, h6, bX, h54.symm, aA, seval, pT]
      refine hcb.mono ?_
      rintro _ s2 ⟨rfl, hp⟩
      simp -implicitDefEqProofs only [aA, seval]
      exact hp.from (hQ _ _) (hS' _ _)
    · simp -implicitDefEqProofs only [bM, h5, bX, h54.symm, aA, seval, pT]
      refine hcb.mono ?_
      rintro _ s2 ⟨rfl, hp⟩
      simp -implicitDefEqProofs only [aA, seval]
      exact hp.from (hQ _ _) (hS' _ _)
  · subst h2
    have hcb := aLX hg (eb rfl) h3 c m q tr _ (hS' (.cells [.int .i64 ka, .int .i64 na, .str sa, .slice (tsa.map Tm.av)]) (.cells [.int .i64 1, .int .i64 nb, .str sb', .slice (tsb.map Tm.av)])) hl
    rw [aV] at hcb
    simp -implicitDefEqProofs only [bM, h1, bX, h54.symm, aA, seval, pT]
    refine hcb.mono ?_
    rintro _ s2 ⟨rfl, hp⟩
    simp -implicitDefEqProofs only [aA, seval]
    exact hp.from (hQ _ _) (hS' _ _)
  · rw [rK] at h3
    simp only [Tm.k, Tm.n, Tm.s, Tm.ts] at h3
    obtain ⟨rfl, rfl, rfl, hlen⟩ := h3
    have cV : decide ((tsa.length : Int) = (tsb.length : Int)) = true := by simp [hlen]
    simp -implicitDefEqProofs only [bM, bX, cV, h54.symm, aF, h1, aA, seval, pT]
    have hS0 := hS' (.cells [.int .i64 ka, .int .i64 na, .str sa, .slice (tsa.map Tm.av)]) (.cells [.int .i64 ka, .int .i64 na, .str sa, .slice (tsb.map Tm.av)])
    have hQ0 := hQ (.cells [.int .i64 ka, .int .i64 na, .str sa, .slice (tsa.map Tm.av)]) (.cells [.int .i64 ka, .int .i64 na, .str sa, .slice (tsb.map Tm.av)])
    have e4 : ((st.aC b4 (.cells [.int .i64 ka, .int .i64 na, .str sa, .slice (tsa.map Tm.av)])).aC b5 (.cells [.int .i64 ka, .int .i64 na, .str sa, .slice (tsb.map Tm.av)])) b4 = some (.cells [.int .i64 ka, .int .i64 na, .str sa, .slice (tsa.map Tm.av)]) := by rw [aB.aM _ _ h54.symm, aB.aP]
    have e5 : ((st.aC b4 (.cells [.int .i64 ka, .int .i64 na, .str sa, .slice (tsa.map Tm.av)])).aC b5 (.cells [.int .i64 ka, .int .i64 na, .str sa, .slice (tsb.map Tm.av)])) b5 = some (.cells [.int .i64 ka, .int .i64 na, .str sa, .slice (tsb.map Tm.av)]) := aB.aP _ _ _
    generalize (st.aC b4 (.cells [.int .i64 ka, .int .i64 na, .str sa, .slice (tsa.map Tm.av)])).aC b5 (.cells [.int .i64 ka, .int .i64 na, .str sa, .slice (tsb.map Tm.av)]) = s0 at *
    refine eL (σ := Sub × List Int × List Int × AV × aB) [1000000, 4, 5] [0, 4, 5, 79] tsa
     (fun i p => cL p.1 ∧ cP Sm p.1 ∧ fT p.2.2.2.2 c m p.2.2.2.1 p.1 (tr ++ p.2.1) ∧ lP c m s0 q p.2.2.2.2 p.2.2.2.1 ∧ dU g p.1 (tsa.drop i) (tsb.drop i) = some (r, σ', p.2.2.1) ∧ p.2.1 ++ p.2.2.1 = add)
     (fun i _ => [(6, .bool false), (80, .int .i64 i)]) (fun _ p => p.2.2.2.2) (by decide +kernel)
     ⟨(σ, [], add, q, s0), ⟨hg, hsm, by rw [iC]; exact hS0, lP.refl _ _ _ _, h4, rfl⟩, aO.mk (by simp -implicitDefEqProofs only [aA, ↓aU, seval])⟩ (fun i x p hx hlt bU hdr hinv => ?_) (fun p hge hinv => ?_)
    case refine_2 =>
     obtain ⟨σi, ai, rest, qi, si⟩ := p
     obtain ⟨i1, i2, i3, i4, i5, i6⟩ := hinv
     simp only at i1 i2 i3 i4 i5 i6
     rw [kH, hlen, kH] at i5
     simp only [dU, Option.some.injEq, Prod.mk.injEq] at i5
     obtain ⟨rfl, rfl, rfl⟩ := i5
     rw [iC] at i6
     subst i6
     simp -implicitDefEqProofs only [hge, aA, seval]
     exact ⟨qi, i3, hQ0.trans hS0 i4⟩
    obtain ⟨σi, ai, rest, qi, si⟩ := p
    obtain ⟨i1, i2, i3, i4, i5, i6⟩ := hinv
    simp only at i1 i2 i3 i4 i5 i6
    obtain ⟨y, hy⟩ : ∃ y, tsb[i]? = some y := ⟨_, fH (by omega)⟩
    have yW : tsb.drop i = y :: tsb.drop (i + 1) := by
     obtain ⟨h1, h2⟩ := gS.1 hy
     rw [qY h1, h2]
    rw [hdr, yW, dU] at i5
    have f4 := i4.frame b4 _ e4 h4c h4m (hl4 q rfl)
    have f5 := i4.frame b5 _ e5 h5c h5m hl5
    have hw := bK (n := (i : Int) + 1)
    simp -implicitDefEqProofs only [bU, aA, seval]
    refine wP [(0, 1), (1, 1), (3, 1), (6, 1), (8, 1), (2, 2), (4, 1), (5, 2), (7, 2), (9, 1), (10, 2), (11, 0), (12, 1)] [0, 1, 3, 6, 8, 2, 4, 5, 7, 9, 10, 12] mixed ?_
    simp -implicitDefEqProofs only [f4, f5, bL (av := Tm.av) aN hx (aH x), bL (av := Tm.av) aN hy (aH y), aA, seval, pT]
    cases hu : dD g σi x y with
    | none => rw [hu] at i5; cases i5
    | some p1 =>
     obtain ⟨r1, σ1, tr1⟩ := p1
     rw [hu] at i5
     have hx1 : Sm x := ZQ x (cW hx)
     have hy1 : Sm y := RU y (cW hy)
     have hU := uT i1 hu
     have hA := (HU aS1 g).1 σi x y r1 σ1 tr1 i1 hu i2 hx1 hy1
     have yV : tr1.length ≤ rest.length := by
      cases r1 with
      | false => simp only [Option.some.injEq, Prod.mk.injEq] at i5; rw [i5.2.2]; exact c7 _
      | true =>
       simp only at i5
       cases hu2 : dU g σ1 (tsa.drop (i + 1)) (tsb.drop (i + 1)) with
       | none => rw [hu2] at i5; cases i5
       | some p2 =>
        obtain ⟨r2, σ2, tr2⟩ := p2
        rw [hu2] at i5
        simp only [Option.some.injEq, Prod.mk.injEq] at i5
        rw [← i5.2.2, dQ]; omega
     have aW9 : add.length = ai.length + rest.length := by rw [← i6, dQ]
     refine (IH σi x y r1 σ1 tr1 i1 i2 hx1 hy1 hu c m qi (tr ++ ai) si i3 (by rw [dQ]; omega)).mono ?_
     rintro _ s2 ⟨rfl, q2, hS2, hQ2⟩
     cases r1 with
     | false =>
      simp only [Option.some.injEq, Prod.mk.injEq] at i5
      obtain ⟨rfl, rfl, rfl⟩ := i5
      simp -implicitDefEqProofs only [aA, seval]
      rw [← i6, ← nZ]
      exact ⟨q2, hS2, hQ0.trans hS0 (i4.trans i3 hQ2)⟩
     | true =>
      simp only at i5
      cases hu2 : dU g σ1 (tsa.drop (i + 1)) (tsb.drop (i + 1)) with
      | none => rw [hu2] at i5; cases i5
      | some p2 =>
       obtain ⟨r2, σ2, tr2⟩ := p2
       rw [hu2] at i5
       simp only [Option.some.injEq, Prod.mk.injEq] at i5
       obtain ⟨rfl, rfl, rfl⟩ := i5
       simp -implicitDefEqProofs only [aA, seval]
       exact ⟨(σ1, ai ++ tr1, tr2, q2, s2), ⟨hU.gK, hA, by rw [← nZ]; exact hS2, i4.trans i3 hQ2, hu2, by rw [nZ]; exact i6⟩, aO.mk (by simp -implicitDefEqProofs only [hw, aA, seval])⟩
  · have hd : ka = kb → na = nb → sa = sb' → ¬ (tsa.length : Int) = (tsb.length : Int) := by
     intro e1 e2 e3 e4
     have : tR (Tm.mk ka na sa tsa) (Tm.mk kb nb sb' tsb) = true := rK.2 ⟨e1, e2, e3, by simp only [Tm.ts]; omega⟩
     rw [h3] at this; cases this
    by_cases e1 : ka = kb
    · by_cases e2 : na = nb
      · by_cases e3 : sa = sb'
        · have e4 := hd e1 e2 e3
          subst e1 e2 e3
          simp -implicitDefEqProofs only [bX, bM, h54.symm, h1, aF, e4, aA, seval, pT]
          exact gW _ _
        · subst e1 e2
          simp -implicitDefEqProofs only [bX, bM, h54.symm, h1, e3, aA, seval, pT]
          exact gW _ _
      · subst e1
        simp -implicitDefEqProofs only [bX, bM, h54.symm, h1, e2, aA, seval, pT]
        exact gW _ _
    · clear hd
      simp -implicitDefEqProofs only [bX, h54.symm, h1, h2, e1, aA, seval, pT]
      exact gW _ _
theorem aP7 (σ : Sub) (l : List Int) (n : Int) : mT (mapOf (σ.out l)) n none = mapOf (σ.out (l ++ [n])) := by
 funext x
 unfold mT mapOf Sub.out
 by_cases h : x = n
 · simp [h]
 · simp only [h, dZ, fS, K7, d4]
theorem aVT {P : Program} {st : aB} {m : Nat} {σ : Sub} {l : List Int} {t kt et : TypeId} {n : Int} {K : AV → aB → Prop} (hm : st m = some (.map (mapOf (σ.out l)))) (hu : P.underlying t = some (.map kt et)) (hk : P.underlying kt = some (.int .i64))
 (h : K (.tup []) (st.aC m (.map (mapOf (σ.out (l ++ [n])))))) : zP P t st (.map m) (.int .i64 n) K := by
 unfold zP
 simp only [hu, hm, hk]
 rw [aP7]
 exact h
theorem Sub.NA (σ : Sub) : σ.out [] = σ := by funext n; simp [Sub.out]
theorem aZ5 {φ : AF} {d b n k : Nat} (h : φ d = .int .i64 (k : Int)) (hk : k = 0 ∨ k < n) : iG prog φ 51 (.mslice b 0 n 1) (some (.tmp d)) none none = some (.mslice b k (n - k) 1) := by
 have h1 : dY φ none n n = some n := rfl
 have h2 : dY φ (some (.tmp d)) 0 n = some k := by
  unfold dY
  simp only [show φ.eval (.tmp d) = φ d from rfl, h]
  rw [aG (by omega)]
  simp
 unfold iG pM
 rw [aE (by simp [rP])]
 simp only [dW, h1, h2]
 by_cases h3 : k = 0
 · subst h3; simp
 · have h4 : k < n := by omega
   simp [h3, h4]
theorem aQJ {φ : AF} {d b n : Nat} (h : φ d = .int .i64 (n : Int)) (hn : n ≠ 0) : iG prog φ 51 (.mslice b 0 n 1) (some (.tmp d)) none none = some .eslice := by
 have h1 : dY φ none n n = some n := rfl
 have h2 : dY φ (some (.tmp d)) 0 n = some n := by
  unfold dY
  simp only [show φ.eval (.tmp d) = φ d from rfl, h]
  rw [aG (by omega)]
  simp
 unfold iG pM
 rw [aE (by simp [rP])]
 simp only [dW, h1, h2]
 simp [hn]
theorem ML {φ : AF} {t : TypeId} {ag : Bool} {w d b n k : Nat} (hI : eI prog t = some (ag, w)) (h : φ d = .int .i64 (k : Int)) (hk : k ≤ n) : iG prog φ t (.mslice b 0 n w) none (some (.tmp d)) none = some (.mslice b 0 k w) := by
 have h1 : dY φ (some (.tmp d)) n n = some k := by
  unfold dY
  simp only [show φ.eval (.tmp d) = φ d from rfl, h]
  rw [aG (by omega)]
  simp
 have h2 : dY φ none 0 k = some 0 := rfl
 unfold iG pM
 rw [aE (by simp [rP])]
 simp only [hI, h1, h2]
 simp
theorem aEA {φ : AF} {t : TypeId} {ag : Bool} {w d : Nat} (hI : eI prog t = some (ag, w)) (h : φ d = .int .i64 0) : iG prog φ t (.fslice []) none (some (.tmp d)) none = some (.fslice []) := by
 have h1 : dY φ (some (.tmp d)) 0 0 = some 0 := by
  unfold dY
  simp only [show φ.eval (.tmp d) = φ d from rfl, h]
  simp
 have h2 : dY φ none 0 0 = some 0 := rfl
 unfold iG
 rw [aG ⟨rfl, rfl⟩]
 simp only [hI, h1, h2]
theorem aO5 {φ : AF} {d : Nat} (h : φ d = .int .i64 0) : iG prog φ 51 (.fslice []) (some (.tmp d)) none none = some (.fslice []) := by
 have h1 : dY φ none 0 0 = some 0 := rfl
 have h2 : dY φ (some (.tmp d)) 0 0 = some 0 := by
  unfold dY
  simp only [show φ.eval (.tmp d) = φ d from rfl, h]
  simp
 unfold iG
 rw [aG ⟨rfl, rfl⟩]
 simp only [dW, h1, h2]
theorem aR8 {P : Program} {t : TypeId} {ag : Bool} {b o len w i : Nat} (hI : eI P t = some (ag, w)) (hi : i < len) : dJ P t (.mslice b o len w) (.int .i64 (i : Int)) = some (.ptr b (o + i * w)) := by
 unfold dJ
 simp only [hI]
 rw [aG ⟨by omega, by omega, trivial⟩]
 simp
abbrev zD := zi tI_3 (zi zI_3 (zi aX (zi tI_51 (zi zI_51 (zi dW (zi fW (zi fU (zi gA (zi tI_148 (zi zI_148 (zi tI_181 (zi zI_181 (zi yX (zi tI_183 (zi zI_183 (zi BR (zi AY BQ)))))))))))))))))
theorem LN (σ : Sub) (tr : List Int) (mark : Nat) (hm : mark ≤ tr.length) (c m : Nat) (q : AV) (st : aB) (hS : fT st c m q σ tr) (hl : tr.length ≤ 1099511627776) :
 aD prog 158 [.ptr c 0, .int .i64 (mark : Int)] st (fun r st' => r = .tup [] ∧ ∃ q', fT st' c m q' (σ.out (tr.drop mark)) (tr.take mark) ∧ (∀ b ∈ dI q', b ∈ dI q) ∧ ∀ x o, st x = some o → x ≠ c → x ≠ m → st' x = some o) := by
 have hcm := hS.sub.cm
 rcases hS.eP with ⟨rfl, rfl⟩ | ⟨b, cs, rfl, hb, hcs⟩
 · obtain rfl : mark = 0 := by simpa using hm
   have e1 := hS.sub.cells
   have hsl := fun (φ : AF) (d : Nat) (h : φ d = .int .i64 0) => aO5 h
   have hsh := fun (φ : AF) (d : Nat) (h : φ d = .int .i64 0) => aEA dW h
   simp only [Int.ofNat_zero]
   refine wF [1000000] 2 func158 ntmps158 rfl rfl ?_
   intro _
   simp -implicitDefEqProofs only [e1, hsl, aA, seval, zD]
   refine eL (σ := Unit) [1000000] [0, 1, 11, 12] ([] : List Int) (fun i _ => True) (fun i _ => [(13, .int .i64 i)]) (fun _ _ => st) (by decide +kernel) ⟨(), trivial, aO.mk (by simp -implicitDefEqProofs only [aA, ↓aU, seval])⟩ (fun i x _ hx hlt bU hdr hinv => ?_) (fun _ hge hinv => ?_)
   · simp at hlt
   · simp -implicitDefEqProofs only [a7, aK, e1, hsh, aA, seval, zD]
     rw [Sub.NA]
     refine ⟨.fslice [], ⟨⟨aB.aP _ _ _, ?_⟩, .inl ⟨rfl, rfl⟩, by simp [dI]⟩, fun _ h => h, fun x o h h1 h2 => by rw [aB.aM _ _ h1]; exact h⟩
     rw [aB.aM _ _ hcm.symm, hS.sub.map]
 · have e1 := hS.sub.cells
   have hbc : b ≠ c := fun e => hS.apart (by simp [dI, e])
   have hbm : b ≠ m := fun e => hS.IY (by simp [dI, e])
   have hc' : ∀ o, (st.aC m o) c = some (.cells [.map m, .mslice b 0 tr.length 1]) := fun o => by rw [aB.aM _ _ hcm]; exact e1
   have hb' : ∀ o, (st.aC m o) b = some (.cells cs) := fun o => by rw [aB.aM _ _ hbm]; exact hb
   have hm0 : st.aC m (.map (mapOf σ)) = st := by
    funext x
    unfold aB.aC
    split
    · rename_i h; rw [h, hS.sub.map]
    · rfl
   have gW : ∀ st', st' = (st.aC m (.map (mapOf (σ.out (tr.drop mark))))).aC c (.cells [.map m, .mslice b 0 mark 1]) → ∃ q', fT st' c m q' (σ.out (tr.drop mark)) (tr.take mark) ∧ (∀ x ∈ dI q', x ∈ dI (.mslice b 0 tr.length 1)) ∧ ∀ x o, st x = some o → x ≠ c → x ≠ m → st' x = some o := by
    rintro _ rfl
    have hlt : (tr.take mark).length = mark := by rw [d7]; omega
    refine ⟨.mslice b 0 mark 1, ⟨⟨aB.aP _ _ _, by rw [aB.aM _ _ hcm.symm, aB.aP]⟩, .inr ⟨b, cs, by rw [hlt], by rw [aB.aM _ _ hbc]; exact hb' _, ?_⟩, by simpa [dI] using dB hbc⟩, fun x h => h, fun x o h h1 h2 => by rw [aB.aM _ _ h1, aB.aM _ _ h2]; exact h⟩
    rw [hlt, List.map_take, ← hcs, xQ, lE hm]
   have hsh := fun (φ : AF) (d : Nat) (h : φ d = .int .i64 (mark : Int)) => ML (b := b) dW h hm
   by_cases hk : mark = 0 ∨ mark < tr.length
   · have hsl := fun (φ : AF) (d : Nat) (h : φ d = .int .i64 (mark : Int)) => aZ5 (b := b) h hk
     refine wF [1000000] 2 func158 ntmps158 rfl rfl ?_
     intro _
     simp -implicitDefEqProofs only [e1, hsl, aA, seval, zD]
     refine eL (σ := Unit) [1000000] [0, 1, 11, 12] (tr.drop mark) (fun i _ => True) (fun i _ => [(13, .int .i64 i)]) (fun i _ => st.aC m (.map (mapOf (σ.out ((tr.drop mark).take i))))) (by decide +kernel) ⟨(), trivial, by rw [kU, Sub.NA, hm0]; exact aO.mk (by simp -implicitDefEqProofs only [aA, ↓aU, seval])⟩ (fun i x _ hx hlt bU hdr hinv => ?_) (fun _ hge hinv => ?_)
     · have hw := wrap64 (n := (i : Int) + 1) (by omega) (by rw [nH] at hlt; omega)
       have htk : (tr.drop mark).take (i + 1) = (tr.drop mark).take i ++ [x] := by rw [fN, hx]; simp
       rw [nH] at hlt bU
       have a1I : decide ((i : Int) < ((tr.length - mark : Nat) : Int)) = true := by simp; omega
       have hxt : tr[mark + i]? = some x := by rw [RB] at hx; exact hx
       have aOJ : cs = (tr.take (mark + i)).map iv ++ [iv x] ++ ((tr.drop (mark + i + 1)).map iv ++ cs.drop tr.length) := by
        have h1 : cs = tr.map iv ++ cs.drop tr.length := by rw [← hcs]; exact (sO _ _).symm
        have h2 : tr.map iv = (tr.take (mark + i)).map iv ++ iv x :: (tr.drop (mark + i + 1)).map iv := by
         have h3 : tr.drop (mark + i) = x :: tr.drop (mark + i + 1) := by
          obtain ⟨g1, g2⟩ := gS.1 hxt
          rw [qY g1, g2]
         rw [← bA (f := iv), ← h3, ← vP, sO]
        rw [h2] at h1
        exact h1.trans (by simp)
       have hA : ((tr.take (mark + i)).map iv).length = mark + i := by simp only [aF, d7]; omega
       have hat := aR8 (P := prog) (b := b) (o := mark) (len := tr.length - mark) (w := 1) (i := i) dW hlt
       have hcb := hb' (.map (mapOf (σ.out ((tr.drop mark).take i))))
       rw [aOJ] at hcb
       have LM := hc' (.map (mapOf (σ.out ((tr.drop mark).take i))))
       obtain ⟨e1', e2, e3, e4, e5, e6⟩ := N5 (B := (tr.drop (mark + i + 1)).map iv ++ cs.drop tr.length) hA
       simp -implicitDefEqProofs only [e6, hat, hcb, LM, bU, DG, aA, seval, zD]
       refine aVT (aB.aP _ _ _) yX aX ?_
       rw [dE, ← htk]
       simp -implicitDefEqProofs only [hw, aA, seval]
       exact ⟨(), aO.mk (by simp -implicitDefEqProofs only [aA, seval])⟩
     · rw [eS]
       rw [nH] at hge
       have LM := hc' (.map (mapOf (σ.out (tr.drop mark))))
       have aMZ : decide (((tr.length - mark : Nat) : Int) < ((tr.length - mark : Nat) : Int)) = false := by simp
       simp -implicitDefEqProofs only [LM, hge, nH, aK, hsh, aA, seval, zD]
       exact gW _ rfl
   · obtain rfl : mark = tr.length := by omega
     have hn0 : tr.length ≠ 0 := by omega
     have hsl := fun (φ : AF) (d : Nat) (h : φ d = .int .i64 (tr.length : Int)) => aQJ (b := b) h hn0
     refine wF [1000000] 2 func158 ntmps158 rfl rfl ?_
     intro _
     simp -implicitDefEqProofs only [e1, hsl, nS, gA, aA, ↓aU, seval, zD]
     refine eL (σ := Unit) [1000000] [0, 1, 11, 12] ([] : List Int) (fun i _ => True) (fun i _ => [(13, .int .i64 i)]) (fun _ _ => st) (by decide +kernel) ⟨(), trivial, aO.mk (by simp -implicitDefEqProofs only [aA, ↓aU, seval])⟩ (fun i x _ hx hlt bU hdr hinv => ?_) (fun _ hge hinv => ?_)
     · simp at hlt
     · simp -implicitDefEqProofs only [a7, aK, e1, hsh, aA, seval, zD]
       refine gW _ ?_
       rw [kH, Sub.NA, hm0]
def Rsv (v : Tm) (D : Nat) (cnt cb : Nat) (st : aB) (r : AV) (st' : aB) : Prop :=
 ∃ nE : Nat, nE ≤ 121 ∧ st' = st.aC cb (.cells [.int .i64 nE]) ∧
  if v.flat D = true ∧ cnt + v.nodes ≤ 120 then r = .tup [v.av, .bool true] ∧ nE = cnt + v.nodes else r = .tup [Tm.zero.av, .bool false]
theorem CK {α : Type} (f : α → Nat) : ∀ l m : List α, bG f (l ++ m) = bG f l + bG f m
 | [], m => by simp [bG]
 | x :: l, m => by simp only [fF, bG, CK f l m]; omega
abbrev Cv (t : Tm) : Prop := t.cv = true
theorem TW {σ : Sub} {R : Int → Tm} {rk : Int → Nat} {B f : Nat} (G : Good σ R rk B) {t : Tm} {k n : Int} {s : ByteArray} {ts : List Tm} (hw : fQ σ f t (.mk k n s ts)) (hc : Cv (.mk k n s ts)) : t.aJ R = .mk k n s (ts.map (Tm.aJ R)) := by
 rw [← hw.aJ G.uR]
 by_cases hk : k = 1
 · rw [Tm.mM R hk, G.free (show σ n = none from hw.end hk)]
   obtain ⟨h1, _⟩ := Tm.nW.1 hc
   obtain ⟨rfl, rfl⟩ := h1 hk
   rw [hk]; try rfl
 · rw [Tm.lB R hk]
abbrev rZ := zi tI_3 (zi zI_3 (zi aX (zi tI_4 (zi zI_4 (zi cD (zi tI_9 (zi zI_9 (zi cH (zi tI_31 (zi zI_31 (zi aN (zi bE (zi bF (zi b9 (zi tI_63 (zi zI_63 (zi bP (zi bQ (zi bT (zi bS (zi bR (zi tI_148 (zi zI_148 (zi tI_216 zI_216))))))))))))))))))))))))
theorem X8 {σ : Sub} {R : Int → Tm} {rk : Int → Nat} {B : Nat} (G : Good σ R rk B) (hcv : cP Cv σ) (hsm : cP Sm σ) (c m cb : Nat) (q : AV) (hcb : cb ≠ c ∧ cb ≠ m) :
 ∀ (D : Nat) (t : Tm) (cnt : Nat) (st : aB), D ≤ 31 → Cv t → Sm t → cnt ≤ 120 → iM st c m q σ → st cb = some (.cells [.int .i64 cnt]) →
 aD prog 182 [.ptr c 0, t.av, .int .i64 (31 - D : Int), .ptr cb 0] st (Rsv (t.aJ R) D cnt cb st)
 | D, t, cnt, st, hD, hct, hst, a09, hS, hC => by
  have IH := fun (D' : Nat) (hlt : D' < D) (x : Tm) cnt st => X8 G hcv hsm c m cb q hcb D' x cnt st
  obtain ⟨f, hw⟩ := G.wk t
  generalize wk σ t = u at *
  have hcu := hw.all (p := Cv) hcv hct
  have hsu := hw.all (p := Sm) hsm hst
  have hcw := fun st (hS : iM st c m q σ) => I2 hw c m q st hS
  obtain ⟨k, n, s, ts⟩ := u
  have hv := TW G hw hcu
  rw [hv]
  obtain ⟨hlen, oK⟩ := Tm.oE hsu
  obtain ⟨_, aMD⟩ := Tm.nW.1 hcu
  refine aD.lH (aD.fin ?_)
  refine wF [1000000, 5, 10] 4 func182 ntmps182 rfl rfl ?_
  intro _
  simp -implicitDefEqProofs only [aA, seval, rZ]
  intro b5 h5 b8 h8
  have h85 : b8 ≠ b5 := by rintro rfl; rw [aB.aP] at h8; cases h8
  have hn8 : st b8 = none := by rw [aB.aM st _ h85] at h8; exact h8
  have hS' : ∀ o o', iM ((st.aC b5 o).aC b8 o') c m q σ := fun o o' => (hS.aC h5).aC (by rw [aB.aM _ _ h85]; exact hn8)
  have hb5 : cb ≠ b5 := by rintro rfl; rw [hC] at h5; cases h5
  have hb8 : cb ≠ b8 := by rintro rfl; rw [hC] at hn8; cases hn8
  have hwc : IntKind.i64.wrap ((cnt : Int) + 1) = (cnt : Int) + 1 := wrap64 (by omega) (by omega)
  simp -implicitDefEqProofs only [h85.symm, aA, seval]
  refine (hcw _ (hS' _ _)).to ?_
  simp only [aV]
  simp -implicitDefEqProofs only [aK, h85.symm, hb5, hb8, hC, hwc, aA, seval, rZ]
  have QG : ∀ (st' : aB) (nE : Nat), nE ≤ 121 → aL st' (st.aC cb (.cells [.int .i64 nE])) → ¬ ((Tm.mk k n s (ts.map (Tm.aJ R))).flat D = true ∧ cnt + (Tm.mk k n s (ts.map (Tm.aJ R))).nodes ≤ 120) →
   ∃ b l s0, st' = aZ s0 b l ∧ (l ≠ [] → s0 b = none) ∧ (∀ e ∈ l, e.cB = false) ∧ gX l ∧ ∃ s2, aL s0 s2 ∧ Rsv (Tm.mk k n s (ts.map (Tm.aJ R))) D cnt cb st (AV.fin b l (.tup [.agg [.int .i64 0, .int .i64 0, .str ⟨#[]⟩, .fslice []], .bool false])) s2 := fun st' nE h1 h2 h3 => by
   refine ⟨0, [], st', rfl, by simp, by simp, ⟨4, by simp⟩, _, h2, nE, h1, rfl, ?_⟩
   rw [aE h3]
   simp only [Tm.zero, aV, fM, jL, eC, pQ, iP, oC, bA, aW]
  have hdr : ∀ o5 o8 o5' o8' nE, aL (((((st.aC b5 o5).aC b8 o8).aC b5 o5').aC cb (.cells [.int .i64 nE])).aC b8 o8') (st.aC cb (.cells [.int .i64 nE])) := fun o5 o8 o5' o8' nE x => by
   by_cases e5 : x = b5 <;> by_cases e8 : x = b8 <;> by_cases ec : x = cb <;> simp_all [aB.aC]
  refine cT (fun h => ?_) (fun h => ?_)
  case refine_2 =>
   simp -implicitDefEqProofs only [h, aK, h85, hb8.symm, aA, seval, rZ]
   refine QG _ (cnt + 1) (by omega) (hdr _ _ _ _ _) ?_
   simp at h
   rw [Tm.gP]
   omega
  simp -implicitDefEqProofs only [h, aA, seval]
  simp at h
  refine aQ (fun h2 => ?_) (fun h2 => ?_)
  · simp only [bJ] at h2
    obtain rfl : D = 0 := by omega
    simp -implicitDefEqProofs only [aK, h85, hb8.symm, aA, ↓aU, seval, rZ]
    exact QG _ (cnt + 1) (by omega) (hdr _ _ _ _ _) (by rw [Tm.DH]; simp)
  simp only [dH] at h2
  obtain ⟨D', rfl⟩ : ∃ D', D = D' + 1 := ⟨D - 1, by omega⟩
  have aVW : IntKind.i64.wrap (31 - ((D' : Int) + 1) + 1) = 31 - (D' : Int) := by rw [wrap64 (by omega) (by omega)]; omega
  simp -implicitDefEqProofs only [aK, hb5.symm, aA, ↓aU, seval, rZ]
  intro b10 h10
  have PJ : b10 ≠ b5 := by rintro rfl; simp [aB.aC, hb5.symm] at h10
  have BA : b10 ≠ b8 := by rintro rfl; simp [aB.aC, h85, hb8.symm] at h10
  have Q2 : b10 ≠ cb := by rintro rfl; simp [aB.aC] at h10
  have aXK : st b10 = none := by rw [aB.aM _ _ Q2, aB.aM _ _ PJ, aB.aM _ _ BA, aB.aM _ _ PJ] at h10; exact h10
  simp -implicitDefEqProofs only [hb5.symm, PJ.symm, aF, aA, seval, rZ]
  rw [aB.vJ h85]
  have hWS : iM ((st.aC b8 (.cells [.int .i64 0, .int .i64 0, .str ⟨#[]⟩, .fslice []])).aC b5 (.cells [.int .i64 k, .int .i64 n, .str s, .slice (ts.map Tm.av)])) c m q σ := (hS.aC hn8).aC (by rw [aB.aM _ _ h85.symm]; exact h5)
  have hW8 : ((st.aC b8 (.cells [.int .i64 0, .int .i64 0, .str ⟨#[]⟩, .fslice []])).aC b5 (.cells [.int .i64 k, .int .i64 n, .str s, .slice (ts.map Tm.av)])) b8 = some (.cells [.int .i64 0, .int .i64 0, .str ⟨#[]⟩, .fslice []]) := by rw [aB.aM _ _ h85, aB.aP]
  have hWd : ∀ X Y Z, aL (((((st.aC b8 (.cells [.int .i64 0, .int .i64 0, .str ⟨#[]⟩, .fslice []])).aC b5 (.cells [.int .i64 k, .int .i64 n, .str s, .slice (ts.map Tm.av)])).aC cb X).aC b8 Y).aC b10 Z) (st.aC cb X) := fun X Y Z x => by
   by_cases e5 : x = b5 <;> by_cases e8 : x = b8 <;> by_cases ec : x = cb <;> by_cases e10 : x = b10 <;> simp_all [aB.aC]
  generalize ((st.aC b8 (.cells [.int .i64 0, .int .i64 0, .str ⟨#[]⟩, .fslice []])).aC b5 (.cells [.int .i64 k, .int .i64 n, .str s, .slice (ts.map Tm.av)])) = W at *
  obtain ⟨aXU, aVE⟩ := hS.ne aXK
  refine eL (σ := Nat) [1000000, 5, 10] [0, 2, 3, 8, 10, 40, 41] ts
   (fun i b => (((ts.take i).map (Tm.aJ R)).map Tm.av ≠ [] → (aB.aC (W.aC cb (.cells [.int .i64 ((cnt + 1 + bG Tm.nodes ((ts.take i).map (Tm.aJ R)) : Nat) : Int)])) b10 (.cells ([.int .i64 k, .int .i64 n, .str s] ++ [a9 4 b (((ts.take i).map (Tm.aJ R)).map Tm.av)]))) b = none) ∧
    cnt + 1 + bG Tm.nodes ((ts.take i).map (Tm.aJ R)) ≤ 120 ∧ ((ts.take i).map (Tm.aJ R)).all (fun x => x.flat D') = true)
   (fun i b => [(9, .bool false), (42, .int .i64 i)])
   (fun i b => eU (W.aC cb (.cells [.int .i64 ((cnt + 1 + bG Tm.nodes ((ts.take i).map (Tm.aJ R)) : Nat) : Int)])) b10 b [.int .i64 k, .int .i64 n, .str s] (((ts.take i).map (Tm.aJ R)).map Tm.av)) (by decide +kernel)
   ⟨0, ⟨fun h => absurd rfl h, by simp [bG]; omega, by simp⟩, aO.mk (by simp -implicitDefEqProofs only [aA, ↓aU, seval])⟩ (fun i x b hx hlt bU yW hinv => ?_) (fun b hge hinv => ?_)
  · obtain ⟨i1, i2, i3⟩ := hinv
    have htk : (ts.take (i + 1)).map (Tm.aJ R) = (ts.take i).map (Tm.aJ R) ++ [x.aJ R] := by rw [fN, hx]; simp
    have cV : (((ts.take i).map (Tm.aJ R)).map Tm.av).length = i := by simp only [aF, d7]; omega
    have hw := bK (n := (i : Int) + 1)
    have gM := cW hx
    generalize hl0 : (ts.take i).map (Tm.aJ R) = l0 at *
    generalize hc0 : cnt + 1 + bG Tm.nodes l0 = c0 at *
    have hWc : (W.aC cb (.cells [.int .i64 (c0 : Int)])) cb ≠ none := by rw [aB.aP]; simp
    have hs1 := gF i1 hWc Q2.symm
    have hsS : iM (eU (W.aC cb (.cells [.int .i64 (c0 : Int)])) b10 b [.int .i64 k, .int .i64 n, .str s] (l0.map Tm.av)) c m q σ := by
     have h1 := (hWS.HL (o := .cells [.int .i64 (c0 : Int)]) hcb.1 hcb.2)
     exact ⟨by rw [gF i1 (by rw [h1.cells]; simp) aXU.symm]; exact h1.cells, by rw [gF i1 (by rw [h1.map]; simp) aVE.symm]; exact h1.map⟩
    rw [aB.aP] at hs1
    simp -implicitDefEqProofs only [bU, aVW, bL (av := Tm.av) aN hx (aH x), aT, aH, aA, ↓aU, seval, rZ]
    refine (IH D' (K6 _) x c0 _ (by omega) (aMD x gM) (oK x gM) i2 hsS hs1).mono ?_
    rintro r s2 ⟨nE, aSE, rfl, hr⟩
    obtain ⟨e1, i1'⟩ := pU (o := .cells [.int .i64 (nE : Int)]) i1 hWc Q2.symm
    rw [e1, dE]
    rw [dE] at i1'
    have sD : (ts.map (Tm.aJ R)) = l0 ++ (x.aJ R) :: (ts.drop (i + 1)).map (Tm.aJ R) := by rw [← hl0, ← bA, ← yW, ← vP, sO]
    by_cases hok : (x.aJ R).flat D' = true ∧ c0 + (x.aJ R).nodes ≤ 120
    · rw [aG hok] at hr
      obtain ⟨rfl, rfl⟩ := hr
      have hbo := eD i1'
      simp -implicitDefEqProofs only [aT, aH, bZ, cG, hbo, mK, aA, ↓aU, seval, rZ]
      refine eO aN bE bF rfl rfl (fB (aH _) (bZ _)) (dR _) i1' (by simp only [cV, aS, a7]; omega) (by simp only [cV, aS, a7]; omega) (fun b' hb' => ?_)
      rw [show l0.map Tm.av ++ [(x.aJ R).av] = ((ts.take (i + 1)).map (Tm.aJ R)).map Tm.av by rw [htk]; simp] at hb' ⊢
      obtain ⟨g1, g2, g3⟩ := nO hb'
      simp only [fF, eR] at g1 g3
      have hcc : cnt + 1 + bG Tm.nodes ((ts.take (i + 1)).map (Tm.aJ R)) = c0 + (x.aJ R).nodes := by rw [htk, CK, bG, bG, ← hc0]; omega
      simp -implicitDefEqProofs only [g3, mB, eV, g1, hw, aK, aA, seval, rZ]
      rw [hcc]
      exact ⟨b', ⟨g2, hok.2, by rw [htk, DF, i3]; simp [hok.1]⟩, aO.mk (by simp -implicitDefEqProofs only [aA, seval])⟩
    · rw [aE hok] at hr
      subst hr
      obtain ⟨e2, i2'⟩ := pU (x := b8) (o := .cells [.int .i64 0, .int .i64 0, .str ⟨#[]⟩, .fslice []]) i1' (by rw [aB.aM _ _ hb8.symm, hW8]; simp) BA.symm
      have h8o := gF i1' (x := b8) (by rw [aB.aM _ _ hb8.symm, hW8]; simp) BA.symm
      rw [aB.aM _ _ hb8.symm, hW8] at h8o
      simp -implicitDefEqProofs only [aK, h8o, Tm.zero, aV, aW, aA, ↓aU, seval, rZ]
      rw [e2]
      refine QG _ nE aSE (aN4 (hWd _ _ _) i2') ?_
      rw [Tm.gP, Tm.uK, sD, DF, kG, CK, bG]
      rintro ⟨h3, h4⟩
      simp only [cM] at h3
      exact hok ⟨h3.2.1, by omega⟩
  · obtain ⟨i1, i2, i3⟩ := hinv
    rw [eS] at i1 i2 i3 ⊢
    have hbo := eD i1
    have hx8 : (W.aC cb (.cells [.int .i64 ((cnt + 1 + bG Tm.nodes (ts.map (Tm.aJ R)) : Nat) : Int)])) b8 ≠ none := by rw [aB.aM _ _ hb8.symm, hW8]; simp
    have h8o := gF i1 (x := b8) hx8 BA.symm
    rw [aB.aM _ _ hb8.symm, hW8] at h8o
    simp -implicitDefEqProofs only [aK, hge, hbo, h8o, eV, aA, seval, rZ]
    obtain ⟨h5, h6⟩ := j8 (o := .cells [.int .i64 k, .int .i64 n, .str s, a9 4 b ((ts.map (Tm.aJ R)).map Tm.av)]) i1 hx8 BA.symm
    have xA : cnt + (Tm.mk k n s (ts.map (Tm.aJ R))).nodes = cnt + 1 + bG Tm.nodes (ts.map (Tm.aJ R)) := by rw [Tm.gP]; omega
    refine ⟨b, _, _, h5, h6, iB _, ⟨4, dR _⟩, _, ?_, _, Nat.le_succ_of_le i2, rfl, ?_⟩
    · rw [aB.nX _ _ _ BA]
      exact hWd _ _ _
    · rw [aG ⟨by rw [Tm.uK]; exact i3, by rw [xA]; exact i2⟩, xA]
      refine ⟨?_, rfl⟩
      simp only [jL, fM, bA, aW, eC, iP, pQ, iD, aV]
termination_by D => D
decreasing_by exact hlt
def H4 (v : Tm) : AV := if v.flat 30 = true ∧ v.nodes ≤ 120 then .tup [v.av, .bool true] else .tup [Tm.zero.av, .bool false]
abbrev OO := zi tI_3 (zi zI_3 (zi aX (zi tI_4 (zi zI_4 (zi cD (zi tI_63 (zi zI_63 (zi bP (zi bQ (zi bT (zi bS (zi bR (zi tI_148 (zi zI_148 (zi tI_216 zI_216)))))))))))))))
theorem aFR {σ : Sub} {R : Int → Tm} {rk : Int → Nat} {B : Nat} (G : Good σ R rk B) (hcv : cP Cv σ) (hsm : cP Sm σ) (c m : Nat) (q : AV) (t : Tm) (hct : Cv t) (hst : Sm t) (st : aB) (hS : iM st c m q σ) :
 aD prog 147 [.ptr c 0, t.av] st (fun r st' => r = H4 (t.aJ R) ∧ st' = st) := by
 refine aD.done ?_
 refine wF [1000000, 6] 2 func147 ntmps147 rfl rfl ?_
 intro _
 simp -implicitDefEqProofs only [aK, aA, ↓aU, seval, OO]
 intro b4 h4 b6 h6
 have hne : b6 ≠ b4 := by rintro rfl; rw [aB.aP] at h6; cases h6
 have hn6 : st b6 = none := by rw [aB.aM st _ hne] at h6; exact h6
 have hS' : ∀ o o', iM ((st.aC b4 o).aC b6 o') c m q σ := fun o o' => (hS.aC h4).aC (by rw [aB.aM _ _ hne]; exact hn6)
 obtain ⟨h6c, h6m⟩ := hS.ne hn6
 have hc := X8 G hcv hsm c m b6 q ⟨h6c, h6m⟩ 30 t 0 _ (by omega) hct hst (by omega) (hS' (.cells [.int .i64 0, .int .i64 0, .str ⟨#[]⟩, .fslice []]) (.cells [.int .i64 0])) (aB.aP _ _ _)
 rw [show (31 - ((30 : Nat) : Int)) = 1 from rfl] at hc
 refine hc.mono ?_
 rintro r s2 ⟨nE, _, rfl, hr⟩
 unfold H4
 rw [gY] at hr
 split at hr
 · rename_i hok
   obtain ⟨rfl, _⟩ := hr
   rw [aG hok]
   simp -implicitDefEqProofs only [bO, bZ, aK, hne.symm, aA, seval, OO]
   exact ⟨by simp only [kF, rO, Tm.soft, bA, aW], (((aL.refl _).aC h4).aC hn6).aC h4⟩
 · rename_i hok
   subst hr
   rw [aE hok]
   simp -implicitDefEqProofs only [Tm.zero, aV, aW, aK, hne.symm, aA, seval, OO]
   exact ⟨by simp only [kA, kF, jP, rO, kW, p9, bA, aW], (((aL.refl _).aC h4).aC hn6).aC h4⟩
abbrev aY5 := zi tI_148 (zi zI_148 (zi tI_181 (zi zI_181 (zi yX (zi tI_183 (zi zI_183 (zi BR (zi AY BQ))))))))
theorem aRE (st : aB) : aD prog 111 [] st (fun r st' => ∃ c m, r = .ptr c 0 ∧ fT st' c m (.fslice []) Sub.none [] ∧ lP c m st (.fslice []) st' (.fslice []) ∧ st c = none ∧ st m = none) := by
 refine wF [1000000, 3] 0 func111 ntmps111 rfl rfl ?_
 intro _
 simp -implicitDefEqProofs only [aA, seval, aY5]
 intro m hm c hc
 have hne : c ≠ m := by rintro rfl; rw [aB.aP] at hc; cases hc
 have hnc : st c = none := by rw [aB.aM st _ hne] at hc; exact hc
 refine ⟨c, m, rfl, ⟨⟨aB.aP _ _ _, by rw [aB.aM _ _ hne.symm, aB.aP]; try rfl⟩, .inl ⟨rfl, rfl⟩, by simp [dI]⟩, ⟨fun x o h h1 h2 _ => by rw [aB.aM _ _ h1, aB.aM _ _ h2]; exact h, by simp [dI]⟩, hnc, hm⟩
theorem iM.acc {st : aB} {c m b : Nat} {q : AV} {σ : Sub} {l : List AV} (h : iM st c m q σ) (hb : l ≠ [] → st b = none) : iM (aZ st b l) c m q σ := by
 cases l with
 | nil => exact h
 | cons x l => exact h.aC (hb (by simp))
abbrev a1F := zi tI_3 (zi zI_3 (zi aX (zi tI_23 (zi zI_23 (zi aE4 (zi aBC (zi UT (zi aAK (zi tI_31 (zi zI_31 (zi aN (zi bE (zi bF (zi b9 (zi tI_63 (zi zI_63 (zi bP (zi bQ (zi bT (zi bS (zi bR (zi tI_66 (zi zI_66 (zi VW (zi aA6 (zi aK3 (zi aAT X2)))))))))))))))))))))))))))
abbrev O4 := zi tI_3 (zi zI_3 (zi aX (zi tI_4 (zi zI_4 (zi cD (zi tI_31 (zi zI_31 (zi aN (zi bE (zi bF (zi b9 (zi tI_63 (zi zI_63 (zi bP (zi bQ (zi bT (zi bS bR)))))))))))))))))
theorem aKX (l l' : List Tm) (g : FuncId) (st : aB) (hc : ∀ x ∈ l, ∀ (y : Tm) (st : aB), aD prog g [Tm.av x, Tm.av y] st (fun r st' => r = .bool (Tm.same x y) ∧ st' = st)) :
 aD prog 98 [.slice (l.map Tm.av), .slice (l'.map Tm.av), .func g []] st (fun r st' => r = .bool (k9 Tm.same l l') ∧ st' = st) := by
 refine wF [1000000] 3 func98 ntmps98 rfl rfl ?_
 simp only [eG, AV.fits, eM, aF]
 intro ⟨⟨hl, _⟩, ⟨hl', _⟩⟩
 simp -implicitDefEqProofs only [aF, aA, seval, O4]
 refine ⟨fun h4 => ?_, fun h4 => ?_⟩
 · simp -implicitDefEqProofs only [aA, seval]
   simp only [lZ, dH] at h4
   rw [NV _ (show l.length ≠ l'.length by omega)]
 simp only [tX, bJ] at h4
 have h4' : l.length = l'.length := by omega
 simp -implicitDefEqProofs only [aF, aA, seval, O4]
 refine eL (σ := Unit) [1000000] [1, 2, 15, 16] l (fun i _ => ∀ (j : Nat) (x y : Tm), j < i → l[j]? = some x → l'[j]? = some y → Tm.same x y = true) (fun i _ => [(17, .int .i64 i)]) (fun _ _ => st) (by decide +kernel) ⟨(), by intro j x y h; omega, aO.mk (by simp -implicitDefEqProofs only [aA, ↓aU, seval])⟩ (fun i x _ hx hlt bU hdr dV => ?_) (fun _ hge dV => ?_)
 case refine_2 =>
  simp -implicitDefEqProofs only [hge, aA, seval]
  rw [LD _ h4' (fun j x y h6 h7 => dV j x y (by have := (gS.1 h6).1; omega) h6 h7)]
 obtain ⟨y, hy⟩ : ∃ y, l'[i]? = some y := ⟨_, fH (h4' ▸ hlt)⟩
 have hw := bK (n := (i : Int) + 1)
 simp -implicitDefEqProofs only [bU, aT, aH, bZ, cG, bL (av := Tm.av) aN hx (aH x), bL (av := Tm.av) aN hy (aH y), aA, ↓aU, seval, O4]
 refine (hc x (cW hx) y _).to ?_
 simp -implicitDefEqProofs only [aA, seval]
 refine ⟨fun h6 => ?_, fun h6 => ?_⟩
 · simp -implicitDefEqProofs only [aA, seval]
   have h7 : Tm.same x y = false := by simpa using h6
   rw [Q4 _ i x y hx hy h7]
 have h7 : Tm.same x y = true := by simpa using h6
 simp -implicitDefEqProofs only [aA, seval]
 refine ⟨(), fun j u v hj hu hv => ?_, aO.mk (by simp -implicitDefEqProofs only [hw, aA, seval])⟩
 rcases kT j i with h8 | h8
 · exact dV j u v h8 hu hv
 · obtain rfl : j = i := by omega
   rw [hx] at hu; rw [hy] at hv; cases hu; cases hv; exact h7
abbrev a1G := zi tI_3 (zi zI_3 (zi aX (zi tI_9 (zi zI_9 (zi cH (zi tI_23 (zi zI_23 (zi aE4 (zi aBC (zi UT (zi aAK (zi tI_31 (zi zI_31 (zi aN (zi bE (zi bF (zi b9 (zi tI_63 (zi zI_63 (zi bP (zi bQ (zi bT (zi bS (zi bR (zi tI_66 (zi zI_66 (zi VW (zi aA6 (zi aK3 (zi aAT X2))))))))))))))))))))))))))))))
abbrev I7 := zi tI_3 (zi zI_3 (zi aX (zi tI_4 (zi zI_4 (zi cD (zi tI_9 (zi zI_9 (zi cH (zi tI_31 (zi zI_31 (zi aN (zi bE (zi bF (zi b9 (zi tI_63 (zi zI_63 (zi bP (zi bQ (zi bT (zi bS bR))))))))))))))))))))
theorem O9 : ∀ (a b : Tm) (st : aB), aD prog 99 [a.av, b.av] st (fun r st' => r = .bool (a.same b) ∧ st' = st)
 | .mk k n s ts, .mk k' n' s' ts', st => by
  have hc := aKX ts ts' 99 st fun x hx y st => O9 x y st
  refine wF [] 2 func99 ntmps99 rfl rfl ?_
  intro _
  simp only [aV, Tm.PT]
  simp -implicitDefEqProofs only [aA, seval, I7]
  refine cT (fun h1 => ?_) (fun h1 => ?_)
  case refine_2 =>
   simp -implicitDefEqProofs only [h1, aA, seval]
   simp at h1
   simp []
  simp -implicitDefEqProofs only [h1, aA, seval, I7]
  refine cT (fun h2 => ?_) (fun h2 => ?_)
  case refine_2 =>
   simp -implicitDefEqProofs only [h2, aA, seval]
   simp at h2
   simp []
  simp -implicitDefEqProofs only [h2, aA, seval, I7]
  refine cT (fun h3 => ?_) (fun h3 => ?_)
  case refine_2 =>
   simp -implicitDefEqProofs only [h3, aA, seval]
   simp at h3
   simp []
  simp -implicitDefEqProofs only [h3, aA, seval, I7]
  refine hc.to ?_
  simp -implicitDefEqProofs only [aA, seval]
termination_by a => SizeOf.sizeOf a
decreasing_by have := List.sizeOf_lt_of_mem hx; simp only [Tm.mk.sizeOf_spec]; omega
abbrev C7 := zi tI_3 (zi zI_3 (zi aX (zi tI_4 (zi zI_4 (zi cD (zi tI_9 (zi zI_9 (zi cH (zi tI_31 (zi zI_31 (zi aN (zi bE (zi bF (zi b9 (zi tI_63 (zi zI_63 (zi bP (zi bQ (zi bT (zi bS bR))))))))))))))))))))
theorem WK : ∀ (a b : Tm) (st : aB), aD prog 170 [a.av, b.av] st (fun r st' => r = .bool (a.same b) ∧ st' = st)
 | .mk k n s ts, .mk k' n' s' ts', st => by
  have hc := fun (x : Tm) (hx : x ∈ ts) y st => WK x y st
  refine wF [] 2 func170 ntmps170 rfl rfl ?_
  simp only [aV, eG, AV.fits, eM, aF, Tm.PT]
  intro ⟨⟨_, _, _, hl, _⟩, ⟨_, _, _, hl', _⟩⟩
  simp -implicitDefEqProofs only [aA, seval, C7]
  refine cT (fun h1 => ?_) (fun h1 => ?_)
  case refine_2 =>
   simp -implicitDefEqProofs only [h1, aA, seval]
   simp at h1
   simp [h1]
  simp -implicitDefEqProofs only [h1, aA, seval, C7]
  refine cT (fun h2 => ?_) (fun h2 => ?_)
  case refine_2 =>
   simp -implicitDefEqProofs only [h2, aA, seval]
   simp at h2
   simp [h2]
  simp -implicitDefEqProofs only [h2, aA, seval, C7]
  refine cT (fun h3 => ?_) (fun h3 => ?_)
  case refine_2 =>
   simp -implicitDefEqProofs only [h3, aA, seval]
   simp at h3
   simp [h3]
  simp -implicitDefEqProofs only [h3, aF, aA, seval, C7]
  refine ⟨fun h4 => ?_, fun h4 => ?_⟩
  · simp -implicitDefEqProofs only [aA, seval]
    simp only [lZ, dH] at h4
    rw [NV _ (show ts.length ≠ ts'.length by omega)]
    simp
  simp -implicitDefEqProofs only [aA, seval]
  simp only [tX, bJ] at h1 h2 h3 h4
  have h4' : ts.length = ts'.length := by omega
  subst h1 h2 h3
  simp only [bM, eT]
  refine uU (α := Nat) [] (fun i => i ≤ ts.length ∧ ∀ (j : Nat) (x y : Tm), j < i → ts[j]? = some x → ts'[j]? = some y → Tm.same x y = true)
   (fun i => [(2, .pptr (.agg [.int .i64 k, .int .i64 n, .str s, .slice (ts.map Tm.av)])), (3, .pptr (.agg [.int .i64 k, .int .i64 n, .str s, .slice (ts'.map Tm.av)])), (5, .int .i64 i)]) (fun _ => st) (fun i => ts.length - i) (by decide +kernel)
   ⟨0, ⟨by omega, by intro j x y h; omega⟩, aO.mk (by simp -implicitDefEqProofs only [aA, ↓aU, seval])⟩ ?_
  intro i ⟨hi, dV⟩
  simp -implicitDefEqProofs only [aF, aA, seval, C7]
  refine ⟨fun h5 => ?_, fun h5 => ?_⟩
  case refine_2 =>
   simp -implicitDefEqProofs only [aA, seval]
   simp only [dH, mS] at h5
   rw [LD _ h4' (fun j x y h6 h7 => dV j x y (by have := (gS.1 h6).1; omega) h6 h7)]
  simp only [bJ, mS] at h5
  obtain ⟨x, hx⟩ : ∃ x, ts[i]? = some x := ⟨_, fH h5⟩
  obtain ⟨y, hy⟩ : ∃ y, ts'[i]? = some y := ⟨_, fH (h4' ▸ h5)⟩
  simp -implicitDefEqProofs only [aA, seval]
  refine aYY mixed (by decide +kernel) (by decide +kernel) ?_
  simp -implicitDefEqProofs only [bL (av := Tm.av) aN hx (aH x), bL (av := Tm.av) aN hy (aH y), aT, aH, aA, seval, C7]
  refine (hc x (cW hx) y st).to ?_
  simp -implicitDefEqProofs only [aA, seval]
  refine ⟨fun h6 => ?_, fun h6 => ?_⟩
  · simp -implicitDefEqProofs only [aA, seval]
    have h7 : Tm.same x y = false := by simpa using h6
    rw [Q4 _ i x y hx hy h7]
  have h7 : Tm.same x y = true := by simpa using h6
  simp -implicitDefEqProofs only [aA, seval]
  refine ⟨i + 1, by omega, ⟨by omega, fun j u v hj hu hv => ?_⟩, aO.mk ?_⟩
  · rcases kT j i with h8 | h8
    · exact dV j u v h8 hu hv
    · obtain rfl : j = i := by omega
      rw [hx] at hu; rw [hy] at hv; cases hu; cases hv; exact h7
  · have := bK (n := (i : Int) + 1)
    simp -implicitDefEqProofs only [this, aA, seval]
termination_by a => SizeOf.sizeOf a
decreasing_by have := List.sizeOf_lt_of_mem hx; simp only [Tm.mk.sizeOf_spec]; omega
abbrev a2E := zi tI_3 (zi zI_3 (zi aX (zi tI_4 (zi zI_4 cD))))
theorem oD (b : Bool) (st : aB) : aD prog 187 [.bool b] st (fun r st' => r = .int .i64 (g9 b) ∧ st' = st) := by
 refine wF [1000000] 1 func187 ntmps187 rfl rfl ?_
 intro _
 simp -implicitDefEqProofs only [aA, seval]
 cases b
 · simp -implicitDefEqProofs only [g9, aA, seval]
 · simp -implicitDefEqProofs only [g9, aA, seval]
abbrev aX2 := zi tI_2 (zi zI_2 (zi IK (zi tI_3 (zi zI_3 (zi aX (zi tI_63 (zi zI_63 (zi bP (zi bQ (zi bT (zi bS bR)))))))))))
theorem aW3 (n : Int) (st : aB) : aD prog 190 [.int .i64 n] st (fun r st' => r = (mW n).av ∧ st' = st) := by
 refine aD.done ?_
 refine wF [1000000] 1 func190 ntmps190 rfl rfl ?_
 intro _
 simp -implicitDefEqProofs only [aK, aA, seval, aX2]
 intro b hb
 unfold mW
 exact ⟨by simp only [aV, kA, jP, kW, mG, bA, aW, aW], (aL.refl _).aC hb⟩
abbrev LS := zi tI_3 (zi zI_3 (zi aX (zi tI_4 (zi zI_4 (zi cD (zi tI_9 (zi zI_9 (zi cH (zi tI_31 (zi zI_31 (zi aN (zi bE (zi bF (zi b9 (zi tI_63 (zi zI_63 (zi bP (zi bQ (zi bT (zi bS (zi bR (zi tI_125 (zi zI_125 (zi iS (zi lR (zi lQ mF))))))))))))))))))))))))))
theorem a0E (k n : Int) (s : ByteArray) (ts : List Tm) (st : aB) : aD prog 185 [(Tm.mk k n s ts).av] st (fun r st' => r = .bool (decide (k = 3) && decide ((ts.length : Int) = 2) && fO qR s) ∧ st' = st) := by
 simp only [aV]
 refine wF [1000000] 1 func185 ntmps185 rfl rfl ?_
 intro _
 simp -implicitDefEqProofs only [aA, seval, LS]
 refine cT (fun h => ?_) (fun h => ?_)
 · simp -implicitDefEqProofs only [h, aF, aA, seval, LS]
   refine cT (fun h2 => ?_) (fun h2 => ?_)
   · simp -implicitDefEqProofs only [h2, aA, seval, LS]
     refine (NK qR s _).to ?_
     simp -implicitDefEqProofs only [aA, seval]
     simp [fO]
   · simp -implicitDefEqProofs only [h2, aA, seval]
     simp []
 · simp -implicitDefEqProofs only [h, aA, seval]
   simp []
abbrev QV := zi tI_3 (zi zI_3 (zi aX (zi tI_4 (zi zI_4 (zi cD (zi tI_9 (zi zI_9 (zi cH (zi tI_31 (zi zI_31 (zi aN (zi bE (zi bF (zi b9 (zi tI_63 (zi zI_63 (zi bP (zi bQ (zi bT (zi bS bR))))))))))))))))))))
theorem aNQ (n : Int) (s : ByteArray) (x y : Tm) (hs : fO qR s = true) {N : Int} (hx : cE N x) (hy : cE N y) (st : aB) : aD prog 186 [(Tm.mk 3 n s [x, y]).av] st (fun r st' => r = .int .i64 (xG s x y) ∧ st' = st) := by
 have dT : dJ prog 31 (.slice [x.av, y.av]) (.int .i64 0) = some (.pptr x.av) := bL (av := Tm.av) (l := [x, y]) (i := 0) aN rfl (aH x)
 have gC : dJ prog 31 (.slice [x.av, y.av]) (.int .i64 1) = some (.pptr y.av) := bL (av := Tm.av) (l := [x, y]) (i := 1) aN rfl (aH y)
 have hax := fun st => H0 x st hx
 have hay := fun st => H0 y st hy
 unfold xG both
 simp only [aV, bA, aW]
 refine wF [1000000] 1 func186 ntmps186 rfl rfl ?_
 intro _
 simp -implicitDefEqProofs only [dT, aT, aH, aA, seval, QV]
 refine (hax _).to ?_
 generalize x.ev.1 = a at *
 generalize x.ev.2 = ca at *
 generalize y.ev.1 = b at *
 generalize y.ev.2 = cb at *
 simp -implicitDefEqProofs only [aA, seval]
 refine aQ (fun h4 => ?_) (fun h4 => ?_)
 · simp -implicitDefEqProofs only [aA, seval]
   have h4' : ca ≠ 0 := by simpa using h4
   rw [aG h4']
 have h4' : ca = 0 := by simpa using h4
 subst h4'
 rw [aE (by simp)]
 simp -implicitDefEqProofs only [gC, aT, aH, aA, seval, QV]
 refine (hay _).to ?_
 simp -implicitDefEqProofs only [aA, seval]
 refine aQ (fun h5 => ?_) (fun h5 => ?_)
 · simp -implicitDefEqProofs only [aA, seval]
   have h5' : cb ≠ 0 := by simpa using h5
   rw [aG h5']
 have h5' : cb = 0 := by simpa using h5
 subst h5'
 rw [aE (by simp)]
 unfold KK
 simp -implicitDefEqProofs only [aA, seval, QV]
 refine aQ (fun h6 => ?_) (fun h6 => ?_)
 · simp -implicitDefEqProofs only [aA, seval]
   rw [aG (by simpa using h6)]
   refine (oD _ _).to ?_
   simp -implicitDefEqProofs only [aA, seval]
 rw [aE (by simpa using h6)]
 simp -implicitDefEqProofs only [aA, seval]
 refine aQ (fun h7 => ?_) (fun h7 => ?_)
 · simp -implicitDefEqProofs only [aA, seval]
   rw [aG (by simpa using h7)]
   refine (oD _ _).to ?_
   simp -implicitDefEqProofs only [aA, seval]
 rw [aE (by simpa using h7)]
 simp -implicitDefEqProofs only [aA, seval]
 refine aQ (fun h8 => ?_) (fun h8 => ?_)
 · simp -implicitDefEqProofs only [aA, seval]
   rw [aG (by simpa using h8)]
   refine (oD _ _).to ?_
   simp -implicitDefEqProofs only [aA, seval]
 rw [aE (by simpa using h8)]
 simp -implicitDefEqProofs only [aA, seval]
 refine aQ (fun h9 => ?_) (fun h9 => ?_)
 · simp -implicitDefEqProofs only [aA, seval]
   rw [aG (by simpa using h9)]
   refine (oD _ _).to ?_
   simp -implicitDefEqProofs only [aA, seval]
 rw [aE (by simpa using h9)]
 simp -implicitDefEqProofs only [aA, seval]
 refine (oD _ _).to ?_
 simp -implicitDefEqProofs only [aA, seval]
theorem HT {ts : List Tm} (h : ts.length = 0) : ts = [] := sM h
theorem GQ {ts : List Tm} (h : ts.length = 1) : ∃ x, ts = [x] := by
 match ts, h with
 | [x], _ => exact ⟨x, rfl⟩
theorem sZ {ts : List Tm} (h : ts.length = 2) : ∃ x y, ts = [x, y] := by
 match ts, h with
 | [x, y], _ => exact ⟨x, y, rfl⟩
theorem XF {ts : List Tm} (h : ts.length = 3) : ∃ x y z, ts = [x, y, z] := by
 match ts, h with
 | [x, y, z], _ => exact ⟨x, y, z, rfl⟩
theorem aJZ {σ : Sub} {f : Nat} {t u : Tm} (h : fQ σ f t u) : wk σ u = u := (fQ.stop h.end).wk
end Go.AW
namespace Go.AW

end Go.AW
namespace Go.AW
open Go.Proofs.Tryz
theorem aU3 {α : Type} (f : α → Nat) (l : List α) (i : Nat) : bG f (l.take i) ≤ bG f l := by
 have := CK f (l.take i) (l.drop i)
 rw [sO] at this
 omega
def Full (v : Tm) (room : Nat) (st : aB) (r : AV) (st' : aB) : Prop :=
 st' = st ∧ ∃ (x : Tm) (left : Int), r = .tup [x.av, .int .i64 left] ∧ -1 ≤ left ∧ if v.nodes ≤ room then x = v ∧ left = (room : Int) - v.nodes else left < 0
abbrev Bt := Fin 256
def iN (b : Bt) : AV := .int .u8 (b.val : Int)
theorem J8 (b : Bt) : (iN b).width = 1 := rfl
def dK (st : aB) (c : Nat) (bs : List Bt) (p : Nat) : Prop := st c = some (.cells [.slice (bs.map iN), .int .i64 (p : Int)])
def cA (bs : List Bt) (p : Nat) : AO := .cells [.slice (bs.map iN), .int .i64 (p : Int)]
theorem OE (a b : Nat) : (a : Int).tmod (b : Int) = ((a % b : Nat) : Int) := (Int.ofNat_tmod a b).symm
theorem aIE (a b : Nat) : (a : Int).tdiv (b : Int) = ((a / b : Nat) : Int) := (Int.ofNat_tdiv a b).symm
theorem aY1 (a b : Nat) (ha : a < 2 ^ 62) (hb : b < 2 ^ 62) : ∃ m : Nat, FE .i64 (a : Int) (b : Int) = (m : Int) := by
 have hx := Nat.xor_lt_two_pow ha hb
 refine ⟨a ^^^ b, ?_⟩
 unfold FE
 show IntKind.i64.wrap (((BitVec.ofInt 64 (a : Int) ^^^ BitVec.ofInt 64 (b : Int)).toNat : Nat) : Int) = _
 rw [BitVec.ofInt_natCast, BitVec.ofInt_natCast, BitVec.toNat_xor, BitVec.toNat_ofNat, BitVec.toNat_ofNat, Nat.mod_eq_of_lt (by omega), Nat.mod_eq_of_lt (by omega)]
 rw [wrap64 (by omega) (by omega)]
abbrev F0 := zi tI_3 (zi zI_3 (zi aX (zi tI_5 (zi zI_5 (zi kI (zi tI_57 (zi zI_57 (zi sG (zi zC (zi yN (zi v5 (zi tI_90 (zi zI_90 (zi tI_124 (zi zI_124 (zi OZ (zi P3 PC)))))))))))))))))
theorem mY (bs : List Bt) (c p : Nat) (hp : p ≤ 1099511627776) (n : Nat) (hn : 1 ≤ n) (hn2 : n ≤ 1048576) (st : aB) (h : dK st c bs p) :
 aD prog 89 [.ptr c 0, .int .i64 (n : Int)] st (fun r st' => ∃ k : Nat, k < n ∧ r = .int .i64 (k : Int) ∧ st' = st.aC c (cA bs (p + 1))) := by
 unfold dK at h
 refine wF [1000000] 2 func89 ntmps89 rfl rfl ?_
 intro _
 have hw1 : IntKind.i64.wrap ((p : Int) + 1) = (p : Int) + 1 := wrap64 (by omega) (by omega)
 simp -implicitDefEqProofs only [aK, h, hw1, aA, seval, F0]
 have hn1 : ¬ (n : Int) < 1 := by omega
 have hw2 : IntKind.i64.wrap ((p : Int) + 1 - 1) = (p : Int) := by rw [wrap64 (by omega) (by omega)]; omega
 have hst : ∀ (q : aB), q c = some (.cells [.slice (bs.map iN), .int .i64 ((p : Int) + 1)]) → True := fun _ _ => trivial
 have hrd : cA bs (p + 1) = .cells [.slice (bs.map iN), .int .i64 ((p : Int) + 1)] := by simp [cA]
 rw [hrd]
 refine cT (fun h1 => ?_) (fun h1 => ?_)
 case refine_2 => simp [hn1] at h1
 simp -implicitDefEqProofs only [bX, iV, hn1, aF, aA, seval, F0]
 refine aQ (fun h2 => ?_) (fun h2 => ?_)
 · simp -implicitDefEqProofs only [aA, seval]
   exact ⟨0, by omega, rfl⟩
 simp -implicitDefEqProofs only [hw2, aF, aA, seval, F0]
 have hbl : bs.length ≠ 0 := by simpa using h2
 refine aQ (fun h3 => ?_) (fun h3 => ?_)
 · simp only [bJ] at h3
   obtain ⟨x, hx⟩ : ∃ x, bs[p]? = some x := ⟨_, fH (by omega)⟩
   have hx2 := x.isLt
   have hb1 : IntKind.i64.wrap (x.val : Int) = (x.val : Int) := wrap64 (by omega) (by omega)
   have hn0 : ¬ (n : Int) = 0 := by omega
   have QJ : dJ prog 57 (.slice (bs.map iN)) (.int .i64 (p : Int)) = some (.pptr (.int .u8 x.val)) := bL (av := iN) sG hx (J8 x)
   simp -implicitDefEqProofs only [QJ, sV, hb1, hn0, aA, seval, F0]
   exact ⟨x.val % n, Nat.mod_lt _ (by omega), by rw [OE]⟩
 · simp only [dH] at h3
   obtain ⟨x, hx⟩ : ∃ x, bs[p % bs.length]? = some x := ⟨_, fH (Nat.mod_lt _ (by omega))⟩
   obtain ⟨y, hy⟩ : ∃ y, bs[(p * 7 + 3) % bs.length]? = some y := ⟨_, fH (Nat.mod_lt _ (by omega))⟩
   have hx2 := x.isLt
   have hy2 := y.isLt
   have hl0 : ¬ (bs.length : Int) = 0 := by omega
   simp -implicitDefEqProofs only [aA, seval]
   refine CJ [(0, 1), (1, 1), (2, 1), (3, 1), (4, 1), (5, 1), (6, 1), (7, 1), (8, 1), (9, 1), (10, 1), (11, 1), (12, 1), (13, 1), (14, 1), (15, 1), (16, 1), (17, 1), (18, 1), (19, 1), (20, 1), (21, 1), (22, 1), (23, 1), (24, 1), (25, 1), (26, 1), (27, 1), (28, 1), (29, 1), (30, 1), (31, 1), (32, 1), (33, 1), (34, 1), (35, 1), (36, 1), (37, 1), (38, 1), (39, 1), (40, 1), (41, 1), (42, 1), (43, 1), (44, 1), (45, 1)] [0, 1, 2, 3, 4, 5, 6, 7, 8, 9, 10, 11, 12, 13, 14, 15, 16, 17, 18, 19, 20, 21, 22, 23, 24, 25, 26, 27, 28, 29, 30, 31, 32, 33, 34, 35, 36, 37, 38, 39, 40, 41, 42, 43, 44, 45] (dX.aC c (.cells [.slice (bs.map iN), .int .i64 ((p : Int) + 1)])) mixed (by decide +kernel) (by decide +kernel) (by decide +kernel) rfl (iA (aB.aP _ _ _)) ?_
   have e7 : IntKind.i64.wrap ((p : Int) * 7) = (p : Int) * 7 := wrap64 (by omega) (by omega)
   have e8 : IntKind.i64.wrap ((p : Int) * 7 + 3) = (p : Int) * 7 + 3 := wrap64 (by omega) (by omega)
   have e9 : ((p : Int) * 7 + 3).tmod (bs.length : Int) = (((p * 7 + 3) % bs.length : Nat) : Int) := by rw [← OE]; congr 1
   have f1 : IntKind.i64.wrap ((x.val : Int) * 131) = (x.val : Int) * 131 := wrap64 (by omega) (by omega)
   have f2 : IntKind.i64.wrap ((y.val : Int) * 1117) = (y.val : Int) * 1117 := wrap64 (by omega) (by omega)
   have f3 : IntKind.i64.wrap ((x.val : Int) * 131 + (y.val : Int) * 1117) = (x.val : Int) * 131 + (y.val : Int) * 1117 := wrap64 (by omega) (by omega)
   have f4 : IntKind.i64.wrap ((p : Int) * 29) = (p : Int) * 29 := wrap64 (by omega) (by omega)
   have f5 : IntKind.i64.wrap ((x.val : Int) * 131 + (y.val : Int) * 1117 + (p : Int) * 29) = (x.val : Int) * 131 + (y.val : Int) * 1117 + (p : Int) * 29 := wrap64 (by omega) (by omega)
   have hb1 : IntKind.i64.wrap (x.val : Int) = (x.val : Int) := wrap64 (by omega) (by omega)
   have hb2 : IntKind.i64.wrap (y.val : Int) = (y.val : Int) := wrap64 (by omega) (by omega)
   generalize hjx : p % bs.length = jx at *
   generalize hjy : (p * 7 + 3) % bs.length = jy at *
   have e10 : (p : Int).tmod (bs.length : Int) = (jx : Int) := by rw [OE, hjx]
   have QJ : dJ prog 57 (.slice (bs.map iN)) (.int .i64 (jx : Int)) = some (.pptr (.int .u8 x.val)) := bL (av := iN) sG hx (J8 x)
   have aRW : dJ prog 57 (.slice (bs.map iN)) (.int .i64 (jy : Int)) = some (.pptr (.int .u8 y.val)) := bL (av := iN) sG hy (J8 y)
   have hdv : p / bs.length ≤ p := Nat.div_le_self _ _
   generalize hq : p / bs.length = q at *
   have hqq : IntKind.i64.wrap ((p : Int).tdiv (bs.length : Int)) = (q : Int) := by rw [aIE, hq, wrap64 (by omega) (by omega)]
   have f6 : IntKind.i64.wrap ((q : Int) * 53) = (q : Int) * 53 := wrap64 (by omega) (by omega)
   obtain ⟨z, hz, hz2⟩ : ∃ z : Nat, (x.val : Int) * 131 + (y.val : Int) * 1117 + (p : Int) * 29 + (q : Int) * 53 = (z : Int) ∧ z < 2 ^ 61 := ⟨x.val * 131 + y.val * 1117 + p * 29 + q * 53, by omega, by omega⟩
   have f7 : IntKind.i64.wrap ((x.val : Int) * 131 + (y.val : Int) * 1117 + (p : Int) * 29 + (q : Int) * 53) = (z : Int) := by rw [hz]; exact wrap64 (by omega) (by omega)
   have a1O : z / 64 ≤ z := Nat.div_le_self _ _
   obtain ⟨m, hm⟩ := aY1 z (z / 64) (by omega) (by omega)
   have f8 : IntKind.i64.wrap ((z : Int).tdiv 64) = ((z / 64 : Nat) : Int) := by rw [show (64 : Int) = ((64 : Nat) : Int) from rfl, aIE, wrap64 (by omega) (by omega)]
   generalize z / 64 = z2 at *
   have hn0 : ¬ (n : Int) = 0 := by omega
   simp -implicitDefEqProofs only [aF, hl0, e7, e8, e9, e10, f1, f2, f3, f4, f5, f6, f7, f8, hm, hn0, QJ, aRW, hb1, hb2, hqq, sV, aA, seval, F0]
   exact ⟨m % n, Nat.mod_lt _ (by omega), rfl⟩
abbrev aA7 := zi tI_3 (zi zI_3 (zi aX (zi tI_51 (zi zI_51 (zi dW (zi fW (zi fU (zi gA (zi tI_90 zI_90)))))))))
theorem a0P (l : List Int) (h1 : 1 ≤ l.length) (h2 : l.length ≤ 1048576) (bs : List Bt) (c p : Nat) (hp : p ≤ 1099511627776) (st : aB) (h : dK st c bs p) :
 aD prog 93 [.ptr c 0, .slice (l.map iv)] st (fun r st' => ∃ x ∈ l, r = .int .i64 x ∧ st' = st.aC c (cA bs (p + 1))) := by
 refine wF [1000000] 2 func93 ntmps93 rfl rfl ?_
 intro _
 simp -implicitDefEqProofs only [aF, aA, seval, aA7]
 refine (mY bs c p hp l.length h1 h2 st h).mono ?_
 rintro _ _ ⟨k, hk, rfl, rfl⟩
 obtain ⟨x, hx⟩ : ∃ x, l[k]? = some x := ⟨_, fH hk⟩
 have hat := bL (av := iv) dW hx rfl
 simp -implicitDefEqProofs only [hat, aA, seval, aA7]
 exact ⟨x, cW hx, rfl⟩
theorem wT (l : List Int) (h1 : 1 ≤ l.length) (h2 : l.length ≤ 1048576) (bs : List Bt) (c p : Nat) (hp : p ≤ 1099511627776) (st : aB) (h : dK st c bs p) :
 aD prog 93 [.ptr c 0, .fslice (l.map iv)] st (fun r st' => ∃ x ∈ l, r = .int .i64 x ∧ st' = st.aC c (cA bs (p + 1))) :=
 aD.n7 (by simp only [gO, AV.soft]; exact a0P l h1 h2 bs c p hp st h)
abbrev aHN := zi tI_3 (zi zI_3 (zi aX (zi tI_9 (zi zI_9 (zi cH (zi tI_90 (zi zI_90 (zi tI_125 (zi zI_125 (zi iS (zi lR (zi lQ mF))))))))))))
theorem aZ7 (l : List ByteArray) (h1 : 1 ≤ l.length) (h2 : l.length ≤ 1048576) (bs : List Bt) (c p : Nat) (hp : p ≤ 1099511627776) (st : aB) (h : dK st c bs p) :
 aD prog 128 [.ptr c 0, .slice (l.map AV.str)] st (fun r st' => ∃ x ∈ l, r = .str x ∧ st' = st.aC c (cA bs (p + 1))) := by
 refine wF [1000000] 2 func128 ntmps128 rfl rfl ?_
 intro _
 simp -implicitDefEqProofs only [aF, aA, seval, aHN]
 refine (mY bs c p hp l.length h1 h2 st h).mono ?_
 rintro _ _ ⟨k, hk, rfl, rfl⟩
 obtain ⟨x, hx⟩ : ∃ x, l[k]? = some x := ⟨_, fH hk⟩
 have hat := bL (av := AV.str) iS hx rfl
 simp -implicitDefEqProofs only [hat, aA, seval, aHN]
 exact ⟨x, cW hx, rfl⟩
theorem D5 (l : List ByteArray) (h1 : 1 ≤ l.length) (h2 : l.length ≤ 1048576) (bs : List Bt) (c p : Nat) (hp : p ≤ 1099511627776) (st : aB) (h : dK st c bs p) :
 aD prog 128 [.ptr c 0, .fslice (l.map AV.str)] st (fun r st' => ∃ x ∈ l, r = .str x ∧ st' = st.aC c (cA bs (p + 1))) :=
 aD.n7 (by simp only [gO, AV.soft]; exact aZ7 l h1 h2 bs c p hp st h)
abbrev OM := zi tI_3 (zi zI_3 (zi aX (zi tI_57 (zi zI_57 (zi sG (zi zC (zi yN (zi v5 (zi tI_90 (zi zI_90 (zi tI_124 (zi zI_124 (zi OZ (zi P3 PC))))))))))))))
theorem aWD (bs : List Bt) (st : aB) : aD prog 59 [.slice (bs.map iN)] st (fun r st' => ∃ c bs', r = .ptr c 0 ∧ st c = none ∧ st' = st.aC c (cA bs' 0)) := by
 refine wF [1000000, 10] 1 func59 ntmps59 rfl rfl ?_
 simp only [eG, AV.fits, eM, aF]
 intro ⟨hl, _⟩
 have hs : bs.length > 2000 → ∀ φ, iG prog φ 57 (.slice (bs.map iN)) none (some (.const (.int .i64 2000))) none = some (.slice ((bs.take 2000).map iN)) := fun h φ => by
  have h2 : ((0 : Int) ≤ 2000 ∧ (2000 : Int) ≤ (bs.map iN).length) := ⟨by omega, by rw [aF]; omega⟩
  have h3 : dY φ (some (.const (.int .i64 2000))) (bs.map iN).length (bs.map iN).length = some 2000 := by
   show (if ((0 : Int) ≤ 2000 ∧ (2000 : Int) ≤ (bs.map iN).length) then some (Int.toNat 2000) else none) = some 2000
   exact aG h2
  unfold iG pM
  rw [aE (by simp [rP])]
  simp only [sG]
  have h4 : dY φ none (bs.map iN).length (bs.map iN).length = some (bs.map iN).length := rfl
  rw [h4]
  simp only [h3]
  have h5 : dY φ none 0 2000 = some 0 := rfl
  rw [h5]
  simp
 simp -implicitDefEqProofs only [aF, aA, seval, OM]
 refine aQ (fun h => ?_) (fun h => ?_)
 · simp only [bJ] at h
   have hs' := hs (by omega)
   simp -implicitDefEqProofs only [hs', aA, seval, OM]
   intro b hb
   exact ⟨b, bs.take 2000, rfl, hb, by simp [cA]⟩
 · simp -implicitDefEqProofs only [aA, seval, OM]
   intro b hb
   exact ⟨b, bs, rfl, hb, by simp [cA]⟩
abbrev aS9 := zi tI_3 (zi zI_3 (zi aX (zi tI_63 (zi zI_63 (zi bP (zi bQ (zi bT (zi bS bR))))))))
theorem JX (n : Int) (st : aB) : aD prog 106 [.int .i64 n] st (fun r st' => r = (vr n).av ∧ st' = st) := by
 refine aD.done ?_
 refine wF [1000000] 1 func106 ntmps106 rfl rfl ?_
 intro _
 simp -implicitDefEqProofs only [aK, aA, seval, aS9]
 intro b hb
 exact ⟨by simp only [vr, aV, kA, jP, kW, mG, bA, aW], (aL.refl _).aC hb⟩
abbrev aQF := zi tI_2 (zi zI_2 (zi IK (zi tI_3 (zi zI_3 (zi aX (zi tI_63 (zi zI_63 (zi bP (zi bQ (zi bT (zi bS bR)))))))))))
theorem BJ (n : Int) (st : aB) : aD prog 129 [.int .i64 n] st (fun r st' => r = (Tm.mk 2 n ⟨#[]⟩ []).av ∧ st' = st) := by
 refine aD.done ?_
 refine wF [1000000] 1 func129 ntmps129 rfl rfl ?_
 intro _
 simp -implicitDefEqProofs only [aK, aA, seval, aQF]
 intro b hb
 exact ⟨by simp only [aV, kA, jP, kW, mG, bA, aW], (aL.refl _).aC hb⟩
abbrev JG := zi tI_3 (zi zI_3 (zi aX (zi tI_9 (zi zI_9 (zi cH (zi tI_31 (zi zI_31 (zi aN (zi bE (zi bF (zi b9 (zi tI_63 (zi zI_63 (zi bP (zi bQ (zi bT (zi bS bR)))))))))))))))))
theorem aUG (s : ByteArray) (l : List Tm) (hl : l.length ≤ 1048576) (st : aB) : aD prog 95 [.str s, .slice (l.map Tm.av)] st (fun r st' => r = (Tm.mk 3 0 s l).av ∧ st' = st) := by
 refine aD.pO (aD.fin ?_)
 refine wF [1000000] 2 func95 ntmps95 rfl rfl ?_
 intro _
 simp -implicitDefEqProofs only [aA, seval, JG]
 intro b hb
 change jO prog 31 (aZ (st.aC b (.cells [.int .i64 0, .int .i64 0, .str ⟨#[]⟩, .fslice []])) 0 []) (a9 4 0 []) (.slice (l.map Tm.av)) _
 refine eO aN bE bF rfl rfl (by intro e he; simp only [cU] at he; obtain ⟨t, _, rfl⟩ := he; exact ⟨aH _, bZ _⟩) (by simp) (fun h => absurd rfl h) (by simp only [a7, aF]; omega) (by simp only [a7, aF]; omega) (fun b' hb' => ?_)
 rw [eR] at hb' ⊢
 have hne : l.map Tm.av ≠ [] → b ≠ b' := fun h e => by have := hb' h; rw [← e, aB.aP] at this; cases this
 have h1 : aZ (st.aC b (.cells [.int .i64 0, .int .i64 0, .str ⟨#[]⟩, .fslice []])) b' (l.map Tm.av) b = some (.cells [.int .i64 0, .int .i64 0, .str ⟨#[]⟩, .fslice []]) := by
  by_cases h : l.map Tm.av = []
  · rw [h, vV, aB.aP]
  · rw [pX (hne h), aB.aP]
 simp -implicitDefEqProofs only [aK, h1, mB, eV, mZ, aA, seval, JG]
 rw [oJ hne, dE]
 exact ⟨b', l.map Tm.av, st.aC b _, rfl, fun h => by rw [aB.aM _ _ (dB (hne h))]; have := hb' h; rwa [aB.aM _ _ (dB (hne h))] at this, iB _, ⟨4, dR _⟩, by simp only [aV, fM, eC, iP, lI, bA, aW], (aL.refl _).aC hb⟩
theorem rH (s : ByteArray) (l : List Tm) (hl : l.length ≤ 1048576) (st : aB) : aD prog 95 [.str s, .fslice (l.map Tm.av)] st (fun r st' => r = (Tm.mk 3 0 s l).av ∧ st' = st) :=
 aD.n7 (by simp only [gO, AV.soft]; exact aUG s l hl st)
theorem aWO (s : ByteArray) (st : aB) : aD prog 95 [.str s, .fslice []] st (fun r st' => r = .agg [.int .i64 3, .int .i64 0, .str s, .fslice []] ∧ st' = st) := by
 refine aD.drop ?_
 refine wF [1000000] 2 func95 ntmps95 rfl rfl ?_
 intro _
 simp -implicitDefEqProofs only [aA, seval, JG]
 intro b hb
 change jO prog 31 (aZ (st.aC b (.cells [.int .i64 0, .int .i64 0, .str ⟨#[]⟩, .fslice []])) 0 []) (a9 4 0 []) (.fslice ([] : List AV)) _
 refine eO aN bE bF rfl rfl (by simp [s8]) (by simp) (fun h => absurd rfl h) (by simp) (by simp) (fun b' hb' => ?_)
 simp only [iC, jG, vV]
 simp -implicitDefEqProofs only [aK, aA, seval, JG]
 exact (aL.refl _).aC hb
abbrev Dn (t : Tm) : Prop := t.cv = true ∧ t.small = true
theorem LF (n : Int) : Dn (vr n) := by
 refine ⟨Tm.nW.2 ⟨fun _ => ⟨rfl, rfl⟩, fun x hx => by cases hx⟩, ?_⟩
 simp [vr, Tm.small, E4]
theorem wU {k n : Int} {s : ByteArray} {ts : List Tm} (hk : k ≠ 1) (hl : ts.length ≤ 1048576) (h : ∀ x ∈ ts, Dn x) : Dn (.mk k n s ts) := by
 refine ⟨Tm.nW.2 ⟨fun h => absurd h hk, fun x hx => (h x hx).1⟩, ?_⟩
 simp only [Tm.small, EK, cM, bJ, eW]
 exact ⟨hl, fun x hx => (h x hx).2⟩
def Dr (bs : List Bt) (c p m : Nat) (st : aB) (Q : AV → Prop) (r : AV) (st' : aB) : Prop := ∃ p', p ≤ p' ∧ p' ≤ p + m ∧ st' = st.aC c (cA bs p') ∧ Q r
def OP (r : AV) : Prop := ∃ t : Tm, Dn t ∧ r = t.av
theorem dK.aC {st : aB} {c p : Nat} {bs : List Bt} {b : Nat} {o : AO} (h : dK st c bs p) (hb : b ≠ c) : dK (st.aC b o) c bs p := by unfold dK; rw [aB.aM _ _ (dB hb)]; exact h
theorem dK.new {st : aB} {c p : Nat} {bs : List Bt} : dK (st.aC c (cA bs p)) c bs p := aB.aP _ _ _
theorem dK.ne {st : aB} {c p : Nat} {bs : List Bt} {b : Nat} (h : dK st c bs p) (hb : st b = none) : b ≠ c := by rintro rfl; rw [dK, hb] at h; cases h
abbrev kY := zi tI_3 (zi zI_3 (zi aX (zi tI_4 (zi zI_4 (zi cD (zi tI_9 (zi zI_9 (zi cH (zi tI_31 (zi zI_31 (zi aN (zi bE (zi bF (zi b9 (zi tI_51 (zi zI_51 (zi dW (zi fW (zi fU (zi gA (zi tI_63 (zi zI_63 (zi bP (zi bQ (zi bT (zi bS (zi bR (zi tI_90 (zi zI_90 (zi tI_125 (zi zI_125 (zi iS (zi lR (zi lQ mF))))))))))))))))))))))))))))))))))
theorem US (bs : List Bt) (c : Nat) : ∀ (d p : Nat) (st : aB), d ≤ 10 → p + 4 ^ (d + 2) ≤ 1099511627776 → dK st c bs p → aD prog 168 [.ptr c 0, .int .i64 (d : Int)] st (Dr bs c p (4 ^ (d + 2)) st OP)
 | d, p, st, hd, hp, hR => by
  have IH := fun (d' : Nat) (hlt : d' < d) p st => US bs c d' p st
  refine aD.lH (aD.fin ?_)
  refine wF [1000000, 5] 2 func168 ntmps168 rfl rfl ?_
  intro _
  simp -implicitDefEqProofs only [aA, seval, kY]
  intro b4 h4
  have h4c := hR.ne h4
  have hR' := fun o => hR.aC (o := o) h4c
  have aQM : 64 ≤ 4 ^ (d + 2) ∨ d = 0 := by
   cases d with
   | zero => exact .inr rfl
   | succ d =>
    left
    have : 4 ^ (d + 1 + 2) = 64 * 4 ^ d := by rw [show d + 1 + 2 = d + 3 by omega, Nat.pow_add]; omega
    have := Nat.one_le_two_pow (n := d); have : 1 ≤ 4 ^ d := Nat.one_le_pow _ _ (by omega); omega
  have aUO : 16 ≤ 4 ^ (d + 2) := by rcases aQM with h | rfl <;> omega
  have jV : ∀ (o o' : AO) (q : Nat) (t : Tm), p ≤ q → q ≤ p + 4 ^ (d + 2) → Dn t → ∃ b l s0, ((st.aC b4 o).aC c (cA bs q)).aC b4 o' = aZ s0 b l ∧ (l ≠ [] → s0 b = none) ∧ (∀ e ∈ l, e.cB = false) ∧ gX l ∧ ∃ s2, aL s0 s2 ∧ Dr bs c p (4 ^ (d + 2)) st OP (AV.fin b l t.av) s2 := fun o o' q t h1 h2 h3 => by
   refine ⟨0, [], _, rfl, by simp, by simp, ⟨4, by simp⟩, st.aC c (cA bs q), ?_, q, h1, h2, rfl, t, h3, Tm.u9 t 0⟩
   intro x
   by_cases e4 : x = b4 <;> by_cases ec : x = c <;> simp_all [aB.aC]
  refine cT (fun h => ?_) (fun h => ?_)
  case refine_2 =>
   simp -implicitDefEqProofs only [h, aA, seval]
   have hRq := hR' (.cells [.int .i64 0, .int .i64 0, .str ⟨#[]⟩, .fslice []])
   have hq : p + 1 ≤ 1099511627776 := by omega
   have := h4c.symm
   refine (mY bs c (p) (by omega) 4 (by omega) (by omega) _ hRq).mono ?_
   rintro _ _ ⟨k, hk, rfl, rfl⟩
   try rw [dE]
   simp -implicitDefEqProofs only [aA, seval]
   refine aQ (fun h1 => ?_) (fun h1 => ?_)
   · simp -implicitDefEqProofs only [aA, seval]
     refine (mY bs c (p + 1) (by omega) 4 (by omega) (by omega) _ dK.new).mono ?_
     rintro _ _ ⟨k2, hk2, rfl, rfl⟩
     rw [dE]
     simp -implicitDefEqProofs only [aA, seval]
     refine (JX (k2 : Int) _).to ?_
     simp -implicitDefEqProofs only [bO, bZ, d9 (bO _), d8 (aT _), aK, h4c, aA, seval, kY]
     exact jV _ _ _ (vr k2) (by omega) (by omega) (LF _)
   simp -implicitDefEqProofs only [aA, seval]
   refine aQ (fun h2 => ?_) (fun h2 => ?_)
   · simp -implicitDefEqProofs only [aA, seval, kY]
     refine (wT [0, 1, 7, -3, 999, -999] (by simp) (by simp) bs c (p + 1) (by omega) _ dK.new).mono ?_
     rintro _ _ ⟨x, hx, rfl, rfl⟩
     rw [dE]
     simp -implicitDefEqProofs only [aA, seval]
     refine (BJ x _).to ?_
     simp -implicitDefEqProofs only [bO, bZ, d9 (bO _), d8 (aT _), aK, h4c, aA, seval, kY]
     exact jV _ _ _ (.mk 2 x ⟨#[]⟩ []) (by omega) (by omega) (wU (by omega) (by simp) (by simp))
   · simp -implicitDefEqProofs only [aA, seval, kY]
     refine (D5 [⟨#[97]⟩, ⟨#[98]⟩, ⟨#[110, 105, 108]⟩, ⟨#[91, 93]⟩, ⟨#[102, 111, 111]⟩, ⟨#[43]⟩] (by simp) (by simp) bs c (p + 1) (by omega) _ dK.new).mono ?_
     rintro _ _ ⟨x, hx, rfl, rfl⟩
     rw [dE]
     simp -implicitDefEqProofs only [aA, seval]
     refine (rH x [] (by simp) _).to ?_
     simp -implicitDefEqProofs only [bO, bZ, d9 (bO _), d8 (aT _), aK, h4c, aA, seval, kY]
     exact jV _ _ _ (.mk 3 0 x []) (by omega) (by omega) (wU (by omega) (by simp) (by simp))
  simp -implicitDefEqProofs only [h, aA, seval]
  have hd2 : 2 ≤ d := by simp at h; omega
  have hwx : ∀ z : Int, z = (d : Int) → IntKind.i64.wrap (z - 1) = z - 1 := fun z hz => wrap64 (by omega) (by omega)
  obtain ⟨d', rfl⟩ : ∃ d', d = d' + 1 := ⟨d - 1, by omega⟩
  have hpd : 4 ^ (d' + 1 + 2) = 4 * 4 ^ (d' + 2) := by rw [show d' + 1 + 2 = d' + 2 + 1 by omega, Nat.pow_succ]; omega
  have hp4 : 4 ≤ 4 ^ (d' + 2) := by have : 1 ≤ 4 ^ d' := Nat.one_le_pow _ _ (by omega); rw [Nat.pow_add]; omega
  have hwd : IntKind.i64.wrap (((d' + 1 : Nat) : Int) - 1) = (d' : Int) := by rw [wrap64 (by omega) (by omega)]; omega
  have LP : IntKind.i64.wrap ((d' : Int) + 1 - 1) = (d' : Int) := by rw [wrap64 (by omega) (by omega)]; omega
  have IHd := fun p st => IH d' (K6 _) p st
  generalize hM : 4 ^ (d' + 2) = M at *
  rw [hpd] at hp aUO
  refine (mY bs c p (by omega) 4 (by omega) (by omega) _ (hR' _)).mono ?_
  rintro _ _ ⟨k, hk, rfl, rfl⟩
  simp -implicitDefEqProofs only [aA, seval]
  refine aQ (fun h1 => ?_) (fun h1 => ?_)
  · have hRq : dK ((st.aC b4 (.cells [.int .i64 0, .int .i64 0, .str ⟨#[]⟩, .fslice []])).aC c (cA bs (p + 1))) c bs (p + 1) := dK.new
    simp -implicitDefEqProofs only [aA, seval]
    refine (mY bs c (p + 1) (by omega) 4 (by omega) (by omega) _ hRq).mono ?_
    rintro _ _ ⟨k, hk, rfl, rfl⟩
    try rw [dE]
    simp -implicitDefEqProofs only [aA, seval]
    refine aQ (fun h1 => ?_) (fun h1 => ?_)
    · simp -implicitDefEqProofs only [aA, seval]
      refine (mY bs c (p + 1 + 1) (by omega) 4 (by omega) (by omega) _ dK.new).mono ?_
      rintro _ _ ⟨k2, hk2, rfl, rfl⟩
      rw [dE]
      simp -implicitDefEqProofs only [aA, seval]
      refine (JX (k2 : Int) _).to ?_
      simp -implicitDefEqProofs only [bO, bZ, d9 (bO _), d8 (aT _), aK, h4c, aA, seval, kY]
      exact jV _ _ _ (vr k2) (by omega) (by omega) (LF _)
    simp -implicitDefEqProofs only [aA, seval]
    refine aQ (fun h2 => ?_) (fun h2 => ?_)
    · simp -implicitDefEqProofs only [aA, seval, kY]
      refine (wT [0, 1, 7, -3, 999, -999] (by simp) (by simp) bs c (p + 1 + 1) (by omega) _ dK.new).mono ?_
      rintro _ _ ⟨x, hx, rfl, rfl⟩
      rw [dE]
      simp -implicitDefEqProofs only [aA, seval]
      refine (BJ x _).to ?_
      simp -implicitDefEqProofs only [bO, bZ, d9 (bO _), d8 (aT _), aK, h4c, aA, seval, kY]
      exact jV _ _ _ (.mk 2 x ⟨#[]⟩ []) (by omega) (by omega) (wU (by omega) (by simp) (by simp))
    · simp -implicitDefEqProofs only [aA, seval, kY]
      refine (D5 [⟨#[97]⟩, ⟨#[98]⟩, ⟨#[110, 105, 108]⟩, ⟨#[91, 93]⟩, ⟨#[102, 111, 111]⟩, ⟨#[43]⟩] (by simp) (by simp) bs c (p + 1 + 1) (by omega) _ dK.new).mono ?_
      rintro _ _ ⟨x, hx, rfl, rfl⟩
      rw [dE]
      simp -implicitDefEqProofs only [aA, seval]
      refine (rH x [] (by simp) _).to ?_
      simp -implicitDefEqProofs only [bO, bZ, d9 (bO _), d8 (aT _), aK, h4c, aA, seval, kY]
      exact jV _ _ _ (.mk 3 0 x []) (by omega) (by omega) (wU (by omega) (by simp) (by simp))
  · simp -implicitDefEqProofs only [aA, seval]
    refine (mY bs c (p + 1) (by omega) 3 (by omega) (by omega) _ dK.new).mono ?_
    rintro _ _ ⟨k2, hk2, rfl, rfl⟩
    rw [dE]
    simp -implicitDefEqProofs only [aA, seval]
    refine aQ (fun h2 => ?_) (fun h2 => ?_)
    · simp -implicitDefEqProofs only [LP, aA, seval]
      refine (IHd (p + 1 + 1) _ (by omega) (by omega) dK.new).mono ?_
      rintro _ _ ⟨p1, hp1, aS0, rfl, t1, ht1, rfl⟩
      rw [dE]
      simp -implicitDefEqProofs only [LP, aA, seval]
      refine (IHd p1 _ (by omega) (by omega) dK.new).mono ?_
      rintro _ _ ⟨p2, hp2, a20, rfl, t2, ht2, rfl⟩
      rw [dE]
      simp -implicitDefEqProofs only [aA, seval, kY]
      refine (rH ⟨#[46]⟩ [t1, t2] (by simp) _).to ?_
      simp -implicitDefEqProofs only [bO, bZ, d9 (bO _), d8 (aT _), aK, h4c, aA, seval, kY]
      exact jV _ _ _ (.mk 3 0 ⟨#[46]⟩ [t1, t2]) (by omega) (by omega) (wU (by omega) (by simp) (by intro x hx; simp only [cY, dP, d4] at hx; rcases hx with rfl | rfl <;> assumption))
    · simp -implicitDefEqProofs only [aA, seval, kY]
      refine (D5 [⟨#[102]⟩, ⟨#[103]⟩, ⟨#[115]⟩, ⟨#[43]⟩, ⟨#[61]⟩, ⟨#[105, 115]⟩, ⟨#[102, 111, 111]⟩] (by simp) (by simp) bs c (p + 1 + 1) (by omega) _ dK.new).mono ?_
      rintro _ _ ⟨x, _, rfl, rfl⟩
      rw [dE]
      simp -implicitDefEqProofs only [aA, seval]
      refine (aWO x _).to ?_
      simp -implicitDefEqProofs only [aK, aA, ↓aU, seval, kY]
      intro b5 h5
      have h54 : b5 ≠ b4 := by rintro rfl; simp [aB.aC, h4c] at h5
      have h5c : b5 ≠ c := by rintro rfl; simp [aB.aC] at h5
      have hn5 : st b5 = none := by rw [aB.aM _ _ h5c, aB.aM _ _ h54] at h5; exact h5
      refine (wT [2, 1, 3, 2] (by simp) (by simp) bs c (p + 1 + 1 + 1) (by omega) _ (dK.new.aC h5c)).mono ?_
      rintro _ _ ⟨y, hy, rfl, rfl⟩
      obtain ⟨n, rfl, hn⟩ : ∃ n : Nat, y = n ∧ n ≤ 3 := by
       simp only [cY, dP, d4] at hy
       rcases hy with rfl | rfl | rfl | rfl
       · exact ⟨2, rfl, by omega⟩
       · exact ⟨1, rfl, by omega⟩
       · exact ⟨3, rfl, by omega⟩
       · exact ⟨2, rfl, by omega⟩
      rw [aB.vJ h5c, aB.nX _ _ _ h5c]
      have hW4 : ∀ q, ((st.aC b4 (.cells [.int .i64 0, .int .i64 0, .str ⟨#[]⟩, .fslice []])).aC c (cA bs q)) b4 = some (.cells [.int .i64 0, .int .i64 0, .str ⟨#[]⟩, .fslice []]) := fun q => by rw [aB.aM _ _ h4c, aB.aP]
      simp -implicitDefEqProofs only [aA, seval]
      refine gZ (σ := Nat × Nat × List Tm × Nat) [1000000, 5] [0, 1, 4, 5]
       (fun s => (s.2.2.1.map Tm.av ≠ [] → (aB.aC ((st.aC b4 (.cells [.int .i64 0, .int .i64 0, .str ⟨#[]⟩, .fslice []])).aC c (cA bs s.2.2.2)) b5 (.cells ([.int .i64 3, .int .i64 0, .str x] ++ [a9 4 s.2.1 (s.2.2.1.map Tm.av)]))) s.2.1 = none) ∧ s.2.2.1.length + s.1 ≤ 3 ∧ (∀ t ∈ s.2.2.1, Dn t) ∧ p ≤ s.2.2.2 ∧ s.2.2.2 + s.1 * M ≤ p + 4 * M)
       (fun s => [(6, .int .i64 s.1)]) (fun s => eU ((st.aC b4 (.cells [.int .i64 0, .int .i64 0, .str ⟨#[]⟩, .fslice []])).aC c (cA bs s.2.2.2)) b5 s.2.1 [.int .i64 3, .int .i64 0, .str x] (s.2.2.1.map Tm.av)) (fun s => s.1) (by decide +kernel)
       ⟨(n, 0, [], p + 1 + 1 + 1 + 1), ⟨fun h => absurd rfl h, by simpa using hn, by simp, by simp only; omega, ?_⟩, aO.mk (by simp -implicitDefEqProofs only [aA, seval])⟩ ?_
      · simp only
        have := sN M hn
        omega
      rintro ⟨i, b, acc, q⟩ ⟨i1, i2, i3, i4, i5⟩
      simp only at i1 i2 i3 i4 i5
      simp -implicitDefEqProofs only [aA, seval]
      refine aQ (fun h3 => ?_) (fun h3 => ?_)
      · simp only [bJ] at h3
        have hbo := eD i1
        have hSc : ((st.aC b4 (.cells [.int .i64 0, .int .i64 0, .str ⟨#[]⟩, .fslice []])).aC c (cA bs q)) c ≠ none := by rw [aB.aP]; simp
        have hRk : dK (eU ((st.aC b4 (.cells [.int .i64 0, .int .i64 0, .str ⟨#[]⟩, .fslice []])).aC c (cA bs q)) b5 b [.int .i64 3, .int .i64 0, .str x] (acc.map Tm.av)) c bs q := by
         unfold dK
         rw [gF i1 hSc h5c.symm, aB.aP]
         try rfl
        have hM1 : M ≤ i * M := by have := sN M (show 1 ≤ i by omega); omega
        have hMi : (i - 1) * M + M = i * M := by rw [← qW]; congr 1; omega
        have hwi : IntKind.i64.wrap ((i : Int) - 1) = ((i - 1 : Nat) : Int) := by rw [wrap64 (by omega) (by omega)]; omega
        have cV : (acc.map Tm.av).length ≤ 3 := by rw [aF]; omega
        simp -implicitDefEqProofs only [aA, seval]
        refine CJ [(0, 1), (1, 1), (2, 1), (3, 1), (4, 1), (5, 0), (6, 1), (7, 0), (8, 1), (9, 2)] [0, 1, 2, 3, 4, 6, 8] (dX.aC b5 (.cells [.int .i64 3, .int .i64 0, .str x, a9 4 b (acc.map Tm.av)])) mixed (by decide +kernel) (by decide +kernel) (by decide +kernel) rfl (iA hbo) ?_
        simp -implicitDefEqProofs only [LP, mK, aA, seval, kY]
        refine (IHd q _ (by omega) (by omega) hRk).mono ?_
        rintro _ _ ⟨q', hq1, hq2, rfl, t, ht, rfl⟩
        obtain ⟨e1, i1'⟩ := pU (o := cA bs q') i1 hSc h5c.symm
        rw [dE] at e1 i1'
        rw [e1]
        simp -implicitDefEqProofs only [aT, aH, cG, aA, seval, kY]
        refine ⟨iA (eD i1'), ?_⟩
        refine eO aN bE bF rfl rfl (fB (aH _) (bZ _)) (dR _) i1' (by simp only [aS, a7]; omega) (by simp only [aS, a7]; omega) (fun b' hb' => ?_)
        rw [show acc.map Tm.av ++ [t.av] = (acc ++ [t]).map Tm.av by simp] at hb' ⊢
        obtain ⟨g1, g2, g3⟩ := nO hb'
        simp only [fF, eR] at g1 g3
        simp -implicitDefEqProofs only [aK, eV, mB, aA, seval, kY]
        refine ⟨iA g3, ?_⟩
        simp -implicitDefEqProofs only [g3, g1, hwi, aA, seval]
        refine ⟨(i - 1, b', acc ++ [t], q'), by simp only; omega, ⟨g2, by simp only [dQ, aS, a7]; omega, fun u hu => ?_, by simp only; omega, by simp only; omega⟩, aO.mk (by simp -implicitDefEqProofs only [aA, seval])⟩
        rcases fS.1 hu with hu | hu
        · exact i3 u hu
        · simp only [cY, dP, d4] at hu
          subst hu
          exact ht
      · have hbo := eD i1
        have h4o := gF i1 (x := b4) (by rw [hW4]; simp) h54.symm
        rw [hW4] at h4o
        simp -implicitDefEqProofs only [aK, hbo, h4o, eV, aA, seval, kY]
        obtain ⟨g5, g6⟩ := j8 (o := .cells [.int .i64 3, .int .i64 0, .str x, a9 4 b (acc.map Tm.av)]) i1 (show ((st.aC b4 (.cells [.int .i64 0, .int .i64 0, .str ⟨#[]⟩, .fslice []])).aC c (cA bs q)) b4 ≠ none by rw [hW4]; simp) h54.symm
        refine ⟨b, _, _, g5, g6, iB _, ⟨4, dR _⟩, st.aC c (cA bs q), ?_, q, i4, by omega, rfl, .mk 3 0 x acc, wU (by omega) (by omega) i3, ?_⟩
        · intro y
          by_cases e4 : y = b4 <;> by_cases ec : y = c <;> by_cases e5 : y = b5 <;> simp_all [aB.aC]
        · simp only [fM, bA, aW, eC, iP, iD, aV]
termination_by d => d
decreasing_by exact hlt
abbrev a23 := zi tI_3 (zi zI_3 (zi aX (zi tI_4 (zi zI_4 cD))))
theorem sA (b : Bool) (st : aB) : aD prog 169 [.bool b] st (fun r st' => r = .int .i64 (g9 b) ∧ st' = st) := by
 refine wF [1000000] 1 func169 ntmps169 rfl rfl ?_
 intro _
 simp -implicitDefEqProofs only [aA, seval]
 cases b
 · simp -implicitDefEqProofs only [g9, aA, seval]
 · simp -implicitDefEqProofs only [g9, aA, seval]
abbrev a1C := zi tI_4 (zi zI_4 (zi cD (zi tI_9 (zi zI_9 cH))))
theorem aP4 (s : ByteArray) (st : aB) : aD prog 173 [.str s] st (fun r st' => r = .bool (fO qR s) ∧ st' = st) := by
 have hin : fO qR s = (decide (s = ⟨#[60]⟩) || (decide (s = ⟨#[62]⟩) || (decide (s = ⟨#[61, 60]⟩) || (decide (s = ⟨#[62, 61]⟩) || decide (s = ⟨#[61, 58, 61]⟩))))) := by
  simp only [fO, qR, DE, List.any_nil, GX]
 rw [hin]
 refine wF [1000000] 1 func173 ntmps173 rfl rfl ?_
 intro _
 simp -implicitDefEqProofs only [aA, seval]
 refine cT (fun h1 => ?_) (fun h1 => ?_)
 case refine_2 =>
  simp -implicitDefEqProofs only [h1, aA, seval]
  simp at h1; simp [h1]
 simp -implicitDefEqProofs only [h1, aA, seval]
 refine cT (fun h2 => ?_) (fun h2 => ?_)
 case refine_2 =>
  simp -implicitDefEqProofs only [h2, aA, seval]
  simp at h2; simp [h2]
 simp -implicitDefEqProofs only [h2, aA, seval]
 refine cT (fun h3 => ?_) (fun h3 => ?_)
 case refine_2 =>
  simp -implicitDefEqProofs only [h3, aA, seval]
  simp at h3; simp [h3]
 simp -implicitDefEqProofs only [h3, aA, seval]
 refine cT (fun h4 => ?_) (fun h4 => ?_)
 case refine_2 =>
  simp -implicitDefEqProofs only [h4, aA, seval]
  simp at h4; simp [h4]
 simp -implicitDefEqProofs only [h4, aA, seval]
theorem aRF (s : ByteArray) (a b : Int) (st : aB) : aD prog 208 [.str s, .int .i64 a, .int .i64 b] st (fun r st' => r = .bool (KK s a b) ∧ st' = st) := by
 unfold KK
 refine wF [1000000] 3 func208 ntmps208 rfl rfl ?_
 intro _
 simp -implicitDefEqProofs only [aA, seval]
 refine aQ (fun h6 => ?_) (fun h6 => ?_)
 · simp -implicitDefEqProofs only [aA, seval]
   rw [aG (by simpa using h6)]
 rw [aE (by simpa using h6)]
 simp -implicitDefEqProofs only [aA, seval]
 refine aQ (fun h7 => ?_) (fun h7 => ?_)
 · simp -implicitDefEqProofs only [aA, seval]
   rw [aG (by simpa using h7)]
 rw [aE (by simpa using h7)]
 simp -implicitDefEqProofs only [aA, seval]
 refine aQ (fun h8 => ?_) (fun h8 => ?_)
 · simp -implicitDefEqProofs only [aA, seval]
   rw [aG (by simpa using h8)]
 rw [aE (by simpa using h8)]
 simp -implicitDefEqProofs only [aA, seval]
 refine aQ (fun h9 => ?_) (fun h9 => ?_)
 · simp -implicitDefEqProofs only [aA, seval]
   rw [aG (by simpa using h9)]
 rw [aE (by simpa using h9)]
 simp -implicitDefEqProofs only [aA, seval]
abbrev O5 := zi tI_3 (zi zI_3 (zi aX (zi tI_4 (zi zI_4 (zi cD (zi tI_9 (zi zI_9 (zi cH (zi tI_31 (zi zI_31 (zi aN (zi bE (zi bF (zi b9 (zi tI_63 (zi zI_63 (zi bP (zi bQ (zi bT (zi bS bR))))))))))))))))))))
theorem aZL (n : Int) (s : ByteArray) (x y : Tm) {N : Int} (hx : cE N x) (hy : cE N y) (st : aB) : aD prog 174 [(Tm.mk 3 n s [x, y]).av] st (fun r st' => r = .int .i64 (xG s x y) ∧ st' = st) := by
 have dT : dJ prog 31 (.slice [x.av, y.av]) (.int .i64 0) = some (.pptr x.av) := bL (av := Tm.av) (l := [x, y]) (i := 0) aN rfl (aH x)
 have gC : dJ prog 31 (.slice [x.av, y.av]) (.int .i64 1) = some (.pptr y.av) := bL (av := Tm.av) (l := [x, y]) (i := 1) aN rfl (aH y)
 have hax := fun st => JN x st hx
 have hay := fun st => JN y st hy
 unfold xG both
 simp only [aV, bA, aW]
 refine wF [1000000] 1 func174 ntmps174 rfl rfl ?_
 intro _
 simp -implicitDefEqProofs only [dT, aT, aH, aA, seval, O5]
 refine (hax _).to ?_
 generalize x.ev.1 = a at *
 generalize x.ev.2 = ca at *
 generalize y.ev.1 = b at *
 generalize y.ev.2 = cb at *
 simp -implicitDefEqProofs only [aA, seval]
 refine aQ (fun h4 => ?_) (fun h4 => ?_)
 · simp -implicitDefEqProofs only [aA, seval]
   have h4' : ca ≠ 0 := by simpa using h4
   rw [aG h4']
 have h4' : ca = 0 := by simpa using h4
 subst h4'
 rw [aE (by simp)]
 simp -implicitDefEqProofs only [gC, aT, aH, aA, seval, O5]
 refine (hay _).to ?_
 simp -implicitDefEqProofs only [aA, seval]
 refine aQ (fun h5 => ?_) (fun h5 => ?_)
 · simp -implicitDefEqProofs only [aA, seval]
   have h5' : cb ≠ 0 := by simpa using h5
   rw [aG h5']
 have h5' : cb = 0 := by simpa using h5
 subst h5'
 rw [aE (by simp)]
 simp -implicitDefEqProofs only [aA, seval, O5]
 refine (aRF s a b _).to ?_
 simp -implicitDefEqProofs only [aA, seval]
 refine (sA _ _).to ?_
 simp -implicitDefEqProofs only [aA, seval]
abbrev B7 := zi tI_3 (zi zI_3 (zi aX (zi tI_4 (zi zI_4 (zi cD (zi tI_9 (zi zI_9 (zi cH (zi tI_31 (zi zI_31 (zi aN (zi bE (zi bF (zi b9 (zi tI_63 (zi zI_63 (zi bP (zi bQ (zi bT (zi bS bR))))))))))))))))))))
theorem aZA (n : Int) (s : ByteArray) (x : Tm) (hs : s = ⟨#[118, 97, 114]⟩ ∨ s = ⟨#[110, 111, 110, 118, 97, 114]⟩ ∨ s = ⟨#[97, 116, 111, 109]⟩ ∨ s = ⟨#[105, 110, 116]⟩) (st : aB) :
 aD prog 175 [(Tm.mk 3 n s [x]).av] st (fun r st' => r = .int .i64 (g9 (rB s x)) ∧ st' = st) := by
 obtain ⟨xk, xn, xs, xt⟩ := x
 have dT : dJ prog 31 (.slice [(Tm.mk xk xn xs xt).av]) (.int .i64 0) = some (.pptr (Tm.mk xk xn xs xt).av) := bL (av := Tm.av) (l := [Tm.mk xk xn xs xt]) (i := 0) aN rfl (aH _)
 simp only [aV] at dT
 simp only [bA, aW, aV]
 refine wF [1000000] 1 func175 ntmps175 rfl rfl ?_
 intro _
 simp -implicitDefEqProofs only [dT, aA, ↓aU, seval, B7]
 refine aQ (fun h => ?_) (fun h => ?_)
 · have hs' : s = ⟨#[118, 97, 114]⟩ := by simpa using h
   subst hs'
   simp -implicitDefEqProofs only [aA, seval, B7]
   refine (sA _ _).to ?_
   simp -implicitDefEqProofs only [aA, seval]
   rfl
 have h1 : s ≠ ⟨#[118, 97, 114]⟩ := by simpa using h
 simp -implicitDefEqProofs only [aA, seval]
 refine aQ (fun h => ?_) (fun h => ?_)
 · have hs' : s = ⟨#[110, 111, 110, 118, 97, 114]⟩ := by simpa using h
   subst hs'
   simp -implicitDefEqProofs only [aA, seval, B7]
   refine (sA _ _).to ?_
   simp -implicitDefEqProofs only [aA, seval]
   rfl
 have h2 : s ≠ ⟨#[110, 111, 110, 118, 97, 114]⟩ := by simpa using h
 simp -implicitDefEqProofs only [aA, seval]
 refine aQ (fun h => ?_) (fun h => ?_)
 · have hs' : s = ⟨#[105, 110, 116]⟩ := by simpa using h
   subst hs'
   simp -implicitDefEqProofs only [aA, seval, B7]
   refine (sA _ _).to ?_
   simp -implicitDefEqProofs only [aA, seval]
   rfl
 have h3 : s ≠ ⟨#[105, 110, 116]⟩ := by simpa using h
 have hs' : s = ⟨#[97, 116, 111, 109]⟩ := by simpa [h1, h2, h3] using hs
 subst hs'
 have et : rB ⟨#[97, 116, 111, 109]⟩ (Tm.mk xk xn xs xt) = (decide (xk = 3) && decide ((xt.length : Int) = 0)) := rfl
 rw [et]
 simp -implicitDefEqProofs only [aA, seval, B7]
 refine cT (fun h4 => ?_) (fun h4 => ?_)
 · simp -implicitDefEqProofs only [h4, aF, aA, seval, B7]
   refine (sA _ _).to ?_
   simp -implicitDefEqProofs only [aA, seval]
 · simp -implicitDefEqProofs only [h4, aA, seval]
   refine (sA _ _).to ?_
   simp -implicitDefEqProofs only [aA, seval]
   simp at h4; simp []
def qN (x y : Tm) : Tm × Int := if x.k = 1 ∨ y.k = 1 then (Tm.zero, 2) else if x.k ≠ 2 ∨ y.k ≠ 3 ∨ y.ts.length = 0 then (Tm.zero, 3) else match mJ x y with
 | some u => (u, 0)
 | none => (Tm.zero, 1)
abbrev nJ := zi tI_3 (zi zI_3 (zi aX (zi tI_31 (zi zI_31 (zi aN (zi bE (zi bF (zi b9 (zi tI_63 (zi zI_63 (zi bP (zi bQ (zi bT (zi bS bR))))))))))))))
theorem aM7 {N : Int} (n : Int) (s : ByteArray) (x y z : Tm) (hy : cE N y) (st : aB) : aD prog 172 [(Tm.mk 3 n s [x, y, z]).av] st (fun r st' => r = .tup [(qN x y).1.av, .int .i64 (qN x y).2] ∧ st' = st) := by
 have dT : dJ prog 31 (.slice [x.av, y.av, z.av]) (.int .i64 0) = some (.pptr x.av) := bL (av := Tm.av) (l := [x, y, z]) (i := 0) aN rfl (aH x)
 have gC : dJ prog 31 (.slice [x.av, y.av, z.av]) (.int .i64 1) = some (.pptr y.av) := bL (av := Tm.av) (l := [x, y, z]) (i := 1) aN rfl (aH y)
 obtain ⟨xk, xn, xs, xt⟩ := x
 obtain ⟨yk, yn, ys, yt⟩ := y
 have hyl : yt.length ≤ 4 := by
  exact hy.kind.2
 rw [aV] at dT
 simp only [aV xk, aV yk] at dT gC
 unfold qN
 simp only [aV 3, bA, aW, aV xk, aV yk, Tm.k, Tm.ts]
 refine aD.done ?_
 refine wF [1000000] 1 func172 ntmps172 rfl rfl ?_
 intro _
 simp -implicitDefEqProofs only [dT, gC, aA, ↓aU, seval, nJ]
 intro b hb
 have oM : ∀ o (p : Tm × Int) (k : Int), p = (Tm.zero, k) → (AV.tup [.agg [.int .i64 0, .int .i64 0, .str ⟨#[]⟩, .fslice []], .int .i64 k]).soft = .tup [p.1.av, .int .i64 p.2] ∧ aL (st.aC b o) st := fun o p k e => by
  rw [e]
  exact ⟨by simp only [Tm.zero, aV, kA, kF, jP, kW, mG, bA, aW, aW], (aL.refl _).aC hb⟩
 refine cT (fun h => ?_) (fun h => ?_)
 case refine_2 =>
  have h' : xk = 1 := by simpa using h
  simp -implicitDefEqProofs only [h, aK, aA, seval, nJ]
  exact oM _ _ 2 (aG (.inl h'))
 have hx1 : xk ≠ 1 := by simpa using h
 simp -implicitDefEqProofs only [h, aA, seval, nJ]
 refine aQ (fun h1 => ?_) (fun h1 => ?_)
 · have h' : yk = 1 := by simpa using h1
   simp -implicitDefEqProofs only [aK, aA, seval, nJ]
   exact oM _ _ 2 (aG (.inr h'))
 have hy1 : yk ≠ 1 := by simpa using h1
 rw [aE (fun h2 => h2.elim hx1 hy1)]
 simp -implicitDefEqProofs only [aA, seval, nJ]
 refine cT (fun h4 => ?_) (fun h4 => ?_)
 case refine_2 =>
  have h' : xk ≠ 2 := by simpa using h4
  simp -implicitDefEqProofs only [h4, aK, aA, seval, nJ]
  exact oM _ _ 3 (aG (.inl h'))
 have hx2 : xk = 2 := by simpa using h4
 simp -implicitDefEqProofs only [h4, aA, seval, nJ]
 refine cT (fun h5 => ?_) (fun h5 => ?_)
 case refine_2 =>
  have h' : yk ≠ 3 := by simpa using h5
  simp -implicitDefEqProofs only [h5, aK, aA, seval, nJ]
  exact oM _ _ 3 (aG (.inr (.inl h')))
 have hy3 : yk = 3 := by simpa using h5
 simp -implicitDefEqProofs only [h5, aF, aA, seval, nJ]
 refine aQ (fun h6 => ?_) (fun h6 => ?_)
 · have h' : yt.length = 0 := by simp at h6; simp [h6]
   simp -implicitDefEqProofs only [aK, aA, seval, nJ]
   exact oM _ _ 3 (aG (.inr (.inr h')))
 have hyt : yt.length ≠ 0 := by simp at h6; simpa using h6
 rw [aE (by simp [hx2, hy3]; intro h7; simp [h7] at hyt)]
 simp -implicitDefEqProofs only [aA, seval, nJ]
 have hno : ¬ (1 ≤ xn ∧ xn ≤ yt.length) → (match mJ (.mk xk xn xs xt) (.mk yk yn ys yt) with | some u => (u, (0 : Int)) | none => (Tm.zero, 1)) = (Tm.zero, (1 : Int)) := fun h' => by
  have ea : mJ (.mk xk xn xs xt) (.mk yk yn ys yt) = none := aE h'
  rw [ea]
 refine cT (fun h7 => ?_) (fun h7 => ?_)
 case refine_2 =>
  have h' : xn < 1 := by simpa using h7
  simp -implicitDefEqProofs only [h7, aK, aA, seval, nJ]
  exact oM _ _ 1 (hno (by omega))
 have hl1 : ¬ xn < 1 := by simpa using h7
 simp -implicitDefEqProofs only [h7, aF, aA, seval, nJ]
 refine aQ (fun h8 => ?_) (fun h8 => ?_)
 · have h' : (yt.length : Int) < xn := by simpa using h8
   simp -implicitDefEqProofs only [aK, aA, seval, nJ]
   exact oM _ _ 1 (hno (by omega))
 have hl2 : ¬ (yt.length : Int) < xn := by simpa using h8
 have h' : 1 ≤ xn ∧ xn ≤ yt.length := by omega
 obtain ⟨i, hi⟩ : ∃ i : Nat, xn - 1 = i := ⟨(xn - 1).toNat, by omega⟩
 have hlt : i < yt.length := by omega
 obtain ⟨u, hu⟩ : ∃ u, yt[i]? = some u := ⟨_, fH hlt⟩
 have ea : mJ (.mk xk xn xs xt) (.mk yk yn ys yt) = some u := by
  refine (aG h').trans ?_
  show yt[(xn - 1).toNat]? = some u
  rw [hi, l7, hu]
 rw [ea]
 have hw : IntKind.i64.wrap (xn - 1) = (i : Int) := by rw [wrap64 (by omega) (by omega)]; exact hi
 have PR := bL (av := Tm.av) (P := prog) aN hu (aH u)
 simp -implicitDefEqProofs only [bO, bZ, d9 (bO _), d8 (aT _), PR, hw, aT, aH, aK, aA, seval, nJ]
 exact ⟨by simp only [kF, jP, Tm.soft, bA, aW, Tm.soft], (aL.refl _).aC hb⟩
theorem aYM (n : Int) : (mW n).av = (Tm.mk 2 n ⟨#[]⟩ []).av := rfl
end Go.AW
