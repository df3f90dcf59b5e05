import Derived.Test.YtpficjlageaebaaGreatDoorSfuj
import Derived.Test.YtpficjlageaebaaGreatDoorSfuk
import Derived.Test.YtpficjlageaebaaGreatDoorSfuf
import Derived.Test.YtpficjlageaebaaGreatDoorSfui
set_option linter.unusedSimpArgs false
set_option linter.unusedVariables false
set_option maxRecDepth 100000
namespace Go.AW
open Go.Proofs.Tryz
def cQ (N : Nat) (σ : Sub) : List AV := (List.range N).map fun i : Nat => cellOf (σ (i : Int))
theorem BL (N : Nat) (σ : Sub) : ∀ e ∈ cQ N σ, e.width = 4 := by intro e h; simp only [cQ, cV] at h; obtain ⟨i, _, rfl⟩ := h; exact HG _
theorem yV (N : Nat) (σ : Sub) {i : Nat} (h : i < N) : (cQ N σ)[i]? = some (cellOf (σ (i : Int))) := by
 simp only [cQ, oR, List.getElem?_range h, qW]
theorem aVS (N : Nat) (σ : Sub) {i : Nat} (h : i < N) (u : Tm) : (cQ N σ).set i u.av = cQ N (σ.set (i : Int) u) := by
 apply KY
 intro j
 by_cases hj : j < N
 · rw [yV N _ hj, List.getElem?_set]
   by_cases e : i = j
   · subst e
     simp [cQ, hj, Sub.set, cellOf]
   · rw [aE e, yV N _ hj]
     simp only [Sub.set]
     rw [aE (by omega)]
 · rw [xN (by simp [cQ]; omega), xN (by simp [cQ]; omega)]
def fC (N : Nat) (st : aB) (b : Nat) (σ : Sub) : Prop := st b = some (.cells ((cQ N σ).flatMap AV.cells))
theorem fC.mid {N : Nat} {st : aB} {b : Nat} {σ : Sub} (h : fC N st b σ) {i : Nat} (hi : i < N) :
 ∃ A B, st b = some (.cells (A ++ (cellOf (σ (i : Int))).cells ++ B)) ∧ A.length = i * 4 ∧ ∀ (u : Tm), fC N (st.aC b (.cells (A ++ u.av.cells ++ B))) b (σ.set (i : Int) u) := by
 obtain ⟨A, B, h1, h2, h3⟩ := aN9 (BL N σ) (yV N σ hi)
 refine ⟨A, B, by rw [← h1]; exact h, h2, fun u => ?_⟩
 unfold fC
 rw [aB.aQ, ← aVS N σ hi, h3]
theorem fC.aC {N : Nat} {st : aB} {b x : Nat} {σ : Sub} {o : AO} (h : fC N st b σ) (hx : x ≠ b) : fC N (st.aC x o) b σ := by
 unfold fC
 rw [aB.aL _ _ (dA hx)]
 exact h
theorem fC.none {N : Nat} {st : aB} {b : Nat} {σ : Sub} (h : fC N st b σ) {i : Nat} (hi : i < N) (hn : σ (i : Int) = Option.none) :
 ∃ D, st b = some (.cells D) ∧ D[i * 4 + 0]? = some (.int .i64 0) ∧ i * 4 + 4 ≤ D.length := by
 obtain ⟨A, B, e1, e2, _⟩ := h.mid hi
 rw [hn] at e1
 obtain ⟨r1, r2, r3⟩ := SI (B := B) (C := (cellOf Option.none).cells) e2 rfl
 exact ⟨_, e1, r3, r1⟩
theorem fC.some {N : Nat} {st : aB} {b : Nat} {σ : Sub} (h : fC N st b σ) {i : Nat} (hi : i < N) {k n : Int} {s : ByteArray} {ts : List Tm} (hn : σ (i : Int) = Option.some (.mk k n s ts)) :
 ∃ D, st b = Option.some (.cells D) ∧ D[i * 4 + 0]? = Option.some (.int .i64 k) ∧ i * 4 + 4 ≤ D.length ∧ List.take 4 (List.drop (i * 4) D) = [.int .i64 k, .int .i64 n, .str s, .slice (ts.map Tm.av)] := by
 obtain ⟨A, B, e1, e2, _⟩ := h.mid hi
 rw [hn] at e1
 simp only [cellOf, aV, AV.cells] at e1
 obtain ⟨r1, r2, r3⟩ := SI (B := B) (C := [.int .i64 k, .int .i64 n, .str s, .slice (ts.map Tm.av)]) e2 rfl
 exact ⟨_, e1, r3, r1, r2⟩
theorem fC.set {N : Nat} {st : aB} {b : Nat} {σ : Sub} (h : fC N st b σ) {i : Nat} (hi : i < N) (u : Tm) :
 ∃ D D', st b = Option.some (.cells D) ∧ i * 4 + 4 ≤ D.length ∧ aK D (i * 4) u.av.cells = D' ∧ fC N (st.aC b (.cells D')) b (σ.set (i : Int) u) := by
 obtain ⟨A, B, e1, e2, e3⟩ := h.mid hi
 obtain ⟨p1, p2⟩ := aV5 (B := B) (C := (cellOf (σ (i : Int))).cells) (x := u.av.cells) e2 (aPN _) (bO u)
 exact ⟨_, _, e1, p2, p1, e3 u⟩
abbrev A3 := zi tI_3 (zi zI_3 (zi aX (zi tI_31 (zi zI_31 (zi aN (zi bE (zi bF (zi cA (zi tI_63 (zi zI_63 (zi bR (zi bQ (zi bP (zi bT bU))))))))))))))
theorem aIC {N : Nat} {σ : Sub} (hok : cP (cD N) σ) {f : Nat} {t u : Tm} (hw : fO σ f t u) (ht : cD N t) (b : Nat) (st : aB) (hS : fC N st b σ) : aD prog 177 [t.av, .mslice b 0 N 4] st (fun r st' => r = u.av ∧ st' = st) := by
 refine aD.done ?_
 refine wF [1000000, 2] 2 func177 ntmps177 rfl rfl ?_
 intro _
 simp -implicitDefEqProofs only [aA, seval, A3]
 intro b2 h2 b4 h4
 have hne : b4 ≠ b2 := by rintro rfl; rw [aB.aQ] at h4; cases h4
 have hn4 : st b4 = none := by rw [aB.aL st _ hne] at h4; exact h4
 have hb2 : b2 ≠ b := by rintro rfl; rw [fC, h2] at hS; cases hS
 have hb4 : b4 ≠ b := by rintro rfl; rw [fC, hn4] at hS; cases hS
 refine gX (σ := Nat × Tm) [1000000, 2] [1, 2, 4] (fun p => fO σ p.1 p.2 u ∧ cD N p.2) (fun p => []) (fun p => (st.aC b2 (.cells p.2.av.cells)).aC b4 (.cells [.int .i64 0, .int .i64 0, .str ⟨#[]⟩, .fslice []])) (fun p => p.1) (by decide +kernel) ⟨(f, t), ⟨hw, ht⟩, aO.mk (by simp -implicitDefEqProofs only [aA, seval])⟩ ?_
 rintro ⟨g, t⟩ ⟨hw, ht⟩
 obtain ⟨k, n, s, ts⟩ := t
 simp only at hw ht
 simp only [aV]
 have jQ : k ≠ 1 ∨ σ n = none → u = .mk k n s ts := fun h => by
  cases hw with
  | stop _ => rfl
  | go h1 h2 _ =>
   simp only [Tm.k] at h1
   rcases h with h | h
   · exact absurd h1 h
   · rw [show σ n = some _ from h2] at h; cases h
 simp -implicitDefEqProofs only [hne.symm, aA, seval, A3]
 refine cS (fun h => ?_) (fun h => ?_)
 case refine_2 =>
  simp -implicitDefEqProofs only [h, aK, hne.symm, aA, seval, A3]
  simp only [oS, dG] at h
  rw [jQ (.inl h), ← aV]
  exact ⟨Tm.soft _, ((aM.refl _).aC h2).aC hn4⟩
 simp only [bJ] at h
 subst h
 obtain ⟨hn0, hn1, _⟩ := ht.var
 obtain ⟨i, rfl⟩ : ∃ i : Nat, n = i := ⟨n.toNat, by omega⟩
 have hi : i < N := by omega
 have hi' : decide ((i : Int) < (N : Int)) = true := by simp; omega
 simp -implicitDefEqProofs only [bM, hi', jD, hne.symm, aA, seval, A3]
 have hat := x6 (P := prog) (b := b) (len := N) aN hi
 cases hw with
 | stop hs =>
  obtain ⟨D, e1, e2, _⟩ := hS.none hi (hs rfl)
  simp -implicitDefEqProofs only [hat, e1, e2, bM, aK, hne.symm, hb2.symm, hb4.symm, aA, seval, A3]
  exact ⟨by rw [← aV, Tm.soft], ((aM.refl _).aC h2).aC hn4⟩
 | go h1 h2' h3 =>
  simp only [Tm.n] at h2'
  have ho := hok _ _ h2'
  rename_i g' u'
  obtain ⟨k', n', s', ts'⟩ := u'
  have hk' : ¬ k' = 0 := by have := ho.kind.1; omega
  obtain ⟨D, e1, e2, e3, e4⟩ := hS.some hi h2'
  have e5 : i * 4 + 0 + 4 ≤ D.length := e3
  simp -implicitDefEqProofs only [hat, e1, e2, e3, e4, hk', bX, aK, hne.symm, hb2.symm, hb4.symm, aA, seval, A3]
  rw [aB.uB hne, aB.nJ _ _ _ hne]
  refine ⟨(g', .mk k' n' s' ts'), K0 _, ⟨h3, ho⟩, ?_⟩
  simp only [aV]
  exact aO.mk (by simp -implicitDefEqProofs only [aA, seval])
theorem fC.acc {N : Nat} {st : aB} {b bW : Nat} {σ : Sub} {l : List AV} (h : fC N st b σ) (hb : l ≠ [] → st bW = Option.none) : fC N (aY st bW l) b σ := by
 cases l with
 | nil => exact h
 | cons x l => exact h.aC (by rintro rfl; rw [fC, hb (by simp)] at h; cases h)
abbrev EI := zi tI_3 (zi zI_3 (zi aX (zi tI_4 (zi zI_4 (zi cE (zi tI_31 (zi zI_31 (zi aN (zi bE (zi bF (zi cA (zi tI_51 (zi zI_51 (zi dV (zi fV (zi fW (zi fZ (zi tI_63 (zi zI_63 (zi bR (zi bQ (zi bP (zi bT bU)))))))))))))))))))))))
theorem aPY {N : Nat} {σ : Sub} {R : Int → Tm} {rk : Int → Nat} {B : Nat} (G : Good σ R rk B) (hok : cP (bD N) σ) (hN : N ≤ 1048576) {n : Int} (hn : σ n = none) (t : Tm) (ht : bD N t) (b : Nat) (st : aB) (hS : fC N st b σ) :
 aD prog 180 [.int .i64 n, t.av, .mslice b 0 N 4] st (fun r st' => r = .bool (decide (n ∈ (t.aJ R).vl)) ∧ st' = st) := by
 refine aD.done ?_
 refine wF [1000000] 3 func180 ntmps180 rfl rfl ?_
 intro _
 simp -implicitDefEqProofs only [aA, seval, EI]
 have h0 := FH t [] 0 st (Tm.sS t (ht.1.2.1)) (fun h => absurd rfl h) (by have := ht.2; simp only [aZ]; omega)
 simp only [aW, jF, xG] at h0
 refine h0.mono ?_
 rintro _ _ ⟨b0, rfl, rfl, hb0⟩
 obtain ⟨v1, v2, _⟩ := PB t (Tm.sS t (ht.1.2.1)) []
 simp -implicitDefEqProofs only [aA, seval]
 refine gX (σ := Nat × List Int × Nat) [1000000] [0, 2]
  (fun p => p.1 ≤ p.2.1.length ∧ p.2.1.Nodup ∧ (∀ w ∈ p.2.1, w ∈ VN N) ∧ (p.2.1.map iv ≠ [] → st p.2.2 = none) ∧ (∀ w ∈ p.2.1.take p.1, w ≠ n ∧ ∀ u, σ w = some u → ∀ v ∈ u.vl, v ∈ p.2.1) ∧ (∀ w ∈ p.2.1, n ∈ (R w).vl → n ∈ (t.aJ R).vl) ∧ (n ∈ (t.aJ R).vl → ∃ w ∈ p.2.1, n ∈ (R w).vl))
  (fun p => [(6, .bool false), (7, a9 1 p.2.2 (p.2.1.map iv)), (8, .int .i64 p.1)]) (fun p => aY st p.2.2 (p.2.1.map iv)) (fun p => N - p.1) (by decide +kernel)
  ⟨(0, t.vars [], b0), ⟨jC _, v2 pU, fun w hw => ?_, hb0, by simp, fun w hw hm => ?_, fun hm => ?_⟩, aO.mk (by simp -implicitDefEqProofs only [aA, ↓aU, seval])⟩ ?_
 · rcases (v1 w).1 hw with h | h
   · cases h
   · exact uC.2 (ht.1.2.2 w h)
 · rcases (v1 w).1 hw with h | h
   · cases h
   · exact (wB t).2 ⟨w, h, hm⟩
 · obtain ⟨w, hw, hm⟩ := (wB t).1 hm
   exact ⟨w, (v1 w).2 (.inr hw), hm⟩
 rintro ⟨i, W, bW⟩ ⟨i1, i2, i3, i4, i5, i6, i7⟩
 simp only at i1 i2 i3 i4 i5 i6 i7
 have haL := sU (w := 1) (b := bW) (l := W.map iv) fZ
 have hWl := CA i2 (fun m hm => uC.1 (i3 m hm))
 simp -implicitDefEqProofs only [haL, aF, aA, seval]
 refine aP (fun h => ?_) (fun h => ?_)
 case refine_2 =>
  simp only [dG, mP] at h
  obtain rfl : i = W.length := by omega
  rw [eS] at i5
  simp -implicitDefEqProofs only [aA, seval]
  have hno : n ∉ (t.aJ R).vl := fun hm => by
   obtain ⟨w, hw, hnw⟩ := i7 hm
   exact aVP G i5 w hw hnw
  exact ⟨by simp only [hno, bX, rY], aM.aY (aM.refl _) i4⟩
 simp only [bJ, mP] at h
 obtain ⟨w, hx⟩ : ∃ w, W[i]? = some w := ⟨_, fG h⟩
 have gJ := cU hx
 have hat := aDX (b := bW) (l := W.map iv) (i := i) (x := iv w) dV (by rw [oR, hx]; try rfl)
 obtain ⟨gM, vS⟩ := Z4 (st := st) (b := bW) hx
 have hw := bK (n := (i : Int) + 1)
 simp -implicitDefEqProofs only [hat, gM, vS, C9, aA, seval, EI]
 refine aP (fun h2 => ?_) (fun h2 => ?_)
 · simp only [bJ] at h2
   subst h2
   simp -implicitDefEqProofs only [aA, seval]
   have hm : w ∈ (t.aJ R).vl := i6 w gJ (by rw [G.free hn, wD]; simp)
   exact ⟨by simp only [hm, bM, rY], aM.aY (aM.refl _) i4⟩
 simp only [dG] at h2
 simp -implicitDefEqProofs only [hat, gM, vS, C9, aA, seval, EI]
 obtain ⟨hw0, hw1⟩ := uC.1 (i3 w gJ)
 obtain ⟨j, rfl⟩ : ∃ j : Nat, w = j := ⟨w.toNat, by omega⟩
 have hj : j < N := by omega
 have hj' : decide ((j : Int) < (N : Int)) = true := by simp; omega
 have aEZ := x6 (P := prog) (b := b) (len := N) aN hj
 have hSA := hS.acc i4
 have htk : W.take (i + 1) = W.take i ++ [(j : Int)] := by rw [fM, hx]; try rfl
 have step : ∀ W' : List Int, (∀ v ∈ W, v ∈ W') → (∀ u, σ (j : Int) = some u → ∀ v ∈ u.vl, v ∈ W') → ∀ w ∈ W'.take (i + 1), W'.take (i + 1) = W.take (i + 1) → w ≠ n ∧ ∀ u, σ w = some u → ∀ v ∈ u.vl, v ∈ W' := by
  intro W' yD lJ w hw' hte
  rw [hte, htk] at hw'
  rcases fS.1 hw' with hw' | hw'
  · exact ⟨(i5 w hw').1, fun u hu v hv => yD v ((i5 w hw').2 u hu v hv)⟩
  · simp only [cZ, dQ, dY] at hw'
    subst hw'
    exact ⟨h2, lJ⟩
 cases hs : σ (j : Int) with
 | none =>
  obtain ⟨D, e1, e2, _⟩ := hSA.none hj hs
  simp -implicitDefEqProofs only [hj', aEZ, e1, e2, bM, jD, hat, gM, vS, C9, hw, aA, seval, EI]
  exact ⟨(i + 1, W, bW), by simp only; omega, ⟨h, i2, i3, i4, fun w hw' => step W (fun _ h => h) (fun u hu => by rw [hs] at hu; cases hu) w hw' rfl, i6, i7⟩, aO.mk (by simp -implicitDefEqProofs only [aA, seval])⟩
 | some u =>
  obtain ⟨k', n', s', ts'⟩ := u
  have ho := hok _ _ hs
  have hk' : ¬ k' = 0 := by have := ho.1.kind.1; omega
  obtain ⟨D, e1, e2, e3, e4⟩ := hSA.some hj hs
  simp -implicitDefEqProofs only [hj', aEZ, e1, e2, e3, e4, hk', bX, jD, hat, gM, vS, C9, aA, seval, EI]
  have hwf := Tm.sS _ (ho.1.2.1)
  have hc := FH (.mk k' n' s' ts') W bW st hwf i4 (by have := ho.2; omega)
  obtain ⟨u1, u2, m, u3⟩ := PB _ hwf W
  rw [aV] at hc
  refine hc.mono ?_
  rintro _ _ ⟨b', rfl, rfl, hb'⟩
  generalize (Tm.mk k' n' s' ts').vars W = W' at *
  have hte : W'.take (i + 1) = W.take (i + 1) := by rw [u3, C3 (by omega)]
  have hbd : (Tm.mk k' n' s' ts').aJ R = R (j : Int) := (G.bound hs).symm
  simp -implicitDefEqProofs only [hw, aA, seval]
  refine ⟨(i + 1, W', b'), by simp only; omega, ⟨by rw [u3]; simp only [dP]; omega, u2 i2, fun w hw' => ?_, hb', fun w hw' => step W' (fun v hv => (u1 v).2 (.inl hv)) (fun u hu v hv => ?_) w hw' hte, fun w hw' hm => ?_, fun hm => ?_⟩, aO.mk (by simp -implicitDefEqProofs only [aA, seval])⟩
  · rcases (u1 w).1 hw' with h | h
    · exact i3 w h
    · exact uC.2 (ho.1.2.2 w h)
  · rw [hs] at hu
    cases hu
    exact (u1 v).2 (.inr hv)
  · rcases (u1 w).1 hw' with h | h
    · exact i6 w h hm
    · refine i6 (j : Int) gJ ?_
      rw [← hbd]
      exact (wB _).2 ⟨w, h, hm⟩
  · obtain ⟨w, h, hm⟩ := i7 hm
    exact ⟨w, (u1 w).2 (.inl h), hm⟩
def AN (N b : Nat) (st : aB) (σ' : Sub) (st' : aB) : Prop := fC N st' b σ' ∧ ∀ x o, st x = some o → x ≠ b → st' x = some o
theorem AN.refl {N b : Nat} {st : aB} {σ : Sub} (h : fC N st b σ) : AN N b st σ st := ⟨h, fun _ _ h _ => h⟩
theorem AN.trans {N b : Nat} {st s2 s3 : aB} {σ2 σ3 : Sub} (x : AN N b st σ2 s2) (y : AN N b s2 σ3 s3) : AN N b st σ3 s3 := ⟨y.1, fun q o h hn => y.2 q o (x.2 q o h hn) hn⟩
def EX (N : Nat) (f : Nat) (b : Nat) (σ : Sub) (a c : Tm) (r : Bool) (σ' : Sub) : Prop := ∀ st, fC N st b σ → aD prog f [a.av, c.av, .mslice b 0 N 4] st (fun r' st' => r' = .bool r ∧ AN N b st σ' st')
abbrev mE := zi tI_3 (zi zI_3 (zi aX (zi tI_4 (zi zI_4 (zi cE (zi tI_9 (zi zI_9 (zi cG (zi tI_31 (zi zI_31 (zi aN (zi bE (zi bF (zi cA (zi tI_63 (zi zI_63 (zi bR (zi bQ (zi bP (zi bT bU))))))))))))))))))))
theorem WX (N : Nat) (hN : N ≤ 1048576) (g : Nat) (bb : Nat) (IH : ∀ (σ : Sub) (a b : Tm) (r : Bool) (σ' : Sub) (add : List Int), cK σ → cP (bD N) σ → bD N a → bD N b → dB g σ a b = some (r, σ', add) → EX N 145 bb σ a b r σ')
 (σ : Sub) (a b : Tm) (r : Bool) (σ' : Sub) (add : List Int) (hg : cK σ) (hok : cP (bD N) σ) (ha0 : bD N a) (hb0 : bD N b) (h : dB (g + 1) σ a b = some (r, σ', add))
 (WH : (wk σ a).k ≠ 1 → (wk σ b).k = 1 → EX N 145 bb σ (wk σ b) (wk σ a) r σ') : EX N 145 bb σ a b r σ' := by
 intro st hS
 obtain ⟨rk, B, G⟩ := hg.rs
 obtain ⟨fa, wa⟩ := G.wk a
 obtain ⟨fb, wb⟩ := G.wk b
 have KB : cP (cD N) σ := fun n u hu => (hok n u hu).1
 have hca := fun st (hS : fC N st bb σ) => aIC KB wa ha0.1 bb st hS
 have hcb := fun st (hS : fC N st bb σ) => aIC KB wb hb0.1 bb st hS
 have ea := wa.end
 have eb := wb.end
 have hsa := wa.all (p := bD N) hok ha0
 have hsb := wb.all (p := bD N) hok hb0
 replace h := G7 h
 generalize wk σ a = a1 at *
 generalize wk σ b = b1 at *
 clear wa wb
 refine wF [1000000, 3, 4] 3 func145 ntmps145 rfl rfl ?_
 intro gC
 simp -implicitDefEqProofs only [aA, seval, mE]
 intro b4 h4 b5 h5
 have h54 : b5 ≠ b4 := by rintro rfl; rw [aB.aQ] at h5; cases h5
 have hn5 : st b5 = none := by rw [aB.aL st _ h54] at h5; exact h5
 have h4b : b4 ≠ bb := by rintro rfl; rw [fC, h4] at hS; cases hS
 have h5b : b5 ≠ bb := by rintro rfl; rw [fC, hn5] at hS; cases hS
 have hS' : ∀ o o', fC N ((st.aC b4 o).aC b5 o') bb σ := fun o o' => (hS.aC h4b).aC h5b
 have hQ : ∀ o o', AN N bb st σ ((st.aC b4 o).aC b5 o') := fun o o' => ⟨hS' o o', fun x p h _ => by
  rw [aB.aL _ _ (by rintro rfl; rw [hn5] at h; cases h), aB.aL _ _ (by rintro rfl; rw [h4] at h; cases h)]; exact h⟩
 simp -implicitDefEqProofs only [bO, d9 (bO a), d7 (aT a), h54.symm, aA, seval]
 refine (hca _ (hS' _ _)).to ?_
 simp -implicitDefEqProofs only [bO, d9 (bO b), d7 (aT b), b7, aK, h54, h54.symm, aA, seval, mE]
 rw [aB.uB h54, aB.nJ _ _ _ h54]
 refine (hcb _ (hS' _ _)).to ?_
 obtain ⟨ka, na, sa, tsa⟩ := a1
 obtain ⟨kb, nb, sb', tsb⟩ := b1
 obtain ⟨hla, aKW⟩ := Tm.oG (hsa.1.small)
 obtain ⟨hlb, YR⟩ := Tm.oG (hsb.1.small)
 have gR : ∀ o o', AN N bb st σ ((st.aC b4 o).aC b5 o') := hQ
 have hka := fun h => (pZ N) _ h hsa
 have hkb := fun h => (pZ N) _ h hsb
 simp only [aV]
 simp only [Tm.k, Tm.n, Tm.ts] at h ea eb WH hka hkb
 simp -implicitDefEqProofs only [dD, aK, h54.symm, aA, seval, mE]
 have var : ∀ {n : Int} {t : Tm}, n ∈ VN N → σ n = none → bD N t → jT σ n t = (r, σ', add) → ∀ s0, fC N s0 bb σ → aD prog 180 [.int .i64 n, t.av, .mslice bb 0 N 4] s0 (fun r' st' => r' = .bool (!r) ∧ st' = s0) := by
  intro n t _ hn ht hb s0 hs0
  have := aPY G hok hN hn t ht bb s0 hs0
  unfold jT at hb
  split at hb
  · rename_i hm
    cases hb
    simpa [hm] using this
  · rename_i hm
    cases hb
    simpa [hm] using this
 rcases h with ⟨h1, h2, h3, rfl, rfl, rfl⟩ | ⟨h1, h2, h3⟩ | ⟨h1, h2, h3⟩ | ⟨h1, h2, h3, h4⟩ | ⟨h1, h2, h3, rfl, rfl, rfl⟩
 · subst h1 h2 h3
   simp -implicitDefEqProofs only [bM, jD, h54.symm, aA, seval, mE]
   exact gR _ _
 · subst h1
   have hin := uC.2 (hsa.1.2.2 na (by rw [Tm.mM rfl]; simp))
   obtain ⟨hn0, hn1⟩ := uC.1 hin
   have hcw := var hin (ea rfl) hsb h3 _ (hS' (.cells [.int .i64 1, .int .i64 na, .str sa, .slice (tsa.map Tm.av)]) (.cells [.int .i64 kb, .int .i64 nb, .str sb', .slice (tsb.map Tm.av)]))
   have hna := ea rfl
   rw [aV] at hcw
   obtain ⟨i, rfl⟩ : ∃ i : Nat, na = i := ⟨na.toNat, by omega⟩
   have hi : i < N := by omega
   have hat := x6 (P := prog) (b := bb) (len := N) aN hi
   have h6 : kb = 1 → ¬ (i : Int) = nb := fun e1 e => h2 ⟨e1, e⟩
   have tail : ∀ (s0 : aB), s0 = ((st.aC b4 (.cells [.int .i64 1, .int .i64 i, .str sa, .slice (tsa.map Tm.av)])).aC b5 (.cells [.int .i64 kb, .int .i64 nb, .str sb', .slice (tsb.map Tm.av)])) → r = true →
    ∃ D D', s0 bb = some (.cells D) ∧ i * 4 + 4 ≤ D.length ∧ aK D (i * 4) [.int .i64 kb, .int .i64 nb, .str sb', .slice (tsb.map Tm.av)] = D' ∧ AN N bb st σ' (s0.aC bb (.cells D')) := by
    rintro _ rfl rfl
    unfold jT at h3
    split at h3
    · cases h3
    · cases h3
      obtain ⟨D, D', e1, e2, e3, e4⟩ := (hS' (.cells [.int .i64 1, .int .i64 i, .str sa, .slice (tsa.map Tm.av)]) (.cells [.int .i64 kb, .int .i64 nb, .str sb', .slice (tsb.map Tm.av)])).set hi (.mk kb nb sb' tsb)
      refine ⟨D, D', e1, e2, by rw [← e3, aV]; try rfl, e4, fun x o hx hxb => ?_⟩
      rw [aB.aL _ _ hxb]
      exact (hQ _ _).2 x o hx hxb
   by_cases h5 : kb = 1
   · subst h5
     simp -implicitDefEqProofs only [bM, h6 rfl, bX, jD, h54.symm, aA, seval, mE]
     refine hcw.to ?_
     cases r with
     | false =>
      simp -implicitDefEqProofs only [aA, seval]
      unfold jT at h3
      split at h3
      · cases h3
        exact gR _ _
      · cases h3
     | true =>
      obtain ⟨D, D', e1, e2, e3, e4⟩ := tail _ rfl rfl
      simp -implicitDefEqProofs only [hat, e1, e2, aK, h54.symm, aA, seval, mE]
      rw [← e3] at e4
      exact e4
   · simp -implicitDefEqProofs only [bM, h5, bX, jD, h54.symm, aA, seval, mE]
     refine hcw.to ?_
     cases r with
     | false =>
      simp -implicitDefEqProofs only [aA, seval]
      unfold jT at h3
      split at h3
      · cases h3
        exact gR _ _
      · cases h3
     | true =>
      obtain ⟨D, D', e1, e2, e3, e4⟩ := tail _ rfl rfl
      simp -implicitDefEqProofs only [hat, e1, e2, aK, h54.symm, aA, seval, mE]
      rw [← e3] at e4
      exact e4
 · subst h2
   have hsw := WH h1 rfl
   simp only [EX, aV] at hsw
   simp -implicitDefEqProofs only [bM, h1, bX, jD, h54.symm, aA, seval, mE]
   refine (hsw _ (hS' _ _)).mono ?_
   rintro _ s2 ⟨rfl, hp⟩
   simp -implicitDefEqProofs only [aA, seval]
   exact (hQ _ _).trans hp
 · rw [rM] at h3
   simp only [Tm.k, Tm.n, Tm.s, Tm.ts] at h3
   obtain ⟨rfl, rfl, rfl, hlen⟩ := h3
   have cT : decide ((tsa.length : Int) = (tsb.length : Int)) = true := by simp [hlen]
   simp -implicitDefEqProofs only [bM, bX, cT, jD, h54.symm, aF, h1, aA, seval, mE]
   have hS0 := hS' (.cells [.int .i64 ka, .int .i64 na, .str sa, .slice (tsa.map Tm.av)]) (.cells [.int .i64 ka, .int .i64 na, .str sa, .slice (tsb.map Tm.av)])
   have hQ0 := hQ (.cells [.int .i64 ka, .int .i64 na, .str sa, .slice (tsa.map Tm.av)]) (.cells [.int .i64 ka, .int .i64 na, .str sa, .slice (tsb.map Tm.av)])
   have e4 : ((st.aC b4 (.cells [.int .i64 ka, .int .i64 na, .str sa, .slice (tsa.map Tm.av)])).aC b5 (.cells [.int .i64 ka, .int .i64 na, .str sa, .slice (tsb.map Tm.av)])) b4 = some (.cells [.int .i64 ka, .int .i64 na, .str sa, .slice (tsa.map Tm.av)]) := by rw [aB.aL _ _ h54.symm, aB.aQ]
   have e5 : ((st.aC b4 (.cells [.int .i64 ka, .int .i64 na, .str sa, .slice (tsa.map Tm.av)])).aC b5 (.cells [.int .i64 ka, .int .i64 na, .str sa, .slice (tsb.map Tm.av)])) b5 = some (.cells [.int .i64 ka, .int .i64 na, .str sa, .slice (tsb.map Tm.av)]) := aB.aQ _ _ _
   generalize (st.aC b4 (.cells [.int .i64 ka, .int .i64 na, .str sa, .slice (tsa.map Tm.av)])).aC b5 (.cells [.int .i64 ka, .int .i64 na, .str sa, .slice (tsb.map Tm.av)]) = s0 at *
   refine eH (σ := Sub × List Int × aB) [1000000, 3, 4] [2, 3, 4] tsa
    (fun i p => cK p.1 ∧ cP (bD N) p.1 ∧ AN N bb s0 p.1 p.2.2 ∧ dW g p.1 (tsa.drop i) (tsb.drop i) = some (r, σ', p.2.1))
    (fun i _ => [(6, .bool false), (7, .int .i64 i)]) (fun _ p => p.2.2) (by decide +kernel)
    ⟨(σ, add, s0), ⟨hg, hok, AN.refl hS0, h4⟩, aO.mk (by simp -implicitDefEqProofs only [aA, ↓aU, seval])⟩ (fun i x p hx hlt bS hdr hinv => ?_) (fun p hge hinv => ?_)
   case refine_2 =>
    obtain ⟨σi, rest, si⟩ := p
    obtain ⟨i1, i2, i3, i5⟩ := hinv
    simp only at i1 i2 i3 i5
    have f4 := i3.2 b4 _ e4 h4b
    rw [kE, hlen, kE] at i5
    simp only [dW, Option.some.injEq, Prod.mk.injEq] at i5
    obtain ⟨rfl, rfl, rfl⟩ := i5
    simp -implicitDefEqProofs only [hge, f4, aF, aA, seval, mE]
    exact hQ0.trans i3
   obtain ⟨σi, rest, si⟩ := p
   obtain ⟨i1, i2, i3, i5⟩ := hinv
   simp only at i1 i2 i3 i5
   obtain ⟨y, hy⟩ : ∃ y, tsb[i]? = some y := ⟨_, fG (by omega)⟩
   have zL : tsb.drop i = y :: tsb.drop (i + 1) := by
    obtain ⟨h1, h2⟩ := gQ.1 hy
    rw [qV h1, h2]
   rw [hdr, zL, dW] at i5
   have f4 := i3.2 b4 _ e4 h4b
   have f5 := i3.2 b5 _ e5 h5b
   have hw := bK (n := (i : Int) + 1)
   simp -implicitDefEqProofs only [bS, aF, f4, aA, seval, mE]
   refine wP [(0, 1), (2, 1), (5, 1), (7, 1), (10, 1), (1, 2), (3, 1), (4, 2), (6, 2), (8, 1), (9, 2), (11, 0), (12, 1)] [0, 2, 5, 7, 10, 1, 3, 4, 6, 8, 9, 12] mixed ?_
   simp -implicitDefEqProofs only [f4, f5, bL (av := Tm.av) aN hx (aH x), bL (av := Tm.av) aN hy (aH y), aA, seval, mE]
   cases hu : dB g σi x y with
   | none => rw [hu] at i5; cases i5
   | some p1 =>
    obtain ⟨r1, σ1, tr1⟩ := p1
    rw [hu] at i5
    have hx1 : bD N x := hka h1 x (cU hx)
    have hy1 : bD N y := hkb h2 y (cU hy)
    have hU := t7 i1 hu
    have hA := (G9 (pZ N) g).1 σi x y r1 σ1 tr1 i1 hu i2 hx1 hy1
    refine (IH σi x y r1 σ1 tr1 i1 i2 hx1 hy1 hu si i3.1).mono ?_
    rintro _ s2 ⟨rfl, hp2⟩
    cases r1 with
    | false =>
     simp only [Option.some.injEq, Prod.mk.injEq] at i5
     obtain ⟨rfl, rfl, rfl⟩ := i5
     simp -implicitDefEqProofs only [aA, seval]
     exact hQ0.trans (i3.trans hp2)
    | true =>
     simp only at i5
     cases hu2 : dW g σ1 (tsa.drop (i + 1)) (tsb.drop (i + 1)) with
     | none => rw [hu2] at i5; cases i5
     | some p2 =>
      obtain ⟨r2, σ2, tr2⟩ := p2
      rw [hu2] at i5
      simp only [Option.some.injEq, Prod.mk.injEq] at i5
      obtain ⟨rfl, rfl, _⟩ := i5
      simp -implicitDefEqProofs only [aA, seval]
      exact ⟨(σ1, tr2, s2), ⟨hU.gI, hA, i3.trans hp2, hu2⟩, aO.mk (by simp -implicitDefEqProofs only [hw, aA, seval])⟩
 · have hd : ka = kb → na = nb → sa = sb' → ¬ (tsa.length : Int) = (tsb.length : Int) := by
    intro e1 e2 e3 e4
    have : tH (Tm.mk ka na sa tsa) (Tm.mk kb nb sb' tsb) = true := rM.2 ⟨e1, e2, e3, by simp only [Tm.ts]; omega⟩
    rw [h3] at this; cases this
   by_cases e1 : ka = kb
   · by_cases e2 : na = nb
     · by_cases e3 : sa = sb'
       · have e4 := hd e1 e2 e3
         subst e1 e2 e3
         simp -implicitDefEqProofs only [bX, bM, jD, h54.symm, h1, aF, e4, aA, seval, mE]
         exact gR _ _
       · subst e1 e2
         simp -implicitDefEqProofs only [bX, bM, jD, h54.symm, h1, e3, aA, seval, mE]
         exact gR _ _
     · subst e1
       simp -implicitDefEqProofs only [bX, bM, jD, h54.symm, h1, e2, aA, seval, mE]
       exact gR _ _
   · clear hd
     simp -implicitDefEqProofs only [bX, jD, h54.symm, h1, h2, e1, aA, seval, mE]
     exact gR _ _
theorem aEU (N : Nat) (hN : N ≤ 1048576) (bb : Nat) : ∀ (g : Nat) (σ : Sub) (a b : Tm) (r : Bool) (σ' : Sub) (add : List Int), cK σ → cP (bD N) σ → bD N a → bD N b → dB g σ a b = some (r, σ', add) → EX N 145 bb σ a b r σ'
 | 0, σ, a, b, r, σ', add, hg, hok, ha, hb, h => by simp only [dB] at h; cases h
 | g + 1, σ, a, b, r, σ', add, hg, hok, ha, hb, h => by
  refine WX N hN g bb (aEU N hN bb g) σ a b r σ' add hg hok ha hb h fun h1 h2 => ?_
  obtain ⟨rk, B, G⟩ := hg.rs
  obtain ⟨fa, wa⟩ := G.wk a
  obtain ⟨fb, wb⟩ := G.wk b
  have eb := Z8 wb
  have ea := Z8 wa
  have hbn : jT σ (wk σ b).n (wk σ a) = (r, σ', add) := by
   rcases G7 h with h | h | h | h | h
   · exact absurd h.1 h1
   · exact absurd h.1 h1
   · exact h.2.2
   · exact absurd h2 h.2.1
   · exact absurd h2 h.2.1
  refine WX N hN 0 bb (fun σ a b r σ' add _ _ _ _ h => by simp only [dB] at h; cases h) σ (wk σ b) (wk σ a) r σ' add hg hok (wb.all (p := bD N) hok hb) (wa.all (p := bD N) hok ha) ?_ fun h3 => ?_
  · rw [dB, eb, ea, aE (fun h => h1 h.2.1), aG h2, hbn]
  · rw [eb] at h3; exact absurd h2 h3
end Go.AW
namespace Go.AW
noncomputable def qH (σ : Sub) (a b : Tm) : Int × Sub × List Int := (hH (iR σ a b).1, (iR σ a b).2)
noncomputable def tX (σ : Sub) (x y z : Tm) : Int × Sub × List Int :=
 if x.k = 1 ∨ y.k = 1 then (2, σ, []) else if x.k ≠ 2 ∨ y.k ≠ 3 ∨ y.ts.length = 0 then (3, σ, []) else match mL x y with
  | some u => qH σ z u
  | none => (1, σ, [])
noncomputable def c9 (σ : Sub) (s : ByteArray) : List Tm → Int × Sub × List Int
 | [] => (hH (decide (s = ⟨#[116, 114, 117, 101]⟩)), σ, [])
 | [x] => (hH (rP s x), σ, [])
 | [x, y] => if fN p7 s = true then (wG s x y, σ, []) else if s = ⟨#[61]⟩ then qH σ x y else if s = ⟨#[92, 61]⟩ then (hH (!(iR σ x y).1), σ, [])
  else if s = ⟨#[61, 61]⟩ then (hH (x.same y), σ, []) else if y.ev.2 ≠ 0 then (y.ev.2, σ, []) else qH σ x (m7 y.ev.1)
 | [x, y, z] => tX σ x y z
 | _ => (0, σ, [])
structure mJ (N : Int) (σ : Sub) (σ' : Sub) (add : List Int) : Prop where
 gI : cK σ'
 ok : cP (bD N) σ'
 a8 : ∀ n, n ∉ add → σ' n = σ n
 new : ∀ n ∈ add, σ n = none ∧ σ' n ≠ none
 nodup : add.Nodup
 fN : ∀ n ∈ add, 0 ≤ n ∧ n < N
theorem mJ.same {N : Int} {σ : Sub} (hg : cK σ) (ho : cP (bD N) σ) : mJ N σ σ [] := ⟨hg, ho, fun _ _ => rfl, by simp, pU, by simp⟩
theorem zA.uX {N : Int} {σ : Sub} {a b : Tm} {r : Bool} {σ' : Sub} {tr : List Int} (h : zA N σ a b r σ' tr) : mJ N σ σ' tr := ⟨h.l8.gI, h.ok, h.l8.a8, h.l8.new, h.l8.nodup, h.fN⟩
theorem mJ.l8 {N : Nat} {σ : Sub} {a b : Tm} (hg : cK σ) (ho : cP (bD N) σ) (ha : bD N a) (hb : bD N b) : mJ N σ (iR σ a b).2.1 (iR σ a b).2.2 := by
 obtain ⟨r, σ', tr, h⟩ := rU hg ho ha hb
 rw [h.eq]
 exact h.uX
theorem KH {N : Int} {n : Int} (h : jO n) : bD N (m7 n) := by
 have h1 := aO6 h
 have h2 := Tm.E4 h1
 refine ⟨⟨h2.1, h2.2.1, fun v hv => ?_⟩, Tm.J4 h1⟩
 unfold m7 at hv
 rw [Tm.kM (by decide)] at hv
 obtain ⟨t, ht, _⟩ := hv
 cases ht
theorem aFH {N : Int} {x y u : Tm} (hy : bD N y) (hk : y.k ≠ 1) (h : mL x y = some u) : bD N u := pZ N y hk hy u (aAP h)
theorem I3 {N : Nat} {σ : Sub} (hg : cK σ) (ho : cP (bD N) σ) (s : ByteArray) (ks : List Tm) (hv : ∀ x ∈ ks, bD N x) : mJ N σ (c9 σ s ks).2.1 (c9 σ s ks).2.2 := by
 have hs := mJ.same hg ho
 match ks, hv with
 | [], _ => exact hs
 | [x], _ => exact hs
 | [x, y], hv =>
  have hx := hv x (by simp)
  have hy := hv y (by simp)
  simp only [c9]
  split
  · exact hs
  split
  · exact mJ.l8 hg ho hx hy
  split
  · exact hs
  split
  · exact hs
  split
  · exact hs
  · exact mJ.l8 hg ho hx (KH (Tm.sY y hy.1))
 | [x, y, z], hv =>
  have hy := hv y (by simp)
  have hz := hv z (by simp)
  simp only [c9, tX]
  split
  · exact hs
  rename_i h1
  split
  · exact hs
  split
  · rename_i u hu
    exact mJ.l8 hg ho hz (aFH hy (fun h => h1 (.inr h)) hu)
  · exact hs
 | a :: b :: c :: d :: l, _ => exact hs
theorem aNI (ρ : Int → Int) : ∀ t : Tm, (bV ρ t).ev = t.ev := by
 intro t
 induction t using Tm.ind with
 | h k n s ts ih =>
  by_cases h1 : k = 1
  · rw [wM ρ (t := .mk k n s ts) h1, vr, Tm.vW, Tm.vW, h1]
    simp
  rw [uN ρ h1, Tm.vW, Tm.vW, xM]
  have : ts.map (Tm.ev ∘ bV ρ) = ts.map Tm.ev := qX fun x hx => ih x hx
  rw [this]
section
variable {ρ : Int → Int} {N : Int} {σ τ : Sub}
theorem fA.back (S : fA ρ N σ τ) : ∃ δ : Int → Int, ∀ v, 0 ≤ v → v < N → δ (ρ v) = v := by
 refine ⟨fun w => open Classical in if h : ∃ v, 0 ≤ v ∧ v < N ∧ ρ v = w then h.choose else 0, fun v h0 h1 => ?_⟩
 have h : ∃ u, 0 ≤ u ∧ u < N ∧ ρ u = ρ v := ⟨v, h0, h1, rfl⟩
 simp only [dif_pos h]
 obtain ⟨a, b, c⟩ := h.choose_spec
 exact S.inj _ _ a b h0 h1 c
theorem fA.aWP (S : fA ρ N σ τ) {x y : Tm} (hx : cD N x) (hy : cD N y) (e : bV ρ x = bV ρ y) : x = y := by
 obtain ⟨δ, hδ⟩ := S.back
 have key : ∀ {t : Tm}, cD N t → bV δ (bV ρ t) = t := fun {t} ht => by
  rw [show bV δ (bV ρ t) = t.aJ fun v => vr (δ (ρ v)) from EF ρ _ t]
  rw [pP (g := vr) t fun v hv => by rw [hδ v (ht.2.2 v hv).1 (ht.2.2 v hv).2]]
  exact M6 t ht.2.1
 rw [← key hx, e, key hy]
theorem fA.same (S : fA ρ N σ τ) {x y : Tm} (hx : cD N x) (hy : cD N y) : (bV ρ x).same (bV ρ y) = x.same y := by
 rw [vJ, Tm.KD, Tm.KD]
 exact ⟨S.aWP hx hy, fun e => by rw [e]⟩
theorem aMI (ρ : Int → Int) (s : ByteArray) (x : Tm) : rP s (bV ρ x) = rP s x := by
 unfold rP
 rw [xC]
 by_cases h : x.k = 1
 · rw [h]; simp
 · have : (bV ρ x).ts.length = x.ts.length := by
    rw [BW ρ h]
    simp only [Tm.ts, aF]
   rw [this]
theorem aQU (ρ : Int → Int) {x y : Tm} (hx : x.k = 2) (hy : y.k = 3) : mL (bV ρ x) (bV ρ y) = (mL x y).map (bV ρ) := by
 obtain ⟨k, n, s, ts⟩ := x
 obtain ⟨k', n', s', ts'⟩ := y
 simp only [Tm.k] at hx hy
 subst hx hy
 rw [uN ρ (by decide), uN ρ (by decide)]
 unfold mL
 show (if 1 ≤ n ∧ n ≤ ((ts'.map (bV ρ)).length : Int) then (ts'.map (bV ρ))[(n - 1).toNat]? else none) = Option.map (bV ρ) (if 1 ≤ n ∧ n ≤ (ts'.length : Int) then ts'[(n - 1).toNat]? else none)
 by_cases h : 1 ≤ n ∧ n ≤ (ts'.length : Int)
 · rw [aG h, aG (by rw [aF]; exact h), oR]
 · rw [aE h, aE (by rw [aF]; exact h)]; try rfl
def lH (ρ : Int → Int) (N : Int) (x y : Int × Sub × List Int) : Prop := y.1 = x.1 ∧ y.2.2 = x.2.2.map ρ ∧ fA ρ N x.2.1 y.2.1
theorem lH.same (S : fA ρ N σ τ) (c : Int) : lH ρ N (c, σ, []) (c, τ, []) := ⟨rfl, rfl, S⟩
end
section
variable {ρ : Int → Int} {N : Nat} {σ τ : Sub}
theorem lH.l8 (S : fA ρ N σ τ) (hg : cK σ) (hg' : cK τ) (ho : cP (bD N) σ) {a b : Tm} (ha : bD N a) (hb : bD N b) : lH ρ N (qH σ a b) (qH τ (bV ρ a) (bV ρ b)) := by
 obtain ⟨r, σ', tr, h⟩ := rU hg ho ha hb
 obtain ⟨g, hg2⟩ := h.run
 obtain ⟨τ', e, S', _⟩ := S.iR hg hg' ho.kZ ha.1 hb.1 hg2
 unfold qH
 rw [h.eq, e]
 exact ⟨rfl, rfl, S'⟩
theorem aML (ρ : Int → Int) (n : Int) : bV ρ (m7 n) = m7 n := uN ρ (by decide)
theorem fA.c9 (S : fA ρ N σ τ) (hg : cK σ) (hg' : cK τ) (ho : cP (bD N) σ) (s : ByteArray) (ks : List Tm) (hv : ∀ x ∈ ks, bD N x) : lH ρ N (AW.c9 σ s ks) (AW.c9 τ s (ks.map (bV ρ))) := by
 match ks, hv with
 | [], _ => exact lH.same S _
 | [x], _ =>
  simp only [bA, aW, AW.c9, aMI]
  exact lH.same S _
 | [x, y], hv =>
  have hx := hv x (by simp)
  have hy := hv y (by simp)
  have hu := lH.l8 S hg hg' ho hx hy
  simp only [bA, aW, AW.c9, wG, aNI, S.same hx.1 hy.1]
  by_cases h1 : fN p7 s = true
  · rw [aG h1, aG h1]; exact lH.same S _
  rw [aE h1, aE h1]
  by_cases h2 : s = ⟨#[61]⟩
  · rw [aG h2, aG h2]; exact hu
  rw [aE h2, aE h2]
  by_cases h3 : s = ⟨#[92, 61]⟩
  · rw [aG h3, aG h3]
    obtain ⟨r, σ', tr, h⟩ := rU hg ho hx hy
    obtain ⟨g, hg2⟩ := h.run
    obtain ⟨τ', e, _, _⟩ := S.iR hg hg' ho.kZ hx.1 hy.1 hg2
    rw [h.eq, e]
    exact lH.same S _
  rw [aE h3, aE h3]
  by_cases h4 : s = ⟨#[61, 61]⟩
  · rw [aG h4, aG h4]; exact lH.same S _
  rw [aE h4, aE h4]
  by_cases h5 : y.ev.2 ≠ 0
  · rw [aG h5, aG h5]; exact lH.same S _
  rw [aE h5, aE h5]
  have := lH.l8 S hg hg' ho hx (KH (N := N) (Tm.sY y hy.1))
  rw [aML] at this
  exact this
 | [x, y, z], hv =>
  have hy := hv y (by simp)
  have hz := hv z (by simp)
  simp only [bA, aW, AW.c9, tX, xC]
  by_cases h1 : x.k = 1 ∨ y.k = 1
  · rw [aG h1, aG h1]; exact lH.same S _
  rw [aE h1, aE h1]
  have hl : (bV ρ y).ts.length = y.ts.length := by
   rw [BW ρ (t := y) (fun h => h1 (.inr h))]
   simp only [Tm.ts, aF]
  rw [hl]
  by_cases h2 : x.k ≠ 2 ∨ y.k ≠ 3 ∨ y.ts.length = 0
  · rw [aG h2, aG h2]; exact lH.same S _
  rw [aE h2, aE h2]
  have kx : x.k = 2 := C0 fun h => h2 (.inl h)
  have ky : y.k = 3 := C0 fun h => h2 (.inr (.inl h))
  rw [aQU ρ kx ky]
  cases hu : mL x y with
  | none => exact lH.same S _
  | some u => exact lH.l8 S hg hg' ho hz (aFH hy (fun h => h1 (.inr h)) hu)
 | a :: b :: c :: d :: l, _ =>
  simp only [bA, AW.c9]
  exact lH.same S _
end
theorem aWG (σ : Sub) (s : ByteArray) (ks : List Tm) : 0 ≤ (c9 σ s ks).1 := by
 have hc : ∀ b, 0 ≤ hH b := fun b => by unfold hH; split <;> omega
 have hr : ∀ n, 0 ≤ (iT n).2 := fun n => by unfold iT; split <;> simp
 have har : ∀ s a b, 0 ≤ (qS s a b).2 := fun s a b => by
  unfold qS
  split
  · exact hr _
  split
  · exact hr _
  split
  · exact hr _
  split
  · simp
  split
  · simp
  · simp
 have hb : ∀ (f : Int → Int → Int × Int) (x y : Int × Int), (∀ a b, 0 ≤ (f a b).2) → 0 ≤ x.2 → 0 ≤ y.2 → 0 ≤ (both f x y).2 := fun f x y hf hx hy => by
  unfold both
  split
  · exact hx
  split
  · exact hy
  · exact hf _ _
 have he : ∀ t : Tm, 0 ≤ t.ev.2 := by
  intro t
  induction t using Tm.ind with
  | h k n s ts ih =>
   rw [Tm.vW]
   split
   · simp
   split
   · simp
   split
   · match ts, ih with
     | [], _ => simp [two]
     | [x], _ => simp [two]
     | [x, y], ih => exact hb _ _ _ (har s) (ih x (by simp)) (ih y (by simp))
     | x :: y :: z :: l, _ => simp [two]
   · simp
 match ks with
 | [] => exact hc _
 | [x] => exact hc _
 | [x, y] =>
  simp only [c9]
  split
  · exact hb _ _ _ (fun _ _ => hc _) (he x) (he y)
  split
  · exact hc _
  split
  · exact hc _
  split
  · exact hc _
  split
  · exact he y
  · exact hc _
 | [x, y, z] =>
  simp only [c9, tX]
  split
  · simp
  split
  · simp
  split
  · exact hc _
  · simp
 | a :: b :: c :: d :: l => simp [c9]
end Go.AW
namespace Go.AW
open Go.Proofs.Tryz
theorem aRZ (σ : Sub) (x y z : Tm) : tX σ x y z = if (qP x y).2 = 0 then qH σ z (qP x y).1 else ((qP x y).2, σ, []) := by
 unfold tX qP
 split
 · simp
 split
 · simp
 cases mL x y <;> rfl
def qD (N bb : Nat) (st : aB) (x : Int × Sub × List Int) (r : AV) (st' : aB) : Prop := r = .int .i64 x.1 ∧ AN N bb st x.2.1 st'
theorem qD.same {N bb : Nat} {st : aB} {σ : Sub} {r : AV} (h : fC N st bb σ) (k : Int) (hr : r = .int .i64 k) : qD N bb st (k, σ, []) r st := ⟨hr, AN.refl h⟩
theorem DS {N : Nat} (hN : N ≤ 1048576) {σ : Sub} (hg : cK σ) (ho : cP (bD N) σ) (a b : Tm) (ha : bD N a) (hb : bD N b) (bb : Nat) (st : aB) (hS : fC N st bb σ) :
 aD prog 145 [a.av, b.av, .mslice bb 0 N 4] st (fun r st' => r = .bool (iR σ a b).1 ∧ AN N bb st (iR σ a b).2.1 st') := by
 obtain ⟨r, σ', tr', hU⟩ := rU hg ho ha hb
 obtain ⟨g, mX⟩ := hU.run
 rw [hU.eq]
 exact aEU N hN bb g σ a b r σ' tr' hg ho ha hb mX st hS
abbrev pI := zi tI_3 (zi zI_3 (zi aX (zi tI_4 (zi zI_4 (zi cE (zi tI_9 (zi zI_9 (zi cG (zi tI_31 (zi zI_31 (zi aN (zi bE (zi bF (zi cA (zi tI_63 (zi zI_63 (zi bR (zi bQ (zi bP (zi bT bU))))))))))))))))))))
theorem aZU {N : Nat} (hN : N ≤ 1048576) {σ : Sub} (hg : cK σ) (ho : cP (bD N) σ) (n : Int) (s : ByteArray) (ks : List Tm) (hb : isBuiltin s (ks.length : Int) = true) (hne : s ≠ ⟨#[92, 61]⟩) (hv : ∀ x ∈ ks, bD N x) (bb : Nat) (st : aB) (hS : fC N st bb σ) :
 aD prog 132 [(Tm.mk 3 n s ks).av, .mslice bb 0 N 4] st (qD N bb st (c9 σ s ks)) := by
 have hcs := aA9 hb
 have A8 := fun x y (hxy : ks = [x, y]) => aYV n s x y (hv x (by simp [hxy])).1 (hv y (by simp [hxy])).1
 have U5 := fun x y z (hxy : ks = [x, y, z]) => aPS n s x y z (hv y (by simp [hxy])).1
 have VK := fun x (hxy : ks = [x]) h => aWJ n s x h
 simp only [aV] at A8 U5 VK ⊢
 refine wF [1000000] 2 func132 ntmps132 rfl rfl ?_
 intro _
 simp -implicitDefEqProofs only [aA, seval, pI]
 refine aP (fun h => ?_) (fun h => ?_)
 · have hs : s = ⟨#[116, 114, 117, 101]⟩ := by simpa using h
   have hk := HO (ts := ks) (by subst hs; simpa [isBuiltin] using hb)
   subst hk
   simp -implicitDefEqProofs only [aA, seval]
   exact qD.same hS _ (by simp [hH, hs])
 have ht : s ≠ ⟨#[116, 114, 117, 101]⟩ := by simpa using h
 simp -implicitDefEqProofs only [aA, seval]
 refine aP (fun h => ?_) (fun h => ?_)
 · have hs : s = ⟨#[102, 97, 105, 108]⟩ := by simpa using h
   have hk := HO (ts := ks) (by subst hs; simpa [isBuiltin] using hb)
   subst hk
   simp -implicitDefEqProofs only [aA, seval]
   exact qD.same hS _ (by simp [hH, hs])
 have hf : s ≠ ⟨#[102, 97, 105, 108]⟩ := by simpa using h
 simp -implicitDefEqProofs only [aA, seval]
 refine aP (fun h => ?_) (fun h => ?_)
 · have hs : s = ⟨#[61]⟩ := by simpa using h
   obtain ⟨x, y, rfl⟩ := sN (ts := ks) (by subst hs; simp [isBuiltin] at hb; omega)
   have e : c9 σ s [x, y] = qH σ x y := by subst hs; rfl
   rw [e]
   have dS : dJ prog 31 (.slice [x.av, y.av]) (.int .i64 0) = some (.pptr x.av) := bL (av := Tm.av) (l := [x, y]) (i := 0) aN rfl (aH x)
   have f0 : dJ prog 31 (.slice [x.av, y.av]) (.int .i64 1) = some (.pptr y.av) := bL (av := Tm.av) (l := [x, y]) (i := 1) aN rfl (aH y)
   simp -implicitDefEqProofs only [aA, seval]
   refine wX [(0, 1), (1, 1), (2, 1), (3, 1), (4, 1), (5, 1), (6, 1), (7, 1), (8, 1), (9, 0), (10, 0), (11, 1)] [0, 1, 2, 3, 4, 5, 6, 7, 8, 11] eJ mixed rfl fY ?_
   simp -implicitDefEqProofs only [dS, f0, aT, aH, aA, seval, pI]
   refine (DS hN hg ho x y (hv x (by simp)) (hv y (by simp)) bb _ hS).mono ?_
   rintro _ s2 ⟨rfl, hP⟩
   simp -implicitDefEqProofs only [aA, seval]
   refine ⟨fY, ?_⟩
   refine (rQ _ _).to ?_
   simp -implicitDefEqProofs only [aA, seval]
   exact ⟨fY, rfl, hP⟩
 have he : s ≠ ⟨#[61]⟩ := by simpa using h
 simp -implicitDefEqProofs only [aA, seval]
 refine aP (fun h => absurd (by simpa using h) hne) (fun h => ?_)
 simp -implicitDefEqProofs only [aA, seval]
 refine aP (fun h => ?_) (fun h => ?_)
 · have hs : s = ⟨#[61, 61]⟩ := by simpa using h
   obtain ⟨x, y, rfl⟩ := sN (ts := ks) (by subst hs; simp [isBuiltin] at hb; omega)
   have e : c9 σ s [x, y] = (hH (x.same y), σ, []) := by subst hs; rfl
   rw [e]
   have dS : dJ prog 31 (.slice [x.av, y.av]) (.int .i64 0) = some (.pptr x.av) := bL (av := Tm.av) (l := [x, y]) (i := 0) aN rfl (aH x)
   have f0 : dJ prog 31 (.slice [x.av, y.av]) (.int .i64 1) = some (.pptr y.av) := bL (av := Tm.av) (l := [x, y]) (i := 1) aN rfl (aH y)
   simp -implicitDefEqProofs only [aA, seval]
   refine G2 mixed (by decide +kernel) (by decide +kernel) ?_
   simp -implicitDefEqProofs only [dS, f0, aT, aH, aA, seval, pI]
   refine i8 (aIT x y _) ?_
   simp -implicitDefEqProofs only [aA, seval]
   refine i8 (rQ _ _) ?_
   simp -implicitDefEqProofs only [aA, seval]
   exact qD.same hS _ rfl
 have hee : s ≠ ⟨#[61, 61]⟩ := by simpa using h
 simp -implicitDefEqProofs only [aA, seval]
 refine aP (fun h => ?_) (fun h => ?_)
 · have hs : s = ⟨#[105, 115]⟩ := by simpa using h
   obtain ⟨x, y, rfl⟩ := sN (ts := ks) (by subst hs; simp [isBuiltin] at hb; omega)
   have e : c9 σ s [x, y] = if y.ev.2 ≠ 0 then (y.ev.2, σ, []) else qH σ x (m7 y.ev.1) := by subst hs; rfl
   rw [e]
   have hy := hv y (by simp)
   have hin := KH (N := N) (Tm.sY y hy.1)
   have har := fun st => HA y st hy.1
   generalize y.ev.1 = a at *
   generalize y.ev.2 = ca at *
   have dS : dJ prog 31 (.slice [x.av, y.av]) (.int .i64 0) = some (.pptr x.av) := bL (av := Tm.av) (l := [x, y]) (i := 0) aN rfl (aH x)
   have f0 : dJ prog 31 (.slice [x.av, y.av]) (.int .i64 1) = some (.pptr y.av) := bL (av := Tm.av) (l := [x, y]) (i := 1) aN rfl (aH y)
   simp -implicitDefEqProofs only [f0, aT, aH, aA, seval, pI]
   refine (har _).to ?_
   simp -implicitDefEqProofs only [aA, seval]
   refine aP (fun h4 => ?_) (fun h4 => ?_)
   · simp -implicitDefEqProofs only [aA, seval]
     have h4' : ca ≠ 0 := by simpa using h4
     rw [aG h4']
     exact qD.same hS _ rfl
   have h4' : ca = 0 := by simpa using h4
   subst h4'
   rw [aE (by simp)]
   simp -implicitDefEqProofs only [aA, seval]
   refine wX [(0, 1), (1, 1), (2, 1), (3, 1), (4, 1), (6, 1), (5, 0), (7, 0), (8, 0), (9, 1)] [0, 1, 2, 3, 4, 6, 9] eJ mixed rfl fY ?_
   simp -implicitDefEqProofs only [dS, aT, aH, aA, seval, pI]
   refine (B3 a _).to ?_
   rw [← aT4]
   simp -implicitDefEqProofs only [aA, seval]
   refine ⟨fY, ?_⟩
   refine (DS hN hg ho x (m7 a) (hv x (by simp)) hin bb _ hS).mono ?_
   rintro _ s2 ⟨rfl, hP⟩
   simp -implicitDefEqProofs only [aA, seval]
   refine ⟨fY, ?_⟩
   refine (rQ _ _).to ?_
   simp -implicitDefEqProofs only [aA, seval]
   exact ⟨fY, rfl, hP⟩
 have his : s ≠ ⟨#[105, 115]⟩ := by simpa using h
 simp -implicitDefEqProofs only [aA, seval]
 refine aP (fun h => ?_) (fun h => ?_)
 · have hs : s = ⟨#[97, 114, 103]⟩ := by simpa using h
   obtain ⟨x, y, z, rfl⟩ := YS (ts := ks) (by subst hs; simp [isBuiltin] at hb; omega)
   have e : c9 σ s [x, y, z] = tX σ x y z := rfl
   rw [e, aRZ]
   have hz := hv z (by simp)
   have hy := hv y (by simp)
   have hga := U5 x y z rfl
   have hgv : (qP x y).2 = 0 → bD N (qP x y).1 := fun h => by
    unfold qP at h ⊢
    split at h
    · cases h
    rename_i h1
    rw [aE h1]
    split at h
    · cases h
    rename_i h2
    rw [aE h2]
    cases hu : mL x y with
    | none => rw [hu] at h; cases h
    | some u => exact pZ N y (fun h => h1 (.inr h)) hy u (aAP hu)
   generalize (qP x y).1 = u at *
   generalize (qP x y).2 = cu at *
   have BZ : dJ prog 31 (.slice [x.av, y.av, z.av]) (.int .i64 2) = some (.pptr z.av) := bL (av := Tm.av) (l := [x, y, z]) (i := 2) aN rfl (aH z)
   simp only [bA, aW] at hga
   simp -implicitDefEqProofs only [aA, seval, pI]
   refine (hga _).to ?_
   simp -implicitDefEqProofs only [aH, cF, b7, aA, ↓aU, seval, pI]
   refine aP (fun h4 => ?_) (fun h4 => ?_)
   · simp -implicitDefEqProofs only [aA, seval]
     have h4' : cu ≠ 0 := by simpa using h4
     rw [aE h4']
     exact qD.same hS _ rfl
   have h4' : cu = 0 := by simpa using h4
   subst h4'
   rw [aG rfl]
   simp -implicitDefEqProofs only [aA, seval]
   refine wX [(0, 1), (1, 1), (2, 1), (3, 1), (4, 1), (5, 1), (6, 0), (7, 0), (8, 1)] [0, 1, 2, 3, 4, 5, 8] eJ mixed rfl fY ?_
   simp -implicitDefEqProofs only [BZ, aT, aH, aA, seval, pI]
   refine (DS hN hg ho z u hz (hgv rfl) bb _ hS).mono ?_
   rintro _ s2 ⟨rfl, hP⟩
   simp -implicitDefEqProofs only [aA, seval]
   refine ⟨fY, ?_⟩
   refine (rQ _ _).to ?_
   simp -implicitDefEqProofs only [aA, seval]
   exact ⟨fY, rfl, hP⟩
 have SV : s ≠ ⟨#[97, 114, 103]⟩ := by simpa using h
 simp -implicitDefEqProofs only [aA, seval, pI]
 refine (aWD s _).to ?_
 simp -implicitDefEqProofs only [aA, seval]
 refine aP (fun h => ?_) (fun h => ?_)
 · have hlen : ks.length = 2 := by
    rcases hcs with ⟨h2, h3⟩ | ⟨h2, h3⟩ | ⟨h2, h3⟩ | ⟨h2, h3⟩
    · exact h2
    · simp [ht, hf] at h3
    · rcases h3 with rfl | rfl | rfl | rfl <;> exact absurd h (by decide)
    · exact absurd h3 SV
   obtain ⟨x, y, rfl⟩ := sN hlen
   have e : c9 σ s [x, y] = (wG s x y, σ, []) := by simp only [c9]; rw [aG h]
   rw [e]
   have hc := A8 x y rfl
   simp only [bA, aW] at hc
   simp -implicitDefEqProofs only [aA, seval, pI]
   refine (hc _).to ?_
   simp -implicitDefEqProofs only [aA, seval]
   exact qD.same hS _ rfl
 · have hlen : ks.length = 1 ∧ (s = ⟨#[118, 97, 114]⟩ ∨ s = ⟨#[110, 111, 110, 118, 97, 114]⟩ ∨ s = ⟨#[97, 116, 111, 109]⟩ ∨ s = ⟨#[105, 110, 116]⟩) := by
    rcases hcs with ⟨h2, h3⟩ | ⟨h2, h3⟩ | ⟨h2, h3⟩ | ⟨h2, h3⟩
    · simp [h, he, hne, hee, his] at h3
    · simp [ht, hf] at h3
    · exact ⟨h2, h3⟩
    · exact absurd h3 SV
   obtain ⟨x, rfl⟩ := DM hlen.1
   have e : c9 σ s [x] = (hH (rP s x), σ, []) := rfl
   rw [e]
   have hc := VK x rfl hlen.2
   simp only [bA, aW] at hc
   simp -implicitDefEqProofs only [aA, seval, pI]
   refine (hc _).to ?_
   simp -implicitDefEqProofs only [aA, seval]
   exact qD.same hS _ rfl
theorem aGG (N : Nat) (σ : Sub) : uI 4 (cQ N σ) := by
 intro e h
 simp only [cQ, cV] at h
 obtain ⟨i, _, rfl⟩ := h
 refine ⟨HG _, ?_⟩
 cases σ (i : Int) with
 | none => rfl
 | some u => exact b7 u
theorem EM (N : Nat) (σ : Sub) : ∀ e ∈ cQ N σ, e.cC = false := by
 intro e h
 simp only [cQ, cV] at h
 obtain ⟨i, _, rfl⟩ := h
 cases σ (i : Int) with
 | none => rfl
 | some u => exact cF u
theorem sP (N : Nat) (σ : Sub) : (cQ N σ).length = N := by simp [cQ]
theorem Q2 {N : Nat} (h0 : 0 < N) (hN : N ≤ 1048576) (σ : Sub) {st : aB} {K : AV → aB → Prop} (hK : ∀ b, st b = none → fC N (st.aC b (.cells ((cQ N σ).flatMap AV.cells))) b σ → K (.mslice b 0 N 4) (st.aC b (.cells ((cQ N σ).flatMap AV.cells)))) :
 j3 prog 31 st (.fslice []) (.slice (cQ N σ)) K := by
 have hl := sP N σ
 refine eN (P := prog) (st := st) (b := 0) (l := []) (xs := cQ N σ) (x := .slice (cQ N σ)) (K := K) aN bE bF rfl rfl (aGG N σ) (by simp) (by simp) (by simp only [aZ, hl]; omega) (by simp only [aZ, hl]; omega) (fun b hb => ?_)
 have hne : [] ++ cQ N σ ≠ [] := by
  rw [eR]
  intro e
  rw [e] at hl
  simp at hl
  omega
 rw [oP hne, jH hne, eR, hl]
 exact hK b (hb hne) (aB.aQ _ _ _)
theorem aN1 {N : Nat} (h0 : 0 < N) (hN : N ≤ 1048576) {σ : Sub} (hg : cK σ) (ho : cP (bD N) σ) (n : Int) (s : ByteArray) (x y : Tm) (hs : s = ⟨#[92, 61]⟩) (hx : bD N x) (hy : bD N y) (st : aB) :
 aD prog 132 [(Tm.mk 3 n s [x, y]).av, .slice (cQ N σ)] st (fun r st' => r = .int .i64 (hH (!(iR σ x y).1)) ∧ st' = st) := by
 have ht : s ≠ ⟨#[116, 114, 117, 101]⟩ := by subst hs; decide
 have hf : s ≠ ⟨#[102, 97, 105, 108]⟩ := by subst hs; decide
 have he : s ≠ ⟨#[61]⟩ := by subst hs; decide
 refine aD.done ?_
 simp only [aV 3, bA, aW]
 refine wF [1000000] 2 func132 ntmps132 rfl rfl ?_
 intro _
 have dS : dJ prog 31 (.slice [x.av, y.av]) (.int .i64 0) = some (.pptr x.av) := bL (av := Tm.av) (l := [x, y]) (i := 0) aN rfl (aH x)
 have f0 : dJ prog 31 (.slice [x.av, y.av]) (.int .i64 1) = some (.pptr y.av) := bL (av := Tm.av) (l := [x, y]) (i := 1) aN rfl (aH y)
 simp -implicitDefEqProofs only [aA, seval, pI]
 refine aP (fun h => absurd (by simpa using h) ht) (fun h => ?_)
 simp -implicitDefEqProofs only [aA, seval]
 refine aP (fun h => absurd (by simpa using h) hf) (fun h => ?_)
 simp -implicitDefEqProofs only [aA, seval]
 refine aP (fun h => absurd (by simpa using h) he) (fun h => ?_)
 simp -implicitDefEqProofs only [aA, seval]
 refine aP (fun h => ?_) (fun h => absurd hs (by simpa using h))
 simp -implicitDefEqProofs only [aA, seval]
 refine wX [(0, 1), (1, 1), (2, 1), (3, 1), (4, 1), (5, 1), (6, 1), (7, 1), (8, 1), (9, 1), (10, 0), (11, 0), (12, 1), (13, 0), (14, 1)] [0, 1, 2, 3, 4, 5, 6, 7, 8, 9, 12, 14] eJ mixed rfl fY ?_
 simp -implicitDefEqProofs only [dS, f0, aT, aH, aA, seval, pI]
 refine Q2 h0 hN σ fun b hb hA0 => ?_
 have hD0 : aM (st.aC b (.cells ((cQ N σ).flatMap AV.cells))) st := (aM.refl _).aC hb
 generalize st.aC b (.cells ((cQ N σ).flatMap AV.cells)) = s0 at *
 simp -implicitDefEqProofs only [aA, seval]
 refine ⟨fY, ?_⟩
 refine (DS hN hg ho x y hx hy b _ hA0).mono ?_
 rintro _ s2 ⟨rfl, hA, hk⟩
 simp -implicitDefEqProofs only [aA, seval]
 refine ⟨fY, ?_⟩
 refine (rQ _ _).to ?_
 simp -implicitDefEqProofs only [aA, seval]
 refine ⟨fY, rfl, fun q => ?_⟩
 have key : ∀ o, st q = some o → s2 q = some o := fun o h => hk q o ((hD0 q).2 o h) (by rintro rfl; rw [hb] at h; cases h)
 refine ⟨fun h => ?_, key⟩
 cases hq : st q with
 | none => rfl
 | some o => rw [key o hq] at h; cases h
theorem aVF {N : Nat} (h0 : 0 < N) (hN : N ≤ 1048576) {σ : Sub} (hg : cK σ) (ho : cP (bD N) σ) (n : Int) (s : ByteArray) (ks : List Tm) (hb : isBuiltin s (ks.length : Int) = true) (hv : ∀ x ∈ ks, bD N x) (bb : Nat) (st : aB) (hS : fC N st bb σ) :
 aD prog 132 [(Tm.mk 3 n s ks).av, .mslice bb 0 N 4] st (qD N bb st (c9 σ s ks)) := by
 by_cases hs : s = ⟨#[92, 61]⟩
 · obtain ⟨x, y, rfl⟩ := sN (ts := ks) (by subst hs; simp [isBuiltin] at hb; omega)
   have e : c9 σ s [x, y] = (hH (!(iR σ x y).1), σ, []) := by subst hs; rfl
   rw [e]
   have hc := aN1 h0 hN hg ho n s x y hs (hv x (by simp)) (hv y (by simp)) eJ
   refine (aD.aLR (args' := [(Tm.mk 3 n s [x, y]).av, .mslice bb 0 N 4]) (st := st) rfl hc fun h vs S V => ?_).mono ?_
   · simp only [c8] at V ⊢
     obtain ⟨v, vs', rfl, V1, w, ws', rfl, V2, rfl⟩ := V
     refine ⟨v, [w], rfl, V1.mono ((aM.eJ st).step h), w, [], rfl, ?_, rfl⟩
     have h2 := V2.fz S hS (EM N σ) ⟨4, BL N σ⟩
     have h3 : (AV.mslice bb 0 N 4).fz bb (cQ N σ) = .slice (cQ N σ) := by simp [AV.fz, sP]
     rw [h3] at h2
     exact h2.mono ((aM.eJ (st.erase bb)).step h)
   · rintro _ _ ⟨rfl, rfl⟩
     exact qD.same hS _ rfl
 · exact aZU hN hg ho n s ks hb hs hv bb st hS
abbrev AI := zi tI_3 (zi zI_3 (zi aX (zi tI_31 (zi zI_31 (zi aN (zi bE (zi bF (zi cA (zi tI_63 (zi zI_63 (zi bR (zi bQ (zi bP (zi bT bU))))))))))))))
theorem aOI {N : Nat} {σ : Sub} (hok : cP (cD N) σ) {f : Nat} {t u : Tm} (hw : fO σ f t u) (ht : cD N t) (st : aB) : aD prog 177 [t.av, .slice (cQ N σ)] st (fun r st' => r = u.av ∧ st' = st) := by
 refine aD.done ?_
 refine wF [1000000, 2] 2 func177 ntmps177 rfl rfl ?_
 intro _
 have hlen : (cQ N σ).length = N := by simp [cQ]
 simp -implicitDefEqProofs only [aA, seval, AI]
 intro b2 h2 b4 h4
 have hne : b4 ≠ b2 := by rintro rfl; rw [aB.aQ] at h4; cases h4
 have hn4 : st b4 = none := by rw [aB.aL st _ hne] at h4; exact h4
 refine gX (σ := Nat × Tm) [1000000, 2] [1, 2, 4] (fun p => fO σ p.1 p.2 u ∧ cD N p.2) (fun p => []) (fun p => (st.aC b2 (.cells p.2.av.cells)).aC b4 (.cells [.int .i64 0, .int .i64 0, .str ⟨#[]⟩, .fslice []])) (fun p => p.1) (by decide +kernel) ⟨(f, t), ⟨hw, ht⟩, aO.mk (by simp -implicitDefEqProofs only [aA, seval])⟩ ?_
 rintro ⟨g, t⟩ ⟨hw, ht⟩
 obtain ⟨k, n, s, ts⟩ := t
 simp only at hw ht
 simp only [aV]
 have jQ : k ≠ 1 ∨ σ n = none → u = .mk k n s ts := fun h => by
  cases hw with
  | stop _ => rfl
  | go h1 h2 _ =>
   simp only [Tm.k] at h1
   rcases h with h | h
   · exact absurd h1 h
   · rw [show σ n = some _ from h2] at h; cases h
 simp -implicitDefEqProofs only [hne.symm, aA, seval, AI]
 refine cS (fun h => ?_) (fun h => ?_)
 case refine_2 =>
  simp -implicitDefEqProofs only [h, aK, hne.symm, aA, seval, AI]
  simp only [oS, dG] at h
  rw [jQ (.inl h), ← aV]
  exact ⟨Tm.soft _, ((aM.refl _).aC h2).aC hn4⟩
 simp only [bJ] at h
 subst h
 obtain ⟨hn0, hn1, _⟩ := ht.var
 obtain ⟨i, rfl⟩ : ∃ i : Nat, n = i := ⟨n.toNat, by omega⟩
 have hi : i < N := by omega
 have hi' : decide ((i : Int) < (N : Int)) = true := by simp; omega
 simp -implicitDefEqProofs only [bM, hi', jD, hne.symm, hlen, aA, seval, AI]
 have hat : dJ prog 31 (.slice (cQ N σ)) (.int .i64 (i : Int)) = some (.pptr (cellOf (σ (i : Int)))) := bL (av := fun i : Nat => cellOf (σ (i : Int))) aN (List.getElem?_range hi) (HG _)
 cases hw with
 | stop hs =>
  rw [show σ (i : Int) = none from hs rfl] at hat
  simp only [cellOf] at hat
  simp -implicitDefEqProofs only [hat, bM, aK, hne.symm, aA, seval, AI]
  exact ⟨by rw [← aV, Tm.soft], ((aM.refl _).aC h2).aC hn4⟩
 | go h1 h2' h3 =>
  simp only [Tm.n] at h2'
  have ho := hok _ _ h2'
  rename_i g' u'
  obtain ⟨k', n', s', ts'⟩ := u'
  have hk' : ¬ k' = 0 := by have := ho.kind.1; omega
  rw [h2'] at hat
  simp only [cellOf, aV] at hat
  simp -implicitDefEqProofs only [hat, hk', bX, aK, hne.symm, aA, seval, AI]
  rw [aB.uB hne, aB.nJ _ _ _ hne]
  refine ⟨(g', .mk k' n' s' ts'), K0 _, ⟨h3, ho⟩, ?_⟩
  simp only [aV]
  exact aO.mk (by simp -implicitDefEqProofs only [aA, seval])
abbrev rO := zi tI_3 (zi zI_3 (zi aX (zi tI_9 (zi zI_9 (zi cG (zi tI_31 (zi zI_31 (zi aN (zi bE (zi bF (zi cA (zi tI_63 (zi zI_63 (zi bR (zi bQ (zi bP (zi bT bU)))))))))))))))))
theorem aC0 {N : Nat} {σ : Sub} {R : Int → Tm} {rk : Int → Nat} {B : Nat} (G : Good σ R rk B) (hok : cP (bD N) σ) :
 ∀ (room : Nat) (t : Tm) (st : aB), room ≤ 120 → bD N t → aD prog 140 [t.av, .slice (cQ N σ), .int .i64 (room : Int)] st (Full (t.aJ R) room st)
 | room, t, st, hr, ht => by
  have IH := fun (H4 : Nat) (hlt : H4 < room) (x : Tm) st => aC0 G hok H4 x st
  obtain ⟨f, hw⟩ := G.wk t
  generalize wk σ t = u at *
  have KB : cP (cD N) σ := fun n u hu => (hok n u hu).1
  have hsu := hw.all (p := bD N) hok ht
  have hcw := fun st => aOI KB hw ht.1 st
  obtain ⟨k, n, s, ts⟩ := u
  have hv := S6 G hw (hsu.1.2.1)
  rw [hv]
  obtain ⟨hlen, nY⟩ := Tm.oG (hsu.1.small)
  have a1L := hsu.1.kind.2
  have hkn := hsu.1.all.2
  have hkk : ∀ x ∈ ts, bD N x := fun x hx => by
   refine ⟨hkn x hx, ?_⟩
   have := hsu.2
   rw [Tm.gO] at this
   have := GE (f := Tm.nodes) hx
   omega
  refine aD.lU (aD.fin ?_)
  refine wF [1000000, 3, 8] 3 func140 ntmps140 rfl rfl ?_
  intro _
  simp -implicitDefEqProofs only [aA, seval, rO]
  intro b3 h3 b6 h6
  have h63 : b6 ≠ b3 := by rintro rfl; rw [aB.aQ] at h6; cases h6
  have hn6 : st b6 = none := by rw [aB.aL st _ h63] at h6; exact h6
  have hwr : ∀ z : Int, -1 ≤ z → z ≤ 200 → IntKind.i64.wrap z = z := fun z h1 h2 => wrap64 (by omega) (by omega)
  have hw1 := hwr ((room : Int) - 1) (by omega) (by omega)
  refine aP (fun h => ?_) (fun h => ?_)
  · simp only [bJ] at h
    obtain rfl : room = 0 := by omega
    simp -implicitDefEqProofs only [aK, aA, ↓aU, seval, rO]
    refine ⟨0, [], _, rfl, by simp, by simp, ⟨4, by simp⟩, st, (fun x => by by_cases e3 : x = b3 <;> by_cases e6 : x = b6 <;> simp_all [aB.aC]), rfl, Tm.zero, -1, ?_, Int.le_refl _, ?_⟩
    · simp only [Tm.zero, aV, fL, jG, eC, iS, oK, bA, aW]
    · rw [aE (by rw [Tm.gO]; omega)]; decide
  simp only [dG] at h
  simp -implicitDefEqProofs only [h63.symm, aA, seval, rO]
  refine (hcw _).to ?_
  simp only [aV]
  simp -implicitDefEqProofs only [aK, h63.symm, hw1, aA, ↓aU, seval, rO]
  intro b8 h8
  have h83 : b8 ≠ b3 := by rintro rfl; simp [aB.aC] at h8
  have h86 : b8 ≠ b6 := by rintro rfl; simp [aB.aC, h63] at h8
  have hn8 : st b8 = none := by rw [aB.aL _ _ h83, aB.aL _ _ h86, aB.aL _ _ h83] at h8; exact h8
  rw [aB.uB h63]
  have hW6 : ((st.aC b6 (.cells [.int .i64 0, .int .i64 0, .str ⟨#[]⟩, .fslice []])).aC b3 (.cells [.int .i64 k, .int .i64 n, .str s, .slice (ts.map Tm.av)])) b6 = some (.cells [.int .i64 0, .int .i64 0, .str ⟨#[]⟩, .fslice []]) := by rw [aB.aL _ _ h63, aB.aQ]
  have hW3 : ((st.aC b6 (.cells [.int .i64 0, .int .i64 0, .str ⟨#[]⟩, .fslice []])).aC b3 (.cells [.int .i64 k, .int .i64 n, .str s, .slice (ts.map Tm.av)])) b3 = some (.cells [.int .i64 k, .int .i64 n, .str s, .slice (ts.map Tm.av)]) := aB.aQ _ _ _
  have hWd : ∀ Y Z, aM ((((st.aC b6 (.cells [.int .i64 0, .int .i64 0, .str ⟨#[]⟩, .fslice []])).aC b3 (.cells [.int .i64 k, .int .i64 n, .str s, .slice (ts.map Tm.av)])).aC b8 Z).aC b6 Y) st := fun Y Z x => by
   by_cases e3 : x = b3 <;> by_cases e6 : x = b6 <;> by_cases e8 : x = b8 <;> simp_all [aB.aC]
  generalize ((st.aC b6 (.cells [.int .i64 0, .int .i64 0, .str ⟨#[]⟩, .fslice []])).aC b3 (.cells [.int .i64 k, .int .i64 n, .str s, .slice (ts.map Tm.av)])) = W at *
  have wE : (Tm.mk k n s (ts.map (Tm.aJ R))).nodes = 1 + bG Tm.nodes (ts.map (Tm.aJ R)) := Tm.gO _ _ _ _
  refine eH (σ := Nat × List Tm × Int) [1000000, 3, 8] [1, 3, 6, 7, 8] ts
   (fun i p => (p.2.1.map Tm.av ≠ [] → (W.aC b8 (.cells ([.int .i64 k, .int .i64 n, .str s] ++ [a9 4 p.1 (p.2.1.map Tm.av)]))) p.1 = none) ∧ p.2.1.length = i ∧ -1 ≤ p.2.2 ∧
    (0 ≤ p.2.2 → p.2.1 = (ts.take i).map (Tm.aJ R) ∧ p.2.2 = (room : Int) - 1 - bG Tm.nodes p.2.1) ∧ (p.2.2 < 0 → room < 1 + bG Tm.nodes (ts.map (Tm.aJ R))))
   (fun i p => [(9, .int .i64 p.2.2), (10, .int .i64 i)])
   (fun i p => eU W b8 p.1 [.int .i64 k, .int .i64 n, .str s] (p.2.1.map Tm.av)) (by decide +kernel)
   ⟨(0, [], (room : Int) - 1), ⟨fun h => absurd rfl h, rfl, by simp only; omega, fun _ => ⟨by simp, by simp [bG]⟩, fun h => by simp only at h; omega⟩, aO.mk (by simp -implicitDefEqProofs only [aA, ↓aU, seval])⟩ (fun i x p hx hlt bS zL hinv => ?_) (fun p hge hinv => ?_)
  · obtain ⟨b, acc, left⟩ := p
    obtain ⟨i1, i2, i3, i4, i5⟩ := hinv
    simp only at i1 i2 i3 i4 i5
    have h3o := gD i1 (x := b3) (by rw [hW3]; simp) h83.symm
    rw [hW3] at h3o
    simp -implicitDefEqProofs only [bS, bM, jD, aF, h3o, aA, seval, rO]
    refine aP (fun h9 => ?_) (fun h9 => ?_)
    case refine_2 =>
     simp only [dG] at h9
     have hbo := d8 i1
     have h6o := gD i1 (x := b6) (by rw [hW6]; simp) h86.symm
     rw [hW6] at h6o
     simp -implicitDefEqProofs only [aK, hbo, h6o, eV, aA, seval, rO]
     obtain ⟨g5, g6⟩ := jX (o := .cells [.int .i64 k, .int .i64 n, .str s, a9 4 b (acc.map Tm.av)]) i1 (show W b6 ≠ none by rw [hW6]; simp) h86.symm
     refine ⟨b, _, _, g5, g6, iF _, ⟨4, dT _⟩, st, hWd _ _, rfl, .mk k n s acc, left, ?_, i3, ?_⟩
     · simp only [jG, fL, bA, aW, eC, iS, iD, aV]
     · rw [wE]
       skip
       rw [aE (by have := i5 (by omega); omega)]
       omega
    simp only [bJ] at h9
    obtain ⟨e1, e2⟩ := i4 h9
    have gJ := cU hx
    have hsl := aQD Tm.nodes (ts.map (Tm.aJ R)) (i + 1)
    rw [← GU, fM, hx] at hsl
    simp only [GV, vK, bA, aW, BN, bG, ← e1] at hsl
    obtain ⟨H4, rfl⟩ : ∃ r : Nat, left = r := ⟨left.toNat, by omega⟩
    have cT : (acc.map Tm.av).length = i := by rw [aF, i2]
    have hw := bK (n := (i : Int) + 1)
    have hbo := d8 i1
    simp -implicitDefEqProofs only [h3o, bL (av := Tm.av) aN hx (aH x), aT, aH, aA, seval, rO]
    refine (IH H4 (by omega) x _ (by omega) (hkk x gJ)).mono ?_
    rintro _ _ ⟨rfl, y, aNU, rfl, hl1, hl2⟩
    simp -implicitDefEqProofs only [aT, aH, b7, cF, hbo, mI, aA, ↓aU, seval, rO]
    refine eN aN bE bF rfl rfl (eY (aH _) (b7 _)) (dT _) i1 (by simp only [cT, aS, aZ]; omega) (by simp only [cT, aS, aZ]; omega) (fun b' hb' => ?_)
    rw [show acc.map Tm.av ++ [y.av] = (acc ++ [y]).map Tm.av by simp] at hb' ⊢
    obtain ⟨g1, g2, g3⟩ := nM hb'
    simp only [fF, eR] at g1 g3
    simp -implicitDefEqProofs only [g3, mA, eV, g1, hw, aK, aA, seval, rO]
    refine ⟨(b', acc ++ [y], aNU), ⟨g2, by simp [i2], hl1, fun h => ?_, fun h => ?_⟩, aO.mk (by simp -implicitDefEqProofs only [aA, seval])⟩
    · simp only at h
      split at hl2
      · obtain ⟨rfl, hl3⟩ := hl2
        refine ⟨by rw [fM, hx]; simp [e1], ?_⟩
        simp only [BN, bG]
        omega
      · omega
    · simp only at h
      split at hl2
      · omega
      · omega
  · obtain ⟨b, acc, left⟩ := p
    obtain ⟨i1, i2, i3, i4, i5⟩ := hinv
    simp only at i1 i2 i3 i4 i5
    rw [eS] at i4
    have h3o := gD i1 (x := b3) (by rw [hW3]; simp) h83.symm
    rw [hW3] at h3o
    simp -implicitDefEqProofs only [hge, aF, h3o, aA, seval, rO]
    have hbo := d8 i1
    have h6o := gD i1 (x := b6) (by rw [hW6]; simp) h86.symm
    rw [hW6] at h6o
    simp -implicitDefEqProofs only [aK, hbo, h6o, eV, aA, seval, rO]
    obtain ⟨g5, g6⟩ := jX (o := .cells [.int .i64 k, .int .i64 n, .str s, a9 4 b (acc.map Tm.av)]) i1 (show W b6 ≠ none by rw [hW6]; simp) h86.symm
    refine ⟨b, _, _, g5, g6, iF _, ⟨4, dT _⟩, st, hWd _ _, rfl, .mk k n s acc, left, ?_, i3, ?_⟩
    · simp only [jG, fL, bA, aW, eC, iS, iD, aV]
    · rw [wE]
      skip
      rcases Int.lt_or_le left 0 with h9 | h9
      · rw [aE (by have := i5 h9; omega)]; exact h9
      · obtain ⟨e1, e2⟩ := i4 h9
        rw [← e1] at i5 ⊢
        rw [aG (by omega)]
        exact ⟨rfl, by omega⟩
termination_by room => room
decreasing_by exact hlt
end Go.AW
namespace Go.AW
abbrev Cl := Tm × List Tm
def bY : Cl → AV
 | (.mk k n s ts, b) => .agg [.int .i64 k, .int .i64 n, .str s, .slice (ts.map Tm.av), .slice (b.map Tm.av)]
theorem gG (k n : Int) (s : ByteArray) (ts b : List Tm) : bY (.mk k n s ts, b) = .agg [.int .i64 k, .int .i64 n, .str s, .slice (ts.map Tm.av), .slice (b.map Tm.av)] := rfl
theorem AU (c : Cl) : (bY c).isAgg = true := by obtain ⟨⟨k, n, s, ts⟩, b⟩ := c; rfl
theorem oH (c : Cl) : (bY c).width = 5 := by obtain ⟨⟨k, n, s, ts⟩, b⟩ := c; rfl
theorem RU (c : Cl) : (bY c).cells.length = 5 := by obtain ⟨⟨k, n, s, ts⟩, b⟩ := c; rfl
theorem aFU (c : Cl) : (bY c).cells.all AV.storable = true := by obtain ⟨⟨k, n, s, ts⟩, b⟩ := c; rfl
theorem IQ (c : Cl) : (bY c).cC = false := by obtain ⟨⟨k, n, s, ts⟩, b⟩ := c; rfl
def OR : Tm → Bool | .mk k _ s ts => o9 k s (ts.length : Int)
def k8 (c : Cl) : Bool := c.1.valid && OR c.1 && (decide (c.2.length ≤ 6) && c.2.all Tm.goal)
def qR (p : List Cl) : Bool := decide (p.length ≤ 20) && p.all k8
def F9 (c : Cl) : Int := (bZ (c.1 :: c.2) []).foldl (fun n v => if n ≤ v then v + 1 else n) 0
def nL (c : Cl) : Nat := (F9 c).toNat
def dC (N : Nat) (t : Tm) : Tm := bV (fun v => v + (N : Int)) t
def eL (t : Tm) : Bool := t.flat 30 && decide (t.nodes ≤ 120)
def pV (t : Tm) : Bool := decide (t.k = 3) && decide (t.s = ⟨#[33]⟩) && decide ((t.ts.length : Int) = 0)
def DH (c : Cl) (t : Tm) : Bool := decide (c.1.s = t.s) && decide ((c.1.ts.length : Int) = (t.ts.length : Int))
def fE (p : List Cl) (t : Tm) : List Nat := (List.range p.length).filter fun i => match p[i]? with
 | some c => DH c t
 | none => false
def pT (c : Int) : Int := if c = 2 then 4 else if c = 3 then 5 else if c = 4 then 6 else 7
noncomputable def iY (σ : Sub) (vars : List Int) : Option (List Tm) :=
 if ((vars.map (rs σ)).all eL = true) ∧ (bZ (vars.map (rs σ)) []).length ≤ 26 then some (oO (vars.map (rs σ))) else none
structure RG where
 t : Tm
 a8 : Nat
structure RC where
 goal : Tm
 rest : List RG
 left : List Nat
 σ : Sub
 N : Nat
structure RS where
 goals : List RG
 σ : Sub
 N : Nat
 chs : List RC
inductive RO where
 | go (s : RS)
 | fail
 | stop (e : Int)
noncomputable def iG (p : List Cl) (chs : List RC) (goal : Tm) (rest : List RG) (σ : Sub) (N : Nat) : List Nat → Option RS
 | [] => none
 | i :: l => match p[i]? with
  | none => none
  | some x => if (iR σ goal (dC N x.1)).1 = true then
   some ⟨x.2.map (fun t => ⟨dC N t, chs.length⟩) ++ rest, (iR σ goal (dC N x.1)).2.1, N + nL x, if l = [] then chs else chs ++ [⟨goal, rest, l, σ, N⟩]⟩
   else iG p chs goal rest σ N l
noncomputable def fP (p : List Cl) : Nat → List RC → Option RS
 | 0, _ => none
 | n + 1, chs => match chs.getLast? with
  | none => none
  | some c => match iG p chs.dropLast c.goal c.rest c.σ c.N c.left with
   | some s => some s
   | none => fP p n chs.dropLast
noncomputable def jK (p : List Cl) (cnd : Tm → List Nat → List Nat) (s : RS) (g : RG) (rest : List RG) : RO :=
 if eL (g.t.aJ (rs s.σ)) = false then .stop 3
 else if pV (g.t.aJ (rs s.σ)) = true then .go ⟨rest, s.σ, s.N, s.chs.take g.a8⟩
 else if isBuiltin (g.t.aJ (rs s.σ)).s ((g.t.aJ (rs s.σ)).ts.length : Int) = true then
  if (c9 s.σ (g.t.aJ (rs s.σ)).s (g.t.aJ (rs s.σ)).ts).1 = 0 then .go ⟨rest, (c9 s.σ (g.t.aJ (rs s.σ)).s (g.t.aJ (rs s.σ)).ts).2.1, s.N, s.chs⟩
  else if (c9 s.σ (g.t.aJ (rs s.σ)).s (g.t.aJ (rs s.σ)).ts).1 = 1 then .fail
  else .stop (pT (c9 s.σ (g.t.aJ (rs s.σ)).s (g.t.aJ (rs s.σ)).ts).1)
 else if fE p (g.t.aJ (rs s.σ)) = [] then .stop 8
 else match iG p s.chs (g.t.aJ (rs s.σ)) rest s.σ s.N (cnd (g.t.aJ (rs s.σ)) (fE p (g.t.aJ (rs s.σ)))) with
  | some s' => .go s'
  | none => .fail
noncomputable def iE (p : List Cl) (cnd : Tm → List Nat → List Nat) (vars : List Int) (most fuel : Nat) (s : RS) : List (List Tm) × Int :=
 match s.goals with
 | [] => if h : most = 0 then ([], 1) else match iY s.σ vars with
  | none => ([], 3)
  | some a => match fP p s.chs.length s.chs with
   | none => ([a], 0)
   | some s' => (a :: (iE p cnd vars (most - 1) fuel s').1, (iE p cnd vars (most - 1) fuel s').2)
 | g :: rest => if h : fuel = 0 then ([], 2) else match jK p cnd s g rest with
  | .stop e => ([], e)
  | .go s' => iE p cnd vars most (fuel - 1) s'
  | .fail => match fP p s.chs.length s.chs with
   | none => ([], 0)
   | some s' => iE p cnd vars most (fuel - 1) s'
termination_by most + fuel
decreasing_by all_goals omega
def lO (q : List Tm) : RS := ⟨q.map fun t => ⟨t, 0⟩, Sub.none, 26, []⟩
noncomputable def wO (p : List Cl) (cnd : Tm → List Nat → List Nat) (q : List Tm) (most fuel : Nat) : List (List Tm) × Int := iE p cnd (bZ q []) most fuel (lO q)
structure IG where
 t : Tm
 cut : Nat
 up : Int
structure IC where
 goal : Tm
 node : Nat
 rest : List IG
 list : List Nat
 eP : Nat
 taken : Nat
structure IS where
 goals : List IG
 σ : Sub
 tr : List Int
 chs : List IC
 fresh : Nat
 nn : Nat
inductive wZ where
 | go (s : IS)
 | fail (s : IS)
 | stop (e : Int)
noncomputable def gE (p : List Cl) (goal : Tm) (at' : Nat) (rest : List IG) : List Nat → IS → Bool × IS
 | [], s => (false, s)
 | i :: l, s => match p[i]? with
  | none => (false, s)
  | some x => if (iR s.σ goal (dC s.fresh x.1)).1 = true then
   (true, ⟨x.2.map (fun t => ⟨dC s.fresh t, s.chs.length, at'⟩) ++ rest, (iR s.σ goal (dC s.fresh x.1)).2.1, s.tr ++ (iR s.σ goal (dC s.fresh x.1)).2.2, if l = [] then s.chs else s.chs ++ [⟨goal, at', rest, l, s.tr.length, s.nn⟩], s.fresh + 26, s.nn⟩)
   else gE p goal at' rest l { s with fresh := s.fresh + 26 }
def IS.pop (s : IS) (c : IC) : IS := { s with chs := s.chs.dropLast, σ := s.σ.out (s.tr.drop c.eP), tr := s.tr.take c.eP, nn := c.taken }
noncomputable def gP (p : List Cl) : Nat → IS → Option IS
 | 0, _ => none
 | n + 1, s => match s.chs.getLast? with
  | none => none
  | some c => if (gE p c.goal c.node c.rest c.list (s.pop c)).1 = true then some (gE p c.goal c.node c.rest c.list (s.pop c)).2 else gP p n (gE p c.goal c.node c.rest c.list (s.pop c)).2
noncomputable def kW (p : List Cl) (cnd : Tm → List Nat → List Nat) (s : IS) (g : IG) (rest : List IG) : wZ :=
 if eL (g.t.aJ (rs s.σ)) = false then .stop 3
 else if pV (g.t.aJ (rs s.σ)) = true then .go { s with goals := rest, chs := s.chs.take g.cut, nn := s.nn + 1 }
 else if isBuiltin (g.t.aJ (rs s.σ)).s ((g.t.aJ (rs s.σ)).ts.length : Int) = true then
  if (c9 s.σ (g.t.aJ (rs s.σ)).s (g.t.aJ (rs s.σ)).ts).1 = 0 then .go { s with goals := rest, σ := (c9 s.σ (g.t.aJ (rs s.σ)).s (g.t.aJ (rs s.σ)).ts).2.1, tr := s.tr ++ (c9 s.σ (g.t.aJ (rs s.σ)).s (g.t.aJ (rs s.σ)).ts).2.2, nn := s.nn + 1 }
  else if (c9 s.σ (g.t.aJ (rs s.σ)).s (g.t.aJ (rs s.σ)).ts).1 = 1 then .fail { s with σ := (c9 s.σ (g.t.aJ (rs s.σ)).s (g.t.aJ (rs s.σ)).ts).2.1, tr := s.tr ++ (c9 s.σ (g.t.aJ (rs s.σ)).s (g.t.aJ (rs s.σ)).ts).2.2, nn := s.nn + 1 }
  else .stop (pT (c9 s.σ (g.t.aJ (rs s.σ)).s (g.t.aJ (rs s.σ)).ts).1)
 else if fE p (g.t.aJ (rs s.σ)) = [] then .stop 8
 else if (gE p (g.t.aJ (rs s.σ)) s.nn rest (cnd (g.t.aJ (rs s.σ)) (fE p (g.t.aJ (rs s.σ)))) { s with nn := s.nn + 1 }).1 = true then .go (gE p (g.t.aJ (rs s.σ)) s.nn rest (cnd (g.t.aJ (rs s.σ)) (fE p (g.t.aJ (rs s.σ)))) { s with nn := s.nn + 1 }).2
 else .fail (gE p (g.t.aJ (rs s.σ)) s.nn rest (cnd (g.t.aJ (rs s.σ)) (fE p (g.t.aJ (rs s.σ)))) { s with nn := s.nn + 1 }).2
noncomputable def iZ (p : List Cl) (cnd : Tm → List Nat → List Nat) (vars : List Int) (most fuel : Nat) (s : IS) : List (List Tm) × Int :=
 match s.goals with
 | [] => if h : most = 0 then ([], 1) else match iY s.σ vars with
  | none => ([], 3)
  | some a => match gP p s.chs.length s with
   | none => ([a], 0)
   | some s' => (a :: (iZ p cnd vars (most - 1) fuel s').1, (iZ p cnd vars (most - 1) fuel s').2)
 | g :: rest => if h : fuel = 0 then ([], 2) else match kW p cnd s g rest with
  | .stop e => ([], e)
  | .go s' => iZ p cnd vars most (fuel - 1) s'
  | .fail s' => match gP p s'.chs.length s' with
   | none => ([], 0)
   | some s'' => iZ p cnd vars most (fuel - 1) s''
termination_by most + fuel
decreasing_by all_goals omega
def nF (q : List Tm) : IS := ⟨q.map fun t => ⟨t, 0, -1⟩, Sub.none, [], [], 26, 0⟩
structure nQ (ρ : Int → Int) (N F : Nat) (σ τ : Sub) : Prop where
 sim : fA ρ N σ τ
 rng : ∀ v, 0 ≤ v → v < (N : Int) → 0 ≤ ρ v ∧ ρ v < (F : Int)
 g1 : cK σ
 o1 : cP (bD N) σ
 g2 : cK τ
 o2 : cP (bD F) τ
 d1 : ∀ n, ¬(0 ≤ n ∧ n < (N : Int)) → σ n = none
 d2 : ∀ n, ¬(0 ≤ n ∧ n < (F : Int)) → τ n = none
 h26 : 26 ≤ N
 idn : ∀ v, 0 ≤ v → v < 26 → ρ v = v
theorem nQ.mono {ρ : Int → Int} {N F F' : Nat} {σ τ : Sub} (S : nQ ρ N F σ τ) (h : F ≤ F') : nQ ρ N F' σ τ :=
 ⟨S.sim, fun v h0 h1 => ⟨(S.rng v h0 h1).1, by have := (S.rng v h0 h1).2; omega⟩, S.g1, S.o1, S.g2, S.o2.imp fun t ht => ht.mono (by omega), S.d1, fun n hn => S.d2 n fun h' => hn ⟨h'.1, by omega⟩, S.h26, S.idn⟩
def r9 (ρ : Int → Int) (N F : Nat) : Int → Int := fun v => if v < (N : Int) then ρ v else v - N + F
theorem sX {ρ : Int → Int} {N F : Nat} {v : Int} (h : v < (N : Int)) : r9 ρ N F v = ρ v := aG h
theorem nQ.ext {ρ : Int → Int} {N F : Nat} {σ τ : Sub} (S : nQ ρ N F σ τ) {k : Nat} (hk : k ≤ 26) : nQ (r9 ρ N F) (N + k) (F + 26) σ τ := by
 have lJ : ∀ v : Int, ¬ v < (N : Int) → r9 ρ N F v = v - N + F := fun v h => aE h
 refine ⟨⟨fun v w hv0 hv1 hw0 hw1 e => ?_, fun v h0 h1 => ?_⟩, fun v h0 h1 => ?_, S.g1, S.o1.imp fun t ht => ht.mono (by omega), S.g2, S.o2.imp fun t ht => ht.mono (by omega), fun n hn => S.d1 n fun h => hn ⟨h.1, by omega⟩, fun n hn => S.d2 n fun h => hn ⟨h.1, by omega⟩, by have := S.h26; omega, fun v h0 h1 => by rw [sX (by have := S.h26; omega)]; exact S.idn v h0 h1⟩
 · by_cases hv : v < (N : Int) <;> by_cases hw : w < (N : Int)
   · rw [sX hv, sX hw] at e; exact S.sim.inj v w hv0 hv hw0 hw e
   · rw [sX hv, lJ w hw] at e
     have := S.rng v hv0 hv
     omega
   · rw [sX hw, lJ v hv] at e
     have := S.rng w hw0 hw
     omega
   · rw [lJ v hv, lJ w hw] at e
     omega
 · by_cases hv : v < (N : Int)
   · rw [sX hv, S.sim.map v h0 hv]
     cases hs : σ v with
     | none => rfl
     | some u =>
      simp only [qW, Option.some.injEq]
      refine MZ fun w hw => ?_
      rw [sX ((S.o1 v u hs).1.2.2 w hw).2]
   · rw [lJ v hv, S.d1 v (fun h => hv h.2), S.d2 _ (fun h => by omega)]
     try rfl
 · by_cases hv : v < (N : Int)
   · rw [sX hv]
     have := S.rng v h0 hv
     omega
   · rw [lJ v hv]; omega
theorem aJ6 (l : List Int) : ∀ n : Int, n ≤ l.foldl (fun n v => if n ≤ v then v + 1 else n) n ∧ (∀ v ∈ l, v < l.foldl (fun n v => if n ≤ v then v + 1 else n) n) ∧ ∀ m : Int, n ≤ m → (∀ v ∈ l, v < m) → l.foldl (fun n v => if n ≤ v then v + 1 else n) n ≤ m := by
 induction l with
 | nil => intro n; exact ⟨Int.le_refl _, by simp, fun m h _ => h⟩
 | cons x l ih =>
  intro n
  simp only [zX]
  obtain ⟨h1, h2, h3⟩ := ih (if n ≤ x then x + 1 else n)
  refine ⟨?_, fun v hv => ?_, fun m hm hl => h3 m ?_ fun v hv => hl v (by simp [hv])⟩
  · split at h1 <;> rename_i h <;> split <;> omega
  · rcases cZ.1 hv with rfl | hv
    · split at h1 <;> rename_i h <;> split <;> omega
    · exact h2 v hv
  · have := hl x (by simp)
    split <;> omega
structure gB (c : Cl) : Prop where
 head : bD 26 c.1
 body : ∀ t ∈ c.2, bD 26 t ∧ t.k = 3
theorem gB.vars {c : Cl} (h : gB c) {v : Int} : v ∈ bZ (c.1 :: c.2) [] ↔ ∃ t ∈ c.1 :: c.2, v ∈ t.vl := by
 rw [v5]
 · simp
 · intro t ht
   rcases cZ.1 ht with rfl | ht
   · exact h.head.1.2.1
   · exact (h.body t ht).1.1.2.1
theorem gB.CD {c : Cl} (h : gB c) : ∀ t ∈ c.1 :: c.2, bD 26 t := fun t ht => by
 rcases cZ.1 ht with rfl | ht
 · exact h.head
 · exact (h.body t ht).1
theorem gB.fr {c : Cl} (h : gB c) : nL c ≤ 26 ∧ ∀ t ∈ c.1 :: c.2, ∀ v ∈ t.vl, v < (nL c : Int) := by
 obtain ⟨h1, h2, h3⟩ := aJ6 (bZ (c.1 :: c.2) []) 0
 have hle := h3 26 (by omega) fun v hv => by
  obtain ⟨t, ht, hv⟩ := h.vars.1 hv
  exact ((h.CD t ht).1.2.2 v hv).2
 unfold nL F9
 refine ⟨by omega, fun t ht v hv => ?_⟩
 have := h2 v (h.vars.2 ⟨t, ht, hv⟩)
 omega
theorem gB.dC {c : Cl} (h : gB c) (N : Nat) : ∀ t ∈ c.1 :: c.2, bD ((N + nL c : Nat) : Int) (dC N t) := fun t ht => by
 refine (h.CD t ht).bV fun v hv => ?_
 have h1 := ((h.CD t ht).1.2.2 v hv).1
 have h2 := h.fr.2 t ht v hv
 omega
theorem M5 {ρ : Int → Int} {N F : Nat} {c : Cl} (h : gB c) : ∀ t ∈ c.1 :: c.2, bV (r9 ρ N F) (dC N t) = dC F t := fun t ht => by
 unfold AW.dC
 rw [show bV (r9 ρ N F) (bV (fun v => v + (N : Int)) t) = t.aJ fun v => vr (r9 ρ N F (v + N)) from EF _ _ t]
 refine pP t fun v hv => ?_
 have h1 := ((h.CD t ht).1.2.2 v hv).1
 show vr (r9 ρ N F (v + (N : Int))) = vr (v + (F : Int))
 unfold r9
 rw [aE (by omega)]
 congr 1
 omega
theorem aE1 {N : Nat} (t : Tm) : (dC N t).k = t.k := xC _ t
def GL (ρ : Int → Int) (N : Nat) (gs : List RG) (hs : List IG) : Prop := hs.map (fun h => (h.t, h.cut)) = gs.map (fun g => (bV ρ g.t, g.a8)) ∧ ∀ g ∈ gs, bD N g.t ∧ g.t.k = 3
theorem GL.ext {ρ ρ' : Int → Int} {N N' : Nat} {gs : List RG} {hs : List IG} (h : GL ρ N gs hs) (hN : N ≤ N') (hr : ∀ v, 0 ≤ v → v < (N : Int) → ρ' v = ρ v) : GL ρ' N' gs hs := by
 refine ⟨h.1.trans (qX fun g hg => ?_), fun g hg => ⟨(h.2 g hg).1.mono (by omega), (h.2 g hg).2⟩⟩
 rw [MZ (ρ := ρ) (ρ' := ρ') fun v hv => (hr v ((h.2 g hg).1.1.2.2 v hv).1 ((h.2 g hg).1.1.2.2 v hv).2).symm]
theorem GL.app {ρ : Int → Int} {N : Nat} {gs gs' : List RG} {hs hs' : List IG} (h : GL ρ N gs hs) (h' : GL ρ N gs' hs') : GL ρ N (gs ++ gs') (hs ++ hs') := by
 refine ⟨by rw [vK, vK, h.1, h'.1], fun g hg => ?_⟩
 rcases fS.1 hg with hg | hg
 · exact h.2 g hg
 · exact h'.2 g hg
def C1 (F : Nat) (c : RC) (d : IC) (τ : Sub) : Prop := ∃ ρ, nQ ρ c.N F c.σ τ ∧ d.goal = bV ρ c.goal ∧ bD c.N c.goal ∧ GL ρ c.N c.rest d.rest ∧ d.list = c.left
inductive iJ (F : Nat) : List RC → List IC → Sub → List Int → Prop
 | nil {τ : Sub} {tr : List Int} : iJ F [] [] τ tr
 | snoc {cs : List RC} {ds : List IC} {c : RC} {d : IC} {τ : Sub} {tr : List Int} (h : iJ F cs ds (τ.out (tr.drop d.eP)) (tr.take d.eP)) (h1 : C1 F c d (τ.out (tr.drop d.eP))) (h2 : d.eP ≤ tr.length) : iJ F (cs ++ [c]) (ds ++ [d]) τ tr
theorem iJ.len {F : Nat} {cs : List RC} {ds : List IC} {τ : Sub} {tr : List Int} (h : iJ F cs ds τ tr) : ds.length = cs.length := by
 induction h with
 | nil => rfl
 | snoc _ _ _ ih => simp [ih]
theorem iJ.mono {F F' : Nat} (hF : F ≤ F') {cs : List RC} {ds : List IC} {τ : Sub} {tr : List Int} (h : iJ F cs ds τ tr) : iJ F' cs ds τ tr := by
 induction h with
 | nil => exact .nil
 | snoc _ h1 h2 ih => exact .snoc ih (by obtain ⟨ρ, h3, h4⟩ := h1; exact ⟨ρ, h3.mono hF, h4⟩) h2
theorem aND (tr : List Int) {a m : Nat} (h : a ≤ m) (n : Int) : n ∈ tr.drop m ++ (tr.take m).drop a ↔ n ∈ tr.drop a := by
 have e : tr.drop a = (tr.take m).drop a ++ tr.drop m := by
  conv => lhs; rw [← sG m tr]
  rw [List.drop_append]
  by_cases hm : m ≤ tr.length
  · rw [d5, lB hm, show a - m = 0 by omega, tN]
  · rw [List.drop_of_length_le (show tr.length ≤ m by omega)]
    simp
 rw [e, fS, fS, or_comm]
theorem iJ.lift {F : Nat} {cs : List RC} {ds : List IC} {τ : Sub} {tr : List Int} {m : Nat} (h : iJ F cs ds (τ.out (tr.drop m)) (tr.take m)) (hm : m ≤ tr.length) : iJ F cs ds τ tr := by
 generalize hτ : τ.out (tr.drop m) = τ' at h
 generalize htr : tr.take m = tr' at h
 cases h with
 | nil => exact .nil
 | @snoc cs ds c d _ _ h h1 h2 =>
  subst hτ htr
  have hd : d.eP ≤ m := by rw [d5] at h2; omega
  have e1 : (τ.out (tr.drop m)).out ((tr.take m).drop d.eP) = τ.out (tr.drop d.eP) := by
   rw [Sub.aU5]
   exact Sub.aTG τ (aND tr hd)
  have e2 : (tr.take m).take d.eP = tr.take d.eP := by rw [xJ, lB hd]
  rw [e1, e2] at h
  rw [e1] at h1
  exact .snoc h h1 (by omega)
theorem iJ.more {F : Nat} {cs : List RC} {ds : List IC} {τ τ' : Sub} {tr add : List Int} (h : iJ F cs ds τ tr) (e : τ'.out add = τ) : iJ F cs ds τ' (tr ++ add) := by
 refine iJ.lift (m := tr.length) ?_ (by simp)
 rw [GT, DA, e]
 exact h
theorem iJ.take {F : Nat} {cs : List RC} {ds : List IC} {τ : Sub} {tr : List Int} (h : iJ F cs ds τ tr) (k : Nat) : iJ F (cs.take k) (ds.take k) τ tr := by
 induction h with
 | nil => simp; exact .nil
 | @snoc cs ds c d τ tr h h1 h2 ih =>
  have hl := h.len
  by_cases hk : k ≤ cs.length
  · rw [C3 hk, C3 (by omega)]
    exact ih.lift h2
  · rw [mO (by simp; omega), mO (by simp; omega)]
    exact .snoc h h1 h2
def Rl (s : RS) (i : IS) : Prop := ∃ ρ, nQ ρ s.N i.fresh s.σ i.σ ∧ GL ρ s.N s.goals i.goals ∧ iJ i.fresh s.chs i.chs i.σ i.tr
theorem zA.zJ {N : Int} {σ : Sub} {a b : Tm} {r : Bool} {σ' : Sub} {tr : List Int} (h : zA N σ a b r σ' tr) : σ'.out tr = σ := funext fun n => h.out n
theorem mJ.zJ {N : Int} {σ σ' : Sub} {add : List Int} (h : mJ N σ σ' add) : σ'.out add = σ := by
 funext n
 unfold Sub.out
 split
 · rename_i hn; exact ((h.new n hn).1).symm
 · rename_i hn; exact h.a8 n hn
theorem mJ.tY {N : Nat} {σ σ' : Sub} {add : List Int} (h : mJ N σ σ' add) (hd : ∀ n, ¬(0 ≤ n ∧ n < (N : Int)) → σ n = none) : ∀ n, ¬(0 ≤ n ∧ n < (N : Int)) → σ' n = none := fun n hn => by
 rw [h.a8 n fun h' => hn (h.fN n h')]
 exact hd n hn
theorem nQ.grow {ρ : Int → Int} {N F : Nat} {σ τ σ' τ' : Sub} {add aON : List Int} (S : nQ ρ N F σ τ) (h : mJ N σ σ' add) (h' : mJ F τ τ' aON) (s : fA ρ N σ' τ') : nQ ρ N F σ' τ' :=
 ⟨s, S.rng, h.gI, h.ok, h'.gI, h'.ok, h.tY S.d1, h'.tY S.d2, S.h26, S.idn⟩
theorem nQ.yC {ρ : Int → Int} {N F : Nat} {σ τ : Sub} (S : nQ ρ N F σ τ) {t : Tm} (h : bD N t) : bD F (bV ρ t) := h.bV fun v hv => S.rng v (h.1.2.2 v hv).1 (h.1.2.2 v hv).2
section
variable {p : List Cl} (hp : ∀ c ∈ p, gB c)
include hp
theorem HP {cs : List RC} {goal : Tm} {rest : List RG} {σ : Sub} {N : Nat} {ρ : Int → Int} {QA : List IG} {τ : Sub} {tr : List Int} {ds : List IC} {nn at' : Nat} (hg : bD N goal) (hr : GL ρ N rest QA) :
 ∀ (l : List Nat) (F : Nat) (gl : List IG), nQ ρ N F σ τ → iJ F cs ds τ tr →
 match iG p cs goal rest σ N l with
 | none => ∃ F', F ≤ F' ∧ gE p (bV ρ goal) at' QA l ⟨gl, τ, tr, ds, F, nn⟩ = (false, ⟨gl, τ, tr, ds, F', nn⟩)
 | some s => ∃ i, gE p (bV ρ goal) at' QA l ⟨gl, τ, tr, ds, F, nn⟩ = (true, i) ∧ Rl s i := by
 intro l
 induction l with
 | nil => intro F gl S C; exact ⟨F, cY _, rfl⟩
 | cons j l ih =>
  intro F gl S C
  unfold iG gE
  cases hj : p[j]? with
  | none => exact ⟨F, cY _, rfl⟩
  | some x =>
   have hx := hp x (cU hj)
   have S2 := S.ext hx.fr.1
   have hgo : bV (r9 ρ N F) goal = bV ρ goal := MZ fun v hv => sX (hg.1.2.2 v hv).2
   have hhd := hx.dC N x.1 (by simp)
   have hgN : bD ((N + nL x : Nat) : Int) goal := hg.mono (by omega)
   obtain ⟨r, σ', add, U⟩ := rU S2.g1 S2.o1 hgN hhd
   obtain ⟨g, mX⟩ := U.run
   obtain ⟨τ', e, S', _⟩ := S2.sim.iR S2.g1 S2.g2 S2.o1.kZ hgN.1 hhd.1 mX
   rw [hgo, M5 hx x.1 (by simp)] at e
   have hF1 : bD ((F + 26 : Nat) : Int) (bV ρ goal) := by rw [← hgo]; exact S2.yC hgN
   have hF2 : bD ((F + 26 : Nat) : Int) (dC F x.1) := by rw [← M5 (ρ := ρ) (N := N) (F := F) hx x.1 (by simp)]; exact S2.yC hhd
   obtain ⟨r2, τ2, aMF, U2⟩ := rU S2.g2 S2.o2 hF1 hF2
   have e2 := U2.eq
   rw [e] at e2
   obtain ⟨rfl, rfl, rfl⟩ : r = r2 ∧ τ' = τ2 ∧ add.map (r9 ρ N F) = aMF := by simpa using e2
   simp only [U.eq, e]
   cases r with
   | false =>
    simp only [jM, d6]
    have := ih (F + 26) gl (S.mono (by omega)) (C.mono (by omega))
    cases hq : iG p cs goal rest σ N l with
    | none =>
     rw [hq] at this
     obtain ⟨F', h1, h2⟩ := this
     exact ⟨F', by omega, h2⟩
    | some s =>
     rw [hq] at this
     exact this
   | true =>
    simp only [f9]
    refine ⟨_, rfl, r9 ρ N F, S2.grow U.uX U2.uX S', ?_, ?_⟩
    · refine GL.app ⟨?_, fun g hg => ?_⟩ (hr.ext (show N ≤ N + nL x by omega) fun v _ hv => sX hv)
      · simp only [xM]
        refine qX fun t ht => ?_
        simp only [GS]
        rw [M5 hx t (by simp [ht]), C.len]
      · obtain ⟨t, ht, rfl⟩ := cV.1 hg
        exact ⟨hx.dC N t (by simp [ht]), by rw [aE1]; exact (hx.body t ht).2⟩
    · have C2 := (C.mono (show F ≤ F + 26 by omega)).more U2.zJ
      by_cases hl : l = []
      · simp only [aG hl]
        exact C2
      · simp only [aE hl]
        refine .snoc ?_ ?_ (by simp)
        · simp only [GT, DA, U2.zJ]
          exact C.mono (by omega)
        · simp only [GT, U2.zJ]
          exact ⟨ρ, S.mono (by omega), rfl, hg, hr, rfl⟩
theorem LN : ∀ (n : Nat) (cs : List RC) (i : IS), iJ i.fresh cs i.chs i.σ i.tr →
 match fP p n cs with
 | none => gP p n i = none
 | some s => ∃ i', gP p n i = some i' ∧ Rl s i' := by
 intro n
 induction n with
 | zero => intro cs i C; simp only [fP, gP]
 | succ n ih =>
  intro cs i C
  obtain ⟨gl, τ, tr, ds, F, nn⟩ := i
  simp only at C
  cases C with
  | nil => simp only [fP, gP, List.getLast?_nil]
  | @snoc cs ds c d _ _ h h1 h2 =>
   obtain ⟨ρ, S, e1, hok, hG, e2⟩ := h1
   have key := HP hp (cs := cs) (nn := d.taken) (at' := d.node) (tr := tr.take d.eP) hok hG c.left F gl S h
   simp only [fP, gP, List.getLast?_append, List.getLast?_singleton, Option.some_or, RA]
   have e3 : (IS.pop ⟨gl, τ, tr, ds ++ [d], F, nn⟩ d) = ⟨gl, τ.out (tr.drop d.eP), tr.take d.eP, ds, F, d.taken⟩ := by simp only [IS.pop, RA]
   rw [e1, e2, e3]
   cases ht : iG p cs c.goal c.rest c.σ c.N c.left with
   | none =>
    rw [ht] at key
    obtain ⟨F', hF, e⟩ := key
    simp only [e, jM, d6]
    exact ih cs _ (h.mono hF)
   | some s =>
    rw [ht] at key
    obtain ⟨i', e, hR⟩ := key
    simp only [e, f9]
    exact ⟨i', rfl, hR⟩
variable {cnd : Tm → List Nat → List Nat} (hc : ∀ (ρ : Int → Int) (t : Tm) (l : List Nat), cnd (bV ρ t) l = cnd t l)
omit hp in
theorem XY {ρ : Int → Int} {t : Tm} (h : t.k = 3) : (bV ρ t).s = t.s ∧ (bV ρ t).ts = t.ts.map (bV ρ) ∧ (bV ρ t).k = 3 := by
 rw [BW ρ (by omega)]
 exact ⟨rfl, rfl, h⟩
omit hp in
theorem aXA {ρ : Int → Int} {t : Tm} (h : t.k = 3) : fE p (bV ρ t) = fE p t := by
 obtain ⟨h1, h2, _⟩ := XY (ρ := ρ) h
 unfold fE DH
 simp only [h1, h2, aF]
include hc
theorem SP {s : RS} {i : IS} {g : RG} {gs : List RG} (hR : Rl s i) (hgs : s.goals = g :: gs) :
 ∃ h hs, i.goals = h :: hs ∧ match jK p cnd s g gs with
 | .stop e => kW p cnd i h hs = .stop e
 | .go s' => ∃ i', kW p cnd i h hs = .go i' ∧ Rl s' i'
 | .fail => ∃ i', kW p cnd i h hs = .fail i' ∧ iJ i'.fresh s.chs i'.chs i'.σ i'.tr := by
 obtain ⟨ρ, S, hG, C⟩ := hR
 rw [hgs] at hG
 obtain ⟨gl, τ, tr, ds, F, nn⟩ := i
 simp only at S hG C ⊢
 cases gl with
 | nil => exact absurd hG.1 (by simp)
 | cons h hs =>
  refine ⟨h, hs, rfl, ?_⟩
  have hGt : GL ρ s.N gs hs := ⟨(List.cons.inj hG.1).2, fun x hx => hG.2 x (by simp [hx])⟩
  have he := (List.cons.inj hG.1).1
  simp only [Prod.mk.injEq] at he
  obtain ⟨e1, e2⟩ := he
  obtain ⟨hgX, hg3⟩ := hG.2 g (by simp)
  have hT := S.sim.rsT S.g1 S.g2 S.o1.kZ hgX.1
  obtain ⟨rk, B, G⟩ := S.g1.rs
  have hV := G.MS S.o1.kZ hgX.1
  unfold jK kW
  simp only [e1, hT]
  have ht3 : (g.t.aJ (rs s.σ)).k = 3 := by rw [Tm.p9 _ (by omega)]; exact hg3
  generalize g.t.aJ (rs s.σ) = t at *
  obtain ⟨r1, r2, r3⟩ := XY (ρ := ρ) ht3
  have gC : eL (bV ρ t) = eL t := by unfold eL; rw [MM ρ hV.2.1, G4 ρ hV.2.1]
  have wK : pV (bV ρ t) = pV t := by unfold pV; rw [r1, r2, r3, ht3, aF]
  simp only [gC, wK, aXA (p := p) (ρ := ρ) ht3, hc, r1, r2, aF]
  by_cases c1 : eL t = false
  · rw [aG c1, aG c1]
  rw [aE c1, aE c1]
  have hX : bD s.N t := ⟨hV, by
   have : eL t = true := by simpa using c1
   unfold eL at this
   simp only [cM, bJ] at this
   exact this.2⟩
  by_cases c2 : pV t = true
  · rw [aG c2, aG c2]
    refine ⟨_, rfl, ρ, S, hGt, ?_⟩
    simp only [e2]
    exact C.take g.a8
  rw [aE c2, aE c2]
  by_cases c3 : isBuiltin t.s (t.ts.length : Int) = true
  · rw [aG c3, aG c3]
    have hk : ∀ x ∈ t.ts, bD s.N x := pZ _ t (by omega) hX
    obtain ⟨q1, q2, q3⟩ := S.sim.c9 S.g1 S.g2 S.o1 t.s t.ts hk
    have q4 := I3 S.g1 S.o1 t.s t.ts hk
    have q5 := I3 S.g2 S.o2 t.s (t.ts.map (bV ρ)) (fun x hx => by
     obtain ⟨y, hy, rfl⟩ := cV.1 hx
     exact S.yC (hk y hy))
    rw [q1]
    by_cases c4 : (c9 s.σ t.s t.ts).1 = 0
    · rw [aG c4, aG c4]
      exact ⟨_, rfl, ρ, S.grow q4 q5 q3, hGt, C.more q5.zJ⟩
    rw [aE c4, aE c4]
    by_cases c5 : (c9 s.σ t.s t.ts).1 = 1
    · rw [aG c5, aG c5]
      exact ⟨_, rfl, C.more q5.zJ⟩
    rw [aE c5, aE c5]
  rw [aE c3, aE c3]
  by_cases c6 : fE p t = []
  · rw [aG c6, aG c6]
  rw [aE c6, aE c6]
  have key := HP hp (at' := nn) (nn := nn + 1) hX hGt (cnd t (fE p t)) F (h :: hs) S C
  cases hq : iG p s.chs t gs s.σ s.N (cnd t (fE p t)) with
  | none =>
   rw [hq] at key
   obtain ⟨F', hF, e⟩ := key
   simp only [e, jM, d6]
   exact ⟨_, rfl, C.mono hF⟩
  | some s' =>
   rw [hq] at key
   obtain ⟨i', e, hR⟩ := key
   simp only [e, f9]
   exact ⟨i', rfl, hR⟩
end
theorem VV {ρ : Int → Int} {N : Int} {σ τ : Sub} (S : fA ρ N σ τ) : ∀ (l : List Tm) (acc : List Int), (∀ t ∈ l, cD N t) → (∀ v ∈ acc, 0 ≤ v ∧ v < N) → bZ (l.map (bV ρ)) (acc.map ρ) = (bZ l acc).map ρ ∧ ∀ v ∈ bZ l acc, 0 ≤ v ∧ v < N
 | [], acc, _, ha => ⟨rfl, ha⟩
 | t :: l, acc, h, ha => by
  obtain ⟨e1, e2⟩ := aUH (D := fun v => 0 ≤ v ∧ v < N) (h := ρ) (fun v w hv hw e => S.inj v w hv.1 hv.2 hw.1 hw.2 e) (f := fun v => vr (ρ v)) (fun _ _ => rfl) t (Tm.sS t (h t (by simp)).2.1) (h t (by simp)).2.2 acc ha
  simp only [bA, bZ]
  rw [show (bV ρ t).vars (acc.map ρ) = (t.vars acc).map ρ from e1]
  exact VV S l _ (fun x hx => h x (by simp [hx])) e2
theorem aYM {ρ : Int → Int} {N : Int} {σ τ : Sub} (S : fA ρ N σ τ) {l : List Tm} (h : ∀ t ∈ l, cD N t) : oO (l.map (bV ρ)) = oO l ∧ (bZ (l.map (bV ρ)) []).length = (bZ l []).length := by
 obtain ⟨e1, e2⟩ := VV S l [] h (by simp)
 rw [aW] at e1
 refine ⟨?_, by rw [e1, aF]⟩
 unfold oO
 rw [e1, xM]
 refine qX fun t ht => ?_
 simp only [GS]
 rw [EF]
 refine pP t fun v hv => ?_
 rw [UG (D := fun v => 0 ≤ v ∧ v < N) (fun v w hv hw e => S.inj v w hv.1 hv.2 hw.1 hw.2 e) v ((h t ht).2.2 v hv) _ _ e2]
theorem aZM {ρ : Int → Int} {N F : Nat} {σ τ : Sub} (S : nQ ρ N F σ τ) {vars : List Int} (hv : ∀ v ∈ vars, 0 ≤ v ∧ v < 26) : iY τ vars = iY σ vars := by
 obtain ⟨rk, B, G⟩ := S.g1.rs
 have hid := S.idn
 have h26 := S.h26
 have e : vars.map (rs τ) = (vars.map (rs σ)).map (bV ρ) := by
  rw [xM]
  refine qX fun v h => ?_
  obtain ⟨h0, h1⟩ := hv v h
  have := S.sim.rs S.g1 S.g2 S.o1.kZ v h0 (by omega)
  rw [hid v h0 h1] at this
  exact this
 have hok : ∀ t ∈ vars.map (rs σ), cD N t := fun t ht => by
  obtain ⟨v, h, rfl⟩ := cV.1 ht
  obtain ⟨h0, h1⟩ := hv v h
  exact G.kZ S.o1.kZ v h0 (by omega)
 obtain ⟨e1, e2⟩ := aYM S.sim hok
 have e3 : ((vars.map (rs σ)).map (bV ρ)).all eL = (vars.map (rs σ)).all eL := by
  rw [List.all_map, vJ, eW, eW]
  have : ∀ t ∈ vars.map (rs σ), eL (bV ρ t) = eL t := fun t ht => by unfold eL; rw [MM ρ (hok t ht).2.1, G4 ρ (hok t ht).2.1]
  constructor
  · intro h t ht; rw [← this t ht]; exact h t ht
  · intro h t ht; simp only [GS]; rw [this t ht]; exact h t ht
 unfold iY
 rw [e, e1, e2, e3]
section
variable {p : List Cl} (hp : ∀ c ∈ p, gB c) {cnd : Tm → List Nat → List Nat} (hc : ∀ (ρ : Int → Int) (t : Tm) (l : List Nat), cnd (bV ρ t) l = cnd t l)
include hp hc
theorem aTP {vars : List Int} (hv : ∀ v ∈ vars, 0 ≤ v ∧ v < 26) : ∀ (n most fuel : Nat) (s : RS) (i : IS), most + fuel ≤ n → Rl s i → iZ p cnd vars most fuel i = iE p cnd vars most fuel s := by
 intro n
 induction n with
 | zero =>
  intro most fuel s i hn hR
  obtain ⟨rfl, rfl⟩ : most = 0 ∧ fuel = 0 := by omega
  obtain ⟨ρ, S, hG, C⟩ := hR
  rw [iZ, iE]
  cases hgs : s.goals with
  | nil =>
   rw [hgs] at hG
   have hi : i.goals = [] := List.map_eq_nil_iff.1 hG.1
   simp [hi]
  | cons g gs =>
   rw [hgs] at hG
   cases hi : i.goals with
   | nil => rw [hi] at hG; exact absurd hG.1 (by simp)
   | cons h hs => simp
 | succ n ih =>
  intro most fuel s i hn hR
  cases hgs : s.goals with
  | nil =>
   obtain ⟨ρ, S, hG, C⟩ := hR
   rw [hgs] at hG
   have hi : i.goals = [] := List.map_eq_nil_iff.1 hG.1
   rw [iZ, iE]
   simp only [hgs, hi]
   by_cases hm : most = 0
   · simp [hm]
   simp only [hm, dif_neg, GX]
   rw [aZM S hv]
   cases iY s.σ vars with
   | none => rfl
   | some a =>
    simp only
    have key := LN hp s.chs.length s.chs i C
    rw [C.len]
    cases hb : fP p s.chs.length s.chs with
    | none => rw [hb] at key; simp only [key]
    | some s' =>
     rw [hb] at key
     obtain ⟨i', e, hR'⟩ := key
     simp only [e]
     rw [ih (most - 1) fuel s' i' (by omega) hR']
  | cons g gs =>
   obtain ⟨h, hs, hi, key⟩ := SP hp hc hR hgs
   rw [iZ, iE]
   simp only [hgs, hi]
   by_cases hf : fuel = 0
   · simp [hf]
   simp only [hf, dif_neg, GX]
   cases hq : jK p cnd s g gs with
   | stop e =>
    rw [hq] at key
    simp only [key]
   | go s' =>
    rw [hq] at key
    obtain ⟨i', e, hR'⟩ := key
    simp only [e]
    exact ih most (fuel - 1) s' i' (by omega) hR'
   | fail =>
    rw [hq] at key
    obtain ⟨i', e, C'⟩ := key
    simp only [e]
    have JB := LN hp s.chs.length s.chs i' C'
    rw [C'.len]
    cases hb : fP p s.chs.length s.chs with
    | none => rw [hb] at JB; simp only [JB]
    | some s' =>
     rw [hb] at JB
     obtain ⟨i'', e2, hR'⟩ := JB
     simp only [e2]
     exact ih most (fuel - 1) s' i'' (by omega) hR'
omit hp hc in
theorem aBR {q : List Tm} (hq : ∀ t ∈ q, bD 26 t ∧ t.k = 3) : Rl (lO q) (nF q) := by
 refine ⟨fun v => v, ⟨⟨fun v w _ _ _ _ e => e, fun v _ _ => rfl⟩, fun v h0 h1 => ⟨h0, h1⟩, cK.none, fun n u h => (by cases h), cK.none, fun n u h => (by cases h), fun _ _ => rfl, fun _ _ => rfl, cY _, fun _ _ _ => rfl⟩, ⟨?_, fun g hg => ?_⟩, .nil⟩
 · simp only [nF, lO, xM]
   refine qX fun t ht => ?_
   simp only [GS]
   rw [show bV (fun v => v) t = t from M6 t (hq t ht).1.1.2.1]
 · simp only [lO] at hg
   obtain ⟨t, ht, rfl⟩ := cV.1 hg
   exact hq t ht
theorem aZG {q : List Tm} (hq : ∀ t ∈ q, bD 26 t ∧ t.k = 3) (most fuel : Nat) : iZ p cnd (bZ q []) most fuel (nF q) = wO p cnd q most fuel := by
 refine aTP hp hc (fun v hv => ?_) _ most fuel _ _ (cY _) (aBR hq)
 rw [v5 _ _ fun t ht => (hq t ht).1.1.2.1] at hv
 rcases hv with hv | ⟨t, ht, hv⟩
 · cases hv
 · exact (hq t ht).1.1.2.2 v hv
end
theorem aSF {c : Cl} (h : k8 c = true) : gB c := by
 simp only [k8, cM, bJ, eW] at h
 refine ⟨⟨Tm.E4 h.1.1, Tm.J4 h.1.1⟩, fun t ht => ?_⟩
 have hg := h.2.2 t ht
 have hk : t.valid = true ∧ t.k = 3 := by
  obtain ⟨k, n, s, ts⟩ := t
  simp only [Tm.goal, cM] at hg
  refine ⟨hg.1, ?_⟩
  have := hg.2
  simp only [vN, o9, qY, cM, bJ] at this
  simp only [Tm.k]
  rcases this with (h | h) | h <;> first | exact h.1 | exact h.1.1 | exact h.1.1.1
 exact ⟨⟨Tm.E4 hk.1, Tm.J4 hk.1⟩, hk.2⟩
end Go.AW
namespace Go.AW
open Go.Proofs.Tryz
abbrev cX (l : List Tm) : AV := .agg [.slice (l.map Tm.av)]
theorem P3 : ∀ (a b : List Tm) (l : List Int), bZ (a ++ b) l = bZ b (bZ a l)
 | [], _, _ => rfl
 | t :: a, b, l => by simp only [fF, bZ, P3 a b]
abbrev LS := zi tI_3 (zi zI_3 (zi aX (zi tI_31 (zi zI_31 (zi aN (zi bE (zi bF (zi cA (zi tI_51 (zi zI_51 (zi dV (zi fV (zi fW (zi fZ (zi tI_63 (zi zI_63 (zi bR (zi bQ (zi bP (zi bT bU))))))))))))))))))))
theorem aA7 (q : List Tm) (st : aB) (hwf : ∀ t ∈ q, t.wf = true) (hsz : bG Tm.nodes q ≤ 1099511627776) : aD prog 69 [.slice (q.map Tm.av)] st (fun r st' => r = .slice ((bZ q []).map iv) ∧ st' = st) := by
 refine aD.done ?_
 refine wF [1000000] 1 func69 ntmps69 rfl rfl ?_
 simp only [eD, AV.fits, eM, aF]
 intro ⟨hl, _⟩
 simp -implicitDefEqProofs only [aA, seval, LS]
 refine rH (σ := Unit) [1000000] [0, 2] q 1 3 (fun i _ => (bZ (q.take i) []).map iv) (fun _ _ => True) (fun i _ => [(4, .int .i64 i)]) (fun _ _ => st) (fun i _ _ e he => by simp only [cV] at he; obtain ⟨t, _, rfl⟩ := he; exact ⟨rfl, rfl⟩) (by decide +kernel) ⟨(), 0, trivial, fun h => absurd rfl h, aO.mk (by simp -implicitDefEqProofs only [jF, kQ, bZ, aW, aA, ↓aU, seval])⟩ (fun i x s b hx hlt bS hdr hinv hb => ?_) (fun s b hge hinv => ?_)
 case refine_2 =>
  simp -implicitDefEqProofs only [hge, eC, iI, oK, lT, eS, aF, aA, seval, LS]
  exact ⟨rfl, aM.refl _⟩
 have hw := bK (n := (i : Int) + 1)
 have hat := bL (av := Tm.av) aN hx (aH x)
 have hst := DK Tm.nodes hx
 have hvl := wI (q.take i) []
 simp only [aZ, gV] at hvl
 have htk : x.vars (bZ (q.take i) []) = bZ (q.take (i + 1)) [] := by
  rw [fM, hx, P3]
  try rfl
 simp -implicitDefEqProofs only [bS, aF, hat, aA, seval, LS]
 refine (FH x (bZ (q.take i) []) b st (hwf x (cU hx)) hb (by omega)).mono ?_
 rintro _ _ ⟨b', rfl, rfl, hb'⟩
 rw [htk] at hb' ⊢
 simp -implicitDefEqProofs only [aA, seval]
 exact ⟨(), b', hb', aO.mk (by simp -implicitDefEqProofs only [hw, aA, seval])⟩
end Go.AW
namespace Go.AW
theorem cB.of {h : bH} {st st' : aB} (hk : ∀ x, st x = none → st' x = none) : cB h st h st' := ⟨cY _, fun x _ e => ⟨rfl, hk x e⟩, fun _ c _ _ e => ⟨c, e, rfl⟩⟩
theorem fK.aXK {φ : AF} {st : aB} {b c : Nat} {es cs : List AV} (hbc : b ≠ c) (h1 : st b = some (.cells (es.flatMap AV.cells))) (h2 : ∀ e ∈ es, e.cC = false) (h3 : g9 es) (hc : st c = some (.cells cs)) :
 fK φ st φ ((st.erase b).aC c (.cells (kI b es cs))) := fun h tmps S F => by
 have T2 : cB h (st.erase b) h ((st.erase b).aC c (.cells (kI b es cs))) := cB.of fun x hx => by
  have : x ≠ c := by rintro rfl; simp [aB.erase, dA hbc, hc] at hx
  rw [aB.aL _ _ this]; exact hx
 have T : cB h st h ((st.erase b).aC c (.cells (kI b es cs))) := ((jI st b).step h).trans T2
 refine ⟨fun x o hx => ?_, T, fun d => (F d).mono T⟩
 by_cases e : x = c
 · subst e
   rw [aB.aQ] at hx
   cases hx
   obtain ⟨hl, c0, t, e1, e2, vs, e3, e4⟩ := S x _ hc
   refine ⟨hl, c0, t, e1, ?_, vs, e3, a7.mono T2 _ _ (a7.fz S h1 h2 h3 cs vs e4)⟩
   rw [JP, aF]; exact e2
 · rw [aB.aL _ _ e] at hx
   have hx' : st x = some o := by
    simp only [aB.erase] at hx
    split at hx
    · cases hx
    · exact hx
   obtain ⟨hl, y⟩ := S x o hx'
   exact ⟨hl, k0.mono T rfl y⟩
theorem fK.aYC {φ : AF} {st : aB} {c : Nat} {cs : List AV} (hc : st c = some (.cells cs)) : fK φ st φ (st.aC c (.cells (gN cs))) := fun h tmps S F => by
 have T : cB h st h (st.aC c (.cells (gN cs))) := cB.of fun x hx => by
  have : x ≠ c := by rintro rfl; rw [hc] at hx; cases hx
  rw [aB.aL _ _ this]; exact hx
 refine ⟨fun x o hx => ?_, T, fun d => (F d).mono T⟩
 by_cases e : x = c
 · subst e
   rw [aB.aQ] at hx
   cases hx
   obtain ⟨hl, c0, t, e1, e2, vs, e3, e4⟩ := S x _ hc
   refine ⟨hl, c0, t, e1, ?_, vs, e3, a7.mono T _ _ (a7.soft cs vs e4)⟩
   rw [xD, aF]; exact e2
 · rw [aB.aL _ _ e] at hx
   obtain ⟨hl, y⟩ := S x o hx
   exact ⟨hl, k0.mono T rfl y⟩
theorem aYA {φ : AF} {S : aB} {c b : Nat} {k n : Int} {s : ByteArray} {l : List AV} (hb : l ≠ [] → (S.aC c (.cells ([.int .i64 k, .int .i64 n, .str s] ++ [a9 4 b l]))) b = none) (hj : ∀ e ∈ l, e.cC = false) (hE : g9 l) :
 fK φ (eU S c b [.int .i64 k, .int .i64 n, .str s] l) φ (S.aC c (.cells [.int .i64 k, .int .i64 n, .str s, .slice l])) := by
 have hcc := d8 hb
 cases l with
 | nil =>
  have := fK.aYC (φ := φ) hcc
  unfold eU at this ⊢
  simp only [xG, dD] at this
  exact this
 | cons y l =>
  have h0 := hb (by simp)
  have hne : b ≠ c := by rintro rfl; rw [aB.aQ] at h0; cases h0
  have h1 : eU S c b [.int .i64 k, .int .i64 n, .str s] (y :: l) b = some (.cells ((y :: l).flatMap AV.cells)) := by unfold eU; simp only [aY]; exact aB.aQ _ _ _
  have := fK.aXK (φ := φ) hne h1 hj hE hcc
  have e : (eU S c b [.int .i64 k, .int .i64 n, .str s] (y :: l)).erase b = S.aC c (.cells ([.int .i64 k, .int .i64 n, .str s] ++ [a9 4 b (y :: l)])) := by unfold eU; simp only [aY]; exact aB.wR _ _ _ h0
  rw [e, dD] at this
  simpa [kI, AV.fz, a9] using this
theorem FR {S : aB} {c b : Nat} {hd hd' l : List AV} (hb : l ≠ [] → (S.aC c (.cells (hd ++ [a9 4 b l]))) b = none) :
 (eU S c b hd l).aC c (.cells (hd' ++ [a9 4 b l])) = eU S c b hd' l ∧ (l ≠ [] → (S.aC c (.cells (hd' ++ [a9 4 b l]))) b = none) := by
 have hne : l ≠ [] → c ≠ b := fun h e => by have := hb h; rw [← e, aB.aQ] at this; cases this
 refine ⟨by unfold eU; rw [n7 hne, dD], fun h => ?_⟩
 have := hb h
 rw [aB.aL _ _ (dA (hne h))] at this ⊢
 exact this
theorem O5 {s0 st : aB} {b : Nat} {l : List AV} (D : aM s0 st) : aM (aY s0 b l) (aY st b l) := by
 cases l with
 | nil => exact D
 | cons y l =>
  intro x
  simp only [aY]
  by_cases e : x = b
  · subst e; simp [aB.aQ]
  · rw [aB.aL _ _ e, aB.aL _ _ e]; exact D x
end Go.AW
