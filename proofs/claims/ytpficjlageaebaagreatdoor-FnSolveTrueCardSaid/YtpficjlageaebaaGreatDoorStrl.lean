import Derived.Test.YtpficjlageaebaaGreatDoorStrj
import Derived.Test.YtpficjlageaebaaGreatDoorStrk
import Derived.Test.YtpficjlageaebaaGreatDoorStrf
import Derived.Test.YtpficjlageaebaaGreatDoorStri
set_option linter.unusedSimpArgs false
set_option linter.unusedVariables false
set_option maxRecDepth 100000
namespace Go.AW
open Go.Proofs.Tryz
def cT (N : Nat) (σ : Sub) : List AV := (List.range N).map fun i : Nat => cellOf (σ (i : Int))
theorem B4 (N : Nat) (σ : Sub) : ∀ e ∈ cT N σ, e.width = 4 := by intro e h; simp only [cT, cU] at h; obtain ⟨i, _, rfl⟩ := h; exact JX _
theorem yD (N : Nat) (σ : Sub) {i : Nat} (h : i < N) : (cT N σ)[i]? = some (cellOf (σ (i : Int))) := by
 simp only [cT, oT, List.getElem?_range h, qX]
theorem aX7 (N : Nat) (σ : Sub) {i : Nat} (h : i < N) (u : Tm) : (cT N σ).set i u.av = cT N (σ.set (i : Int) u) := by
 apply K3
 intro j
 by_cases hj : j < N
 · rw [yD N _ hj, List.getElem?_set]
   by_cases e : i = j
   · subst e
     simp [cT, hj, Sub.set, cellOf]
   · rw [aE e, yD N _ hj]
     simp only [Sub.set]
     rw [aE (by omega)]
 · rw [xS (by simp [cT]; omega), xS (by simp [cT]; omega)]
def fA (N : Nat) (st : aB) (b : Nat) (σ : Sub) : Prop := st b = some (.cells ((cT N σ).flatMap AV.cells))
theorem fA.mid {N : Nat} {st : aB} {b : Nat} {σ : Sub} (h : fA N st b σ) {i : Nat} (hi : i < N) :
 ∃ A B, st b = some (.cells (A ++ (cellOf (σ (i : Int))).cells ++ B)) ∧ A.length = i * 4 ∧ ∀ (u : Tm), fA N (st.aC b (.cells (A ++ u.av.cells ++ B))) b (σ.set (i : Int) u) := by
 obtain ⟨A, B, h1, h2, h3⟩ := aN3 (B4 N σ) (yD N σ hi)
 refine ⟨A, B, by rw [← h1]; exact h, h2, fun u => ?_⟩
 unfold fA
 rw [aB.aO, ← aX7 N σ hi, h3]
theorem fA.aC {N : Nat} {st : aB} {b x : Nat} {σ : Sub} {o : AO} (h : fA N st b σ) (hx : x ≠ b) : fA N (st.aC x o) b σ := by
 unfold fA
 rw [aB.aM _ _ (dB hx)]
 exact h
theorem fA.none {N : Nat} {st : aB} {b : Nat} {σ : Sub} (h : fA N st b σ) {i : Nat} (hi : i < N) (hn : σ (i : Int) = Option.none) :
 ∃ D, st b = some (.cells D) ∧ D[i * 4 + 0]? = some (.int .i64 0) ∧ i * 4 + 4 ≤ D.length := by
 obtain ⟨A, B, e1, e2, _⟩ := h.mid hi
 rw [hn] at e1
 obtain ⟨r1, r2, r3⟩ := SS (B := B) (C := (cellOf Option.none).cells) e2 rfl
 exact ⟨_, e1, r3, r1⟩
theorem fA.some {N : Nat} {st : aB} {b : Nat} {σ : Sub} (h : fA N st b σ) {i : Nat} (hi : i < N) {k n : Int} {s : ByteArray} {ts : List Tm} (hn : σ (i : Int) = Option.some (.mk k n s ts)) :
 ∃ D, st b = Option.some (.cells D) ∧ D[i * 4 + 0]? = Option.some (.int .i64 k) ∧ i * 4 + 4 ≤ D.length ∧ List.take 4 (List.drop (i * 4) D) = [.int .i64 k, .int .i64 n, .str s, .slice (ts.map Tm.av)] := by
 obtain ⟨A, B, e1, e2, _⟩ := h.mid hi
 rw [hn] at e1
 simp only [cellOf, aV, AV.cells] at e1
 obtain ⟨r1, r2, r3⟩ := SS (B := B) (C := [.int .i64 k, .int .i64 n, .str s, .slice (ts.map Tm.av)]) e2 rfl
 exact ⟨_, e1, r3, r1, r2⟩
theorem fA.set {N : Nat} {st : aB} {b : Nat} {σ : Sub} (h : fA N st b σ) {i : Nat} (hi : i < N) (u : Tm) :
 ∃ D D', st b = Option.some (.cells D) ∧ i * 4 + 4 ≤ D.length ∧ aK D (i * 4) u.av.cells = D' ∧ fA N (st.aC b (.cells D')) b (σ.set (i : Int) u) := by
 obtain ⟨A, B, e1, e2, e3⟩ := h.mid hi
 obtain ⟨p1, p2⟩ := aQ7 (B := B) (C := (cellOf (σ (i : Int))).cells) (x := u.av.cells) e2 (aZA _) (bO u)
 exact ⟨_, _, e1, p2, p1, e3 u⟩
abbrev A9 := zi tI_3 (zi zI_3 (zi aX (zi tI_31 (zi zI_31 (zi aN (zi bF (zi bE (zi b9 (zi tI_63 (zi zI_63 (zi bS (zi bR (zi bP (zi bQ bT))))))))))))))
theorem XY {N : Nat} {σ : Sub} (hok : cP (cD N) σ) {f : Nat} {t u : Tm} (hw : fP σ f t u) (ht : cD N t) (b : Nat) (st : aB) (hS : fA N st b σ) : aD prog 177 [t.av, .mslice b 0 N 4] st (fun r st' => r = u.av ∧ st' = st) := by
 refine aD.done ?_
 refine wF [1000000, 2] 2 func177 ntmps177 rfl rfl ?_
 intro _
 simp -implicitDefEqProofs only [aA, seval, A9]
 intro b2 h2 b4 h4
 have hne : b4 ≠ b2 := by rintro rfl; rw [aB.aO] at h4; cases h4
 have hn4 : st b4 = none := by rw [aB.aM st _ hne] at h4; exact h4
 have hb2 : b2 ≠ b := by rintro rfl; rw [fA, h2] at hS; cases hS
 have hb4 : b4 ≠ b := by rintro rfl; rw [fA, hn4] at hS; cases hS
 refine g9 (σ := Nat × Tm) [1000000, 2] [1, 2, 4] (fun p => fP σ p.1 p.2 u ∧ cD N p.2) (fun p => []) (fun p => (st.aC b2 (.cells p.2.av.cells)).aC b4 (.cells [.int .i64 0, .int .i64 0, .str ⟨#[]⟩, .fslice []])) (fun p => p.1) (by decide +kernel) ⟨(f, t), ⟨hw, ht⟩, aP.mk (by simp -implicitDefEqProofs only [aA, seval])⟩ ?_
 rintro ⟨g, t⟩ ⟨hw, ht⟩
 obtain ⟨k, n, s, ts⟩ := t
 simp only at hw ht
 simp only [aV]
 have jP : k ≠ 1 ∨ σ n = none → u = .mk k n s ts := fun h => by
  cases hw with
  | stop _ => rfl
  | go h1 h2 _ =>
   simp only [Tm.k] at h1
   rcases h with h | h
   · exact absurd h1 h
   · rw [show σ n = some _ from h2] at h; cases h
 simp -implicitDefEqProofs only [hne.symm, aA, seval, A9]
 refine cS (fun h => ?_) (fun h => ?_)
 case refine_2 =>
  simp -implicitDefEqProofs only [h, aK, hne.symm, aA, seval, A9]
  simp only [oU, dH] at h
  rw [jP (.inl h), ← aV]
  exact ⟨Tm.soft _, ((aL.refl _).aC h2).aC hn4⟩
 simp only [bJ] at h
 subst h
 obtain ⟨hn0, hn1, _⟩ := ht.var
 obtain ⟨i, rfl⟩ : ∃ i : Nat, n = i := ⟨n.toNat, by omega⟩
 have hi : i < N := by omega
 have hi' : decide ((i : Int) < (N : Int)) = true := by simp; omega
 simp -implicitDefEqProofs only [bM, hi', iM, hne.symm, aA, seval, A9]
 have hat := zE (P := prog) (b := b) (len := N) aN hi
 cases hw with
 | stop hs =>
  obtain ⟨D, e1, e2, _⟩ := hS.none hi (hs rfl)
  simp -implicitDefEqProofs only [hat, e1, e2, bM, aK, hne.symm, hb2.symm, hb4.symm, aA, seval, A9]
  exact ⟨by rw [← aV, Tm.soft], ((aL.refl _).aC h2).aC hn4⟩
 | go h1 h2' h3 =>
  simp only [Tm.n] at h2'
  have ho := hok _ _ h2'
  rename_i g' u'
  obtain ⟨k', n', s', ts'⟩ := u'
  have hk' : ¬ k' = 0 := by have := ho.kind.1; omega
  obtain ⟨D, e1, e2, e3, e4⟩ := hS.some hi h2'
  have e5 : i * 4 + 0 + 4 ≤ D.length := e3
  simp -implicitDefEqProofs only [hat, e1, e2, e3, e4, hk', bX, aK, hne.symm, hb2.symm, hb4.symm, aA, seval, A9]
  rw [aB.t6 hne, aB.nK _ _ _ hne]
  refine ⟨(g', .mk k' n' s' ts'), K5 _, ⟨h3, ho⟩, ?_⟩
  simp only [aV]
  exact aP.mk (by simp -implicitDefEqProofs only [aA, seval])
theorem fA.acc {N : Nat} {st : aB} {b bW : Nat} {σ : Sub} {l : List AV} (h : fA N st b σ) (hb : l ≠ [] → st bW = Option.none) : fA N (aZ st bW l) b σ := by
 cases l with
 | nil => exact h
 | cons x l => exact h.aC (by rintro rfl; rw [fA, hb (by simp)] at h; cases h)
abbrev FS := zi tI_3 (zi zI_3 (zi aX (zi tI_4 (zi zI_4 (zi cF (zi tI_31 (zi zI_31 (zi aN (zi bF (zi bE (zi b9 (zi tI_51 (zi zI_51 (zi dV (zi fS (zi fV (zi gA (zi tI_63 (zi zI_63 (zi bS (zi bR (zi bP (zi bQ bT)))))))))))))))))))))))
theorem aQK {N : Nat} {σ : Sub} {R : Int → Tm} {rk : Int → Nat} {B : Nat} (G : Good σ R rk B) (hok : cP (bD N) σ) (hN : N ≤ 1048576) {n : Int} (hn : σ n = none) (t : Tm) (ht : bD N t) (b : Nat) (st : aB) (hS : fA N st b σ) :
 aD prog 180 [.int .i64 n, t.av, .mslice b 0 N 4] st (fun r st' => r = .bool (decide (n ∈ (t.aJ R).vl)) ∧ st' = st) := by
 refine aD.done ?_
 refine wF [1000000] 3 func180 ntmps180 rfl rfl ?_
 intro _
 simp -implicitDefEqProofs only [aA, seval, FS]
 have h0 := GN t [] 0 st (Tm.sN t (ht.1.2.1)) (fun h => absurd rfl h) (by have := ht.2; simp only [a7]; omega)
 simp only [aW, jH, wY] at h0
 refine h0.mono ?_
 rintro _ _ ⟨b0, rfl, rfl, hb0⟩
 obtain ⟨v1, v2, _⟩ := N4 t (Tm.sN t (ht.1.2.1)) []
 simp -implicitDefEqProofs only [aA, seval]
 refine g9 (σ := Nat × List Int × Nat) [1000000] [0, 2]
  (fun p => p.1 ≤ p.2.1.length ∧ p.2.1.Nodup ∧ (∀ w ∈ p.2.1, w ∈ VN N) ∧ (p.2.1.map iv ≠ [] → st p.2.2 = none) ∧ (∀ w ∈ p.2.1.take p.1, w ≠ n ∧ ∀ u, σ w = some u → ∀ v ∈ u.vl, v ∈ p.2.1) ∧ (∀ w ∈ p.2.1, n ∈ (R w).vl → n ∈ (t.aJ R).vl) ∧ (n ∈ (t.aJ R).vl → ∃ w ∈ p.2.1, n ∈ (R w).vl))
  (fun p => [(6, .bool false), (7, a9 1 p.2.2 (p.2.1.map iv)), (8, .int .i64 p.1)]) (fun p => aZ st p.2.2 (p.2.1.map iv)) (fun p => N - p.1) (by decide +kernel)
  ⟨(0, t.vars [], b0), ⟨jD _, v2 pW, fun w hw => ?_, hb0, by simp, fun w hw hm => ?_, fun hm => ?_⟩, aP.mk (by simp -implicitDefEqProofs only [aA, ↓aU, seval])⟩ ?_
 · rcases (v1 w).1 hw with h | h
   · cases h
   · exact uE.2 (ht.1.2.2 w h)
 · rcases (v1 w).1 hw with h | h
   · cases h
   · exact (w4 t).2 ⟨w, h, hm⟩
 · obtain ⟨w, hw, hm⟩ := (w4 t).1 hm
   exact ⟨w, (v1 w).2 (.inr hw), hm⟩
 rintro ⟨i, W, bW⟩ ⟨i1, i2, i3, i4, i5, i6, i7⟩
 simp only at i1 i2 i3 i4 i5 i6 i7
 have haL := sU (w := 1) (b := bW) (l := W.map iv) gA
 have hWl := A0 i2 (fun m hm => uE.1 (i3 m hm))
 simp -implicitDefEqProofs only [haL, aF, aA, seval]
 refine aQ (fun h => ?_) (fun h => ?_)
 case refine_2 =>
  simp only [dH, mQ] at h
  obtain rfl : i = W.length := by omega
  rw [eS] at i5
  simp -implicitDefEqProofs only [aA, seval]
  have hno : n ∉ (t.aJ R).vl := fun hm => by
   obtain ⟨w, hw, hnw⟩ := i7 hm
   exact aTY G i5 w hw hnw
  exact ⟨by simp only [hno, bX, rP], aL.aZ (aL.refl _) i4⟩
 simp only [bJ, mQ] at h
 obtain ⟨w, hx⟩ : ∃ w, W[i]? = some w := ⟨_, fG h⟩
 have gJ := cW hx
 have hat := UK (b := bW) (l := W.map iv) (i := i) (x := iv w) dV (by rw [oT, hx]; try rfl)
 obtain ⟨gM, xA⟩ := TW (st := st) (b := bW) hx
 have hw := bK (n := (i : Int) + 1)
 simp -implicitDefEqProofs only [hat, gM, xA, DE, aA, seval, FS]
 refine aQ (fun h2 => ?_) (fun h2 => ?_)
 · simp only [bJ] at h2
   subst h2
   simp -implicitDefEqProofs only [aA, seval]
   have hm : w ∈ (t.aJ R).vl := i6 w gJ (by rw [G.free hn, wD]; simp)
   exact ⟨by simp only [hm, bM, rP], aL.aZ (aL.refl _) i4⟩
 simp only [dH] at h2
 simp -implicitDefEqProofs only [hat, gM, xA, DE, aA, seval, FS]
 obtain ⟨hw0, hw1⟩ := uE.1 (i3 w gJ)
 obtain ⟨j, rfl⟩ : ∃ j : Nat, w = j := ⟨w.toNat, by omega⟩
 have hj : j < N := by omega
 have hj' : decide ((j : Int) < (N : Int)) = true := by simp; omega
 have aKS := zE (P := prog) (b := b) (len := N) aN hj
 have hSA := hS.acc i4
 have htk : W.take (i + 1) = W.take i ++ [(j : Int)] := by rw [fM, hx]; try rfl
 have step : ∀ W' : List Int, (∀ v ∈ W, v ∈ W') → (∀ u, σ (j : Int) = some u → ∀ v ∈ u.vl, v ∈ W') → ∀ w ∈ W'.take (i + 1), W'.take (i + 1) = W.take (i + 1) → w ≠ n ∧ ∀ u, σ w = some u → ∀ v ∈ u.vl, v ∈ W' := by
  intro W' yS lH w hw' hte
  rw [hte, htk] at hw'
  rcases fR.1 hw' with hw' | hw'
  · exact ⟨(i5 w hw').1, fun u hu v hv => yS v ((i5 w hw').2 u hu v hv)⟩
  · simp only [cY, dP, d4] at hw'
    subst hw'
    exact ⟨h2, lH⟩
 cases hs : σ (j : Int) with
 | none =>
  obtain ⟨D, e1, e2, _⟩ := hSA.none hj hs
  simp -implicitDefEqProofs only [hj', aKS, e1, e2, bM, iM, hat, gM, xA, DE, hw, aA, seval, FS]
  exact ⟨(i + 1, W, bW), by simp only; omega, ⟨h, i2, i3, i4, fun w hw' => step W (fun _ h => h) (fun u hu => by rw [hs] at hu; cases hu) w hw' rfl, i6, i7⟩, aP.mk (by simp -implicitDefEqProofs only [aA, seval])⟩
 | some u =>
  obtain ⟨k', n', s', ts'⟩ := u
  have ho := hok _ _ hs
  have hk' : ¬ k' = 0 := by have := ho.1.kind.1; omega
  obtain ⟨D, e1, e2, e3, e4⟩ := hSA.some hj hs
  simp -implicitDefEqProofs only [hj', aKS, e1, e2, e3, e4, hk', bX, iM, hat, gM, xA, DE, aA, seval, FS]
  have hwf := Tm.sN _ (ho.1.2.1)
  have hc := GN (.mk k' n' s' ts') W bW st hwf i4 (by have := ho.2; omega)
  obtain ⟨u1, u2, m, u3⟩ := N4 _ hwf W
  rw [aV] at hc
  refine hc.mono ?_
  rintro _ _ ⟨b', rfl, rfl, hb'⟩
  generalize (Tm.mk k' n' s' ts').vars W = W' at *
  have hte : W'.take (i + 1) = W.take (i + 1) := by rw [u3, C8 (by omega)]
  have hbd : (Tm.mk k' n' s' ts').aJ R = R (j : Int) := (G.bound hs).symm
  simp -implicitDefEqProofs only [hw, aA, seval]
  refine ⟨(i + 1, W', b'), by simp only; omega, ⟨by rw [u3]; simp only [dQ]; omega, u2 i2, fun w hw' => ?_, hb', fun w hw' => step W' (fun v hv => (u1 v).2 (.inl hv)) (fun u hu v hv => ?_) w hw' hte, fun w hw' hm => ?_, fun hm => ?_⟩, aP.mk (by simp -implicitDefEqProofs only [aA, seval])⟩
  · rcases (u1 w).1 hw' with h | h
    · exact i3 w h
    · exact uE.2 (ho.1.2.2 w h)
  · rw [hs] at hu
    cases hu
    exact (u1 v).2 (.inr hv)
  · rcases (u1 w).1 hw' with h | h
    · exact i6 w h hm
    · refine i6 (j : Int) gJ ?_
      rw [← hbd]
      exact (w4 _).2 ⟨w, h, hm⟩
  · obtain ⟨w, h, hm⟩ := i7 hm
    exact ⟨w, (u1 w).2 (.inl h), hm⟩
def AN (N b : Nat) (st : aB) (σ' : Sub) (st' : aB) : Prop := fA N st' b σ' ∧ ∀ x o, st x = some o → x ≠ b → st' x = some o
theorem AN.refl {N b : Nat} {st : aB} {σ : Sub} (h : fA N st b σ) : AN N b st σ st := ⟨h, fun _ _ h _ => h⟩
theorem AN.trans {N b : Nat} {st s2 s3 : aB} {σ2 σ3 : Sub} (x : AN N b st σ2 s2) (y : AN N b s2 σ3 s3) : AN N b st σ3 s3 := ⟨y.1, fun q o h hn => y.2 q o (x.2 q o h hn) hn⟩
def DP (N : Nat) (f : Nat) (b : Nat) (σ : Sub) (a c : Tm) (r : Bool) (σ' : Sub) : Prop := ∀ st, fA N st b σ → aD prog f [a.av, c.av, .mslice b 0 N 4] st (fun r' st' => r' = .bool r ∧ AN N b st σ' st')
abbrev l8 := zi tI_3 (zi zI_3 (zi aX (zi tI_4 (zi zI_4 (zi cF (zi tI_9 (zi zI_9 (zi cH (zi tI_31 (zi zI_31 (zi aN (zi bF (zi bE (zi b9 (zi tI_63 (zi zI_63 (zi bS (zi bR (zi bP (zi bQ bT))))))))))))))))))))
theorem aBM (N : Nat) (hN : N ≤ 1048576) (g : Nat) (bb : Nat) (IH : ∀ (σ : Sub) (a b : Tm) (r : Bool) (σ' : Sub) (add : List Int), cK σ → cP (bD N) σ → bD N a → bD N b → dD g σ a b = some (r, σ', add) → DP N 145 bb σ a b r σ')
 (σ : Sub) (a b : Tm) (r : Bool) (σ' : Sub) (add : List Int) (hg : cK σ) (hok : cP (bD N) σ) (ha0 : bD N a) (hb0 : bD N b) (h : dD (g + 1) σ a b = some (r, σ', add))
 (TK : (wk σ a).k ≠ 1 → (wk σ b).k = 1 → DP N 145 bb σ (wk σ b) (wk σ a) r σ') : DP N 145 bb σ a b r σ' := by
 intro st hS
 obtain ⟨rk, B, G⟩ := hg.rs
 obtain ⟨fa, wa⟩ := G.wk a
 obtain ⟨fb, wb⟩ := G.wk b
 have I5 : cP (cD N) σ := fun n u hu => (hok n u hu).1
 have hca := fun st (hS : fA N st bb σ) => XY I5 wa ha0.1 bb st hS
 have hcb := fun st (hS : fA N st bb σ) => XY I5 wb hb0.1 bb st hS
 have ea := wa.end
 have eb := wb.end
 have hsa := wa.all (p := bD N) hok ha0
 have hsb := wb.all (p := bD N) hok hb0
 replace h := I6 h
 generalize wk σ a = a1 at *
 generalize wk σ b = b1 at *
 clear wa wb
 refine wF [1000000, 3, 4] 3 func145 ntmps145 rfl rfl ?_
 intro fT
 simp -implicitDefEqProofs only [aA, seval, l8]
 intro b4 h4 b5 h5
 have h54 : b5 ≠ b4 := by rintro rfl; rw [aB.aO] at h5; cases h5
 have hn5 : st b5 = none := by rw [aB.aM st _ h54] at h5; exact h5
 have h4b : b4 ≠ bb := by rintro rfl; rw [fA, h4] at hS; cases hS
 have h5b : b5 ≠ bb := by rintro rfl; rw [fA, hn5] at hS; cases hS
 have hS' : ∀ o o', fA N ((st.aC b4 o).aC b5 o') bb σ := fun o o' => (hS.aC h4b).aC h5b
 have hQ : ∀ o o', AN N bb st σ ((st.aC b4 o).aC b5 o') := fun o o' => ⟨hS' o o', fun x p h _ => by
  rw [aB.aM _ _ (by rintro rfl; rw [hn5] at h; cases h), aB.aM _ _ (by rintro rfl; rw [h4] at h; cases h)]; exact h⟩
 simp -implicitDefEqProofs only [bO, d8 (bO a), eD (aT a), h54.symm, aA, seval]
 refine (hca _ (hS' _ _)).to ?_
 simp -implicitDefEqProofs only [bO, d8 (bO b), eD (aT b), bZ, aK, h54, h54.symm, aA, seval, l8]
 rw [aB.t6 h54, aB.nK _ _ _ h54]
 refine (hcb _ (hS' _ _)).to ?_
 obtain ⟨ka, na, sa, tsa⟩ := a1
 obtain ⟨kb, nb, sb', tsb⟩ := b1
 obtain ⟨hla, W3⟩ := Tm.oD (hsa.1.small)
 obtain ⟨hlb, aK5⟩ := Tm.oD (hsb.1.small)
 have gR : ∀ o o', AN N bb st σ ((st.aC b4 o).aC b5 o') := hQ
 have hka := fun h => (pX N) _ h hsa
 have hkb := fun h => (pX N) _ h hsb
 simp only [aV]
 simp only [Tm.k, Tm.n, Tm.ts] at h ea eb TK hka hkb
 simp -implicitDefEqProofs only [dE, aK, h54.symm, aA, seval, l8]
 have var : ∀ {n : Int} {t : Tm}, n ∈ VN N → σ n = none → bD N t → jO σ n t = (r, σ', add) → ∀ s0, fA N s0 bb σ → aD prog 180 [.int .i64 n, t.av, .mslice bb 0 N 4] s0 (fun r' st' => r' = .bool (!r) ∧ st' = s0) := by
  intro n t _ hn ht hb s0 hs0
  have := aQK G hok hN hn t ht bb s0 hs0
  unfold jO at hb
  split at hb
  · rename_i hm
    cases hb
    simpa [hm] using this
  · rename_i hm
    cases hb
    simpa [hm] using this
 rcases h with ⟨h1, h2, h3, rfl, rfl, rfl⟩ | ⟨h1, h2, h3⟩ | ⟨h1, h2, h3⟩ | ⟨h1, h2, h3, h4⟩ | ⟨h1, h2, h3, rfl, rfl, rfl⟩
 · subst h1 h2 h3
   simp -implicitDefEqProofs only [bM, iM, h54.symm, aA, seval, l8]
   exact gR _ _
 · subst h1
   have hin := uE.2 (hsa.1.2.2 na (by rw [Tm.mH rfl]; simp))
   obtain ⟨hn0, hn1⟩ := uE.1 hin
   have hcw := var hin (ea rfl) hsb h3 _ (hS' (.cells [.int .i64 1, .int .i64 na, .str sa, .slice (tsa.map Tm.av)]) (.cells [.int .i64 kb, .int .i64 nb, .str sb', .slice (tsb.map Tm.av)]))
   have hna := ea rfl
   rw [aV] at hcw
   obtain ⟨i, rfl⟩ : ∃ i : Nat, na = i := ⟨na.toNat, by omega⟩
   have hi : i < N := by omega
   have hat := zE (P := prog) (b := bb) (len := N) aN hi
   have h6 : kb = 1 → ¬ (i : Int) = nb := fun e1 e => h2 ⟨e1, e⟩
   have tail : ∀ (s0 : aB), s0 = ((st.aC b4 (.cells [.int .i64 1, .int .i64 i, .str sa, .slice (tsa.map Tm.av)])).aC b5 (.cells [.int .i64 kb, .int .i64 nb, .str sb', .slice (tsb.map Tm.av)])) → r = true →
    ∃ D D', s0 bb = some (.cells D) ∧ i * 4 + 4 ≤ D.length ∧ aK D (i * 4) [.int .i64 kb, .int .i64 nb, .str sb', .slice (tsb.map Tm.av)] = D' ∧ AN N bb st σ' (s0.aC bb (.cells D')) := by
    rintro _ rfl rfl
    unfold jO at h3
    split at h3
    · cases h3
    · cases h3
      obtain ⟨D, D', e1, e2, e3, e4⟩ := (hS' (.cells [.int .i64 1, .int .i64 i, .str sa, .slice (tsa.map Tm.av)]) (.cells [.int .i64 kb, .int .i64 nb, .str sb', .slice (tsb.map Tm.av)])).set hi (.mk kb nb sb' tsb)
      refine ⟨D, D', e1, e2, by rw [← e3, aV]; try rfl, e4, fun x o hx hxb => ?_⟩
      rw [aB.aM _ _ hxb]
      exact (hQ _ _).2 x o hx hxb
   by_cases h5 : kb = 1
   · subst h5
     simp -implicitDefEqProofs only [bM, h6 rfl, bX, iM, h54.symm, aA, seval, l8]
     refine hcw.to ?_
     cases r with
     | false =>
      simp -implicitDefEqProofs only [aA, seval]
      unfold jO at h3
      split at h3
      · cases h3
        exact gR _ _
      · cases h3
     | true =>
      obtain ⟨D, D', e1, e2, e3, e4⟩ := tail _ rfl rfl
      simp -implicitDefEqProofs only [hat, e1, e2, aK, h54.symm, aA, seval, l8]
      rw [← e3] at e4
      exact e4
   · simp -implicitDefEqProofs only [bM, h5, bX, iM, h54.symm, aA, seval, l8]
     refine hcw.to ?_
     cases r with
     | false =>
      simp -implicitDefEqProofs only [aA, seval]
      unfold jO at h3
      split at h3
      · cases h3
        exact gR _ _
      · cases h3
     | true =>
      obtain ⟨D, D', e1, e2, e3, e4⟩ := tail _ rfl rfl
      simp -implicitDefEqProofs only [hat, e1, e2, aK, h54.symm, aA, seval, l8]
      rw [← e3] at e4
      exact e4
 · subst h2
   have hsw := TK h1 rfl
   simp only [DP, aV] at hsw
   simp -implicitDefEqProofs only [bM, h1, bX, iM, h54.symm, aA, seval, l8]
   refine (hsw _ (hS' _ _)).mono ?_
   rintro _ s2 ⟨rfl, hp⟩
   simp -implicitDefEqProofs only [aA, seval]
   exact (hQ _ _).trans hp
 · rw [rZ] at h3
   simp only [Tm.k, Tm.n, Tm.s, Tm.ts] at h3
   obtain ⟨rfl, rfl, rfl, hlen⟩ := h3
   have cV : decide ((tsa.length : Int) = (tsb.length : Int)) = true := by simp [hlen]
   simp -implicitDefEqProofs only [bM, bX, cV, iM, h54.symm, aF, h1, aA, seval, l8]
   have hS0 := hS' (.cells [.int .i64 ka, .int .i64 na, .str sa, .slice (tsa.map Tm.av)]) (.cells [.int .i64 ka, .int .i64 na, .str sa, .slice (tsb.map Tm.av)])
   have hQ0 := hQ (.cells [.int .i64 ka, .int .i64 na, .str sa, .slice (tsa.map Tm.av)]) (.cells [.int .i64 ka, .int .i64 na, .str sa, .slice (tsb.map Tm.av)])
   have e4 : ((st.aC b4 (.cells [.int .i64 ka, .int .i64 na, .str sa, .slice (tsa.map Tm.av)])).aC b5 (.cells [.int .i64 ka, .int .i64 na, .str sa, .slice (tsb.map Tm.av)])) b4 = some (.cells [.int .i64 ka, .int .i64 na, .str sa, .slice (tsa.map Tm.av)]) := by rw [aB.aM _ _ h54.symm, aB.aO]
   have e5 : ((st.aC b4 (.cells [.int .i64 ka, .int .i64 na, .str sa, .slice (tsa.map Tm.av)])).aC b5 (.cells [.int .i64 ka, .int .i64 na, .str sa, .slice (tsb.map Tm.av)])) b5 = some (.cells [.int .i64 ka, .int .i64 na, .str sa, .slice (tsb.map Tm.av)]) := aB.aO _ _ _
   generalize (st.aC b4 (.cells [.int .i64 ka, .int .i64 na, .str sa, .slice (tsa.map Tm.av)])).aC b5 (.cells [.int .i64 ka, .int .i64 na, .str sa, .slice (tsb.map Tm.av)]) = s0 at *
   refine eK (σ := Sub × List Int × aB) [1000000, 3, 4] [2, 3, 4] tsa
    (fun i p => cK p.1 ∧ cP (bD N) p.1 ∧ AN N bb s0 p.1 p.2.2 ∧ dU g p.1 (tsa.drop i) (tsb.drop i) = some (r, σ', p.2.1))
    (fun i _ => [(6, .bool false), (7, .int .i64 i)]) (fun _ p => p.2.2) (by decide +kernel)
    ⟨(σ, add, s0), ⟨hg, hok, AN.refl hS0, h4⟩, aP.mk (by simp -implicitDefEqProofs only [aA, ↓aU, seval])⟩ (fun i x p hx hlt bU hdr hinv => ?_) (fun p hge hinv => ?_)
   case refine_2 =>
    obtain ⟨σi, rest, si⟩ := p
    obtain ⟨i1, i2, i3, i5⟩ := hinv
    simp only at i1 i2 i3 i5
    have f4 := i3.2 b4 _ e4 h4b
    rw [kF, hlen, kF] at i5
    simp only [dU, Option.some.injEq, Prod.mk.injEq] at i5
    obtain ⟨rfl, rfl, rfl⟩ := i5
    simp -implicitDefEqProofs only [hge, f4, aF, aA, seval, l8]
    exact hQ0.trans i3
   obtain ⟨σi, rest, si⟩ := p
   obtain ⟨i1, i2, i3, i5⟩ := hinv
   simp only at i1 i2 i3 i5
   obtain ⟨y, hy⟩ : ∃ y, tsb[i]? = some y := ⟨_, fG (by omega)⟩
   have x6 : tsb.drop i = y :: tsb.drop (i + 1) := by
    obtain ⟨h1, h2⟩ := gQ.1 hy
    rw [qW h1, h2]
   rw [hdr, x6, dU] at i5
   have f4 := i3.2 b4 _ e4 h4b
   have f5 := i3.2 b5 _ e5 h5b
   have hw := bK (n := (i : Int) + 1)
   simp -implicitDefEqProofs only [bU, aF, f4, aA, seval, l8]
   refine wP [(0, 1), (2, 1), (5, 1), (7, 1), (10, 1), (1, 2), (3, 1), (4, 2), (6, 2), (8, 1), (9, 2), (11, 0), (12, 1)] [0, 2, 5, 7, 10, 1, 3, 4, 6, 8, 9, 12] mixed ?_
   simp -implicitDefEqProofs only [f4, f5, bL (av := Tm.av) aN hx (aH x), bL (av := Tm.av) aN hy (aH y), aA, seval, l8]
   cases hu : dD g σi x y with
   | none => rw [hu] at i5; cases i5
   | some p1 =>
    obtain ⟨r1, σ1, tr1⟩ := p1
    rw [hu] at i5
    have hx1 : bD N x := hka h1 x (cW hx)
    have hy1 : bD N y := hkb h2 y (cW hy)
    have hU := uR i1 hu
    have hA := (J3 (pX N) g).1 σi x y r1 σ1 tr1 i1 hu i2 hx1 hy1
    refine (IH σi x y r1 σ1 tr1 i1 i2 hx1 hy1 hu si i3.1).mono ?_
    rintro _ s2 ⟨rfl, hp2⟩
    cases r1 with
    | false =>
     simp only [Option.some.injEq, Prod.mk.injEq] at i5
     obtain ⟨rfl, rfl, rfl⟩ := i5
     simp -implicitDefEqProofs only [aA, seval]
     exact hQ0.trans (i3.trans hp2)
    | true =>
     simp only at i5
     cases hu2 : dU g σ1 (tsa.drop (i + 1)) (tsb.drop (i + 1)) with
     | none => rw [hu2] at i5; cases i5
     | some p2 =>
      obtain ⟨r2, σ2, tr2⟩ := p2
      rw [hu2] at i5
      simp only [Option.some.injEq, Prod.mk.injEq] at i5
      obtain ⟨rfl, rfl, _⟩ := i5
      simp -implicitDefEqProofs only [aA, seval]
      exact ⟨(σ1, tr2, s2), ⟨hU.gI, hA, i3.trans hp2, hu2⟩, aP.mk (by simp -implicitDefEqProofs only [hw, aA, seval])⟩
 · have hd : ka = kb → na = nb → sa = sb' → ¬ (tsa.length : Int) = (tsb.length : Int) := by
    intro e1 e2 e3 e4
    have : sV (Tm.mk ka na sa tsa) (Tm.mk kb nb sb' tsb) = true := rZ.2 ⟨e1, e2, e3, by simp only [Tm.ts]; omega⟩
    rw [h3] at this; cases this
   by_cases e1 : ka = kb
   · by_cases e2 : na = nb
     · by_cases e3 : sa = sb'
       · have e4 := hd e1 e2 e3
         subst e1 e2 e3
         simp -implicitDefEqProofs only [bX, bM, iM, h54.symm, h1, aF, e4, aA, seval, l8]
         exact gR _ _
       · subst e1 e2
         simp -implicitDefEqProofs only [bX, bM, iM, h54.symm, h1, e3, aA, seval, l8]
         exact gR _ _
     · subst e1
       simp -implicitDefEqProofs only [bX, bM, iM, h54.symm, h1, e2, aA, seval, l8]
       exact gR _ _
   · clear hd
     simp -implicitDefEqProofs only [bX, iM, h54.symm, h1, h2, e1, aA, seval, l8]
     exact gR _ _
theorem aEA (N : Nat) (hN : N ≤ 1048576) (bb : Nat) : ∀ (g : Nat) (σ : Sub) (a b : Tm) (r : Bool) (σ' : Sub) (add : List Int), cK σ → cP (bD N) σ → bD N a → bD N b → dD g σ a b = some (r, σ', add) → DP N 145 bb σ a b r σ'
 | 0, σ, a, b, r, σ', add, hg, hok, ha, hb, h => by simp only [dD] at h; cases h
 | g + 1, σ, a, b, r, σ', add, hg, hok, ha, hb, h => by
  refine aBM N hN g bb (aEA N hN bb g) σ a b r σ' add hg hok ha hb h fun h1 h2 => ?_
  obtain ⟨rk, B, G⟩ := hg.rs
  obtain ⟨fa, wa⟩ := G.wk a
  obtain ⟨fb, wb⟩ := G.wk b
  have eb := aHT wb
  have ea := aHT wa
  have hbn : jO σ (wk σ b).n (wk σ a) = (r, σ', add) := by
   rcases I6 h with h | h | h | h | h
   · exact absurd h.1 h1
   · exact absurd h.1 h1
   · exact h.2.2
   · exact absurd h2 h.2.1
   · exact absurd h2 h.2.1
  refine aBM N hN 0 bb (fun σ a b r σ' add _ _ _ _ h => by simp only [dD] at h; cases h) σ (wk σ b) (wk σ a) r σ' add hg hok (wb.all (p := bD N) hok hb) (wa.all (p := bD N) hok ha) ?_ fun h3 => ?_
  · rw [dD, eb, ea, aE (fun h => h1 h.2.1), aG h2, hbn]
  · rw [eb] at h3; exact absurd h2 h3
end Go.AW
namespace Go.AW
noncomputable def qP (σ : Sub) (a b : Tm) : Int × Sub × List Int := (gX (iU σ a b).1, (iU σ a b).2)
noncomputable def uS (σ : Sub) (x y z : Tm) : Int × Sub × List Int :=
 if x.k = 1 ∨ y.k = 1 then (2, σ, []) else if x.k ≠ 2 ∨ y.k ≠ 3 ∨ y.ts.length = 0 then (3, σ, []) else match mA x y with
  | some u => qP σ z u
  | none => (1, σ, [])
noncomputable def c8 (σ : Sub) (s : ByteArray) : List Tm → Int × Sub × List Int
 | [] => (gX (decide (s = ⟨#[116, 114, 117, 101]⟩)), σ, [])
 | [x] => (gX (rF s x), σ, [])
 | [x, y] => if fO qJ s = true then (v3 s x y, σ, []) else if s = ⟨#[61]⟩ then qP σ x y else if s = ⟨#[92, 61]⟩ then (gX (!(iU σ x y).1), σ, [])
  else if s = ⟨#[61, 61]⟩ then (gX (x.same y), σ, []) else if y.ev.2 ≠ 0 then (y.ev.2, σ, []) else qP σ x (mT y.ev.1)
 | [x, y, z] => uS σ x y z
 | _ => (0, σ, [])
structure l7 (N : Int) (σ : Sub) (σ' : Sub) (add : List Int) : Prop where
 gI : cK σ'
 ok : cP (bD N) σ'
 a8 : ∀ n, n ∉ add → σ' n = σ n
 new : ∀ n ∈ add, σ n = none ∧ σ' n ≠ none
 nodup : add.Nodup
 fO : ∀ n ∈ add, 0 ≤ n ∧ n < N
theorem l7.same {N : Int} {σ : Sub} (hg : cK σ) (ho : cP (bD N) σ) : l7 N σ σ [] := ⟨hg, ho, fun _ _ => rfl, by simp, pW, by simp⟩
theorem zC.uH {N : Int} {σ : Sub} {a b : Tm} {r : Bool} {σ' : Sub} {tr : List Int} (h : zC N σ a b r σ' tr) : l7 N σ σ' tr := ⟨h.mE.gI, h.ok, h.mE.a8, h.mE.new, h.mE.nodup, h.fO⟩
theorem l7.mE {N : Nat} {σ : Sub} {a b : Tm} (hg : cK σ) (ho : cP (bD N) σ) (ha : bD N a) (hb : bD N b) : l7 N σ (iU σ a b).2.1 (iU σ a b).2.2 := by
 obtain ⟨r, σ', tr, h⟩ := sF hg ho ha hb
 rw [h.eq]
 exact h.uH
theorem J4 {N : Int} {n : Int} (h : jN n) : bD N (mT n) := by
 have h1 := aUB h
 have h2 := Tm.DK h1
 refine ⟨⟨h2.1, h2.2.1, fun v hv => ?_⟩, Tm.HJ h1⟩
 unfold mT at hv
 rw [Tm.kM (by decide)] at hv
 obtain ⟨t, ht, _⟩ := hv
 cases ht
theorem UN {N : Int} {x y u : Tm} (hy : bD N y) (hk : y.k ≠ 1) (h : mA x y = some u) : bD N u := pX N y hk hy u (aJZ h)
theorem KA {N : Nat} {σ : Sub} (hg : cK σ) (ho : cP (bD N) σ) (s : ByteArray) (ks : List Tm) (hv : ∀ x ∈ ks, bD N x) : l7 N σ (c8 σ s ks).2.1 (c8 σ s ks).2.2 := by
 have hs := l7.same hg ho
 match ks, hv with
 | [], _ => exact hs
 | [x], _ => exact hs
 | [x, y], hv =>
  have hx := hv x (by simp)
  have hy := hv y (by simp)
  simp only [c8]
  split
  · exact hs
  split
  · exact l7.mE hg ho hx hy
  split
  · exact hs
  split
  · exact hs
  split
  · exact hs
  · exact l7.mE hg ho hx (J4 (Tm.sQ y hy.1))
 | [x, y, z], hv =>
  have hy := hv y (by simp)
  have hz := hv z (by simp)
  simp only [c8, uS]
  split
  · exact hs
  rename_i h1
  split
  · exact hs
  split
  · rename_i u hu
    exact l7.mE hg ho hz (UN hy (fun h => h1 (.inr h)) hu)
  · exact hs
 | a :: b :: c :: d :: l, _ => exact hs
theorem aUI (ρ : Int → Int) : ∀ t : Tm, (bV ρ t).ev = t.ev := by
 intro t
 induction t using Tm.ind with
 | h k n s ts ih =>
  by_cases h1 : k = 1
  · rw [v9 ρ (t := .mk k n s ts) h1, vr, Tm.w5, Tm.w5, h1]
    simp
  rw [uZ ρ h1, Tm.w5, Tm.w5, xR]
  have : ts.map (Tm.ev ∘ bV ρ) = ts.map Tm.ev := qY fun x hx => ih x hx
  rw [this]
section
variable {ρ : Int → Int} {N : Int} {σ τ : Sub}
theorem fB.back (S : fB ρ N σ τ) : ∃ δ : Int → Int, ∀ v, 0 ≤ v → v < N → δ (ρ v) = v := by
 refine ⟨fun w => open Classical in if h : ∃ v, 0 ≤ v ∧ v < N ∧ ρ v = w then h.choose else 0, fun v h0 h1 => ?_⟩
 have h : ∃ u, 0 ≤ u ∧ u < N ∧ ρ u = ρ v := ⟨v, h0, h1, rfl⟩
 simp only [dif_pos h]
 obtain ⟨a, b, c⟩ := h.choose_spec
 exact S.inj _ _ a b h0 h1 c
theorem fB.aWT (S : fB ρ N σ τ) {x y : Tm} (hx : cD N x) (hy : cD N y) (e : bV ρ x = bV ρ y) : x = y := by
 obtain ⟨δ, hδ⟩ := S.back
 have key : ∀ {t : Tm}, cD N t → bV δ (bV ρ t) = t := fun {t} ht => by
  rw [show bV δ (bV ρ t) = t.aJ fun v => vr (δ (ρ v)) from GP ρ _ t]
  rw [oZ (g := vr) t fun v hv => by rw [hδ v (ht.2.2 v hv).1 (ht.2.2 v hv).2]]
  exact L0 t ht.2.1
 rw [← key hx, e, key hy]
theorem fB.same (S : fB ρ N σ τ) {x y : Tm} (hx : cD N x) (hy : cD N y) : (bV ρ x).same (bV ρ y) = x.same y := by
 rw [vM, Tm.I9, Tm.I9]
 exact ⟨S.aWT hx hy, fun e => by rw [e]⟩
theorem aYI (ρ : Int → Int) (s : ByteArray) (x : Tm) : rF s (bV ρ x) = rF s x := by
 unfold rF
 rw [wK]
 by_cases h : x.k = 1
 · rw [h]; simp
 · have : (bV ρ x).ts.length = x.ts.length := by
    rw [BI ρ h]
    simp only [Tm.ts, aF]
   rw [this]
theorem aW8 (ρ : Int → Int) {x y : Tm} (hx : x.k = 2) (hy : y.k = 3) : mA (bV ρ x) (bV ρ y) = (mA x y).map (bV ρ) := by
 obtain ⟨k, n, s, ts⟩ := x
 obtain ⟨k', n', s', ts'⟩ := y
 simp only [Tm.k] at hx hy
 subst hx hy
 rw [uZ ρ (by decide), uZ ρ (by decide)]
 unfold mA
 show (if 1 ≤ n ∧ n ≤ ((ts'.map (bV ρ)).length : Int) then (ts'.map (bV ρ))[(n - 1).toNat]? else none) = Option.map (bV ρ) (if 1 ≤ n ∧ n ≤ (ts'.length : Int) then ts'[(n - 1).toNat]? else none)
 by_cases h : 1 ≤ n ∧ n ≤ (ts'.length : Int)
 · rw [aG h, aG (by rw [aF]; exact h), oT]
 · rw [aE h, aE (by rw [aF]; exact h)]; try rfl
def lG (ρ : Int → Int) (N : Int) (x y : Int × Sub × List Int) : Prop := y.1 = x.1 ∧ y.2.2 = x.2.2.map ρ ∧ fB ρ N x.2.1 y.2.1
theorem lG.same (S : fB ρ N σ τ) (c : Int) : lG ρ N (c, σ, []) (c, τ, []) := ⟨rfl, rfl, S⟩
end
section
variable {ρ : Int → Int} {N : Nat} {σ τ : Sub}
theorem lG.mE (S : fB ρ N σ τ) (hg : cK σ) (hg' : cK τ) (ho : cP (bD N) σ) {a b : Tm} (ha : bD N a) (hb : bD N b) : lG ρ N (qP σ a b) (qP τ (bV ρ a) (bV ρ b)) := by
 obtain ⟨r, σ', tr, h⟩ := sF hg ho ha hb
 obtain ⟨g, hg2⟩ := h.run
 obtain ⟨τ', e, S', _⟩ := S.iU hg hg' ho.kV ha.1 hb.1 hg2
 unfold qP
 rw [h.eq, e]
 exact ⟨rfl, rfl, S'⟩
theorem aVA (ρ : Int → Int) (n : Int) : bV ρ (mT n) = mT n := uZ ρ (by decide)
theorem fB.c8 (S : fB ρ N σ τ) (hg : cK σ) (hg' : cK τ) (ho : cP (bD N) σ) (s : ByteArray) (ks : List Tm) (hv : ∀ x ∈ ks, bD N x) : lG ρ N (AW.c8 σ s ks) (AW.c8 τ s (ks.map (bV ρ))) := by
 match ks, hv with
 | [], _ => exact lG.same S _
 | [x], _ =>
  simp only [bA, aW, AW.c8, aYI]
  exact lG.same S _
 | [x, y], hv =>
  have hx := hv x (by simp)
  have hy := hv y (by simp)
  have hu := lG.mE S hg hg' ho hx hy
  simp only [bA, aW, AW.c8, v3, aUI, S.same hx.1 hy.1]
  by_cases h1 : fO qJ s = true
  · rw [aG h1, aG h1]; exact lG.same S _
  rw [aE h1, aE h1]
  by_cases h2 : s = ⟨#[61]⟩
  · rw [aG h2, aG h2]; exact hu
  rw [aE h2, aE h2]
  by_cases h3 : s = ⟨#[92, 61]⟩
  · rw [aG h3, aG h3]
    obtain ⟨r, σ', tr, h⟩ := sF hg ho hx hy
    obtain ⟨g, hg2⟩ := h.run
    obtain ⟨τ', e, _, _⟩ := S.iU hg hg' ho.kV hx.1 hy.1 hg2
    rw [h.eq, e]
    exact lG.same S _
  rw [aE h3, aE h3]
  by_cases h4 : s = ⟨#[61, 61]⟩
  · rw [aG h4, aG h4]; exact lG.same S _
  rw [aE h4, aE h4]
  by_cases h5 : y.ev.2 ≠ 0
  · rw [aG h5, aG h5]; exact lG.same S _
  rw [aE h5, aE h5]
  have := lG.mE S hg hg' ho hx (J4 (N := N) (Tm.sQ y hy.1))
  rw [aVA] at this
  exact this
 | [x, y, z], hv =>
  have hy := hv y (by simp)
  have hz := hv z (by simp)
  simp only [bA, aW, AW.c8, uS, wK]
  by_cases h1 : x.k = 1 ∨ y.k = 1
  · rw [aG h1, aG h1]; exact lG.same S _
  rw [aE h1, aE h1]
  have hl : (bV ρ y).ts.length = y.ts.length := by
   rw [BI ρ (t := y) (fun h => h1 (.inr h))]
   simp only [Tm.ts, aF]
  rw [hl]
  by_cases h2 : x.k ≠ 2 ∨ y.k ≠ 3 ∨ y.ts.length = 0
  · rw [aG h2, aG h2]; exact lG.same S _
  rw [aE h2, aE h2]
  have kx : x.k = 2 := C7 fun h => h2 (.inl h)
  have ky : y.k = 3 := C7 fun h => h2 (.inr (.inl h))
  rw [aW8 ρ kx ky]
  cases hu : mA x y with
  | none => exact lG.same S _
  | some u => exact lG.mE S hg hg' ho hz (UN hy (fun h => h1 (.inr h)) hu)
 | a :: b :: c :: d :: l, _ =>
  simp only [bA, AW.c8]
  exact lG.same S _
end
theorem aVL (σ : Sub) (s : ByteArray) (ks : List Tm) : 0 ≤ (c8 σ s ks).1 := by
 have hc : ∀ b, 0 ≤ gX b := fun b => by unfold gX; split <;> omega
 have hr : ∀ n, 0 ≤ (iN n).2 := fun n => by unfold iN; split <;> simp
 have har : ∀ s a b, 0 ≤ (qS s a b).2 := fun s a b => by
  unfold qS
  split
  · exact hr _
  split
  · exact hr _
  split
  · exact hr _
  split
  · simp
  split
  · simp
  · simp
 have hb : ∀ (f : Int → Int → Int × Int) (x y : Int × Int), (∀ a b, 0 ≤ (f a b).2) → 0 ≤ x.2 → 0 ≤ y.2 → 0 ≤ (both f x y).2 := fun f x y hf hx hy => by
  unfold both
  split
  · exact hx
  split
  · exact hy
  · exact hf _ _
 have he : ∀ t : Tm, 0 ≤ t.ev.2 := by
  intro t
  induction t using Tm.ind with
  | h k n s ts ih =>
   rw [Tm.w5]
   split
   · simp
   split
   · simp
   split
   · match ts, ih with
     | [], _ => simp [two]
     | [x], _ => simp [two]
     | [x, y], ih => exact hb _ _ _ (har s) (ih x (by simp)) (ih y (by simp))
     | x :: y :: z :: l, _ => simp [two]
   · simp
 match ks with
 | [] => exact hc _
 | [x] => exact hc _
 | [x, y] =>
  simp only [c8]
  split
  · exact hb _ _ _ (fun _ _ => hc _) (he x) (he y)
  split
  · exact hc _
  split
  · exact hc _
  split
  · exact hc _
  split
  · exact he y
  · exact hc _
 | [x, y, z] =>
  simp only [c8, uS]
  split
  · simp
  split
  · simp
  split
  · exact hc _
  · simp
 | a :: b :: c :: d :: l => simp [c8]
end Go.AW
namespace Go.AW
open Go.Proofs.Tryz
theorem aOA (σ : Sub) (x y z : Tm) : uS σ x y z = if (p7 x y).2 = 0 then qP σ z (p7 x y).1 else ((p7 x y).2, σ, []) := by
 unfold uS p7
 split
 · simp
 split
 · simp
 cases mA x y <;> rfl
def qI (N bb : Nat) (st : aB) (x : Int × Sub × List Int) (r : AV) (st' : aB) : Prop := r = .int .i64 x.1 ∧ AN N bb st x.2.1 st'
theorem qI.same {N bb : Nat} {st : aB} {σ : Sub} {r : AV} (h : fA N st bb σ) (k : Int) (hr : r = .int .i64 k) : qI N bb st (k, σ, []) r st := ⟨hr, AN.refl h⟩
theorem FP {N : Nat} (hN : N ≤ 1048576) {σ : Sub} (hg : cK σ) (ho : cP (bD N) σ) (a b : Tm) (ha : bD N a) (hb : bD N b) (bb : Nat) (st : aB) (hS : fA N st bb σ) :
 aD prog 145 [a.av, b.av, .mslice bb 0 N 4] st (fun r st' => r = .bool (iU σ a b).1 ∧ AN N bb st (iU σ a b).2.1 st') := by
 obtain ⟨r, σ', tr', hU⟩ := sF hg ho ha hb
 obtain ⟨g, m8⟩ := hU.run
 rw [hU.eq]
 exact aEA N hN bb g σ a b r σ' tr' hg ho ha hb m8 st hS
abbrev pB := zi tI_3 (zi zI_3 (zi aX (zi tI_4 (zi zI_4 (zi cF (zi tI_9 (zi zI_9 (zi cH (zi tI_31 (zi zI_31 (zi aN (zi bF (zi bE (zi b9 (zi tI_63 (zi zI_63 (zi bS (zi bR (zi bP (zi bQ bT))))))))))))))))))))
theorem aMH {N : Nat} (hN : N ≤ 1048576) {σ : Sub} (hg : cK σ) (ho : cP (bD N) σ) (n : Int) (s : ByteArray) (ks : List Tm) (hb : isBuiltin s (ks.length : Int) = true) (hne : s ≠ ⟨#[92, 61]⟩) (hv : ∀ x ∈ ks, bD N x) (bb : Nat) (st : aB) (hS : fA N st bb σ) :
 aD prog 132 [(Tm.mk 3 n s ks).av, .mslice bb 0 N 4] st (qI N bb st (c8 σ s ks)) := by
 have hcs := YK hb
 have AT := fun x y (hxy : ks = [x, y]) => aS2 n s x y (hv x (by simp [hxy])).1 (hv y (by simp [hxy])).1
 have aLQ := fun x y z (hxy : ks = [x, y, z]) => aW4 n s x y z (hv y (by simp [hxy])).1
 have ZU := fun x (hxy : ks = [x]) h => aRD n s x h
 simp only [aV] at AT aLQ ZU ⊢
 refine wF [1000000] 2 func132 ntmps132 rfl rfl ?_
 intro _
 simp -implicitDefEqProofs only [aA, seval, pB]
 refine aQ (fun h => ?_) (fun h => ?_)
 · have hs : s = ⟨#[116, 114, 117, 101]⟩ := by simpa using h
   have hk := G8 (ts := ks) (by subst hs; simpa [isBuiltin] using hb)
   subst hk
   simp -implicitDefEqProofs only [aA, seval]
   exact qI.same hS _ (by simp [gX, hs])
 have ht : s ≠ ⟨#[116, 114, 117, 101]⟩ := by simpa using h
 simp -implicitDefEqProofs only [aA, seval]
 refine aQ (fun h => ?_) (fun h => ?_)
 · have hs : s = ⟨#[102, 97, 105, 108]⟩ := by simpa using h
   have hk := G8 (ts := ks) (by subst hs; simpa [isBuiltin] using hb)
   subst hk
   simp -implicitDefEqProofs only [aA, seval]
   exact qI.same hS _ (by simp [gX, hs])
 have hf : s ≠ ⟨#[102, 97, 105, 108]⟩ := by simpa using h
 simp -implicitDefEqProofs only [aA, seval]
 refine aQ (fun h => ?_) (fun h => ?_)
 · have hs : s = ⟨#[61]⟩ := by simpa using h
   obtain ⟨x, y, rfl⟩ := sW (ts := ks) (by subst hs; simp [isBuiltin] at hb; omega)
   have e : c8 σ s [x, y] = qP σ x y := by subst hs; rfl
   rw [e]
   have dT : dJ prog 31 (.slice [x.av, y.av]) (.int .i64 0) = some (.pptr x.av) := bL (av := Tm.av) (l := [x, y]) (i := 0) aN rfl (aH x)
   have fZ : dJ prog 31 (.slice [x.av, y.av]) (.int .i64 1) = some (.pptr y.av) := bL (av := Tm.av) (l := [x, y]) (i := 1) aN rfl (aH y)
   simp -implicitDefEqProofs only [aA, seval]
   refine wX [(0, 1), (1, 1), (2, 1), (3, 1), (4, 1), (5, 1), (6, 1), (7, 1), (8, 1), (9, 0), (10, 0), (11, 1)] [0, 1, 2, 3, 4, 5, 6, 7, 8, 11] dY mixed rfl f0 ?_
   simp -implicitDefEqProofs only [dT, fZ, aT, aH, aA, seval, pB]
   refine (FP hN hg ho x y (hv x (by simp)) (hv y (by simp)) bb _ hS).mono ?_
   rintro _ s2 ⟨rfl, hP⟩
   simp -implicitDefEqProofs only [aA, seval]
   refine ⟨f0, ?_⟩
   refine (sC _ _).to ?_
   simp -implicitDefEqProofs only [aA, seval]
   exact ⟨f0, rfl, hP⟩
 have he : s ≠ ⟨#[61]⟩ := by simpa using h
 simp -implicitDefEqProofs only [aA, seval]
 refine aQ (fun h => absurd (by simpa using h) hne) (fun h => ?_)
 simp -implicitDefEqProofs only [aA, seval]
 refine aQ (fun h => ?_) (fun h => ?_)
 · have hs : s = ⟨#[61, 61]⟩ := by simpa using h
   obtain ⟨x, y, rfl⟩ := sW (ts := ks) (by subst hs; simp [isBuiltin] at hb; omega)
   have e : c8 σ s [x, y] = (gX (x.same y), σ, []) := by subst hs; rfl
   rw [e]
   have dT : dJ prog 31 (.slice [x.av, y.av]) (.int .i64 0) = some (.pptr x.av) := bL (av := Tm.av) (l := [x, y]) (i := 0) aN rfl (aH x)
   have fZ : dJ prog 31 (.slice [x.av, y.av]) (.int .i64 1) = some (.pptr y.av) := bL (av := Tm.av) (l := [x, y]) (i := 1) aN rfl (aH y)
   simp -implicitDefEqProofs only [aA, seval]
   refine KR mixed (by decide +kernel) (by decide +kernel) ?_
   simp -implicitDefEqProofs only [dT, fZ, aT, aH, aA, seval, pB]
   refine i8 (Y5 x y _) ?_
   simp -implicitDefEqProofs only [aA, seval]
   refine i8 (sC _ _) ?_
   simp -implicitDefEqProofs only [aA, seval]
   exact qI.same hS _ rfl
 have hee : s ≠ ⟨#[61, 61]⟩ := by simpa using h
 simp -implicitDefEqProofs only [aA, seval]
 refine aQ (fun h => ?_) (fun h => ?_)
 · have hs : s = ⟨#[105, 115]⟩ := by simpa using h
   obtain ⟨x, y, rfl⟩ := sW (ts := ks) (by subst hs; simp [isBuiltin] at hb; omega)
   have e : c8 σ s [x, y] = if y.ev.2 ≠ 0 then (y.ev.2, σ, []) else qP σ x (mT y.ev.1) := by subst hs; rfl
   rw [e]
   have hy := hv y (by simp)
   have hin := J4 (N := N) (Tm.sQ y hy.1)
   have har := fun st => JR y st hy.1
   generalize y.ev.1 = a at *
   generalize y.ev.2 = ca at *
   have dT : dJ prog 31 (.slice [x.av, y.av]) (.int .i64 0) = some (.pptr x.av) := bL (av := Tm.av) (l := [x, y]) (i := 0) aN rfl (aH x)
   have fZ : dJ prog 31 (.slice [x.av, y.av]) (.int .i64 1) = some (.pptr y.av) := bL (av := Tm.av) (l := [x, y]) (i := 1) aN rfl (aH y)
   simp -implicitDefEqProofs only [fZ, aT, aH, aA, seval, pB]
   refine (har _).to ?_
   simp -implicitDefEqProofs only [aA, seval]
   refine aQ (fun h4 => ?_) (fun h4 => ?_)
   · simp -implicitDefEqProofs only [aA, seval]
     have h4' : ca ≠ 0 := by simpa using h4
     rw [aG h4']
     exact qI.same hS _ rfl
   have h4' : ca = 0 := by simpa using h4
   subst h4'
   rw [aE (by simp)]
   simp -implicitDefEqProofs only [aA, seval]
   refine wX [(0, 1), (1, 1), (2, 1), (3, 1), (4, 1), (6, 1), (5, 0), (7, 0), (8, 0), (9, 1)] [0, 1, 2, 3, 4, 6, 9] dY mixed rfl f0 ?_
   simp -implicitDefEqProofs only [dT, aT, aH, aA, seval, pB]
   refine (AZ a _).to ?_
   rw [← aXQ]
   simp -implicitDefEqProofs only [aA, seval]
   refine ⟨f0, ?_⟩
   refine (FP hN hg ho x (mT a) (hv x (by simp)) hin bb _ hS).mono ?_
   rintro _ s2 ⟨rfl, hP⟩
   simp -implicitDefEqProofs only [aA, seval]
   refine ⟨f0, ?_⟩
   refine (sC _ _).to ?_
   simp -implicitDefEqProofs only [aA, seval]
   exact ⟨f0, rfl, hP⟩
 have his : s ≠ ⟨#[105, 115]⟩ := by simpa using h
 simp -implicitDefEqProofs only [aA, seval]
 refine aQ (fun h => ?_) (fun h => ?_)
 · have hs : s = ⟨#[97, 114, 103]⟩ := by simpa using h
   obtain ⟨x, y, z, rfl⟩ := XD (ts := ks) (by subst hs; simp [isBuiltin] at hb; omega)
   have e : c8 σ s [x, y, z] = uS σ x y z := rfl
   rw [e, aOA]
   have hz := hv z (by simp)
   have hy := hv y (by simp)
   have hga := aLQ x y z rfl
   have hgv : (p7 x y).2 = 0 → bD N (p7 x y).1 := fun h => by
    unfold p7 at h ⊢
    split at h
    · cases h
    rename_i h1
    rw [aE h1]
    split at h
    · cases h
    rename_i h2
    rw [aE h2]
    cases hu : mA x y with
    | none => rw [hu] at h; cases h
    | some u => exact pX N y (fun h => h1 (.inr h)) hy u (aJZ hu)
   generalize (p7 x y).1 = u at *
   generalize (p7 x y).2 = cu at *
   have AK : dJ prog 31 (.slice [x.av, y.av, z.av]) (.int .i64 2) = some (.pptr z.av) := bL (av := Tm.av) (l := [x, y, z]) (i := 2) aN rfl (aH z)
   simp only [bA, aW] at hga
   simp -implicitDefEqProofs only [aA, seval, pB]
   refine (hga _).to ?_
   simp -implicitDefEqProofs only [aH, cG, bZ, aA, ↓aU, seval, pB]
   refine aQ (fun h4 => ?_) (fun h4 => ?_)
   · simp -implicitDefEqProofs only [aA, seval]
     have h4' : cu ≠ 0 := by simpa using h4
     rw [aE h4']
     exact qI.same hS _ rfl
   have h4' : cu = 0 := by simpa using h4
   subst h4'
   rw [aG rfl]
   simp -implicitDefEqProofs only [aA, seval]
   refine wX [(0, 1), (1, 1), (2, 1), (3, 1), (4, 1), (5, 1), (6, 0), (7, 0), (8, 1)] [0, 1, 2, 3, 4, 5, 8] dY mixed rfl f0 ?_
   simp -implicitDefEqProofs only [AK, aT, aH, aA, seval, pB]
   refine (FP hN hg ho z u hz (hgv rfl) bb _ hS).mono ?_
   rintro _ s2 ⟨rfl, hP⟩
   simp -implicitDefEqProofs only [aA, seval]
   refine ⟨f0, ?_⟩
   refine (sC _ _).to ?_
   simp -implicitDefEqProofs only [aA, seval]
   exact ⟨f0, rfl, hP⟩
 have aKW : s ≠ ⟨#[97, 114, 103]⟩ := by simpa using h
 simp -implicitDefEqProofs only [aA, seval, pB]
 refine (aTO s _).to ?_
 simp -implicitDefEqProofs only [aA, seval]
 refine aQ (fun h => ?_) (fun h => ?_)
 · have hlen : ks.length = 2 := by
    rcases hcs with ⟨h2, h3⟩ | ⟨h2, h3⟩ | ⟨h2, h3⟩ | ⟨h2, h3⟩
    · exact h2
    · simp [ht, hf] at h3
    · rcases h3 with rfl | rfl | rfl | rfl <;> exact absurd h (by decide)
    · exact absurd h3 aKW
   obtain ⟨x, y, rfl⟩ := sW hlen
   have e : c8 σ s [x, y] = (v3 s x y, σ, []) := by simp only [c8]; rw [aG h]
   rw [e]
   have hc := AT x y rfl
   simp only [bA, aW] at hc
   simp -implicitDefEqProofs only [aA, seval, pB]
   refine (hc _).to ?_
   simp -implicitDefEqProofs only [aA, seval]
   exact qI.same hS _ rfl
 · have hlen : ks.length = 1 ∧ (s = ⟨#[118, 97, 114]⟩ ∨ s = ⟨#[110, 111, 110, 118, 97, 114]⟩ ∨ s = ⟨#[97, 116, 111, 109]⟩ ∨ s = ⟨#[105, 110, 116]⟩) := by
    rcases hcs with ⟨h2, h3⟩ | ⟨h2, h3⟩ | ⟨h2, h3⟩ | ⟨h2, h3⟩
    · simp [h, he, hne, hee, his] at h3
    · simp [ht, hf] at h3
    · exact ⟨h2, h3⟩
    · exact absurd h3 aKW
   obtain ⟨x, rfl⟩ := F5 hlen.1
   have e : c8 σ s [x] = (gX (rF s x), σ, []) := rfl
   rw [e]
   have hc := ZU x rfl hlen.2
   simp only [bA, aW] at hc
   simp -implicitDefEqProofs only [aA, seval, pB]
   refine (hc _).to ?_
   simp -implicitDefEqProofs only [aA, seval]
   exact qI.same hS _ rfl
theorem XC (N : Nat) (σ : Sub) : tE 4 (cT N σ) := by
 intro e h
 simp only [cT, cU] at h
 obtain ⟨i, _, rfl⟩ := h
 refine ⟨JX _, ?_⟩
 cases σ (i : Int) with
 | none => rfl
 | some u => exact bZ u
theorem D9 (N : Nat) (σ : Sub) : ∀ e ∈ cT N σ, e.cB = false := by
 intro e h
 simp only [cT, cU] at h
 obtain ⟨i, _, rfl⟩ := h
 cases σ (i : Int) with
 | none => rfl
 | some u => exact cG u
theorem tB (N : Nat) (σ : Sub) : (cT N σ).length = N := by simp [cT]
theorem QH {N : Nat} (h0 : 0 < N) (hN : N ≤ 1048576) (σ : Sub) {st : aB} {K : AV → aB → Prop} (hK : ∀ b, st b = none → fA N (st.aC b (.cells ((cT N σ).flatMap AV.cells))) b σ → K (.mslice b 0 N 4) (st.aC b (.cells ((cT N σ).flatMap AV.cells)))) :
 jI prog 31 st (.fslice []) (.slice (cT N σ)) K := by
 have hl := tB N σ
 refine eN (P := prog) (st := st) (b := 0) (l := []) (xs := cT N σ) (x := .slice (cT N σ)) (K := K) aN bF bE rfl rfl (XC N σ) (by simp) (by simp) (by simp only [a7, hl]; omega) (by simp only [a7, hl]; omega) (fun b hb => ?_)
 have hne : [] ++ cT N σ ≠ [] := by
  rw [eR]
  intro e
  rw [e] at hl
  simp at hl
  omega
 rw [oE hne, jF hne, eR, hl]
 exact hK b (hb hne) (aB.aO _ _ _)
theorem aYZ {N : Nat} (h0 : 0 < N) (hN : N ≤ 1048576) {σ : Sub} (hg : cK σ) (ho : cP (bD N) σ) (n : Int) (s : ByteArray) (x y : Tm) (hs : s = ⟨#[92, 61]⟩) (hx : bD N x) (hy : bD N y) (st : aB) :
 aD prog 132 [(Tm.mk 3 n s [x, y]).av, .slice (cT N σ)] st (fun r st' => r = .int .i64 (gX (!(iU σ x y).1)) ∧ st' = st) := by
 have ht : s ≠ ⟨#[116, 114, 117, 101]⟩ := by subst hs; decide
 have hf : s ≠ ⟨#[102, 97, 105, 108]⟩ := by subst hs; decide
 have he : s ≠ ⟨#[61]⟩ := by subst hs; decide
 refine aD.done ?_
 simp only [aV 3, bA, aW]
 refine wF [1000000] 2 func132 ntmps132 rfl rfl ?_
 intro _
 have dT : dJ prog 31 (.slice [x.av, y.av]) (.int .i64 0) = some (.pptr x.av) := bL (av := Tm.av) (l := [x, y]) (i := 0) aN rfl (aH x)
 have fZ : dJ prog 31 (.slice [x.av, y.av]) (.int .i64 1) = some (.pptr y.av) := bL (av := Tm.av) (l := [x, y]) (i := 1) aN rfl (aH y)
 simp -implicitDefEqProofs only [aA, seval, pB]
 refine aQ (fun h => absurd (by simpa using h) ht) (fun h => ?_)
 simp -implicitDefEqProofs only [aA, seval]
 refine aQ (fun h => absurd (by simpa using h) hf) (fun h => ?_)
 simp -implicitDefEqProofs only [aA, seval]
 refine aQ (fun h => absurd (by simpa using h) he) (fun h => ?_)
 simp -implicitDefEqProofs only [aA, seval]
 refine aQ (fun h => ?_) (fun h => absurd hs (by simpa using h))
 simp -implicitDefEqProofs only [aA, seval]
 refine wX [(0, 1), (1, 1), (2, 1), (3, 1), (4, 1), (5, 1), (6, 1), (7, 1), (8, 1), (9, 1), (10, 0), (11, 0), (12, 1), (13, 0), (14, 1)] [0, 1, 2, 3, 4, 5, 6, 7, 8, 9, 12, 14] dY mixed rfl f0 ?_
 simp -implicitDefEqProofs only [dT, fZ, aT, aH, aA, seval, pB]
 refine QH h0 hN σ fun b hb hA0 => ?_
 have hD0 : aL (st.aC b (.cells ((cT N σ).flatMap AV.cells))) st := (aL.refl _).aC hb
 generalize st.aC b (.cells ((cT N σ).flatMap AV.cells)) = s0 at *
 simp -implicitDefEqProofs only [aA, seval]
 refine ⟨f0, ?_⟩
 refine (FP hN hg ho x y hx hy b _ hA0).mono ?_
 rintro _ s2 ⟨rfl, hA, hk⟩
 simp -implicitDefEqProofs only [aA, seval]
 refine ⟨f0, ?_⟩
 refine (sC _ _).to ?_
 simp -implicitDefEqProofs only [aA, seval]
 refine ⟨f0, rfl, fun q => ?_⟩
 have key : ∀ o, st q = some o → s2 q = some o := fun o h => hk q o ((hD0 q).2 o h) (by rintro rfl; rw [hb] at h; cases h)
 refine ⟨fun h => ?_, key⟩
 cases hq : st q with
 | none => rfl
 | some o => rw [key o hq] at h; cases h
theorem aN9 {N : Nat} (h0 : 0 < N) (hN : N ≤ 1048576) {σ : Sub} (hg : cK σ) (ho : cP (bD N) σ) (n : Int) (s : ByteArray) (ks : List Tm) (hb : isBuiltin s (ks.length : Int) = true) (hv : ∀ x ∈ ks, bD N x) (bb : Nat) (st : aB) (hS : fA N st bb σ) :
 aD prog 132 [(Tm.mk 3 n s ks).av, .mslice bb 0 N 4] st (qI N bb st (c8 σ s ks)) := by
 by_cases hs : s = ⟨#[92, 61]⟩
 · obtain ⟨x, y, rfl⟩ := sW (ts := ks) (by subst hs; simp [isBuiltin] at hb; omega)
   have e : c8 σ s [x, y] = (gX (!(iU σ x y).1), σ, []) := by subst hs; rfl
   rw [e]
   have hc := aYZ h0 hN hg ho n s x y hs (hv x (by simp)) (hv y (by simp)) dY
   refine (aD.SB (args' := [(Tm.mk 3 n s [x, y]).av, .mslice bb 0 N 4]) (st := st) rfl hc fun h vs S V => ?_).mono ?_
   · simp only [cZ] at V ⊢
     obtain ⟨v, vs', rfl, V1, w, ws', rfl, V2, rfl⟩ := V
     refine ⟨v, [w], rfl, V1.mono ((aL.dY st).step h), w, [], rfl, ?_, rfl⟩
     have h2 := V2.fz S hS (D9 N σ) ⟨4, B4 N σ⟩
     have h3 : (AV.mslice bb 0 N 4).fz bb (cT N σ) = .slice (cT N σ) := by simp [AV.fz, tB]
     rw [h3] at h2
     exact h2.mono ((aL.dY (st.erase bb)).step h)
   · rintro _ _ ⟨rfl, rfl⟩
     exact qI.same hS _ rfl
 · exact aMH hN hg ho n s ks hb hs hv bb st hS
abbrev BS := zi tI_3 (zi zI_3 (zi aX (zi tI_31 (zi zI_31 (zi aN (zi bF (zi bE (zi b9 (zi tI_63 (zi zI_63 (zi bS (zi bR (zi bP (zi bQ bT))))))))))))))
theorem aWN {N : Nat} {σ : Sub} (hok : cP (cD N) σ) {f : Nat} {t u : Tm} (hw : fP σ f t u) (ht : cD N t) (st : aB) : aD prog 177 [t.av, .slice (cT N σ)] st (fun r st' => r = u.av ∧ st' = st) := by
 refine aD.done ?_
 refine wF [1000000, 2] 2 func177 ntmps177 rfl rfl ?_
 intro _
 have hlen : (cT N σ).length = N := by simp [cT]
 simp -implicitDefEqProofs only [aA, seval, BS]
 intro b2 h2 b4 h4
 have hne : b4 ≠ b2 := by rintro rfl; rw [aB.aO] at h4; cases h4
 have hn4 : st b4 = none := by rw [aB.aM st _ hne] at h4; exact h4
 refine g9 (σ := Nat × Tm) [1000000, 2] [1, 2, 4] (fun p => fP σ p.1 p.2 u ∧ cD N p.2) (fun p => []) (fun p => (st.aC b2 (.cells p.2.av.cells)).aC b4 (.cells [.int .i64 0, .int .i64 0, .str ⟨#[]⟩, .fslice []])) (fun p => p.1) (by decide +kernel) ⟨(f, t), ⟨hw, ht⟩, aP.mk (by simp -implicitDefEqProofs only [aA, seval])⟩ ?_
 rintro ⟨g, t⟩ ⟨hw, ht⟩
 obtain ⟨k, n, s, ts⟩ := t
 simp only at hw ht
 simp only [aV]
 have jP : k ≠ 1 ∨ σ n = none → u = .mk k n s ts := fun h => by
  cases hw with
  | stop _ => rfl
  | go h1 h2 _ =>
   simp only [Tm.k] at h1
   rcases h with h | h
   · exact absurd h1 h
   · rw [show σ n = some _ from h2] at h; cases h
 simp -implicitDefEqProofs only [hne.symm, aA, seval, BS]
 refine cS (fun h => ?_) (fun h => ?_)
 case refine_2 =>
  simp -implicitDefEqProofs only [h, aK, hne.symm, aA, seval, BS]
  simp only [oU, dH] at h
  rw [jP (.inl h), ← aV]
  exact ⟨Tm.soft _, ((aL.refl _).aC h2).aC hn4⟩
 simp only [bJ] at h
 subst h
 obtain ⟨hn0, hn1, _⟩ := ht.var
 obtain ⟨i, rfl⟩ : ∃ i : Nat, n = i := ⟨n.toNat, by omega⟩
 have hi : i < N := by omega
 have hi' : decide ((i : Int) < (N : Int)) = true := by simp; omega
 simp -implicitDefEqProofs only [bM, hi', iM, hne.symm, hlen, aA, seval, BS]
 have hat : dJ prog 31 (.slice (cT N σ)) (.int .i64 (i : Int)) = some (.pptr (cellOf (σ (i : Int)))) := bL (av := fun i : Nat => cellOf (σ (i : Int))) aN (List.getElem?_range hi) (JX _)
 cases hw with
 | stop hs =>
  rw [show σ (i : Int) = none from hs rfl] at hat
  simp only [cellOf] at hat
  simp -implicitDefEqProofs only [hat, bM, aK, hne.symm, aA, seval, BS]
  exact ⟨by rw [← aV, Tm.soft], ((aL.refl _).aC h2).aC hn4⟩
 | go h1 h2' h3 =>
  simp only [Tm.n] at h2'
  have ho := hok _ _ h2'
  rename_i g' u'
  obtain ⟨k', n', s', ts'⟩ := u'
  have hk' : ¬ k' = 0 := by have := ho.kind.1; omega
  rw [h2'] at hat
  simp only [cellOf, aV] at hat
  simp -implicitDefEqProofs only [hat, hk', bX, aK, hne.symm, aA, seval, BS]
  rw [aB.t6 hne, aB.nK _ _ _ hne]
  refine ⟨(g', .mk k' n' s' ts'), K5 _, ⟨h3, ho⟩, ?_⟩
  simp only [aV]
  exact aP.mk (by simp -implicitDefEqProofs only [aA, seval])
abbrev r8 := zi tI_3 (zi zI_3 (zi aX (zi tI_9 (zi zI_9 (zi cH (zi tI_31 (zi zI_31 (zi aN (zi bF (zi bE (zi b9 (zi tI_63 (zi zI_63 (zi bS (zi bR (zi bP (zi bQ bT)))))))))))))))))
theorem aFW {N : Nat} {σ : Sub} {R : Int → Tm} {rk : Int → Nat} {B : Nat} (G : Good σ R rk B) (hok : cP (bD N) σ) :
 ∀ (room : Nat) (t : Tm) (st : aB), room ≤ 120 → bD N t → aD prog 140 [t.av, .slice (cT N σ), .int .i64 (room : Int)] st (Full (t.aJ R) room st)
 | room, t, st, hr, ht => by
  have IH := fun (KP : Nat) (hlt : KP < room) (x : Tm) st => aFW G hok KP x st
  obtain ⟨f, hw⟩ := G.wk t
  generalize wk σ t = u at *
  have I5 : cP (cD N) σ := fun n u hu => (hok n u hu).1
  have hsu := hw.all (p := bD N) hok ht
  have hcw := fun st => aWN I5 hw ht.1 st
  obtain ⟨k, n, s, ts⟩ := u
  have hv := aH5 G hw (hsu.1.2.1)
  rw [hv]
  obtain ⟨hlen, oJ⟩ := Tm.oD (hsu.1.small)
  have a16 := hsu.1.kind.2
  have hkn := hsu.1.all.2
  have hkk : ∀ x ∈ ts, bD N x := fun x hx => by
   refine ⟨hkn x hx, ?_⟩
   have := hsu.2
   rw [Tm.gN] at this
   have := ER (f := Tm.nodes) hx
   omega
  refine aD.lK (aD.fin ?_)
  refine wF [1000000, 3, 8] 3 func140 ntmps140 rfl rfl ?_
  intro _
  simp -implicitDefEqProofs only [aA, seval, r8]
  intro b3 h3 b6 h6
  have h63 : b6 ≠ b3 := by rintro rfl; rw [aB.aO] at h6; cases h6
  have hn6 : st b6 = none := by rw [aB.aM st _ h63] at h6; exact h6
  have hwr : ∀ z : Int, -1 ≤ z → z ≤ 200 → IntKind.i64.wrap z = z := fun z h1 h2 => wrap64 (by omega) (by omega)
  have hw1 := hwr ((room : Int) - 1) (by omega) (by omega)
  refine aQ (fun h => ?_) (fun h => ?_)
  · simp only [bJ] at h
    obtain rfl : room = 0 := by omega
    simp -implicitDefEqProofs only [aK, aA, ↓aU, seval, r8]
    refine ⟨0, [], _, rfl, by simp, by simp, ⟨4, by simp⟩, st, (fun x => by by_cases e3 : x = b3 <;> by_cases e6 : x = b6 <;> simp_all [aB.aC]), rfl, Tm.zero, -1, ?_, Int.le_refl _, ?_⟩
    · simp only [Tm.zero, aV, fL, jK, d9, iO, oP, bA, aW]
    · rw [aE (by rw [Tm.gN]; omega)]; decide
  simp only [dH] at h
  simp -implicitDefEqProofs only [h63.symm, aA, seval, r8]
  refine (hcw _).to ?_
  simp only [aV]
  simp -implicitDefEqProofs only [aK, h63.symm, hw1, aA, ↓aU, seval, r8]
  intro b8 h8
  have h83 : b8 ≠ b3 := by rintro rfl; simp [aB.aC] at h8
  have h86 : b8 ≠ b6 := by rintro rfl; simp [aB.aC, h63] at h8
  have hn8 : st b8 = none := by rw [aB.aM _ _ h83, aB.aM _ _ h86, aB.aM _ _ h83] at h8; exact h8
  rw [aB.t6 h63]
  have hW6 : ((st.aC b6 (.cells [.int .i64 0, .int .i64 0, .str ⟨#[]⟩, .fslice []])).aC b3 (.cells [.int .i64 k, .int .i64 n, .str s, .slice (ts.map Tm.av)])) b6 = some (.cells [.int .i64 0, .int .i64 0, .str ⟨#[]⟩, .fslice []]) := by rw [aB.aM _ _ h63, aB.aO]
  have hW3 : ((st.aC b6 (.cells [.int .i64 0, .int .i64 0, .str ⟨#[]⟩, .fslice []])).aC b3 (.cells [.int .i64 k, .int .i64 n, .str s, .slice (ts.map Tm.av)])) b3 = some (.cells [.int .i64 k, .int .i64 n, .str s, .slice (ts.map Tm.av)]) := aB.aO _ _ _
  have hWd : ∀ Y Z, aL ((((st.aC b6 (.cells [.int .i64 0, .int .i64 0, .str ⟨#[]⟩, .fslice []])).aC b3 (.cells [.int .i64 k, .int .i64 n, .str s, .slice (ts.map Tm.av)])).aC b8 Z).aC b6 Y) st := fun Y Z x => by
   by_cases e3 : x = b3 <;> by_cases e6 : x = b6 <;> by_cases e8 : x = b8 <;> simp_all [aB.aC]
  generalize ((st.aC b6 (.cells [.int .i64 0, .int .i64 0, .str ⟨#[]⟩, .fslice []])).aC b3 (.cells [.int .i64 k, .int .i64 n, .str s, .slice (ts.map Tm.av)])) = W at *
  have wB : (Tm.mk k n s (ts.map (Tm.aJ R))).nodes = 1 + bG Tm.nodes (ts.map (Tm.aJ R)) := Tm.gN _ _ _ _
  refine eK (σ := Nat × List Tm × Int) [1000000, 3, 8] [1, 3, 6, 7, 8] ts
   (fun i p => (p.2.1.map Tm.av ≠ [] → (W.aC b8 (.cells ([.int .i64 k, .int .i64 n, .str s] ++ [a9 4 p.1 (p.2.1.map Tm.av)]))) p.1 = none) ∧ p.2.1.length = i ∧ -1 ≤ p.2.2 ∧
    (0 ≤ p.2.2 → p.2.1 = (ts.take i).map (Tm.aJ R) ∧ p.2.2 = (room : Int) - 1 - bG Tm.nodes p.2.1) ∧ (p.2.2 < 0 → room < 1 + bG Tm.nodes (ts.map (Tm.aJ R))))
   (fun i p => [(9, .int .i64 p.2.2), (10, .int .i64 i)])
   (fun i p => eV W b8 p.1 [.int .i64 k, .int .i64 n, .str s] (p.2.1.map Tm.av)) (by decide +kernel)
   ⟨(0, [], (room : Int) - 1), ⟨fun h => absurd rfl h, rfl, by simp only; omega, fun _ => ⟨by simp, by simp [bG]⟩, fun h => by simp only at h; omega⟩, aP.mk (by simp -implicitDefEqProofs only [aA, ↓aU, seval])⟩ (fun i x p hx hlt bU x6 hinv => ?_) (fun p hge hinv => ?_)
  · obtain ⟨b, acc, left⟩ := p
    obtain ⟨i1, i2, i3, i4, i5⟩ := hinv
    simp only at i1 i2 i3 i4 i5
    have h3o := gC i1 (x := b3) (by rw [hW3]; simp) h83.symm
    rw [hW3] at h3o
    simp -implicitDefEqProofs only [bU, bM, iM, aF, h3o, aA, seval, r8]
    refine aQ (fun h9 => ?_) (fun h9 => ?_)
    case refine_2 =>
     simp only [dH] at h9
     have hbo := eC i1
     have h6o := gC i1 (x := b6) (by rw [hW6]; simp) h86.symm
     rw [hW6] at h6o
     simp -implicitDefEqProofs only [aK, hbo, h6o, eU, aA, seval, r8]
     obtain ⟨g5, g6⟩ := j0 (o := .cells [.int .i64 k, .int .i64 n, .str s, a9 4 b (acc.map Tm.av)]) i1 (show W b6 ≠ none by rw [hW6]; simp) h86.symm
     refine ⟨b, _, _, g5, g6, hH _, ⟨4, dR _⟩, st, hWd _ _, rfl, .mk k n s acc, left, ?_, i3, ?_⟩
     · simp only [jK, fL, bA, aW, d9, iO, iG, aV]
     · rw [wB]
       skip
       rw [aE (by have := i5 (by omega); omega)]
       omega
    simp only [bJ] at h9
    obtain ⟨e1, e2⟩ := i4 h9
    have gJ := cW hx
    have hsl := aUW Tm.nodes (ts.map (Tm.aJ R)) (i + 1)
    rw [← List.map_take, fM, hx] at hsl
    simp only [G0, vN, bA, aW, BB, bG, ← e1] at hsl
    obtain ⟨KP, rfl⟩ : ∃ r : Nat, left = r := ⟨left.toNat, by omega⟩
    have cV : (acc.map Tm.av).length = i := by rw [aF, i2]
    have hw := bK (n := (i : Int) + 1)
    have hbo := eC i1
    simp -implicitDefEqProofs only [h3o, bL (av := Tm.av) aN hx (aH x), aT, aH, aA, seval, r8]
    refine (IH KP (by omega) x _ (by omega) (hkk x gJ)).mono ?_
    rintro _ _ ⟨rfl, y, aU2, rfl, hl1, hl2⟩
    simp -implicitDefEqProofs only [aT, aH, bZ, cG, hbo, mD, aA, ↓aU, seval, r8]
    refine eN aN bF bE rfl rfl (fC (aH _) (bZ _)) (dR _) i1 (by simp only [cV, aS, a7]; omega) (by simp only [cV, aS, a7]; omega) (fun b' hb' => ?_)
    rw [show acc.map Tm.av ++ [y.av] = (acc ++ [y]).map Tm.av by simp] at hb' ⊢
    obtain ⟨g1, g2, g3⟩ := nG hb'
    simp only [fF, eR] at g1 g3
    simp -implicitDefEqProofs only [g3, mB, eU, g1, hw, aK, aA, seval, r8]
    refine ⟨(b', acc ++ [y], aU2), ⟨g2, by simp [i2], hl1, fun h => ?_, fun h => ?_⟩, aP.mk (by simp -implicitDefEqProofs only [aA, seval])⟩
    · simp only at h
      split at hl2
      · obtain ⟨rfl, hl3⟩ := hl2
        refine ⟨by rw [fM, hx]; simp [e1], ?_⟩
        simp only [BB, bG]
        omega
      · omega
    · simp only at h
      split at hl2
      · omega
      · omega
  · obtain ⟨b, acc, left⟩ := p
    obtain ⟨i1, i2, i3, i4, i5⟩ := hinv
    simp only at i1 i2 i3 i4 i5
    rw [eS] at i4
    have h3o := gC i1 (x := b3) (by rw [hW3]; simp) h83.symm
    rw [hW3] at h3o
    simp -implicitDefEqProofs only [hge, aF, h3o, aA, seval, r8]
    have hbo := eC i1
    have h6o := gC i1 (x := b6) (by rw [hW6]; simp) h86.symm
    rw [hW6] at h6o
    simp -implicitDefEqProofs only [aK, hbo, h6o, eU, aA, seval, r8]
    obtain ⟨g5, g6⟩ := j0 (o := .cells [.int .i64 k, .int .i64 n, .str s, a9 4 b (acc.map Tm.av)]) i1 (show W b6 ≠ none by rw [hW6]; simp) h86.symm
    refine ⟨b, _, _, g5, g6, hH _, ⟨4, dR _⟩, st, hWd _ _, rfl, .mk k n s acc, left, ?_, i3, ?_⟩
    · simp only [jK, fL, bA, aW, d9, iO, iG, aV]
    · rw [wB]
      skip
      rcases Int.lt_or_le left 0 with h9 | h9
      · rw [aE (by have := i5 h9; omega)]; exact h9
      · obtain ⟨e1, e2⟩ := i4 h9
        rw [← e1] at i5 ⊢
        rw [aG (by omega)]
        exact ⟨rfl, by omega⟩
termination_by room => room
decreasing_by exact hlt
end Go.AW
namespace Go.AW
abbrev Cl := Tm × List Tm
def b7 : Cl → AV
 | (.mk k n s ts, b) => .agg [.int .i64 k, .int .i64 n, .str s, .slice (ts.map Tm.av), .slice (b.map Tm.av)]
theorem gH (k n : Int) (s : ByteArray) (ts b : List Tm) : b7 (.mk k n s ts, b) = .agg [.int .i64 k, .int .i64 n, .str s, .slice (ts.map Tm.av), .slice (b.map Tm.av)] := rfl
theorem CP (c : Cl) : (b7 c).isAgg = true := by obtain ⟨⟨k, n, s, ts⟩, b⟩ := c; rfl
theorem oR (c : Cl) : (b7 c).width = 5 := by obtain ⟨⟨k, n, s, ts⟩, b⟩ := c; rfl
theorem ZR (c : Cl) : (b7 c).cells.length = 5 := by obtain ⟨⟨k, n, s, ts⟩, b⟩ := c; rfl
theorem aI8 (c : Cl) : (b7 c).cells.all AV.storable = true := by obtain ⟨⟨k, n, s, ts⟩, b⟩ := c; rfl
theorem JM (c : Cl) : (b7 c).cB = false := by obtain ⟨⟨k, n, s, ts⟩, b⟩ := c; rfl
def NF : Tm → Bool | .mk k _ s ts => pK k s (ts.length : Int)
def k7 (c : Cl) : Bool := c.1.valid && NF c.1 && (decide (c.2.length ≤ 6) && c.2.all Tm.goal)
def pY (p : List Cl) : Bool := decide (p.length ≤ 20) && p.all k7
def EX (c : Cl) : Int := (bY (c.1 :: c.2) []).foldl (fun n v => if n ≤ v then v + 1 else n) 0
def nP (c : Cl) : Nat := (EX c).toNat
def dC (N : Nat) (t : Tm) : Tm := bV (fun v => v + (N : Int)) t
def eH (t : Tm) : Bool := t.flat 30 && decide (t.nodes ≤ 120)
def n9 (t : Tm) : Bool := decide (t.k = 3) && decide (t.s = ⟨#[33]⟩) && decide ((t.ts.length : Int) = 0)
def ET (c : Cl) (t : Tm) : Bool := decide (c.1.s = t.s) && decide ((c.1.ts.length : Int) = (t.ts.length : Int))
def fD (p : List Cl) (t : Tm) : List Nat := (List.range p.length).filter fun i => match p[i]? with
 | some c => ET c t
 | none => false
def pV (c : Int) : Int := if c = 2 then 4 else if c = 3 then 5 else if c = 4 then 6 else 7
noncomputable def jL (σ : Sub) (vars : List Int) : Option (List Tm) :=
 if ((vars.map (rs σ)).all eH = true) ∧ (bY (vars.map (rs σ)) []).length ≤ 26 then some (oO (vars.map (rs σ))) else none
structure RG where
 t : Tm
 a8 : Nat
structure RC where
 goal : Tm
 rest : List RG
 left : List Nat
 σ : Sub
 N : Nat
structure RS where
 goals : List RG
 σ : Sub
 N : Nat
 chs : List RC
inductive RO where
 | go (s : RS)
 | fail
 | stop (e : Int)
noncomputable def iB (p : List Cl) (chs : List RC) (goal : Tm) (rest : List RG) (σ : Sub) (N : Nat) : List Nat → Option RS
 | [] => none
 | i :: l => match p[i]? with
  | none => none
  | some x => if (iU σ goal (dC N x.1)).1 = true then
   some ⟨x.2.map (fun t => ⟨dC N t, chs.length⟩) ++ rest, (iU σ goal (dC N x.1)).2.1, N + nP x, if l = [] then chs else chs ++ [⟨goal, rest, l, σ, N⟩]⟩
   else iB p chs goal rest σ N l
noncomputable def f9 (p : List Cl) : Nat → List RC → Option RS
 | 0, _ => none
 | n + 1, chs => match chs.getLast? with
  | none => none
  | some c => match iB p chs.dropLast c.goal c.rest c.σ c.N c.left with
   | some s => some s
   | none => f9 p n chs.dropLast
noncomputable def iX (p : List Cl) (cnd : Tm → List Nat → List Nat) (s : RS) (g : RG) (rest : List RG) : RO :=
 if eH (g.t.aJ (rs s.σ)) = false then .stop 3
 else if n9 (g.t.aJ (rs s.σ)) = true then .go ⟨rest, s.σ, s.N, s.chs.take g.a8⟩
 else if isBuiltin (g.t.aJ (rs s.σ)).s ((g.t.aJ (rs s.σ)).ts.length : Int) = true then
  if (c8 s.σ (g.t.aJ (rs s.σ)).s (g.t.aJ (rs s.σ)).ts).1 = 0 then .go ⟨rest, (c8 s.σ (g.t.aJ (rs s.σ)).s (g.t.aJ (rs s.σ)).ts).2.1, s.N, s.chs⟩
  else if (c8 s.σ (g.t.aJ (rs s.σ)).s (g.t.aJ (rs s.σ)).ts).1 = 1 then .fail
  else .stop (pV (c8 s.σ (g.t.aJ (rs s.σ)).s (g.t.aJ (rs s.σ)).ts).1)
 else if fD p (g.t.aJ (rs s.σ)) = [] then .stop 8
 else match iB p s.chs (g.t.aJ (rs s.σ)) rest s.σ s.N (cnd (g.t.aJ (rs s.σ)) (fD p (g.t.aJ (rs s.σ)))) with
  | some s' => .go s'
  | none => .fail
noncomputable def jX (p : List Cl) (cnd : Tm → List Nat → List Nat) (vars : List Int) (most fuel : Nat) (s : RS) : List (List Tm) × Int :=
 match s.goals with
 | [] => if h : most = 0 then ([], 1) else match jL s.σ vars with
  | none => ([], 3)
  | some a => match f9 p s.chs.length s.chs with
   | none => ([a], 0)
   | some s' => (a :: (jX p cnd vars (most - 1) fuel s').1, (jX p cnd vars (most - 1) fuel s').2)
 | g :: rest => if h : fuel = 0 then ([], 2) else match iX p cnd s g rest with
  | .stop e => ([], e)
  | .go s' => jX p cnd vars most (fuel - 1) s'
  | .fail => match f9 p s.chs.length s.chs with
   | none => ([], 0)
   | some s' => jX p cnd vars most (fuel - 1) s'
termination_by most + fuel
decreasing_by all_goals omega
def lR (q : List Tm) : RS := ⟨q.map fun t => ⟨t, 0⟩, Sub.none, 26, []⟩
noncomputable def rV (p : List Cl) (cnd : Tm → List Nat → List Nat) (q : List Tm) (most fuel : Nat) : List (List Tm) × Int := jX p cnd (bY q []) most fuel (lR q)
structure IG where
 t : Tm
 cut : Nat
 up : Int
structure IC where
 goal : Tm
 node : Nat
 rest : List IG
 list : List Nat
 eP : Nat
 taken : Nat
structure IS where
 goals : List IG
 σ : Sub
 tr : List Int
 chs : List IC
 fresh : Nat
 nn : Nat
inductive xJ where
 | go (s : IS)
 | fail (s : IS)
 | stop (e : Int)
noncomputable def gF (p : List Cl) (goal : Tm) (at' : Nat) (rest : List IG) : List Nat → IS → Bool × IS
 | [], s => (false, s)
 | i :: l, s => match p[i]? with
  | none => (false, s)
  | some x => if (iU s.σ goal (dC s.fresh x.1)).1 = true then
   (true, ⟨x.2.map (fun t => ⟨dC s.fresh t, s.chs.length, at'⟩) ++ rest, (iU s.σ goal (dC s.fresh x.1)).2.1, s.tr ++ (iU s.σ goal (dC s.fresh x.1)).2.2, if l = [] then s.chs else s.chs ++ [⟨goal, at', rest, l, s.tr.length, s.nn⟩], s.fresh + 26, s.nn⟩)
   else gF p goal at' rest l { s with fresh := s.fresh + 26 }
def IS.pop (s : IS) (c : IC) : IS := { s with chs := s.chs.dropLast, σ := s.σ.out (s.tr.drop c.eP), tr := s.tr.take c.eP, nn := c.taken }
noncomputable def gO (p : List Cl) : Nat → IS → Option IS
 | 0, _ => none
 | n + 1, s => match s.chs.getLast? with
  | none => none
  | some c => if (gF p c.goal c.node c.rest c.list (s.pop c)).1 = true then some (gF p c.goal c.node c.rest c.list (s.pop c)).2 else gO p n (gF p c.goal c.node c.rest c.list (s.pop c)).2
noncomputable def kX (p : List Cl) (cnd : Tm → List Nat → List Nat) (s : IS) (g : IG) (rest : List IG) : xJ :=
 if eH (g.t.aJ (rs s.σ)) = false then .stop 3
 else if n9 (g.t.aJ (rs s.σ)) = true then .go { s with goals := rest, chs := s.chs.take g.cut, nn := s.nn + 1 }
 else if isBuiltin (g.t.aJ (rs s.σ)).s ((g.t.aJ (rs s.σ)).ts.length : Int) = true then
  if (c8 s.σ (g.t.aJ (rs s.σ)).s (g.t.aJ (rs s.σ)).ts).1 = 0 then .go { s with goals := rest, σ := (c8 s.σ (g.t.aJ (rs s.σ)).s (g.t.aJ (rs s.σ)).ts).2.1, tr := s.tr ++ (c8 s.σ (g.t.aJ (rs s.σ)).s (g.t.aJ (rs s.σ)).ts).2.2, nn := s.nn + 1 }
  else if (c8 s.σ (g.t.aJ (rs s.σ)).s (g.t.aJ (rs s.σ)).ts).1 = 1 then .fail { s with σ := (c8 s.σ (g.t.aJ (rs s.σ)).s (g.t.aJ (rs s.σ)).ts).2.1, tr := s.tr ++ (c8 s.σ (g.t.aJ (rs s.σ)).s (g.t.aJ (rs s.σ)).ts).2.2, nn := s.nn + 1 }
  else .stop (pV (c8 s.σ (g.t.aJ (rs s.σ)).s (g.t.aJ (rs s.σ)).ts).1)
 else if fD p (g.t.aJ (rs s.σ)) = [] then .stop 8
 else if (gF p (g.t.aJ (rs s.σ)) s.nn rest (cnd (g.t.aJ (rs s.σ)) (fD p (g.t.aJ (rs s.σ)))) { s with nn := s.nn + 1 }).1 = true then .go (gF p (g.t.aJ (rs s.σ)) s.nn rest (cnd (g.t.aJ (rs s.σ)) (fD p (g.t.aJ (rs s.σ)))) { s with nn := s.nn + 1 }).2
 else .fail (gF p (g.t.aJ (rs s.σ)) s.nn rest (cnd (g.t.aJ (rs s.σ)) (fD p (g.t.aJ (rs s.σ)))) { s with nn := s.nn + 1 }).2
noncomputable def jA (p : List Cl) (cnd : Tm → List Nat → List Nat) (vars : List Int) (most fuel : Nat) (s : IS) : List (List Tm) × Int :=
 match s.goals with
 | [] => if h : most = 0 then ([], 1) else match jL s.σ vars with
  | none => ([], 3)
  | some a => match gO p s.chs.length s with
   | none => ([a], 0)
   | some s' => (a :: (jA p cnd vars (most - 1) fuel s').1, (jA p cnd vars (most - 1) fuel s').2)
 | g :: rest => if h : fuel = 0 then ([], 2) else match kX p cnd s g rest with
  | .stop e => ([], e)
  | .go s' => jA p cnd vars most (fuel - 1) s'
  | .fail s' => match gO p s'.chs.length s' with
   | none => ([], 0)
   | some s'' => jA p cnd vars most (fuel - 1) s''
termination_by most + fuel
decreasing_by all_goals omega
def nU (q : List Tm) : IS := ⟨q.map fun t => ⟨t, 0, -1⟩, Sub.none, [], [], 26, 0⟩
structure nJ (ρ : Int → Int) (N F : Nat) (σ τ : Sub) : Prop where
 sim : fB ρ N σ τ
 rng : ∀ v, 0 ≤ v → v < (N : Int) → 0 ≤ ρ v ∧ ρ v < (F : Int)
 g1 : cK σ
 o1 : cP (bD N) σ
 g2 : cK τ
 o2 : cP (bD F) τ
 d1 : ∀ n, ¬(0 ≤ n ∧ n < (N : Int)) → σ n = none
 d2 : ∀ n, ¬(0 ≤ n ∧ n < (F : Int)) → τ n = none
 h26 : 26 ≤ N
 idn : ∀ v, 0 ≤ v → v < 26 → ρ v = v
theorem nJ.mono {ρ : Int → Int} {N F F' : Nat} {σ τ : Sub} (S : nJ ρ N F σ τ) (h : F ≤ F') : nJ ρ N F' σ τ :=
 ⟨S.sim, fun v h0 h1 => ⟨(S.rng v h0 h1).1, by have := (S.rng v h0 h1).2; omega⟩, S.g1, S.o1, S.g2, S.o2.imp fun t ht => ht.mono (by omega), S.d1, fun n hn => S.d2 n fun h' => hn ⟨h'.1, by omega⟩, S.h26, S.idn⟩
def rC (ρ : Int → Int) (N F : Nat) : Int → Int := fun v => if v < (N : Int) then ρ v else v - N + F
theorem tK {ρ : Int → Int} {N F : Nat} {v : Int} (h : v < (N : Int)) : rC ρ N F v = ρ v := aG h
theorem nJ.ext {ρ : Int → Int} {N F : Nat} {σ τ : Sub} (S : nJ ρ N F σ τ) {k : Nat} (hk : k ≤ 26) : nJ (rC ρ N F) (N + k) (F + 26) σ τ := by
 have lH : ∀ v : Int, ¬ v < (N : Int) → rC ρ N F v = v - N + F := fun v h => aE h
 refine ⟨⟨fun v w hv0 hv1 hw0 hw1 e => ?_, fun v h0 h1 => ?_⟩, fun v h0 h1 => ?_, S.g1, S.o1.imp fun t ht => ht.mono (by omega), S.g2, S.o2.imp fun t ht => ht.mono (by omega), fun n hn => S.d1 n fun h => hn ⟨h.1, by omega⟩, fun n hn => S.d2 n fun h => hn ⟨h.1, by omega⟩, by have := S.h26; omega, fun v h0 h1 => by rw [tK (by have := S.h26; omega)]; exact S.idn v h0 h1⟩
 · by_cases hv : v < (N : Int) <;> by_cases hw : w < (N : Int)
   · rw [tK hv, tK hw] at e; exact S.sim.inj v w hv0 hv hw0 hw e
   · rw [tK hv, lH w hw] at e
     have := S.rng v hv0 hv
     omega
   · rw [tK hw, lH v hv] at e
     have := S.rng w hw0 hw
     omega
   · rw [lH v hv, lH w hw] at e
     omega
 · by_cases hv : v < (N : Int)
   · rw [tK hv, S.sim.map v h0 hv]
     cases hs : σ v with
     | none => rfl
     | some u =>
      simp only [qX, Option.some.injEq]
      refine QN fun w hw => ?_
      rw [tK ((S.o1 v u hs).1.2.2 w hw).2]
   · rw [lH v hv, S.d1 v (fun h => hv h.2), S.d2 _ (fun h => by omega)]
     try rfl
 · by_cases hv : v < (N : Int)
   · rw [tK hv]
     have := S.rng v h0 hv
     omega
   · rw [lH v hv]; omega
theorem aCO (l : List Int) : ∀ n : Int, n ≤ l.foldl (fun n v => if n ≤ v then v + 1 else n) n ∧ (∀ v ∈ l, v < l.foldl (fun n v => if n ≤ v then v + 1 else n) n) ∧ ∀ m : Int, n ≤ m → (∀ v ∈ l, v < m) → l.foldl (fun n v => if n ≤ v then v + 1 else n) n ≤ m := by
 induction l with
 | nil => intro n; exact ⟨Int.le_refl _, by simp, fun m h _ => h⟩
 | cons x l ih =>
  intro n
  simp only [z6]
  obtain ⟨h1, h2, h3⟩ := ih (if n ≤ x then x + 1 else n)
  refine ⟨?_, fun v hv => ?_, fun m hm hl => h3 m ?_ fun v hv => hl v (by simp [hv])⟩
  · split at h1 <;> rename_i h <;> split <;> omega
  · rcases cY.1 hv with rfl | hv
    · split at h1 <;> rename_i h <;> split <;> omega
    · exact h2 v hv
  · have := hl x (by simp)
    split <;> omega
structure gE (c : Cl) : Prop where
 head : bD 26 c.1
 body : ∀ t ∈ c.2, bD 26 t ∧ t.k = 3
theorem gE.vars {c : Cl} (h : gE c) {v : Int} : v ∈ bY (c.1 :: c.2) [] ↔ ∃ t ∈ c.1 :: c.2, v ∈ t.vl := by
 rw [w6]
 · simp
 · intro t ht
   rcases cY.1 ht with rfl | ht
   · exact h.head.1.2.1
   · exact (h.body t ht).1.1.2.1
theorem gE.CM {c : Cl} (h : gE c) : ∀ t ∈ c.1 :: c.2, bD 26 t := fun t ht => by
 rcases cY.1 ht with rfl | ht
 · exact h.head
 · exact (h.body t ht).1
theorem gE.fr {c : Cl} (h : gE c) : nP c ≤ 26 ∧ ∀ t ∈ c.1 :: c.2, ∀ v ∈ t.vl, v < (nP c : Int) := by
 obtain ⟨h1, h2, h3⟩ := aCO (bY (c.1 :: c.2) []) 0
 have hle := h3 26 (by omega) fun v hv => by
  obtain ⟨t, ht, hv⟩ := h.vars.1 hv
  exact ((h.CM t ht).1.2.2 v hv).2
 unfold nP EX
 refine ⟨by omega, fun t ht v hv => ?_⟩
 have := h2 v (h.vars.2 ⟨t, ht, hv⟩)
 omega
theorem gE.dC {c : Cl} (h : gE c) (N : Nat) : ∀ t ∈ c.1 :: c.2, bD ((N + nP c : Nat) : Int) (dC N t) := fun t ht => by
 refine (h.CM t ht).bV fun v hv => ?_
 have h1 := ((h.CM t ht).1.2.2 v hv).1
 have h2 := h.fr.2 t ht v hv
 omega
theorem QC {ρ : Int → Int} {N F : Nat} {c : Cl} (h : gE c) : ∀ t ∈ c.1 :: c.2, bV (rC ρ N F) (dC N t) = dC F t := fun t ht => by
 unfold AW.dC
 rw [show bV (rC ρ N F) (bV (fun v => v + (N : Int)) t) = t.aJ fun v => vr (rC ρ N F (v + N)) from GP _ _ t]
 refine oZ t fun v hv => ?_
 have h1 := ((h.CM t ht).1.2.2 v hv).1
 show vr (rC ρ N F (v + (N : Int))) = vr (v + (F : Int))
 unfold rC
 rw [aE (by omega)]
 congr 1
 omega
theorem aFV {N : Nat} (t : Tm) : (dC N t).k = t.k := wK _ t
def GL (ρ : Int → Int) (N : Nat) (gs : List RG) (hs : List IG) : Prop := hs.map (fun h => (h.t, h.cut)) = gs.map (fun g => (bV ρ g.t, g.a8)) ∧ ∀ g ∈ gs, bD N g.t ∧ g.t.k = 3
theorem GL.ext {ρ ρ' : Int → Int} {N N' : Nat} {gs : List RG} {hs : List IG} (h : GL ρ N gs hs) (hN : N ≤ N') (hr : ∀ v, 0 ≤ v → v < (N : Int) → ρ' v = ρ v) : GL ρ' N' gs hs := by
 refine ⟨h.1.trans (qY fun g hg => ?_), fun g hg => ⟨(h.2 g hg).1.mono (by omega), (h.2 g hg).2⟩⟩
 rw [QN (ρ := ρ) (ρ' := ρ') fun v hv => (hr v ((h.2 g hg).1.1.2.2 v hv).1 ((h.2 g hg).1.1.2.2 v hv).2).symm]
theorem GL.app {ρ : Int → Int} {N : Nat} {gs gs' : List RG} {hs hs' : List IG} (h : GL ρ N gs hs) (h' : GL ρ N gs' hs') : GL ρ N (gs ++ gs') (hs ++ hs') := by
 refine ⟨by rw [vN, vN, h.1, h'.1], fun g hg => ?_⟩
 rcases fR.1 hg with hg | hg
 · exact h.2 g hg
 · exact h'.2 g hg
def C1 (F : Nat) (c : RC) (d : IC) (τ : Sub) : Prop := ∃ ρ, nJ ρ c.N F c.σ τ ∧ d.goal = bV ρ c.goal ∧ bD c.N c.goal ∧ GL ρ c.N c.rest d.rest ∧ d.list = c.left
inductive iI (F : Nat) : List RC → List IC → Sub → List Int → Prop
 | nil {τ : Sub} {tr : List Int} : iI F [] [] τ tr
 | snoc {cs : List RC} {ds : List IC} {c : RC} {d : IC} {τ : Sub} {tr : List Int} (h : iI F cs ds (τ.out (tr.drop d.eP)) (tr.take d.eP)) (h1 : C1 F c d (τ.out (tr.drop d.eP))) (h2 : d.eP ≤ tr.length) : iI F (cs ++ [c]) (ds ++ [d]) τ tr
theorem iI.len {F : Nat} {cs : List RC} {ds : List IC} {τ : Sub} {tr : List Int} (h : iI F cs ds τ tr) : ds.length = cs.length := by
 induction h with
 | nil => rfl
 | snoc _ _ _ ih => simp [ih]
theorem iI.mono {F F' : Nat} (hF : F ≤ F') {cs : List RC} {ds : List IC} {τ : Sub} {tr : List Int} (h : iI F cs ds τ tr) : iI F' cs ds τ tr := by
 induction h with
 | nil => exact .nil
 | snoc _ h1 h2 ih => exact .snoc ih (by obtain ⟨ρ, h3, h4⟩ := h1; exact ⟨ρ, h3.mono hF, h4⟩) h2
theorem aPV (tr : List Int) {a m : Nat} (h : a ≤ m) (n : Int) : n ∈ tr.drop m ++ (tr.take m).drop a ↔ n ∈ tr.drop a := by
 have e : tr.drop a = (tr.take m).drop a ++ tr.drop m := by
  conv => lhs; rw [← sK m tr]
  rw [List.drop_append]
  by_cases hm : m ≤ tr.length
  · rw [d7, lC hm, show a - m = 0 by omega, tS]
  · rw [List.drop_of_length_le (show tr.length ≤ m by omega)]
    simp
 rw [e, fR, fR, or_comm]
theorem iI.lift {F : Nat} {cs : List RC} {ds : List IC} {τ : Sub} {tr : List Int} {m : Nat} (h : iI F cs ds (τ.out (tr.drop m)) (tr.take m)) (hm : m ≤ tr.length) : iI F cs ds τ tr := by
 generalize hτ : τ.out (tr.drop m) = τ' at h
 generalize htr : tr.take m = tr' at h
 cases h with
 | nil => exact .nil
 | @snoc cs ds c d _ _ h h1 h2 =>
  subst hτ htr
  have hd : d.eP ≤ m := by rw [d7] at h2; omega
  have e1 : (τ.out (tr.drop m)).out ((tr.take m).drop d.eP) = τ.out (tr.drop d.eP) := by
   rw [Sub.aVV]
   exact Sub.aRG τ (aPV tr hd)
  have e2 : (tr.take m).take d.eP = tr.take d.eP := by rw [xO, lC hd]
  rw [e1, e2] at h
  rw [e1] at h1
  exact .snoc h h1 (by omega)
theorem iI.more {F : Nat} {cs : List RC} {ds : List IC} {τ τ' : Sub} {tr add : List Int} (h : iI F cs ds τ tr) (e : τ'.out add = τ) : iI F cs ds τ' (tr ++ add) := by
 refine iI.lift (m := tr.length) ?_ (by simp)
 rw [GY, GZ, e]
 exact h
theorem iI.take {F : Nat} {cs : List RC} {ds : List IC} {τ : Sub} {tr : List Int} (h : iI F cs ds τ tr) (k : Nat) : iI F (cs.take k) (ds.take k) τ tr := by
 induction h with
 | nil => simp; exact .nil
 | @snoc cs ds c d τ tr h h1 h2 ih =>
  have hl := h.len
  by_cases hk : k ≤ cs.length
  · rw [C8 hk, C8 (by omega)]
    exact ih.lift h2
  · rw [mP (by simp; omega), mP (by simp; omega)]
    exact .snoc h h1 h2
def Rl (s : RS) (i : IS) : Prop := ∃ ρ, nJ ρ s.N i.fresh s.σ i.σ ∧ GL ρ s.N s.goals i.goals ∧ iI i.fresh s.chs i.chs i.σ i.tr
theorem zC.zX {N : Int} {σ : Sub} {a b : Tm} {r : Bool} {σ' : Sub} {tr : List Int} (h : zC N σ a b r σ' tr) : σ'.out tr = σ := funext fun n => h.out n
theorem l7.zX {N : Int} {σ σ' : Sub} {add : List Int} (h : l7 N σ σ' add) : σ'.out add = σ := by
 funext n
 unfold Sub.out
 split
 · rename_i hn; exact ((h.new n hn).1).symm
 · rename_i hn; exact h.a8 n hn
theorem l7.vG {N : Nat} {σ σ' : Sub} {add : List Int} (h : l7 N σ σ' add) (hd : ∀ n, ¬(0 ≤ n ∧ n < (N : Int)) → σ n = none) : ∀ n, ¬(0 ≤ n ∧ n < (N : Int)) → σ' n = none := fun n hn => by
 rw [h.a8 n fun h' => hn (h.fO n h')]
 exact hd n hn
theorem nJ.grow {ρ : Int → Int} {N F : Nat} {σ τ σ' τ' : Sub} {add aUT : List Int} (S : nJ ρ N F σ τ) (h : l7 N σ σ' add) (h' : l7 F τ τ' aUT) (s : fB ρ N σ' τ') : nJ ρ N F σ' τ' :=
 ⟨s, S.rng, h.gI, h.ok, h'.gI, h'.ok, h.vG S.d1, h'.vG S.d2, S.h26, S.idn⟩
theorem nJ.yE {ρ : Int → Int} {N F : Nat} {σ τ : Sub} (S : nJ ρ N F σ τ) {t : Tm} (h : bD N t) : bD F (bV ρ t) := h.bV fun v hv => S.rng v (h.1.2.2 v hv).1 (h.1.2.2 v hv).2
section
variable {p : List Cl} (hp : ∀ c ∈ p, gE c)
include hp
theorem J7 {cs : List RC} {goal : Tm} {rest : List RG} {σ : Sub} {N : Nat} {ρ : Int → Int} {LE : List IG} {τ : Sub} {tr : List Int} {ds : List IC} {nn at' : Nat} (hg : bD N goal) (hr : GL ρ N rest LE) :
 ∀ (l : List Nat) (F : Nat) (gl : List IG), nJ ρ N F σ τ → iI F cs ds τ tr →
 match iB p cs goal rest σ N l with
 | none => ∃ F', F ≤ F' ∧ gF p (bV ρ goal) at' LE l ⟨gl, τ, tr, ds, F, nn⟩ = (false, ⟨gl, τ, tr, ds, F', nn⟩)
 | some s => ∃ i, gF p (bV ρ goal) at' LE l ⟨gl, τ, tr, ds, F, nn⟩ = (true, i) ∧ Rl s i := by
 intro l
 induction l with
 | nil => intro F gl S C; exact ⟨F, c7 _, rfl⟩
 | cons j l ih =>
  intro F gl S C
  unfold iB gF
  cases hj : p[j]? with
  | none => exact ⟨F, c7 _, rfl⟩
  | some x =>
   have hx := hp x (cW hj)
   have S2 := S.ext hx.fr.1
   have hgo : bV (rC ρ N F) goal = bV ρ goal := QN fun v hv => tK (hg.1.2.2 v hv).2
   have hhd := hx.dC N x.1 (by simp)
   have hgN : bD ((N + nP x : Nat) : Int) goal := hg.mono (by omega)
   obtain ⟨r, σ', add, U⟩ := sF S2.g1 S2.o1 hgN hhd
   obtain ⟨g, m8⟩ := U.run
   obtain ⟨τ', e, S', _⟩ := S2.sim.iU S2.g1 S2.g2 S2.o1.kV hgN.1 hhd.1 m8
   rw [hgo, QC hx x.1 (by simp)] at e
   have hF1 : bD ((F + 26 : Nat) : Int) (bV ρ goal) := by rw [← hgo]; exact S2.yE hgN
   have hF2 : bD ((F + 26 : Nat) : Int) (dC F x.1) := by rw [← QC (ρ := ρ) (N := N) (F := F) hx x.1 (by simp)]; exact S2.yE hhd
   obtain ⟨r2, τ2, aQZ, U2⟩ := sF S2.g2 S2.o2 hF1 hF2
   have e2 := U2.eq
   rw [e] at e2
   obtain ⟨rfl, rfl, rfl⟩ : r = r2 ∧ τ' = τ2 ∧ add.map (rC ρ N F) = aQZ := by simpa using e2
   simp only [U.eq, e]
   cases r with
   | false =>
    simp only [jC, dZ]
    have := ih (F + 26) gl (S.mono (by omega)) (C.mono (by omega))
    cases hq : iB p cs goal rest σ N l with
    | none =>
     rw [hq] at this
     obtain ⟨F', h1, h2⟩ := this
     exact ⟨F', by omega, h2⟩
    | some s =>
     rw [hq] at this
     exact this
   | true =>
    simp only [fY]
    refine ⟨_, rfl, rC ρ N F, S2.grow U.uH U2.uH S', ?_, ?_⟩
    · refine GL.app ⟨?_, fun g hg => ?_⟩ (hr.ext (show N ≤ N + nP x by omega) fun v _ hv => tK hv)
      · simp only [xR]
        refine qY fun t ht => ?_
        simp only [GX]
        rw [QC hx t (by simp [ht]), C.len]
      · obtain ⟨t, ht, rfl⟩ := cU.1 hg
        exact ⟨hx.dC N t (by simp [ht]), by rw [aFV]; exact (hx.body t ht).2⟩
    · have C2 := (C.mono (show F ≤ F + 26 by omega)).more U2.zX
      by_cases hl : l = []
      · simp only [aG hl]
        exact C2
      · simp only [aE hl]
        refine .snoc ?_ ?_ (by simp)
        · simp only [GY, GZ, U2.zX]
          exact C.mono (by omega)
        · simp only [GY, U2.zX]
          exact ⟨ρ, S.mono (by omega), rfl, hg, hr, rfl⟩
theorem MS : ∀ (n : Nat) (cs : List RC) (i : IS), iI i.fresh cs i.chs i.σ i.tr →
 match f9 p n cs with
 | none => gO p n i = none
 | some s => ∃ i', gO p n i = some i' ∧ Rl s i' := by
 intro n
 induction n with
 | zero => intro cs i C; simp only [f9, gO]
 | succ n ih =>
  intro cs i C
  obtain ⟨gl, τ, tr, ds, F, nn⟩ := i
  simp only at C
  cases C with
  | nil => simp only [f9, gO, List.getLast?_nil]
  | @snoc cs ds c d _ _ h h1 h2 =>
   obtain ⟨ρ, S, e1, hok, hG, e2⟩ := h1
   have key := J7 hp (cs := cs) (nn := d.taken) (at' := d.node) (tr := tr.take d.eP) hok hG c.left F gl S h
   simp only [f9, gO, List.getLast?_append, List.getLast?_singleton, Option.some_or, RJ]
   have e3 : (IS.pop ⟨gl, τ, tr, ds ++ [d], F, nn⟩ d) = ⟨gl, τ.out (tr.drop d.eP), tr.take d.eP, ds, F, d.taken⟩ := by simp only [IS.pop, RJ]
   rw [e1, e2, e3]
   cases ht : iB p cs c.goal c.rest c.σ c.N c.left with
   | none =>
    rw [ht] at key
    obtain ⟨F', hF, e⟩ := key
    simp only [e, jC, dZ]
    exact ih cs _ (h.mono hF)
   | some s =>
    rw [ht] at key
    obtain ⟨i', e, hR⟩ := key
    simp only [e, fY]
    exact ⟨i', rfl, hR⟩
variable {cnd : Tm → List Nat → List Nat} (hc : ∀ (ρ : Int → Int) (t : Tm) (l : List Nat), cnd (bV ρ t) l = cnd t l)
omit hp in
theorem U6 {ρ : Int → Int} {t : Tm} (h : t.k = 3) : (bV ρ t).s = t.s ∧ (bV ρ t).ts = t.ts.map (bV ρ) ∧ (bV ρ t).k = 3 := by
 rw [BI ρ (by omega)]
 exact ⟨rfl, rfl, h⟩
omit hp in
theorem aTZ {ρ : Int → Int} {t : Tm} (h : t.k = 3) : fD p (bV ρ t) = fD p t := by
 obtain ⟨h1, h2, _⟩ := U6 (ρ := ρ) h
 unfold fD ET
 simp only [h1, h2, aF]
include hc
theorem YR {s : RS} {i : IS} {g : RG} {gs : List RG} (hR : Rl s i) (hgs : s.goals = g :: gs) :
 ∃ h hs, i.goals = h :: hs ∧ match iX p cnd s g gs with
 | .stop e => kX p cnd i h hs = .stop e
 | .go s' => ∃ i', kX p cnd i h hs = .go i' ∧ Rl s' i'
 | .fail => ∃ i', kX p cnd i h hs = .fail i' ∧ iI i'.fresh s.chs i'.chs i'.σ i'.tr := by
 obtain ⟨ρ, S, hG, C⟩ := hR
 rw [hgs] at hG
 obtain ⟨gl, τ, tr, ds, F, nn⟩ := i
 simp only at S hG C ⊢
 cases gl with
 | nil => exact absurd hG.1 (by simp)
 | cons h hs =>
  refine ⟨h, hs, rfl, ?_⟩
  have hGt : GL ρ s.N gs hs := ⟨(List.cons.inj hG.1).2, fun x hx => hG.2 x (by simp [hx])⟩
  have he := (List.cons.inj hG.1).1
  simp only [Prod.mk.injEq] at he
  obtain ⟨e1, e2⟩ := he
  obtain ⟨hgX, hg3⟩ := hG.2 g (by simp)
  have hT := S.sim.R6 S.g1 S.g2 S.o1.kV hgX.1
  obtain ⟨rk, B, G⟩ := S.g1.rs
  have hV := G.N9 S.o1.kV hgX.1
  unfold iX kX
  simp only [e1, hT]
  have ht3 : (g.t.aJ (rs s.σ)).k = 3 := by rw [Tm.qK _ (by omega)]; exact hg3
  generalize g.t.aJ (rs s.σ) = t at *
  obtain ⟨r1, r2, r3⟩ := U6 (ρ := ρ) ht3
  have fT : eH (bV ρ t) = eH t := by unfold eH; rw [M1 ρ hV.2.1, JY ρ hV.2.1]
  have tH : n9 (bV ρ t) = n9 t := by unfold n9; rw [r1, r2, r3, ht3, aF]
  simp only [fT, tH, aTZ (p := p) (ρ := ρ) ht3, hc, r1, r2, aF]
  by_cases c1 : eH t = false
  · rw [aG c1, aG c1]
  rw [aE c1, aE c1]
  have hX : bD s.N t := ⟨hV, by
   have : eH t = true := by simpa using c1
   unfold eH at this
   simp only [cM, bJ] at this
   exact this.2⟩
  by_cases c2 : n9 t = true
  · rw [aG c2, aG c2]
    refine ⟨_, rfl, ρ, S, hGt, ?_⟩
    simp only [e2]
    exact C.take g.a8
  rw [aE c2, aE c2]
  by_cases c3 : isBuiltin t.s (t.ts.length : Int) = true
  · rw [aG c3, aG c3]
    have hk : ∀ x ∈ t.ts, bD s.N x := pX _ t (by omega) hX
    obtain ⟨q1, q2, q3⟩ := S.sim.c8 S.g1 S.g2 S.o1 t.s t.ts hk
    have q4 := KA S.g1 S.o1 t.s t.ts hk
    have q5 := KA S.g2 S.o2 t.s (t.ts.map (bV ρ)) (fun x hx => by
     obtain ⟨y, hy, rfl⟩ := cU.1 hx
     exact S.yE (hk y hy))
    rw [q1]
    by_cases c4 : (c8 s.σ t.s t.ts).1 = 0
    · rw [aG c4, aG c4]
      exact ⟨_, rfl, ρ, S.grow q4 q5 q3, hGt, C.more q5.zX⟩
    rw [aE c4, aE c4]
    by_cases c5 : (c8 s.σ t.s t.ts).1 = 1
    · rw [aG c5, aG c5]
      exact ⟨_, rfl, C.more q5.zX⟩
    rw [aE c5, aE c5]
  rw [aE c3, aE c3]
  by_cases c6 : fD p t = []
  · rw [aG c6, aG c6]
  rw [aE c6, aE c6]
  have key := J7 hp (at' := nn) (nn := nn + 1) hX hGt (cnd t (fD p t)) F (h :: hs) S C
  cases hq : iB p s.chs t gs s.σ s.N (cnd t (fD p t)) with
  | none =>
   rw [hq] at key
   obtain ⟨F', hF, e⟩ := key
   simp only [e, jC, dZ]
   exact ⟨_, rfl, C.mono hF⟩
  | some s' =>
   rw [hq] at key
   obtain ⟨i', e, hR⟩ := key
   simp only [e, fY]
   exact ⟨i', rfl, hR⟩
end
theorem aDI {ρ : Int → Int} {N : Int} {σ τ : Sub} (S : fB ρ N σ τ) : ∀ (l : List Tm) (acc : List Int), (∀ t ∈ l, cD N t) → (∀ v ∈ acc, 0 ≤ v ∧ v < N) → bY (l.map (bV ρ)) (acc.map ρ) = (bY l acc).map ρ ∧ ∀ v ∈ bY l acc, 0 ≤ v ∧ v < N
 | [], acc, _, ha => ⟨rfl, ha⟩
 | t :: l, acc, h, ha => by
  obtain ⟨e1, e2⟩ := aQJ (D := fun v => 0 ≤ v ∧ v < N) (h := ρ) (fun v w hv hw e => S.inj v w hv.1 hv.2 hw.1 hw.2 e) (f := fun v => vr (ρ v)) (fun _ _ => rfl) t (Tm.sN t (h t (by simp)).2.1) (h t (by simp)).2.2 acc ha
  simp only [bA, bY]
  rw [show (bV ρ t).vars (acc.map ρ) = (t.vars acc).map ρ from e1]
  exact aDI S l _ (fun x hx => h x (by simp [hx])) e2
theorem aZV {ρ : Int → Int} {N : Int} {σ τ : Sub} (S : fB ρ N σ τ) {l : List Tm} (h : ∀ t ∈ l, cD N t) : oO (l.map (bV ρ)) = oO l ∧ (bY (l.map (bV ρ)) []).length = (bY l []).length := by
 obtain ⟨e1, e2⟩ := aDI S l [] h (by simp)
 rw [aW] at e1
 refine ⟨?_, by rw [e1, aF]⟩
 unfold oO
 rw [e1, xR]
 refine qY fun t ht => ?_
 simp only [GX]
 rw [GP]
 refine oZ t fun v hv => ?_
 rw [YM (D := fun v => 0 ≤ v ∧ v < N) (fun v w hv hw e => S.inj v w hv.1 hv.2 hw.1 hw.2 e) v ((h t ht).2.2 v hv) _ _ e2]
theorem aPQ {ρ : Int → Int} {N F : Nat} {σ τ : Sub} (S : nJ ρ N F σ τ) {vars : List Int} (hv : ∀ v ∈ vars, 0 ≤ v ∧ v < 26) : jL τ vars = jL σ vars := by
 obtain ⟨rk, B, G⟩ := S.g1.rs
 have hid := S.idn
 have h26 := S.h26
 have e : vars.map (rs τ) = (vars.map (rs σ)).map (bV ρ) := by
  rw [xR]
  refine qY fun v h => ?_
  obtain ⟨h0, h1⟩ := hv v h
  have := S.sim.rs S.g1 S.g2 S.o1.kV v h0 (by omega)
  rw [hid v h0 h1] at this
  exact this
 have hok : ∀ t ∈ vars.map (rs σ), cD N t := fun t ht => by
  obtain ⟨v, h, rfl⟩ := cU.1 ht
  obtain ⟨h0, h1⟩ := hv v h
  exact G.kV S.o1.kV v h0 (by omega)
 obtain ⟨e1, e2⟩ := aZV S.sim hok
 have e3 : ((vars.map (rs σ)).map (bV ρ)).all eH = (vars.map (rs σ)).all eH := by
  rw [List.all_map, vM, eW, eW]
  have : ∀ t ∈ vars.map (rs σ), eH (bV ρ t) = eH t := fun t ht => by unfold eH; rw [M1 ρ (hok t ht).2.1, JY ρ (hok t ht).2.1]
  constructor
  · intro h t ht; rw [← this t ht]; exact h t ht
  · intro h t ht; simp only [GX]; rw [this t ht]; exact h t ht
 unfold jL
 rw [e, e1, e2, e3]
section
variable {p : List Cl} (hp : ∀ c ∈ p, gE c) {cnd : Tm → List Nat → List Nat} (hc : ∀ (ρ : Int → Int) (t : Tm) (l : List Nat), cnd (bV ρ t) l = cnd t l)
include hp hc
theorem aWA {vars : List Int} (hv : ∀ v ∈ vars, 0 ≤ v ∧ v < 26) : ∀ (n most fuel : Nat) (s : RS) (i : IS), most + fuel ≤ n → Rl s i → jA p cnd vars most fuel i = jX p cnd vars most fuel s := by
 intro n
 induction n with
 | zero =>
  intro most fuel s i hn hR
  obtain ⟨rfl, rfl⟩ : most = 0 ∧ fuel = 0 := by omega
  obtain ⟨ρ, S, hG, C⟩ := hR
  rw [jA, jX]
  cases hgs : s.goals with
  | nil =>
   rw [hgs] at hG
   have hi : i.goals = [] := List.map_eq_nil_iff.1 hG.1
   simp [hi]
  | cons g gs =>
   rw [hgs] at hG
   cases hi : i.goals with
   | nil => rw [hi] at hG; exact absurd hG.1 (by simp)
   | cons h hs => simp
 | succ n ih =>
  intro most fuel s i hn hR
  cases hgs : s.goals with
  | nil =>
   obtain ⟨ρ, S, hG, C⟩ := hR
   rw [hgs] at hG
   have hi : i.goals = [] := List.map_eq_nil_iff.1 hG.1
   rw [jA, jX]
   simp only [hgs, hi]
   by_cases hm : most = 0
   · simp [hm]
   simp only [hm, dif_neg, G2]
   rw [aPQ S hv]
   cases jL s.σ vars with
   | none => rfl
   | some a =>
    simp only
    have key := MS hp s.chs.length s.chs i C
    rw [C.len]
    cases hb : f9 p s.chs.length s.chs with
    | none => rw [hb] at key; simp only [key]
    | some s' =>
     rw [hb] at key
     obtain ⟨i', e, hR'⟩ := key
     simp only [e]
     rw [ih (most - 1) fuel s' i' (by omega) hR']
  | cons g gs =>
   obtain ⟨h, hs, hi, key⟩ := YR hp hc hR hgs
   rw [jA, jX]
   simp only [hgs, hi]
   by_cases hf : fuel = 0
   · simp [hf]
   simp only [hf, dif_neg, G2]
   cases hq : iX p cnd s g gs with
   | stop e =>
    rw [hq] at key
    simp only [key]
   | go s' =>
    rw [hq] at key
    obtain ⟨i', e, hR'⟩ := key
    simp only [e]
    exact ih most (fuel - 1) s' i' (by omega) hR'
   | fail =>
    rw [hq] at key
    obtain ⟨i', e, C'⟩ := key
    simp only [e]
    have KH := MS hp s.chs.length s.chs i' C'
    rw [C'.len]
    cases hb : f9 p s.chs.length s.chs with
    | none => rw [hb] at KH; simp only [KH]
    | some s' =>
     rw [hb] at KH
     obtain ⟨i'', e2, hR'⟩ := KH
     simp only [e2]
     exact ih most (fuel - 1) s' i'' (by omega) hR'
omit hp hc in
theorem aB1 {q : List Tm} (hq : ∀ t ∈ q, bD 26 t ∧ t.k = 3) : Rl (lR q) (nU q) := by
 refine ⟨fun v => v, ⟨⟨fun v w _ _ _ _ e => e, fun v _ _ => rfl⟩, fun v h0 h1 => ⟨h0, h1⟩, cK.none, fun n u h => (by cases h), cK.none, fun n u h => (by cases h), fun _ _ => rfl, fun _ _ => rfl, c7 _, fun _ _ _ => rfl⟩, ⟨?_, fun g hg => ?_⟩, .nil⟩
 · simp only [nU, lR, xR]
   refine qY fun t ht => ?_
   simp only [GX]
   rw [show bV (fun v => v) t = t from L0 t (hq t ht).1.1.2.1]
 · simp only [lR] at hg
   obtain ⟨t, ht, rfl⟩ := cU.1 hg
   exact hq t ht
theorem aQ1 {q : List Tm} (hq : ∀ t ∈ q, bD 26 t ∧ t.k = 3) (most fuel : Nat) : jA p cnd (bY q []) most fuel (nU q) = rV p cnd q most fuel := by
 refine aWA hp hc (fun v hv => ?_) _ most fuel _ _ (c7 _) (aB1 hq)
 rw [w6 _ _ fun t ht => (hq t ht).1.1.2.1] at hv
 rcases hv with hv | ⟨t, ht, hv⟩
 · cases hv
 · exact (hq t ht).1.1.2.2 v hv
end
theorem aW5 {c : Cl} (h : k7 c = true) : gE c := by
 simp only [k7, cM, bJ, eW] at h
 refine ⟨⟨Tm.DK h.1.1, Tm.HJ h.1.1⟩, fun t ht => ?_⟩
 have hg := h.2.2 t ht
 have hk : t.valid = true ∧ t.k = 3 := by
  obtain ⟨k, n, s, ts⟩ := t
  simp only [Tm.goal, cM] at hg
  refine ⟨hg.1, ?_⟩
  have := hg.2
  simp only [wG, pK, qZ, cM, bJ] at this
  simp only [Tm.k]
  rcases this with (h | h) | h <;> first | exact h.1 | exact h.1.1 | exact h.1.1.1
 exact ⟨⟨Tm.DK hk.1, Tm.HJ hk.1⟩, hk.2⟩
end Go.AW
namespace Go.AW
open Go.Proofs.Tryz
abbrev c9 (l : List Tm) : AV := .agg [.slice (l.map Tm.av)]
theorem LU : ∀ (a b : List Tm) (l : List Int), bY (a ++ b) l = bY b (bY a l)
 | [], _, _ => rfl
 | t :: a, b, l => by simp only [fF, bY, LU a b]
abbrev P1 := zi tI_3 (zi zI_3 (zi aX (zi tI_31 (zi zI_31 (zi aN (zi bF (zi bE (zi b9 (zi tI_51 (zi zI_51 (zi dV (zi fS (zi fV (zi gA (zi tI_63 (zi zI_63 (zi bS (zi bR (zi bP (zi bQ bT))))))))))))))))))))
theorem ZL (q : List Tm) (st : aB) (hwf : ∀ t ∈ q, t.wf = true) (hsz : bG Tm.nodes q ≤ 1099511627776) : aD prog 69 [.slice (q.map Tm.av)] st (fun r st' => r = .slice ((bY q []).map iv) ∧ st' = st) := by
 refine aD.done ?_
 refine wF [1000000] 1 func69 ntmps69 rfl rfl ?_
 simp only [eE, AV.fits, eM, aF]
 intro ⟨hl, _⟩
 simp -implicitDefEqProofs only [aA, seval, P1]
 refine rD (σ := Unit) [1000000] [0, 2] q 1 3 (fun i _ => (bY (q.take i) []).map iv) (fun _ _ => True) (fun i _ => [(4, .int .i64 i)]) (fun _ _ => st) (fun i _ _ e he => by simp only [cU] at he; obtain ⟨t, _, rfl⟩ := he; exact ⟨rfl, rfl⟩) (by decide +kernel) ⟨(), 0, trivial, fun h => absurd rfl h, aP.mk (by simp -implicitDefEqProofs only [jH, kR, bY, aW, aA, ↓aU, seval])⟩ (fun i x s b hx hlt bU hdr hinv hb => ?_) (fun s b hge hinv => ?_)
 case refine_2 =>
  simp -implicitDefEqProofs only [hge, d9, iE, oP, lP, eS, aF, aA, seval, P1]
  exact ⟨rfl, aL.refl _⟩
 have hw := bK (n := (i : Int) + 1)
 have hat := bL (av := Tm.av) aN hx (aH x)
 have hst := GG Tm.nodes hx
 have hvl := v4 (q.take i) []
 simp only [a7, gV] at hvl
 have htk : x.vars (bY (q.take i) []) = bY (q.take (i + 1)) [] := by
  rw [fM, hx, LU]
  try rfl
 simp -implicitDefEqProofs only [bU, aF, hat, aA, seval, P1]
 refine (GN x (bY (q.take i) []) b st (hwf x (cW hx)) hb (by omega)).mono ?_
 rintro _ _ ⟨b', rfl, rfl, hb'⟩
 rw [htk] at hb' ⊢
 simp -implicitDefEqProofs only [aA, seval]
 exact ⟨(), b', hb', aP.mk (by simp -implicitDefEqProofs only [hw, aA, seval])⟩
end Go.AW
namespace Go.AW
theorem cC.of {h : bH} {st st' : aB} (hk : ∀ x, st x = none → st' x = none) : cC h st h st' := ⟨c7 _, fun x _ e => ⟨rfl, hk x e⟩, fun _ c _ _ e => ⟨c, e, rfl⟩⟩
theorem fK.aP2 {φ : AF} {st : aB} {b c : Nat} {es cs : List AV} (hbc : b ≠ c) (h1 : st b = some (.cells (es.flatMap AV.cells))) (h2 : ∀ e ∈ es, e.cB = false) (h3 : gT es) (hc : st c = some (.cells cs)) :
 fK φ st φ ((st.erase b).aC c (.cells (kL b es cs))) := fun h tmps S F => by
 have T2 : cC h (st.erase b) h ((st.erase b).aC c (.cells (kL b es cs))) := cC.of fun x hx => by
  have : x ≠ c := by rintro rfl; simp [aB.erase, dB hbc, hc] at hx
  rw [aB.aM _ _ this]; exact hx
 have T : cC h st h ((st.erase b).aC c (.cells (kL b es cs))) := ((jJ st b).step h).trans T2
 refine ⟨fun x o hx => ?_, T, fun d => (F d).mono T⟩
 by_cases e : x = c
 · subst e
   rw [aB.aO] at hx
   cases hx
   obtain ⟨hl, c0, t, e1, e2, vs, e3, e4⟩ := S x _ hc
   refine ⟨hl, c0, t, e1, ?_, vs, e3, aY.mono T2 _ _ (aY.fz S h1 h2 h3 cs vs e4)⟩
   rw [JL, aF]; exact e2
 · rw [aB.aM _ _ e] at hx
   have hx' : st x = some o := by
    simp only [aB.erase] at hx
    split at hx
    · cases hx
    · exact hx
   obtain ⟨hl, y⟩ := S x o hx'
   exact ⟨hl, k9.mono T rfl y⟩
theorem fK.aO2 {φ : AF} {st : aB} {c : Nat} {cs : List AV} (hc : st c = some (.cells cs)) : fK φ st φ (st.aC c (.cells (gP cs))) := fun h tmps S F => by
 have T : cC h st h (st.aC c (.cells (gP cs))) := cC.of fun x hx => by
  have : x ≠ c := by rintro rfl; rw [hc] at hx; cases hx
  rw [aB.aM _ _ this]; exact hx
 refine ⟨fun x o hx => ?_, T, fun d => (F d).mono T⟩
 by_cases e : x = c
 · subst e
   rw [aB.aO] at hx
   cases hx
   obtain ⟨hl, c0, t, e1, e2, vs, e3, e4⟩ := S x _ hc
   refine ⟨hl, c0, t, e1, ?_, vs, e3, aY.mono T _ _ (aY.soft cs vs e4)⟩
   rw [wQ, aF]; exact e2
 · rw [aB.aM _ _ e] at hx
   obtain ⟨hl, y⟩ := S x o hx
   exact ⟨hl, k9.mono T rfl y⟩
theorem aM4 {φ : AF} {S : aB} {c b : Nat} {k n : Int} {s : ByteArray} {l : List AV} (hb : l ≠ [] → (S.aC c (.cells ([.int .i64 k, .int .i64 n, .str s] ++ [a9 4 b l]))) b = none) (hj : ∀ e ∈ l, e.cB = false) (hE : gT l) :
 fK φ (eV S c b [.int .i64 k, .int .i64 n, .str s] l) φ (S.aC c (.cells [.int .i64 k, .int .i64 n, .str s, .slice l])) := by
 have hcc := eC hb
 cases l with
 | nil =>
  have := fK.aO2 (φ := φ) hcc
  unfold eV at this ⊢
  simp only [wY, dE] at this
  exact this
 | cons y l =>
  have h0 := hb (by simp)
  have hne : b ≠ c := by rintro rfl; rw [aB.aO] at h0; cases h0
  have h1 : eV S c b [.int .i64 k, .int .i64 n, .str s] (y :: l) b = some (.cells ((y :: l).flatMap AV.cells)) := by unfold eV; simp only [aZ]; exact aB.aO _ _ _
  have := fK.aP2 (φ := φ) hne h1 hj hE hcc
  have e : (eV S c b [.int .i64 k, .int .i64 n, .str s] (y :: l)).erase b = S.aC c (.cells ([.int .i64 k, .int .i64 n, .str s] ++ [a9 4 b (y :: l)])) := by unfold eV; simp only [aZ]; exact aB.xH _ _ _ h0
  rw [e, dE] at this
  simpa [kL, AV.fz, a9] using this
theorem GE {S : aB} {c b : Nat} {hd hd' l : List AV} (hb : l ≠ [] → (S.aC c (.cells (hd ++ [a9 4 b l]))) b = none) :
 (eV S c b hd l).aC c (.cells (hd' ++ [a9 4 b l])) = eV S c b hd' l ∧ (l ≠ [] → (S.aC c (.cells (hd' ++ [a9 4 b l]))) b = none) := by
 have hne : l ≠ [] → c ≠ b := fun h e => by have := hb h; rw [← e, aB.aO] at this; cases this
 refine ⟨by unfold eV; rw [oM hne, dE], fun h => ?_⟩
 have := hb h
 rw [aB.aM _ _ (dB (hne h))] at this ⊢
 exact this
theorem LY {s0 st : aB} {b : Nat} {l : List AV} (D : aL s0 st) : aL (aZ s0 b l) (aZ st b l) := by
 cases l with
 | nil => exact D
 | cons y l =>
  intro x
  simp only [aZ]
  by_cases e : x = b
  · subst e; simp [aB.aO]
  · rw [aB.aM _ _ e, aB.aM _ _ e]; exact D x
end Go.AW
