import Derived.Test.YtpficjlageaebaaGreatDoorSfaj
import Derived.Test.YtpficjlageaebaaGreatDoorSfak
import Derived.Test.YtpficjlageaebaaGreatDoorSfaf
import Derived.Test.YtpficjlageaebaaGreatDoorSfai
set_option linter.unusedSimpArgs false
set_option linter.unusedVariables false
set_option maxRecDepth 100000
namespace Go.AW
open Go.Proofs.Tryz
def cQ (N : Nat) (σ : Sub) : List AV := (List.range N).map fun i : Nat => cellOf (σ (i : Int))
theorem AZ (N : Nat) (σ : Sub) : ∀ e ∈ cQ N σ, e.width = 4 := by intro e h; simp only [cQ, cU] at h; obtain ⟨i, _, rfl⟩ := h; exact HB _
theorem yP (N : Nat) (σ : Sub) {i : Nat} (h : i < N) : (cQ N σ)[i]? = some (cellOf (σ (i : Int))) := by
 simp only [cQ, oV, List.getElem?_range h, qZ]
theorem aXI (N : Nat) (σ : Sub) {i : Nat} (h : i < N) (u : Tm) : (cQ N σ).set i u.av = cQ N (σ.set (i : Int) u) := by
 apply K4
 intro j
 by_cases hj : j < N
 · rw [yP N _ hj, List.getElem?_set]
   by_cases e : i = j
   · subst e
     simp [cQ, hj, Sub.set, cellOf]
   · rw [aE e, yP N _ hj]
     simp only [Sub.set]
     rw [aE (by omega)]
 · rw [xU (by simp [cQ]; omega), xU (by simp [cQ]; omega)]
def eY (N : Nat) (st : aB) (b : Nat) (σ : Sub) : Prop := st b = some (.cells ((cQ N σ).flatMap AV.cells))
theorem eY.mid {N : Nat} {st : aB} {b : Nat} {σ : Sub} (h : eY N st b σ) {i : Nat} (hi : i < N) :
 ∃ A B, st b = some (.cells (A ++ (cellOf (σ (i : Int))).cells ++ B)) ∧ A.length = i * 4 ∧ ∀ (u : Tm), eY N (st.aC b (.cells (A ++ u.av.cells ++ B))) b (σ.set (i : Int) u) := by
 obtain ⟨A, B, h1, h2, h3⟩ := aQD (AZ N σ) (yP N σ hi)
 refine ⟨A, B, by rw [← h1]; exact h, h2, fun u => ?_⟩
 unfold eY
 rw [aB.aP, ← aXI N σ hi, h3]
theorem eY.aC {N : Nat} {st : aB} {b x : Nat} {σ : Sub} {o : AO} (h : eY N st b σ) (hx : x ≠ b) : eY N (st.aC x o) b σ := by
 unfold eY
 rw [aB.aM _ _ (dB hx)]
 exact h
theorem eY.none {N : Nat} {st : aB} {b : Nat} {σ : Sub} (h : eY N st b σ) {i : Nat} (hi : i < N) (hn : σ (i : Int) = Option.none) :
 ∃ D, st b = some (.cells D) ∧ D[i * 4 + 0]? = some (.int .i64 0) ∧ i * 4 + 4 ≤ D.length := by
 obtain ⟨A, B, e1, e2, _⟩ := h.mid hi
 rw [hn] at e1
 obtain ⟨r1, r2, r3⟩ := aFL (B := B) (C := (cellOf Option.none).cells) e2 rfl
 exact ⟨_, e1, r3, r1⟩
theorem eY.some {N : Nat} {st : aB} {b : Nat} {σ : Sub} (h : eY N st b σ) {i : Nat} (hi : i < N) {k n : Int} {s : ByteArray} {ts : List Tm} (hn : σ (i : Int) = Option.some (.mk k n s ts)) :
 ∃ D, st b = Option.some (.cells D) ∧ D[i * 4 + 0]? = Option.some (.int .i64 k) ∧ i * 4 + 4 ≤ D.length ∧ List.take 4 (List.drop (i * 4) D) = [.int .i64 k, .int .i64 n, .str s, .slice (ts.map Tm.av)] := by
 obtain ⟨A, B, e1, e2, _⟩ := h.mid hi
 rw [hn] at e1
 simp only [cellOf, aV, AV.cells] at e1
 obtain ⟨r1, r2, r3⟩ := aFL (B := B) (C := [.int .i64 k, .int .i64 n, .str s, .slice (ts.map Tm.av)]) e2 rfl
 exact ⟨_, e1, r3, r1, r2⟩
theorem eY.set {N : Nat} {st : aB} {b : Nat} {σ : Sub} (h : eY N st b σ) {i : Nat} (hi : i < N) (u : Tm) :
 ∃ D D', st b = Option.some (.cells D) ∧ i * 4 + 4 ≤ D.length ∧ aK D (i * 4) u.av.cells = D' ∧ eY N (st.aC b (.cells D')) b (σ.set (i : Int) u) := by
 obtain ⟨A, B, e1, e2, e3⟩ := h.mid hi
 obtain ⟨p1, p2⟩ := aM5 (B := B) (C := (cellOf (σ (i : Int))).cells) (x := u.av.cells) e2 (aP2 _) (bO u)
 exact ⟨_, _, e1, p2, p1, e3 u⟩
abbrev A6 := zi tI_3 (zi zI_3 (zi aX (zi tI_31 (zi zI_31 (zi aN (zi bE (zi bF (zi b9 (zi tI_63 (zi zI_63 (zi bP (zi bQ (zi bT (zi bS bR))))))))))))))
theorem WR {N : Nat} {σ : Sub} (hok : cP (cE N) σ) {f : Nat} {t u : Tm} (hw : fQ σ f t u) (ht : cE N t) (b : Nat) (st : aB) (hS : eY N st b σ) : aD prog 177 [t.av, .mslice b 0 N 4] st (fun r st' => r = u.av ∧ st' = st) := by
 refine aD.done ?_
 refine wF [1000000, 2] 2 func177 ntmps177 rfl rfl ?_
 intro _
 simp -implicitDefEqProofs only [aA, seval, A6]
 intro b2 h2 b4 h4
 have hne : b4 ≠ b2 := by rintro rfl; rw [aB.aP] at h4; cases h4
 have hn4 : st b4 = none := by rw [aB.aM st _ hne] at h4; exact h4
 have hb2 : b2 ≠ b := by rintro rfl; rw [eY, h2] at hS; cases hS
 have hb4 : b4 ≠ b := by rintro rfl; rw [eY, hn4] at hS; cases hS
 refine gZ (σ := Nat × Tm) [1000000, 2] [1, 2, 4] (fun p => fQ σ p.1 p.2 u ∧ cE N p.2) (fun p => []) (fun p => (st.aC b2 (.cells p.2.av.cells)).aC b4 (.cells [.int .i64 0, .int .i64 0, .str ⟨#[]⟩, .fslice []])) (fun p => p.1) (by decide +kernel) ⟨(f, t), ⟨hw, ht⟩, aO.mk (by simp -implicitDefEqProofs only [aA, seval])⟩ ?_
 rintro ⟨g, t⟩ ⟨hw, ht⟩
 obtain ⟨k, n, s, ts⟩ := t
 simp only at hw ht
 simp only [aV]
 have jV : k ≠ 1 ∨ σ n = none → u = .mk k n s ts := fun h => by
  cases hw with
  | stop _ => rfl
  | go h1 h2 _ =>
   simp only [Tm.k] at h1
   rcases h with h | h
   · exact absurd h1 h
   · rw [show σ n = some _ from h2] at h; cases h
 simp -implicitDefEqProofs only [hne.symm, aA, seval, A6]
 refine cT (fun h => ?_) (fun h => ?_)
 case refine_2 =>
  simp -implicitDefEqProofs only [h, aK, hne.symm, aA, seval, A6]
  simp only [oW, dH] at h
  rw [jV (.inl h), ← aV]
  exact ⟨Tm.soft _, ((aL.refl _).aC h2).aC hn4⟩
 simp only [bJ] at h
 subst h
 obtain ⟨hn0, hn1, _⟩ := ht.var
 obtain ⟨i, rfl⟩ : ∃ i : Nat, n = i := ⟨n.toNat, by omega⟩
 have hi : i < N := by omega
 have hi' : decide ((i : Int) < (N : Int)) = true := by simp; omega
 simp -implicitDefEqProofs only [bM, hi', iV, hne.symm, aA, seval, A6]
 have hat := xX (P := prog) (b := b) (len := N) aN hi
 cases hw with
 | stop hs =>
  obtain ⟨D, e1, e2, _⟩ := hS.none hi (hs rfl)
  simp -implicitDefEqProofs only [hat, e1, e2, bM, aK, hne.symm, hb2.symm, hb4.symm, aA, seval, A6]
  exact ⟨by rw [← aV, Tm.soft], ((aL.refl _).aC h2).aC hn4⟩
 | go h1 h2' h3 =>
  simp only [Tm.n] at h2'
  have ho := hok _ _ h2'
  rename_i g' u'
  obtain ⟨k', n', s', ts'⟩ := u'
  have hk' : ¬ k' = 0 := by have := ho.kind.1; omega
  obtain ⟨D, e1, e2, e3, e4⟩ := hS.some hi h2'
  have e5 : i * 4 + 0 + 4 ≤ D.length := e3
  simp -implicitDefEqProofs only [hat, e1, e2, e3, e4, hk', bX, aK, hne.symm, hb2.symm, hb4.symm, aA, seval, A6]
  rw [aB.vJ hne, aB.nX _ _ _ hne]
  refine ⟨(g', .mk k' n' s' ts'), K6 _, ⟨h3, ho⟩, ?_⟩
  simp only [aV]
  exact aO.mk (by simp -implicitDefEqProofs only [aA, seval])
theorem eY.acc {N : Nat} {st : aB} {b bW : Nat} {σ : Sub} {l : List AV} (h : eY N st b σ) (hb : l ≠ [] → st bW = Option.none) : eY N (aZ st bW l) b σ := by
 cases l with
 | nil => exact h
 | cons x l => exact h.aC (by rintro rfl; rw [eY, hb (by simp)] at h; cases h)
abbrev FO := zi tI_3 (zi zI_3 (zi aX (zi tI_4 (zi zI_4 (zi cD (zi tI_31 (zi zI_31 (zi aN (zi bE (zi bF (zi b9 (zi tI_51 (zi zI_51 (zi dW (zi fW (zi fU (zi gA (zi tI_63 (zi zI_63 (zi bP (zi bQ (zi bT (zi bS bR)))))))))))))))))))))))
theorem aYO {N : Nat} {σ : Sub} {R : Int → Tm} {rk : Int → Nat} {B : Nat} (G : Good σ R rk B) (hok : cP (bD N) σ) (hN : N ≤ 1048576) {n : Int} (hn : σ n = none) (t : Tm) (ht : bD N t) (b : Nat) (st : aB) (hS : eY N st b σ) :
 aD prog 180 [.int .i64 n, t.av, .mslice b 0 N 4] st (fun r st' => r = .bool (decide (n ∈ (t.aJ R).vl)) ∧ st' = st) := by
 refine aD.done ?_
 refine wF [1000000] 3 func180 ntmps180 rfl rfl ?_
 intro _
 simp -implicitDefEqProofs only [aA, seval, FO]
 have h0 := GA t [] 0 st (Tm.sS t (ht.1.2.1)) (fun h => absurd rfl h) (by have := ht.2; simp only [a7]; omega)
 simp only [aW, jG, vV] at h0
 refine h0.mono ?_
 rintro _ _ ⟨b0, rfl, rfl, hb0⟩
 obtain ⟨v1, v2, _⟩ := Q6 t (Tm.sS t (ht.1.2.1)) []
 simp -implicitDefEqProofs only [aA, seval]
 refine gZ (σ := Nat × List Int × Nat) [1000000] [0, 2]
  (fun p => p.1 ≤ p.2.1.length ∧ p.2.1.Nodup ∧ (∀ w ∈ p.2.1, w ∈ VN N) ∧ (p.2.1.map iv ≠ [] → st p.2.2 = none) ∧ (∀ w ∈ p.2.1.take p.1, w ≠ n ∧ ∀ u, σ w = some u → ∀ v ∈ u.vl, v ∈ p.2.1) ∧ (∀ w ∈ p.2.1, n ∈ (R w).vl → n ∈ (t.aJ R).vl) ∧ (n ∈ (t.aJ R).vl → ∃ w ∈ p.2.1, n ∈ (R w).vl))
  (fun p => [(6, .bool false), (7, a9 1 p.2.2 (p.2.1.map iv)), (8, .int .i64 p.1)]) (fun p => aZ st p.2.2 (p.2.1.map iv)) (fun p => N - p.1) (by decide +kernel)
  ⟨(0, t.vars [], b0), ⟨jE _, v2 pZ, fun w hw => ?_, hb0, by simp, fun w hw hm => ?_, fun hm => ?_⟩, aO.mk (by simp -implicitDefEqProofs only [aA, ↓aU, seval])⟩ ?_
 · rcases (v1 w).1 hw with h | h
   · cases h
   · exact uO.2 (ht.1.2.2 w h)
 · rcases (v1 w).1 hw with h | h
   · cases h
   · exact (xF t).2 ⟨w, h, hm⟩
 · obtain ⟨w, hw, hm⟩ := (xF t).1 hm
   exact ⟨w, (v1 w).2 (.inr hw), hm⟩
 rintro ⟨i, W, bW⟩ ⟨i1, i2, i3, i4, i5, i6, i7⟩
 simp only at i1 i2 i3 i4 i5 i6 i7
 have haL := sW (w := 1) (b := bW) (l := W.map iv) gA
 have hWl := AK i2 (fun m hm => uO.1 (i3 m hm))
 simp -implicitDefEqProofs only [haL, aF, aA, seval]
 refine aQ (fun h => ?_) (fun h => ?_)
 case refine_2 =>
  simp only [dH, mS] at h
  obtain rfl : i = W.length := by omega
  rw [eS] at i5
  simp -implicitDefEqProofs only [aA, seval]
  have hno : n ∉ (t.aJ R).vl := fun hm => by
   obtain ⟨w, hw, hnw⟩ := i7 hm
   exact aU5 G i5 w hw hnw
  exact ⟨by simp only [hno, bX, rO], aL.aZ (aL.refl _) i4⟩
 simp only [bJ, mS] at h
 obtain ⟨w, hx⟩ : ∃ w, W[i]? = some w := ⟨_, fH h⟩
 have gM := cW hx
 have hat := aAI (b := bW) (l := W.map iv) (i := i) (x := iv w) dW (by rw [oV, hx]; try rfl)
 obtain ⟨gR, wN⟩ := S3 (st := st) (b := bW) hx
 have hw := bK (n := (i : Int) + 1)
 simp -implicitDefEqProofs only [hat, gR, wN, DG, aA, seval, FO]
 refine aQ (fun h2 => ?_) (fun h2 => ?_)
 · simp only [bJ] at h2
   subst h2
   simp -implicitDefEqProofs only [aA, seval]
   have hm : w ∈ (t.aJ R).vl := i6 w gM (by rw [G.free hn, wG]; simp)
   exact ⟨by simp only [hm, bM, rO], aL.aZ (aL.refl _) i4⟩
 simp only [dH] at h2
 simp -implicitDefEqProofs only [hat, gR, wN, DG, aA, seval, FO]
 obtain ⟨hw0, hw1⟩ := uO.1 (i3 w gM)
 obtain ⟨j, rfl⟩ : ∃ j : Nat, w = j := ⟨w.toNat, by omega⟩
 have hj : j < N := by omega
 have hj' : decide ((j : Int) < (N : Int)) = true := by simp; omega
 have aCK := xX (P := prog) (b := b) (len := N) aN hj
 have hSA := hS.acc i4
 have htk : W.take (i + 1) = W.take i ++ [(j : Int)] := by rw [fN, hx]; try rfl
 have step : ∀ W' : List Int, (∀ v ∈ W, v ∈ W') → (∀ u, σ (j : Int) = some u → ∀ v ∈ u.vl, v ∈ W') → ∀ w ∈ W'.take (i + 1), W'.take (i + 1) = W.take (i + 1) → w ≠ n ∧ ∀ u, σ w = some u → ∀ v ∈ u.vl, v ∈ W' := by
  intro W' yV lJ w hw' hte
  rw [hte, htk] at hw'
  rcases fS.1 hw' with hw' | hw'
  · exact ⟨(i5 w hw').1, fun u hu v hv => yV v ((i5 w hw').2 u hu v hv)⟩
  · simp only [cY, dP, d4] at hw'
    subst hw'
    exact ⟨h2, lJ⟩
 cases hs : σ (j : Int) with
 | none =>
  obtain ⟨D, e1, e2, _⟩ := hSA.none hj hs
  simp -implicitDefEqProofs only [hj', aCK, e1, e2, bM, iV, hat, gR, wN, DG, hw, aA, seval, FO]
  exact ⟨(i + 1, W, bW), by simp only; omega, ⟨h, i2, i3, i4, fun w hw' => step W (fun _ h => h) (fun u hu => by rw [hs] at hu; cases hu) w hw' rfl, i6, i7⟩, aO.mk (by simp -implicitDefEqProofs only [aA, seval])⟩
 | some u =>
  obtain ⟨k', n', s', ts'⟩ := u
  have ho := hok _ _ hs
  have hk' : ¬ k' = 0 := by have := ho.1.kind.1; omega
  obtain ⟨D, e1, e2, e3, e4⟩ := hSA.some hj hs
  simp -implicitDefEqProofs only [hj', aCK, e1, e2, e3, e4, hk', bX, iV, hat, gR, wN, DG, aA, seval, FO]
  have hwf := Tm.sS _ (ho.1.2.1)
  have hc := GA (.mk k' n' s' ts') W bW st hwf i4 (by have := ho.2; omega)
  obtain ⟨u1, u2, m, u3⟩ := Q6 _ hwf W
  rw [aV] at hc
  refine hc.mono ?_
  rintro _ _ ⟨b', rfl, rfl, hb'⟩
  generalize (Tm.mk k' n' s' ts').vars W = W' at *
  have hte : W'.take (i + 1) = W.take (i + 1) := by rw [u3, DA (by omega)]
  have hbd : (Tm.mk k' n' s' ts').aJ R = R (j : Int) := (G.bound hs).symm
  simp -implicitDefEqProofs only [hw, aA, seval]
  refine ⟨(i + 1, W', b'), by simp only; omega, ⟨by rw [u3]; simp only [dQ]; omega, u2 i2, fun w hw' => ?_, hb', fun w hw' => step W' (fun v hv => (u1 v).2 (.inl hv)) (fun u hu v hv => ?_) w hw' hte, fun w hw' hm => ?_, fun hm => ?_⟩, aO.mk (by simp -implicitDefEqProofs only [aA, seval])⟩
  · rcases (u1 w).1 hw' with h | h
    · exact i3 w h
    · exact uO.2 (ho.1.2.2 w h)
  · rw [hs] at hu
    cases hu
    exact (u1 v).2 (.inr hv)
  · rcases (u1 w).1 hw' with h | h
    · exact i6 w h hm
    · refine i6 (j : Int) gM ?_
      rw [← hbd]
      exact (xF _).2 ⟨w, h, hm⟩
  · obtain ⟨w, h, hm⟩ := i7 hm
    exact ⟨w, (u1 w).2 (.inl h), hm⟩
def AN (N b : Nat) (st : aB) (σ' : Sub) (st' : aB) : Prop := eY N st' b σ' ∧ ∀ x o, st x = some o → x ≠ b → st' x = some o
theorem AN.refl {N b : Nat} {st : aB} {σ : Sub} (h : eY N st b σ) : AN N b st σ st := ⟨h, fun _ _ h _ => h⟩
theorem AN.trans {N b : Nat} {st s2 s3 : aB} {σ2 σ3 : Sub} (x : AN N b st σ2 s2) (y : AN N b s2 σ3 s3) : AN N b st σ3 s3 := ⟨y.1, fun q o h hn => y.2 q o (x.2 q o h hn) hn⟩
def DM (N : Nat) (f : Nat) (b : Nat) (σ : Sub) (a c : Tm) (r : Bool) (σ' : Sub) : Prop := ∀ st, eY N st b σ → aD prog f [a.av, c.av, .mslice b 0 N 4] st (fun r' st' => r' = .bool r ∧ AN N b st σ' st')
abbrev mN := zi tI_3 (zi zI_3 (zi aX (zi tI_4 (zi zI_4 (zi cD (zi tI_9 (zi zI_9 (zi cH (zi tI_31 (zi zI_31 (zi aN (zi bE (zi bF (zi b9 (zi tI_63 (zi zI_63 (zi bP (zi bQ (zi bT (zi bS bR))))))))))))))))))))
theorem aFP (N : Nat) (hN : N ≤ 1048576) (g : Nat) (bb : Nat) (IH : ∀ (σ : Sub) (a b : Tm) (r : Bool) (σ' : Sub) (add : List Int), cL σ → cP (bD N) σ → bD N a → bD N b → dD g σ a b = some (r, σ', add) → DM N 145 bb σ a b r σ')
 (σ : Sub) (a b : Tm) (r : Bool) (σ' : Sub) (add : List Int) (hg : cL σ) (hok : cP (bD N) σ) (ha0 : bD N a) (hb0 : bD N b) (h : dD (g + 1) σ a b = some (r, σ', add))
 (aG9 : (wk σ a).k ≠ 1 → (wk σ b).k = 1 → DM N 145 bb σ (wk σ b) (wk σ a) r σ') : DM N 145 bb σ a b r σ' := by
 intro st hS
 obtain ⟨rk, B, G⟩ := hg.rs
 obtain ⟨fa, wa⟩ := G.wk a
 obtain ⟨fb, wb⟩ := G.wk b
 have JW : cP (cE N) σ := fun n u hu => (hok n u hu).1
 have hca := fun st (hS : eY N st bb σ) => WR JW wa ha0.1 bb st hS
 have hcb := fun st (hS : eY N st bb σ) => WR JW wb hb0.1 bb st hS
 have ea := wa.end
 have eb := wb.end
 have hsa := wa.all (p := bD N) hok ha0
 have hsb := wb.all (p := bD N) hok hb0
 replace h := KA h
 generalize wk σ a = a1 at *
 generalize wk σ b = b1 at *
 clear wa wb
 refine wF [1000000, 3, 4] 3 func145 ntmps145 rfl rfl ?_
 intro fY
 simp -implicitDefEqProofs only [aA, seval, mN]
 intro b4 h4 b5 h5
 have h54 : b5 ≠ b4 := by rintro rfl; rw [aB.aP] at h5; cases h5
 have hn5 : st b5 = none := by rw [aB.aM st _ h54] at h5; exact h5
 have h4b : b4 ≠ bb := by rintro rfl; rw [eY, h4] at hS; cases hS
 have h5b : b5 ≠ bb := by rintro rfl; rw [eY, hn5] at hS; cases hS
 have hS' : ∀ o o', eY N ((st.aC b4 o).aC b5 o') bb σ := fun o o' => (hS.aC h4b).aC h5b
 have hQ : ∀ o o', AN N bb st σ ((st.aC b4 o).aC b5 o') := fun o o' => ⟨hS' o o', fun x p h _ => by
  rw [aB.aM _ _ (by rintro rfl; rw [hn5] at h; cases h), aB.aM _ _ (by rintro rfl; rw [h4] at h; cases h)]; exact h⟩
 simp -implicitDefEqProofs only [bO, d9 (bO a), d8 (aT a), h54.symm, aA, seval]
 refine (hca _ (hS' _ _)).to ?_
 simp -implicitDefEqProofs only [bO, d9 (bO b), d8 (aT b), bZ, aK, h54, h54.symm, aA, seval, mN]
 rw [aB.vJ h54, aB.nX _ _ _ h54]
 refine (hcb _ (hS' _ _)).to ?_
 obtain ⟨ka, na, sa, tsa⟩ := a1
 obtain ⟨kb, nb, sb', tsb⟩ := b1
 obtain ⟨hla, ZQ⟩ := Tm.oE (hsa.1.small)
 obtain ⟨hlb, RU⟩ := Tm.oE (hsb.1.small)
 have gW : ∀ o o', AN N bb st σ ((st.aC b4 o).aC b5 o') := hQ
 have hka := fun h => (qL N) _ h hsa
 have hkb := fun h => (qL N) _ h hsb
 simp only [aV]
 simp only [Tm.k, Tm.n, Tm.ts] at h ea eb aG9 hka hkb
 simp -implicitDefEqProofs only [dE, aK, h54.symm, aA, seval, mN]
 have var : ∀ {n : Int} {t : Tm}, n ∈ VN N → σ n = none → bD N t → jU σ n t = (r, σ', add) → ∀ s0, eY N s0 bb σ → aD prog 180 [.int .i64 n, t.av, .mslice bb 0 N 4] s0 (fun r' st' => r' = .bool (!r) ∧ st' = s0) := by
  intro n t _ hn ht hb s0 hs0
  have := aYO G hok hN hn t ht bb s0 hs0
  unfold jU at hb
  split at hb
  · rename_i hm
    cases hb
    simpa [hm] using this
  · rename_i hm
    cases hb
    simpa [hm] using this
 rcases h with ⟨h1, h2, h3, rfl, rfl, rfl⟩ | ⟨h1, h2, h3⟩ | ⟨h1, h2, h3⟩ | ⟨h1, h2, h3, h4⟩ | ⟨h1, h2, h3, rfl, rfl, rfl⟩
 · subst h1 h2 h3
   simp -implicitDefEqProofs only [bM, iV, h54.symm, aA, seval, mN]
   exact gW _ _
 · subst h1
   have hin := uO.2 (hsa.1.2.2 na (by rw [Tm.mI rfl]; simp))
   obtain ⟨hn0, hn1⟩ := uO.1 hin
   have hcw := var hin (ea rfl) hsb h3 _ (hS' (.cells [.int .i64 1, .int .i64 na, .str sa, .slice (tsa.map Tm.av)]) (.cells [.int .i64 kb, .int .i64 nb, .str sb', .slice (tsb.map Tm.av)]))
   have hna := ea rfl
   rw [aV] at hcw
   obtain ⟨i, rfl⟩ : ∃ i : Nat, na = i := ⟨na.toNat, by omega⟩
   have hi : i < N := by omega
   have hat := xX (P := prog) (b := bb) (len := N) aN hi
   have h6 : kb = 1 → ¬ (i : Int) = nb := fun e1 e => h2 ⟨e1, e⟩
   have tail : ∀ (s0 : aB), s0 = ((st.aC b4 (.cells [.int .i64 1, .int .i64 i, .str sa, .slice (tsa.map Tm.av)])).aC b5 (.cells [.int .i64 kb, .int .i64 nb, .str sb', .slice (tsb.map Tm.av)])) → r = true →
    ∃ D D', s0 bb = some (.cells D) ∧ i * 4 + 4 ≤ D.length ∧ aK D (i * 4) [.int .i64 kb, .int .i64 nb, .str sb', .slice (tsb.map Tm.av)] = D' ∧ AN N bb st σ' (s0.aC bb (.cells D')) := by
    rintro _ rfl rfl
    unfold jU at h3
    split at h3
    · cases h3
    · cases h3
      obtain ⟨D, D', e1, e2, e3, e4⟩ := (hS' (.cells [.int .i64 1, .int .i64 i, .str sa, .slice (tsa.map Tm.av)]) (.cells [.int .i64 kb, .int .i64 nb, .str sb', .slice (tsb.map Tm.av)])).set hi (.mk kb nb sb' tsb)
      refine ⟨D, D', e1, e2, by rw [← e3, aV]; try rfl, e4, fun x o hx hxb => ?_⟩
      rw [aB.aM _ _ hxb]
      exact (hQ _ _).2 x o hx hxb
   by_cases h5 : kb = 1
   · subst h5
     simp -implicitDefEqProofs only [bM, h6 rfl, bX, iV, h54.symm, aA, seval, mN]
     refine hcw.to ?_
     cases r with
     | false =>
      simp -implicitDefEqProofs only [aA, seval]
      unfold jU at h3
      split at h3
      · cases h3
        exact gW _ _
      · cases h3
     | true =>
      obtain ⟨D, D', e1, e2, e3, e4⟩ := tail _ rfl rfl
      simp -implicitDefEqProofs only [hat, e1, e2, aK, h54.symm, aA, seval, mN]
      rw [← e3] at e4
      exact e4
   · simp -implicitDefEqProofs only [bM, h5, bX, iV, h54.symm, aA, seval, mN]
     refine hcw.to ?_
     cases r with
     | false =>
      simp -implicitDefEqProofs only [aA, seval]
      unfold jU at h3
      split at h3
      · cases h3
        exact gW _ _
      · cases h3
     | true =>
      obtain ⟨D, D', e1, e2, e3, e4⟩ := tail _ rfl rfl
      simp -implicitDefEqProofs only [hat, e1, e2, aK, h54.symm, aA, seval, mN]
      rw [← e3] at e4
      exact e4
 · subst h2
   have hsw := aG9 h1 rfl
   simp only [DM, aV] at hsw
   simp -implicitDefEqProofs only [bM, h1, bX, iV, h54.symm, aA, seval, mN]
   refine (hsw _ (hS' _ _)).mono ?_
   rintro _ s2 ⟨rfl, hp⟩
   simp -implicitDefEqProofs only [aA, seval]
   exact (hQ _ _).trans hp
 · rw [rK] at h3
   simp only [Tm.k, Tm.n, Tm.s, Tm.ts] at h3
   obtain ⟨rfl, rfl, rfl, hlen⟩ := h3
   have cV : decide ((tsa.length : Int) = (tsb.length : Int)) = true := by simp [hlen]
   simp -implicitDefEqProofs only [bM, bX, cV, iV, h54.symm, aF, h1, aA, seval, mN]
   have hS0 := hS' (.cells [.int .i64 ka, .int .i64 na, .str sa, .slice (tsa.map Tm.av)]) (.cells [.int .i64 ka, .int .i64 na, .str sa, .slice (tsb.map Tm.av)])
   have hQ0 := hQ (.cells [.int .i64 ka, .int .i64 na, .str sa, .slice (tsa.map Tm.av)]) (.cells [.int .i64 ka, .int .i64 na, .str sa, .slice (tsb.map Tm.av)])
   have e4 : ((st.aC b4 (.cells [.int .i64 ka, .int .i64 na, .str sa, .slice (tsa.map Tm.av)])).aC b5 (.cells [.int .i64 ka, .int .i64 na, .str sa, .slice (tsb.map Tm.av)])) b4 = some (.cells [.int .i64 ka, .int .i64 na, .str sa, .slice (tsa.map Tm.av)]) := by rw [aB.aM _ _ h54.symm, aB.aP]
   have e5 : ((st.aC b4 (.cells [.int .i64 ka, .int .i64 na, .str sa, .slice (tsa.map Tm.av)])).aC b5 (.cells [.int .i64 ka, .int .i64 na, .str sa, .slice (tsb.map Tm.av)])) b5 = some (.cells [.int .i64 ka, .int .i64 na, .str sa, .slice (tsb.map Tm.av)]) := aB.aP _ _ _
   generalize (st.aC b4 (.cells [.int .i64 ka, .int .i64 na, .str sa, .slice (tsa.map Tm.av)])).aC b5 (.cells [.int .i64 ka, .int .i64 na, .str sa, .slice (tsb.map Tm.av)]) = s0 at *
   refine eL (σ := Sub × List Int × aB) [1000000, 3, 4] [2, 3, 4] tsa
    (fun i p => cL p.1 ∧ cP (bD N) p.1 ∧ AN N bb s0 p.1 p.2.2 ∧ dU g p.1 (tsa.drop i) (tsb.drop i) = some (r, σ', p.2.1))
    (fun i _ => [(6, .bool false), (7, .int .i64 i)]) (fun _ p => p.2.2) (by decide +kernel)
    ⟨(σ, add, s0), ⟨hg, hok, AN.refl hS0, h4⟩, aO.mk (by simp -implicitDefEqProofs only [aA, ↓aU, seval])⟩ (fun i x p hx hlt bU hdr hinv => ?_) (fun p hge hinv => ?_)
   case refine_2 =>
    obtain ⟨σi, rest, si⟩ := p
    obtain ⟨i1, i2, i3, i5⟩ := hinv
    simp only at i1 i2 i3 i5
    have f4 := i3.2 b4 _ e4 h4b
    rw [kH, hlen, kH] at i5
    simp only [dU, Option.some.injEq, Prod.mk.injEq] at i5
    obtain ⟨rfl, rfl, rfl⟩ := i5
    simp -implicitDefEqProofs only [hge, f4, aF, aA, seval, mN]
    exact hQ0.trans i3
   obtain ⟨σi, rest, si⟩ := p
   obtain ⟨i1, i2, i3, i5⟩ := hinv
   simp only at i1 i2 i3 i5
   obtain ⟨y, hy⟩ : ∃ y, tsb[i]? = some y := ⟨_, fH (by omega)⟩
   have yW : tsb.drop i = y :: tsb.drop (i + 1) := by
    obtain ⟨h1, h2⟩ := gS.1 hy
    rw [qY h1, h2]
   rw [hdr, yW, dU] at i5
   have f4 := i3.2 b4 _ e4 h4b
   have f5 := i3.2 b5 _ e5 h5b
   have hw := bK (n := (i : Int) + 1)
   simp -implicitDefEqProofs only [bU, aF, f4, aA, seval, mN]
   refine wP [(0, 1), (2, 1), (5, 1), (7, 1), (10, 1), (1, 2), (3, 1), (4, 2), (6, 2), (8, 1), (9, 2), (11, 0), (12, 1)] [0, 2, 5, 7, 10, 1, 3, 4, 6, 8, 9, 12] mixed ?_
   simp -implicitDefEqProofs only [f4, f5, bL (av := Tm.av) aN hx (aH x), bL (av := Tm.av) aN hy (aH y), aA, seval, mN]
   cases hu : dD g σi x y with
   | none => rw [hu] at i5; cases i5
   | some p1 =>
    obtain ⟨r1, σ1, tr1⟩ := p1
    rw [hu] at i5
    have hx1 : bD N x := hka h1 x (cW hx)
    have hy1 : bD N y := hkb h2 y (cW hy)
    have hU := uT i1 hu
    have hA := (HU (qL N) g).1 σi x y r1 σ1 tr1 i1 hu i2 hx1 hy1
    refine (IH σi x y r1 σ1 tr1 i1 i2 hx1 hy1 hu si i3.1).mono ?_
    rintro _ s2 ⟨rfl, hp2⟩
    cases r1 with
    | false =>
     simp only [Option.some.injEq, Prod.mk.injEq] at i5
     obtain ⟨rfl, rfl, rfl⟩ := i5
     simp -implicitDefEqProofs only [aA, seval]
     exact hQ0.trans (i3.trans hp2)
    | true =>
     simp only at i5
     cases hu2 : dU g σ1 (tsa.drop (i + 1)) (tsb.drop (i + 1)) with
     | none => rw [hu2] at i5; cases i5
     | some p2 =>
      obtain ⟨r2, σ2, tr2⟩ := p2
      rw [hu2] at i5
      simp only [Option.some.injEq, Prod.mk.injEq] at i5
      obtain ⟨rfl, rfl, _⟩ := i5
      simp -implicitDefEqProofs only [aA, seval]
      exact ⟨(σ1, tr2, s2), ⟨hU.gK, hA, i3.trans hp2, hu2⟩, aO.mk (by simp -implicitDefEqProofs only [hw, aA, seval])⟩
 · have hd : ka = kb → na = nb → sa = sb' → ¬ (tsa.length : Int) = (tsb.length : Int) := by
    intro e1 e2 e3 e4
    have : tR (Tm.mk ka na sa tsa) (Tm.mk kb nb sb' tsb) = true := rK.2 ⟨e1, e2, e3, by simp only [Tm.ts]; omega⟩
    rw [h3] at this; cases this
   by_cases e1 : ka = kb
   · by_cases e2 : na = nb
     · by_cases e3 : sa = sb'
       · have e4 := hd e1 e2 e3
         subst e1 e2 e3
         simp -implicitDefEqProofs only [bX, bM, iV, h54.symm, h1, aF, e4, aA, seval, mN]
         exact gW _ _
       · subst e1 e2
         simp -implicitDefEqProofs only [bX, bM, iV, h54.symm, h1, e3, aA, seval, mN]
         exact gW _ _
     · subst e1
       simp -implicitDefEqProofs only [bX, bM, iV, h54.symm, h1, e2, aA, seval, mN]
       exact gW _ _
   · clear hd
     simp -implicitDefEqProofs only [bX, iV, h54.symm, h1, h2, e1, aA, seval, mN]
     exact gW _ _
theorem aKB (N : Nat) (hN : N ≤ 1048576) (bb : Nat) : ∀ (g : Nat) (σ : Sub) (a b : Tm) (r : Bool) (σ' : Sub) (add : List Int), cL σ → cP (bD N) σ → bD N a → bD N b → dD g σ a b = some (r, σ', add) → DM N 145 bb σ a b r σ'
 | 0, σ, a, b, r, σ', add, hg, hok, ha, hb, h => by simp only [dD] at h; cases h
 | g + 1, σ, a, b, r, σ', add, hg, hok, ha, hb, h => by
  refine aFP N hN g bb (aKB N hN bb g) σ a b r σ' add hg hok ha hb h fun h1 h2 => ?_
  obtain ⟨rk, B, G⟩ := hg.rs
  obtain ⟨fa, wa⟩ := G.wk a
  obtain ⟨fb, wb⟩ := G.wk b
  have eb := aJZ wb
  have ea := aJZ wa
  have hbn : jU σ (wk σ b).n (wk σ a) = (r, σ', add) := by
   rcases KA h with h | h | h | h | h
   · exact absurd h.1 h1
   · exact absurd h.1 h1
   · exact h.2.2
   · exact absurd h2 h.2.1
   · exact absurd h2 h.2.1
  refine aFP N hN 0 bb (fun σ a b r σ' add _ _ _ _ h => by simp only [dD] at h; cases h) σ (wk σ b) (wk σ a) r σ' add hg hok (wb.all (p := bD N) hok hb) (wa.all (p := bD N) hok ha) ?_ fun h3 => ?_
  · rw [dD, eb, ea, aE (fun h => h1 h.2.1), aG h2, hbn]
  · rw [eb] at h3; exact absurd h2 h3
end Go.AW
namespace Go.AW
noncomputable def qU (σ : Sub) (a b : Tm) : Int × Sub × List Int := (g9 (iQ σ a b).1, (iQ σ a b).2)
noncomputable def tZ (σ : Sub) (x y z : Tm) : Int × Sub × List Int :=
 if x.k = 1 ∨ y.k = 1 then (2, σ, []) else if x.k ≠ 2 ∨ y.k ≠ 3 ∨ y.ts.length = 0 then (3, σ, []) else match mJ x y with
  | some u => qU σ z u
  | none => (1, σ, [])
noncomputable def c8 (σ : Sub) (s : ByteArray) : List Tm → Int × Sub × List Int
 | [] => (g9 (decide (s = ⟨#[116, 114, 117, 101]⟩)), σ, [])
 | [x] => (g9 (rB s x), σ, [])
 | [x, y] => if fO qR s = true then (xG s x y, σ, []) else if s = ⟨#[61]⟩ then qU σ x y else if s = ⟨#[92, 61]⟩ then (g9 (!(iQ σ x y).1), σ, [])
  else if s = ⟨#[61, 61]⟩ then (g9 (x.same y), σ, []) else if y.ev.2 ≠ 0 then (y.ev.2, σ, []) else qU σ x (mW y.ev.1)
 | [x, y, z] => tZ σ x y z
 | _ => (0, σ, [])
structure mH (N : Int) (σ : Sub) (σ' : Sub) (add : List Int) : Prop where
 gK : cL σ'
 ok : cP (bD N) σ'
 a8 : ∀ n, n ∉ add → σ' n = σ n
 new : ∀ n ∈ add, σ n = none ∧ σ' n ≠ none
 nodup : add.Nodup
 fO : ∀ n ∈ add, 0 ≤ n ∧ n < N
theorem mH.same {N : Int} {σ : Sub} (hg : cL σ) (ho : cP (bD N) σ) : mH N σ σ [] := ⟨hg, ho, fun _ _ => rfl, by simp, pZ, by simp⟩
theorem zX.uI {N : Int} {σ : Sub} {a b : Tm} {r : Bool} {σ' : Sub} {tr : List Int} (h : zX N σ a b r σ' tr) : mH N σ σ' tr := ⟨h.l9.gK, h.ok, h.l9.a8, h.l9.new, h.l9.nodup, h.fO⟩
theorem mH.l9 {N : Nat} {σ : Sub} {a b : Tm} (hg : cL σ) (ho : cP (bD N) σ) (ha : bD N a) (hb : bD N b) : mH N σ (iQ σ a b).2.1 (iQ σ a b).2.2 := by
 obtain ⟨r, σ', tr, h⟩ := rD hg ho ha hb
 rw [h.eq]
 exact h.uI
theorem HF {N : Int} {n : Int} (h : jW n) : bD N (mW n) := by
 have h1 := aYE h
 have h2 := Tm.EJ h1
 refine ⟨⟨h2.1, h2.2.1, fun v hv => ?_⟩, Tm.G9 h1⟩
 unfold mW at hv
 rw [Tm.kJ (by decide)] at hv
 obtain ⟨t, ht, _⟩ := hv
 cases ht
theorem aDL {N : Int} {x y u : Tm} (hy : bD N y) (hk : y.k ≠ 1) (h : mJ x y = some u) : bD N u := qL N y hk hy u (aKP h)
theorem J7 {N : Nat} {σ : Sub} (hg : cL σ) (ho : cP (bD N) σ) (s : ByteArray) (ks : List Tm) (hv : ∀ x ∈ ks, bD N x) : mH N σ (c8 σ s ks).2.1 (c8 σ s ks).2.2 := by
 have hs := mH.same hg ho
 match ks, hv with
 | [], _ => exact hs
 | [x], _ => exact hs
 | [x, y], hv =>
  have hx := hv x (by simp)
  have hy := hv y (by simp)
  simp only [c8]
  split
  · exact hs
  split
  · exact mH.l9 hg ho hx hy
  split
  · exact hs
  split
  · exact hs
  split
  · exact hs
  · exact mH.l9 hg ho hx (HF (Tm.tQ y hy.1))
 | [x, y, z], hv =>
  have hy := hv y (by simp)
  have hz := hv z (by simp)
  simp only [c8, tZ]
  split
  · exact hs
  rename_i h1
  split
  · exact hs
  split
  · rename_i u hu
    exact mH.l9 hg ho hz (aDL hy (fun h => h1 (.inr h)) hu)
  · exact hs
 | a :: b :: c :: d :: l, _ => exact hs
theorem aMM (ρ : Int → Int) : ∀ t : Tm, (bV ρ t).ev = t.ev := by
 intro t
 induction t using Tm.ind with
 | h k n s ts ih =>
  by_cases h1 : k = 1
  · rw [w8 ρ (t := .mk k n s ts) h1, vr, Tm.vZ, Tm.vZ, h1]
    simp
  rw [uZ ρ h1, Tm.vZ, Tm.vZ, xT]
  have : ts.map (Tm.ev ∘ bV ρ) = ts.map Tm.ev := q7 fun x hx => ih x hx
  rw [this]
section
variable {ρ : Int → Int} {N : Int} {σ τ : Sub}
theorem fC.back (S : fC ρ N σ τ) : ∃ δ : Int → Int, ∀ v, 0 ≤ v → v < N → δ (ρ v) = v := by
 refine ⟨fun w => open Classical in if h : ∃ v, 0 ≤ v ∧ v < N ∧ ρ v = w then h.choose else 0, fun v h0 h1 => ?_⟩
 have h : ∃ u, 0 ≤ u ∧ u < N ∧ ρ u = ρ v := ⟨v, h0, h1, rfl⟩
 simp only [dif_pos h]
 obtain ⟨a, b, c⟩ := h.choose_spec
 exact S.inj _ _ a b h0 h1 c
theorem fC.aXV (S : fC ρ N σ τ) {x y : Tm} (hx : cE N x) (hy : cE N y) (e : bV ρ x = bV ρ y) : x = y := by
 obtain ⟨δ, hδ⟩ := S.back
 have key : ∀ {t : Tm}, cE N t → bV δ (bV ρ t) = t := fun {t} ht => by
  rw [show bV δ (bV ρ t) = t.aJ fun v => vr (δ (ρ v)) from FN ρ _ t]
  rw [pV (g := vr) t fun v hv => by rw [hδ v (ht.2.2 v hv).1 (ht.2.2 v hv).2]]
  exact L0 t ht.2.1
 rw [← key hx, e, key hy]
theorem fC.same (S : fC ρ N σ τ) {x y : Tm} (hx : cE N x) (hy : cE N y) : (bV ρ x).same (bV ρ y) = x.same y := by
 rw [vO, Tm.HC, Tm.HC]
 exact ⟨S.aXV hx hy, fun e => by rw [e]⟩
theorem aTN (ρ : Int → Int) (s : ByteArray) (x : Tm) : rB s (bV ρ x) = rB s x := by
 unfold rB
 rw [v8]
 by_cases h : x.k = 1
 · rw [h]; simp
 · have : (bV ρ x).ts.length = x.ts.length := by
    rw [A7 ρ h]
    simp only [Tm.ts, aF]
   rw [this]
theorem aUA (ρ : Int → Int) {x y : Tm} (hx : x.k = 2) (hy : y.k = 3) : mJ (bV ρ x) (bV ρ y) = (mJ x y).map (bV ρ) := by
 obtain ⟨k, n, s, ts⟩ := x
 obtain ⟨k', n', s', ts'⟩ := y
 simp only [Tm.k] at hx hy
 subst hx hy
 rw [uZ ρ (by decide), uZ ρ (by decide)]
 unfold mJ
 show (if 1 ≤ n ∧ n ≤ ((ts'.map (bV ρ)).length : Int) then (ts'.map (bV ρ))[(n - 1).toNat]? else none) = Option.map (bV ρ) (if 1 ≤ n ∧ n ≤ (ts'.length : Int) then ts'[(n - 1).toNat]? else none)
 by_cases h : 1 ≤ n ∧ n ≤ (ts'.length : Int)
 · rw [aG h, aG (by rw [aF]; exact h), oV]
 · rw [aE h, aE (by rw [aF]; exact h)]; try rfl
def lS (ρ : Int → Int) (N : Int) (x y : Int × Sub × List Int) : Prop := y.1 = x.1 ∧ y.2.2 = x.2.2.map ρ ∧ fC ρ N x.2.1 y.2.1
theorem lS.same (S : fC ρ N σ τ) (c : Int) : lS ρ N (c, σ, []) (c, τ, []) := ⟨rfl, rfl, S⟩
end
section
variable {ρ : Int → Int} {N : Nat} {σ τ : Sub}
theorem lS.l9 (S : fC ρ N σ τ) (hg : cL σ) (hg' : cL τ) (ho : cP (bD N) σ) {a b : Tm} (ha : bD N a) (hb : bD N b) : lS ρ N (qU σ a b) (qU τ (bV ρ a) (bV ρ b)) := by
 obtain ⟨r, σ', tr, h⟩ := rD hg ho ha hb
 obtain ⟨g, hg2⟩ := h.run
 obtain ⟨τ', e, S', _⟩ := S.iQ hg hg' ho.k8 ha.1 hb.1 hg2
 unfold qU
 rw [h.eq, e]
 exact ⟨rfl, rfl, S'⟩
theorem aW1 (ρ : Int → Int) (n : Int) : bV ρ (mW n) = mW n := uZ ρ (by decide)
theorem fC.c8 (S : fC ρ N σ τ) (hg : cL σ) (hg' : cL τ) (ho : cP (bD N) σ) (s : ByteArray) (ks : List Tm) (hv : ∀ x ∈ ks, bD N x) : lS ρ N (AW.c8 σ s ks) (AW.c8 τ s (ks.map (bV ρ))) := by
 match ks, hv with
 | [], _ => exact lS.same S _
 | [x], _ =>
  simp only [bA, aW, AW.c8, aTN]
  exact lS.same S _
 | [x, y], hv =>
  have hx := hv x (by simp)
  have hy := hv y (by simp)
  have hu := lS.l9 S hg hg' ho hx hy
  simp only [bA, aW, AW.c8, xG, aMM, S.same hx.1 hy.1]
  by_cases h1 : fO qR s = true
  · rw [aG h1, aG h1]; exact lS.same S _
  rw [aE h1, aE h1]
  by_cases h2 : s = ⟨#[61]⟩
  · rw [aG h2, aG h2]; exact hu
  rw [aE h2, aE h2]
  by_cases h3 : s = ⟨#[92, 61]⟩
  · rw [aG h3, aG h3]
    obtain ⟨r, σ', tr, h⟩ := rD hg ho hx hy
    obtain ⟨g, hg2⟩ := h.run
    obtain ⟨τ', e, _, _⟩ := S.iQ hg hg' ho.k8 hx.1 hy.1 hg2
    rw [h.eq, e]
    exact lS.same S _
  rw [aE h3, aE h3]
  by_cases h4 : s = ⟨#[61, 61]⟩
  · rw [aG h4, aG h4]; exact lS.same S _
  rw [aE h4, aE h4]
  by_cases h5 : y.ev.2 ≠ 0
  · rw [aG h5, aG h5]; exact lS.same S _
  rw [aE h5, aE h5]
  have := lS.l9 S hg hg' ho hx (HF (N := N) (Tm.tQ y hy.1))
  rw [aW1] at this
  exact this
 | [x, y, z], hv =>
  have hy := hv y (by simp)
  have hz := hv z (by simp)
  simp only [bA, aW, AW.c8, tZ, v8]
  by_cases h1 : x.k = 1 ∨ y.k = 1
  · rw [aG h1, aG h1]; exact lS.same S _
  rw [aE h1, aE h1]
  have hl : (bV ρ y).ts.length = y.ts.length := by
   rw [A7 ρ (t := y) (fun h => h1 (.inr h))]
   simp only [Tm.ts, aF]
  rw [hl]
  by_cases h2 : x.k ≠ 2 ∨ y.k ≠ 3 ∨ y.ts.length = 0
  · rw [aG h2, aG h2]; exact lS.same S _
  rw [aE h2, aE h2]
  have kx : x.k = 2 := C9 fun h => h2 (.inl h)
  have ky : y.k = 3 := C9 fun h => h2 (.inr (.inl h))
  rw [aUA ρ kx ky]
  cases hu : mJ x y with
  | none => exact lS.same S _
  | some u => exact lS.l9 S hg hg' ho hz (aDL hy (fun h => h1 (.inr h)) hu)
 | a :: b :: c :: d :: l, _ =>
  simp only [bA, AW.c8]
  exact lS.same S _
end
theorem aND (σ : Sub) (s : ByteArray) (ks : List Tm) : 0 ≤ (c8 σ s ks).1 := by
 have hc : ∀ b, 0 ≤ g9 b := fun b => by unfold g9; split <;> omega
 have hr : ∀ n, 0 ≤ (iT n).2 := fun n => by unfold iT; split <;> simp
 have har : ∀ s a b, 0 ≤ (qQ s a b).2 := fun s a b => by
  unfold qQ
  split
  · exact hr _
  split
  · exact hr _
  split
  · exact hr _
  split
  · simp
  split
  · simp
  · simp
 have hb : ∀ (f : Int → Int → Int × Int) (x y : Int × Int), (∀ a b, 0 ≤ (f a b).2) → 0 ≤ x.2 → 0 ≤ y.2 → 0 ≤ (both f x y).2 := fun f x y hf hx hy => by
  unfold both
  split
  · exact hx
  split
  · exact hy
  · exact hf _ _
 have he : ∀ t : Tm, 0 ≤ t.ev.2 := by
  intro t
  induction t using Tm.ind with
  | h k n s ts ih =>
   rw [Tm.vZ]
   split
   · simp
   split
   · simp
   split
   · match ts, ih with
     | [], _ => simp [two]
     | [x], _ => simp [two]
     | [x, y], ih => exact hb _ _ _ (har s) (ih x (by simp)) (ih y (by simp))
     | x :: y :: z :: l, _ => simp [two]
   · simp
 match ks with
 | [] => exact hc _
 | [x] => exact hc _
 | [x, y] =>
  simp only [c8]
  split
  · exact hb _ _ _ (fun _ _ => hc _) (he x) (he y)
  split
  · exact hc _
  split
  · exact hc _
  split
  · exact hc _
  split
  · exact he y
  · exact hc _
 | [x, y, z] =>
  simp only [c8, tZ]
  split
  · simp
  split
  · simp
  split
  · exact hc _
  · simp
 | a :: b :: c :: d :: l => simp [c8]
end Go.AW
namespace Go.AW
open Go.Proofs.Tryz
theorem aSJ (σ : Sub) (x y z : Tm) : tZ σ x y z = if (qN x y).2 = 0 then qU σ z (qN x y).1 else ((qN x y).2, σ, []) := by
 unfold tZ qN
 split
 · simp
 split
 · simp
 cases mJ x y <;> rfl
def qP (N bb : Nat) (st : aB) (x : Int × Sub × List Int) (r : AV) (st' : aB) : Prop := r = .int .i64 x.1 ∧ AN N bb st x.2.1 st'
theorem qP.same {N bb : Nat} {st : aB} {σ : Sub} {r : AV} (h : eY N st bb σ) (k : Int) (hr : r = .int .i64 k) : qP N bb st (k, σ, []) r st := ⟨hr, AN.refl h⟩
theorem GF {N : Nat} (hN : N ≤ 1048576) {σ : Sub} (hg : cL σ) (ho : cP (bD N) σ) (a b : Tm) (ha : bD N a) (hb : bD N b) (bb : Nat) (st : aB) (hS : eY N st bb σ) :
 aD prog 145 [a.av, b.av, .mslice bb 0 N 4] st (fun r st' => r = .bool (iQ σ a b).1 ∧ AN N bb st (iQ σ a b).2.1 st') := by
 obtain ⟨r, σ', tr', hU⟩ := rD hg ho ha hb
 obtain ⟨g, nD⟩ := hU.run
 rw [hU.eq]
 exact aKB N hN bb g σ a b r σ' tr' hg ho ha hb nD st hS
abbrev oX := zi tI_3 (zi zI_3 (zi aX (zi tI_4 (zi zI_4 (zi cD (zi tI_9 (zi zI_9 (zi cH (zi tI_31 (zi zI_31 (zi aN (zi bE (zi bF (zi b9 (zi tI_63 (zi zI_63 (zi bP (zi bQ (zi bT (zi bS bR))))))))))))))))))))
theorem aRA {N : Nat} (hN : N ≤ 1048576) {σ : Sub} (hg : cL σ) (ho : cP (bD N) σ) (n : Int) (s : ByteArray) (ks : List Tm) (hb : isBuiltin s (ks.length : Int) = true) (hne : s ≠ ⟨#[92, 61]⟩) (hv : ∀ x ∈ ks, bD N x) (bb : Nat) (st : aB) (hS : eY N st bb σ) :
 aD prog 132 [(Tm.mk 3 n s ks).av, .mslice bb 0 N 4] st (qP N bb st (c8 σ s ks)) := by
 have hcs := aHD hb
 have CZ := fun x y (hxy : ks = [x, y]) => aZL n s x y (hv x (by simp [hxy])).1 (hv y (by simp [hxy])).1
 have SK := fun x y z (hxy : ks = [x, y, z]) => aM7 n s x y z (hv y (by simp [hxy])).1
 have aFH := fun x (hxy : ks = [x]) h => aZA n s x h
 simp only [aV] at CZ SK aFH ⊢
 refine wF [1000000] 2 func132 ntmps132 rfl rfl ?_
 intro _
 simp -implicitDefEqProofs only [aA, seval, oX]
 refine aQ (fun h => ?_) (fun h => ?_)
 · have hs : s = ⟨#[116, 114, 117, 101]⟩ := by simpa using h
   have hk := HT (ts := ks) (by subst hs; simpa [isBuiltin] using hb)
   subst hk
   simp -implicitDefEqProofs only [aA, seval]
   exact qP.same hS _ (by simp [g9, hs])
 have ht : s ≠ ⟨#[116, 114, 117, 101]⟩ := by simpa using h
 simp -implicitDefEqProofs only [aA, seval]
 refine aQ (fun h => ?_) (fun h => ?_)
 · have hs : s = ⟨#[102, 97, 105, 108]⟩ := by simpa using h
   have hk := HT (ts := ks) (by subst hs; simpa [isBuiltin] using hb)
   subst hk
   simp -implicitDefEqProofs only [aA, seval]
   exact qP.same hS _ (by simp [g9, hs])
 have hf : s ≠ ⟨#[102, 97, 105, 108]⟩ := by simpa using h
 simp -implicitDefEqProofs only [aA, seval]
 refine aQ (fun h => ?_) (fun h => ?_)
 · have hs : s = ⟨#[61]⟩ := by simpa using h
   obtain ⟨x, y, rfl⟩ := sZ (ts := ks) (by subst hs; simp [isBuiltin] at hb; omega)
   have e : c8 σ s [x, y] = qU σ x y := by subst hs; rfl
   rw [e]
   have dT : dJ prog 31 (.slice [x.av, y.av]) (.int .i64 0) = some (.pptr x.av) := bL (av := Tm.av) (l := [x, y]) (i := 0) aN rfl (aH x)
   have gC : dJ prog 31 (.slice [x.av, y.av]) (.int .i64 1) = some (.pptr y.av) := bL (av := Tm.av) (l := [x, y]) (i := 1) aN rfl (aH y)
   simp -implicitDefEqProofs only [aA, seval]
   refine wX [(0, 1), (1, 1), (2, 1), (3, 1), (4, 1), (5, 1), (6, 1), (7, 1), (8, 1), (9, 0), (10, 0), (11, 1)] [0, 1, 2, 3, 4, 5, 6, 7, 8, 11] dX mixed rfl gB ?_
   simp -implicitDefEqProofs only [dT, gC, aT, aH, aA, seval, oX]
   refine (GF hN hg ho x y (hv x (by simp)) (hv y (by simp)) bb _ hS).mono ?_
   rintro _ s2 ⟨rfl, hP⟩
   simp -implicitDefEqProofs only [aA, seval]
   refine ⟨gB, ?_⟩
   refine (sA _ _).to ?_
   simp -implicitDefEqProofs only [aA, seval]
   exact ⟨gB, rfl, hP⟩
 have he : s ≠ ⟨#[61]⟩ := by simpa using h
 simp -implicitDefEqProofs only [aA, seval]
 refine aQ (fun h => absurd (by simpa using h) hne) (fun h => ?_)
 simp -implicitDefEqProofs only [aA, seval]
 refine aQ (fun h => ?_) (fun h => ?_)
 · have hs : s = ⟨#[61, 61]⟩ := by simpa using h
   obtain ⟨x, y, rfl⟩ := sZ (ts := ks) (by subst hs; simp [isBuiltin] at hb; omega)
   have e : c8 σ s [x, y] = (g9 (x.same y), σ, []) := by subst hs; rfl
   rw [e]
   have dT : dJ prog 31 (.slice [x.av, y.av]) (.int .i64 0) = some (.pptr x.av) := bL (av := Tm.av) (l := [x, y]) (i := 0) aN rfl (aH x)
   have gC : dJ prog 31 (.slice [x.av, y.av]) (.int .i64 1) = some (.pptr y.av) := bL (av := Tm.av) (l := [x, y]) (i := 1) aN rfl (aH y)
   simp -implicitDefEqProofs only [aA, seval]
   refine HA mixed (by decide +kernel) (by decide +kernel) ?_
   simp -implicitDefEqProofs only [dT, gC, aT, aH, aA, seval, oX]
   refine jC (WK x y _) ?_
   simp -implicitDefEqProofs only [aA, seval]
   refine jC (sA _ _) ?_
   simp -implicitDefEqProofs only [aA, seval]
   exact qP.same hS _ rfl
 have hee : s ≠ ⟨#[61, 61]⟩ := by simpa using h
 simp -implicitDefEqProofs only [aA, seval]
 refine aQ (fun h => ?_) (fun h => ?_)
 · have hs : s = ⟨#[105, 115]⟩ := by simpa using h
   obtain ⟨x, y, rfl⟩ := sZ (ts := ks) (by subst hs; simp [isBuiltin] at hb; omega)
   have e : c8 σ s [x, y] = if y.ev.2 ≠ 0 then (y.ev.2, σ, []) else qU σ x (mW y.ev.1) := by subst hs; rfl
   rw [e]
   have hy := hv y (by simp)
   have hin := HF (N := N) (Tm.tQ y hy.1)
   have har := fun st => JN y st hy.1
   generalize y.ev.1 = a at *
   generalize y.ev.2 = ca at *
   have dT : dJ prog 31 (.slice [x.av, y.av]) (.int .i64 0) = some (.pptr x.av) := bL (av := Tm.av) (l := [x, y]) (i := 0) aN rfl (aH x)
   have gC : dJ prog 31 (.slice [x.av, y.av]) (.int .i64 1) = some (.pptr y.av) := bL (av := Tm.av) (l := [x, y]) (i := 1) aN rfl (aH y)
   simp -implicitDefEqProofs only [gC, aT, aH, aA, seval, oX]
   refine (har _).to ?_
   simp -implicitDefEqProofs only [aA, seval]
   refine aQ (fun h4 => ?_) (fun h4 => ?_)
   · simp -implicitDefEqProofs only [aA, seval]
     have h4' : ca ≠ 0 := by simpa using h4
     rw [aG h4']
     exact qP.same hS _ rfl
   have h4' : ca = 0 := by simpa using h4
   subst h4'
   rw [aE (by simp)]
   simp -implicitDefEqProofs only [aA, seval]
   refine wX [(0, 1), (1, 1), (2, 1), (3, 1), (4, 1), (6, 1), (5, 0), (7, 0), (8, 0), (9, 1)] [0, 1, 2, 3, 4, 6, 9] dX mixed rfl gB ?_
   simp -implicitDefEqProofs only [dT, aT, aH, aA, seval, oX]
   refine (BJ a _).to ?_
   rw [← aYM]
   simp -implicitDefEqProofs only [aA, seval]
   refine ⟨gB, ?_⟩
   refine (GF hN hg ho x (mW a) (hv x (by simp)) hin bb _ hS).mono ?_
   rintro _ s2 ⟨rfl, hP⟩
   simp -implicitDefEqProofs only [aA, seval]
   refine ⟨gB, ?_⟩
   refine (sA _ _).to ?_
   simp -implicitDefEqProofs only [aA, seval]
   exact ⟨gB, rfl, hP⟩
 have his : s ≠ ⟨#[105, 115]⟩ := by simpa using h
 simp -implicitDefEqProofs only [aA, seval]
 refine aQ (fun h => ?_) (fun h => ?_)
 · have hs : s = ⟨#[97, 114, 103]⟩ := by simpa using h
   obtain ⟨x, y, z, rfl⟩ := XF (ts := ks) (by subst hs; simp [isBuiltin] at hb; omega)
   have e : c8 σ s [x, y, z] = tZ σ x y z := rfl
   rw [e, aSJ]
   have hz := hv z (by simp)
   have hy := hv y (by simp)
   have hga := SK x y z rfl
   have hgv : (qN x y).2 = 0 → bD N (qN x y).1 := fun h => by
    unfold qN at h ⊢
    split at h
    · cases h
    rename_i h1
    rw [aE h1]
    split at h
    · cases h
    rename_i h2
    rw [aE h2]
    cases hu : mJ x y with
    | none => rw [hu] at h; cases h
    | some u => exact qL N y (fun h => h1 (.inr h)) hy u (aKP hu)
   generalize (qN x y).1 = u at *
   generalize (qN x y).2 = cu at *
   have BE : dJ prog 31 (.slice [x.av, y.av, z.av]) (.int .i64 2) = some (.pptr z.av) := bL (av := Tm.av) (l := [x, y, z]) (i := 2) aN rfl (aH z)
   simp only [bA, aW] at hga
   simp -implicitDefEqProofs only [aA, seval, oX]
   refine (hga _).to ?_
   simp -implicitDefEqProofs only [aH, cG, bZ, aA, ↓aU, seval, oX]
   refine aQ (fun h4 => ?_) (fun h4 => ?_)
   · simp -implicitDefEqProofs only [aA, seval]
     have h4' : cu ≠ 0 := by simpa using h4
     rw [aE h4']
     exact qP.same hS _ rfl
   have h4' : cu = 0 := by simpa using h4
   subst h4'
   rw [aG rfl]
   simp -implicitDefEqProofs only [aA, seval]
   refine wX [(0, 1), (1, 1), (2, 1), (3, 1), (4, 1), (5, 1), (6, 0), (7, 0), (8, 1)] [0, 1, 2, 3, 4, 5, 8] dX mixed rfl gB ?_
   simp -implicitDefEqProofs only [BE, aT, aH, aA, seval, oX]
   refine (GF hN hg ho z u hz (hgv rfl) bb _ hS).mono ?_
   rintro _ s2 ⟨rfl, hP⟩
   simp -implicitDefEqProofs only [aA, seval]
   refine ⟨gB, ?_⟩
   refine (sA _ _).to ?_
   simp -implicitDefEqProofs only [aA, seval]
   exact ⟨gB, rfl, hP⟩
 have aGT : s ≠ ⟨#[97, 114, 103]⟩ := by simpa using h
 simp -implicitDefEqProofs only [aA, seval, oX]
 refine (aP4 s _).to ?_
 simp -implicitDefEqProofs only [aA, seval]
 refine aQ (fun h => ?_) (fun h => ?_)
 · have hlen : ks.length = 2 := by
    rcases hcs with ⟨h2, h3⟩ | ⟨h2, h3⟩ | ⟨h2, h3⟩ | ⟨h2, h3⟩
    · exact h2
    · simp [ht, hf] at h3
    · rcases h3 with rfl | rfl | rfl | rfl <;> exact absurd h (by decide)
    · exact absurd h3 aGT
   obtain ⟨x, y, rfl⟩ := sZ hlen
   have e : c8 σ s [x, y] = (xG s x y, σ, []) := by simp only [c8]; rw [aG h]
   rw [e]
   have hc := CZ x y rfl
   simp only [bA, aW] at hc
   simp -implicitDefEqProofs only [aA, seval, oX]
   refine (hc _).to ?_
   simp -implicitDefEqProofs only [aA, seval]
   exact qP.same hS _ rfl
 · have hlen : ks.length = 1 ∧ (s = ⟨#[118, 97, 114]⟩ ∨ s = ⟨#[110, 111, 110, 118, 97, 114]⟩ ∨ s = ⟨#[97, 116, 111, 109]⟩ ∨ s = ⟨#[105, 110, 116]⟩) := by
    rcases hcs with ⟨h2, h3⟩ | ⟨h2, h3⟩ | ⟨h2, h3⟩ | ⟨h2, h3⟩
    · simp [h, he, hne, hee, his] at h3
    · simp [ht, hf] at h3
    · exact ⟨h2, h3⟩
    · exact absurd h3 aGT
   obtain ⟨x, rfl⟩ := GQ hlen.1
   have e : c8 σ s [x] = (g9 (rB s x), σ, []) := rfl
   rw [e]
   have hc := aFH x rfl hlen.2
   simp only [bA, aW] at hc
   simp -implicitDefEqProofs only [aA, seval, oX]
   refine (hc _).to ?_
   simp -implicitDefEqProofs only [aA, seval]
   exact qP.same hS _ rfl
theorem aBH (N : Nat) (σ : Sub) : s8 4 (cQ N σ) := by
 intro e h
 simp only [cQ, cU] at h
 obtain ⟨i, _, rfl⟩ := h
 refine ⟨HB _, ?_⟩
 cases σ (i : Int) with
 | none => rfl
 | some u => exact bZ u
theorem GO (N : Nat) (σ : Sub) : ∀ e ∈ cQ N σ, e.cB = false := by
 intro e h
 simp only [cQ, cU] at h
 obtain ⟨i, _, rfl⟩ := h
 cases σ (i : Int) with
 | none => rfl
 | some u => exact cG u
theorem sT (N : Nat) (σ : Sub) : (cQ N σ).length = N := by simp [cQ]
theorem NY {N : Nat} (h0 : 0 < N) (hN : N ≤ 1048576) (σ : Sub) {st : aB} {K : AV → aB → Prop} (hK : ∀ b, st b = none → eY N (st.aC b (.cells ((cQ N σ).flatMap AV.cells))) b σ → K (.mslice b 0 N 4) (st.aC b (.cells ((cQ N σ).flatMap AV.cells)))) :
 jO prog 31 st (.fslice []) (.slice (cQ N σ)) K := by
 have hl := sT N σ
 refine eO (P := prog) (st := st) (b := 0) (l := []) (xs := cQ N σ) (x := .slice (cQ N σ)) (K := K) aN bE bF rfl rfl (aBH N σ) (by simp) (by simp) (by simp only [a7, hl]; omega) (by simp only [a7, hl]; omega) (fun b hb => ?_)
 have hne : [] ++ cQ N σ ≠ [] := by
  rw [eR]
  intro e
  rw [e] at hl
  simp at hl
  omega
 rw [oB hne, jF hne, eR, hl]
 exact hK b (hb hne) (aB.aP _ _ _)
theorem aNE {N : Nat} (h0 : 0 < N) (hN : N ≤ 1048576) {σ : Sub} (hg : cL σ) (ho : cP (bD N) σ) (n : Int) (s : ByteArray) (x y : Tm) (hs : s = ⟨#[92, 61]⟩) (hx : bD N x) (hy : bD N y) (st : aB) :
 aD prog 132 [(Tm.mk 3 n s [x, y]).av, .slice (cQ N σ)] st (fun r st' => r = .int .i64 (g9 (!(iQ σ x y).1)) ∧ st' = st) := by
 have ht : s ≠ ⟨#[116, 114, 117, 101]⟩ := by subst hs; decide
 have hf : s ≠ ⟨#[102, 97, 105, 108]⟩ := by subst hs; decide
 have he : s ≠ ⟨#[61]⟩ := by subst hs; decide
 refine aD.done ?_
 simp only [aV 3, bA, aW]
 refine wF [1000000] 2 func132 ntmps132 rfl rfl ?_
 intro _
 have dT : dJ prog 31 (.slice [x.av, y.av]) (.int .i64 0) = some (.pptr x.av) := bL (av := Tm.av) (l := [x, y]) (i := 0) aN rfl (aH x)
 have gC : dJ prog 31 (.slice [x.av, y.av]) (.int .i64 1) = some (.pptr y.av) := bL (av := Tm.av) (l := [x, y]) (i := 1) aN rfl (aH y)
 simp -implicitDefEqProofs only [aA, seval, oX]
 refine aQ (fun h => absurd (by simpa using h) ht) (fun h => ?_)
 simp -implicitDefEqProofs only [aA, seval]
 refine aQ (fun h => absurd (by simpa using h) hf) (fun h => ?_)
 simp -implicitDefEqProofs only [aA, seval]
 refine aQ (fun h => absurd (by simpa using h) he) (fun h => ?_)
 simp -implicitDefEqProofs only [aA, seval]
 refine aQ (fun h => ?_) (fun h => absurd hs (by simpa using h))
 simp -implicitDefEqProofs only [aA, seval]
 refine wX [(0, 1), (1, 1), (2, 1), (3, 1), (4, 1), (5, 1), (6, 1), (7, 1), (8, 1), (9, 1), (10, 0), (11, 0), (12, 1), (13, 0), (14, 1)] [0, 1, 2, 3, 4, 5, 6, 7, 8, 9, 12, 14] dX mixed rfl gB ?_
 simp -implicitDefEqProofs only [dT, gC, aT, aH, aA, seval, oX]
 refine NY h0 hN σ fun b hb hA0 => ?_
 have hD0 : aL (st.aC b (.cells ((cQ N σ).flatMap AV.cells))) st := (aL.refl _).aC hb
 generalize st.aC b (.cells ((cQ N σ).flatMap AV.cells)) = s0 at *
 simp -implicitDefEqProofs only [aA, seval]
 refine ⟨gB, ?_⟩
 refine (GF hN hg ho x y hx hy b _ hA0).mono ?_
 rintro _ s2 ⟨rfl, hA, hk⟩
 simp -implicitDefEqProofs only [aA, seval]
 refine ⟨gB, ?_⟩
 refine (sA _ _).to ?_
 simp -implicitDefEqProofs only [aA, seval]
 refine ⟨gB, rfl, fun q => ?_⟩
 have key : ∀ o, st q = some o → s2 q = some o := fun o h => hk q o ((hD0 q).2 o h) (by rintro rfl; rw [hb] at h; cases h)
 refine ⟨fun h => ?_, key⟩
 cases hq : st q with
 | none => rfl
 | some o => rw [key o hq] at h; cases h
theorem aVK {N : Nat} (h0 : 0 < N) (hN : N ≤ 1048576) {σ : Sub} (hg : cL σ) (ho : cP (bD N) σ) (n : Int) (s : ByteArray) (ks : List Tm) (hb : isBuiltin s (ks.length : Int) = true) (hv : ∀ x ∈ ks, bD N x) (bb : Nat) (st : aB) (hS : eY N st bb σ) :
 aD prog 132 [(Tm.mk 3 n s ks).av, .mslice bb 0 N 4] st (qP N bb st (c8 σ s ks)) := by
 by_cases hs : s = ⟨#[92, 61]⟩
 · obtain ⟨x, y, rfl⟩ := sZ (ts := ks) (by subst hs; simp [isBuiltin] at hb; omega)
   have e : c8 σ s [x, y] = (g9 (!(iQ σ x y).1), σ, []) := by subst hs; rfl
   rw [e]
   have hc := aNE h0 hN hg ho n s x y hs (hv x (by simp)) (hv y (by simp)) dX
   refine (aD.aEN (args' := [(Tm.mk 3 n s [x, y]).av, .mslice bb 0 N 4]) (st := st) rfl hc fun h vs S V => ?_).mono ?_
   · simp only [cZ] at V ⊢
     obtain ⟨v, vs', rfl, V1, w, ws', rfl, V2, rfl⟩ := V
     refine ⟨v, [w], rfl, V1.mono ((aL.dX st).step h), w, [], rfl, ?_, rfl⟩
     have h2 := V2.fz S hS (GO N σ) ⟨4, AZ N σ⟩
     have h3 : (AV.mslice bb 0 N 4).fz bb (cQ N σ) = .slice (cQ N σ) := by simp [AV.fz, sT]
     rw [h3] at h2
     exact h2.mono ((aL.dX (st.erase bb)).step h)
   · rintro _ _ ⟨rfl, rfl⟩
     exact qP.same hS _ rfl
 · exact aRA hN hg ho n s ks hb hs hv bb st hS
abbrev B8 := zi tI_3 (zi zI_3 (zi aX (zi tI_31 (zi zI_31 (zi aN (zi bE (zi bF (zi b9 (zi tI_63 (zi zI_63 (zi bP (zi bQ (zi bT (zi bS bR))))))))))))))
theorem aWI {N : Nat} {σ : Sub} (hok : cP (cE N) σ) {f : Nat} {t u : Tm} (hw : fQ σ f t u) (ht : cE N t) (st : aB) : aD prog 177 [t.av, .slice (cQ N σ)] st (fun r st' => r = u.av ∧ st' = st) := by
 refine aD.done ?_
 refine wF [1000000, 2] 2 func177 ntmps177 rfl rfl ?_
 intro _
 have hlen : (cQ N σ).length = N := by simp [cQ]
 simp -implicitDefEqProofs only [aA, seval, B8]
 intro b2 h2 b4 h4
 have hne : b4 ≠ b2 := by rintro rfl; rw [aB.aP] at h4; cases h4
 have hn4 : st b4 = none := by rw [aB.aM st _ hne] at h4; exact h4
 refine gZ (σ := Nat × Tm) [1000000, 2] [1, 2, 4] (fun p => fQ σ p.1 p.2 u ∧ cE N p.2) (fun p => []) (fun p => (st.aC b2 (.cells p.2.av.cells)).aC b4 (.cells [.int .i64 0, .int .i64 0, .str ⟨#[]⟩, .fslice []])) (fun p => p.1) (by decide +kernel) ⟨(f, t), ⟨hw, ht⟩, aO.mk (by simp -implicitDefEqProofs only [aA, seval])⟩ ?_
 rintro ⟨g, t⟩ ⟨hw, ht⟩
 obtain ⟨k, n, s, ts⟩ := t
 simp only at hw ht
 simp only [aV]
 have jV : k ≠ 1 ∨ σ n = none → u = .mk k n s ts := fun h => by
  cases hw with
  | stop _ => rfl
  | go h1 h2 _ =>
   simp only [Tm.k] at h1
   rcases h with h | h
   · exact absurd h1 h
   · rw [show σ n = some _ from h2] at h; cases h
 simp -implicitDefEqProofs only [hne.symm, aA, seval, B8]
 refine cT (fun h => ?_) (fun h => ?_)
 case refine_2 =>
  simp -implicitDefEqProofs only [h, aK, hne.symm, aA, seval, B8]
  simp only [oW, dH] at h
  rw [jV (.inl h), ← aV]
  exact ⟨Tm.soft _, ((aL.refl _).aC h2).aC hn4⟩
 simp only [bJ] at h
 subst h
 obtain ⟨hn0, hn1, _⟩ := ht.var
 obtain ⟨i, rfl⟩ : ∃ i : Nat, n = i := ⟨n.toNat, by omega⟩
 have hi : i < N := by omega
 have hi' : decide ((i : Int) < (N : Int)) = true := by simp; omega
 simp -implicitDefEqProofs only [bM, hi', iV, hne.symm, hlen, aA, seval, B8]
 have hat : dJ prog 31 (.slice (cQ N σ)) (.int .i64 (i : Int)) = some (.pptr (cellOf (σ (i : Int)))) := bL (av := fun i : Nat => cellOf (σ (i : Int))) aN (List.getElem?_range hi) (HB _)
 cases hw with
 | stop hs =>
  rw [show σ (i : Int) = none from hs rfl] at hat
  simp only [cellOf] at hat
  simp -implicitDefEqProofs only [hat, bM, aK, hne.symm, aA, seval, B8]
  exact ⟨by rw [← aV, Tm.soft], ((aL.refl _).aC h2).aC hn4⟩
 | go h1 h2' h3 =>
  simp only [Tm.n] at h2'
  have ho := hok _ _ h2'
  rename_i g' u'
  obtain ⟨k', n', s', ts'⟩ := u'
  have hk' : ¬ k' = 0 := by have := ho.kind.1; omega
  rw [h2'] at hat
  simp only [cellOf, aV] at hat
  simp -implicitDefEqProofs only [hat, hk', bX, aK, hne.symm, aA, seval, B8]
  rw [aB.vJ hne, aB.nX _ _ _ hne]
  refine ⟨(g', .mk k' n' s' ts'), K6 _, ⟨h3, ho⟩, ?_⟩
  simp only [aV]
  exact aO.mk (by simp -implicitDefEqProofs only [aA, seval])
abbrev rI := zi tI_3 (zi zI_3 (zi aX (zi tI_9 (zi zI_9 (zi cH (zi tI_31 (zi zI_31 (zi aN (zi bE (zi bF (zi b9 (zi tI_63 (zi zI_63 (zi bP (zi bQ (zi bT (zi bS bR)))))))))))))))))
theorem aBR {N : Nat} {σ : Sub} {R : Int → Tm} {rk : Int → Nat} {B : Nat} (G : Good σ R rk B) (hok : cP (bD N) σ) :
 ∀ (room : Nat) (t : Tm) (st : aB), room ≤ 120 → bD N t → aD prog 140 [t.av, .slice (cQ N σ), .int .i64 (room : Int)] st (Full (t.aJ R) room st)
 | room, t, st, hr, ht => by
  have IH := fun (HO : Nat) (hlt : HO < room) (x : Tm) st => aBR G hok HO x st
  obtain ⟨f, hw⟩ := G.wk t
  generalize wk σ t = u at *
  have JW : cP (cE N) σ := fun n u hu => (hok n u hu).1
  have hsu := hw.all (p := bD N) hok ht
  have hcw := fun st => aWI JW hw ht.1 st
  obtain ⟨k, n, s, ts⟩ := u
  have hv := TW G hw (hsu.1.2.1)
  rw [hv]
  obtain ⟨hlen, oK⟩ := Tm.oE (hsu.1.small)
  have a1Y := hsu.1.kind.2
  have hkn := hsu.1.all.2
  have hkk : ∀ x ∈ ts, bD N x := fun x hx => by
   refine ⟨hkn x hx, ?_⟩
   have := hsu.2
   rw [Tm.gP] at this
   have := DQ (f := Tm.nodes) hx
   omega
  refine aD.lH (aD.fin ?_)
  refine wF [1000000, 3, 8] 3 func140 ntmps140 rfl rfl ?_
  intro _
  simp -implicitDefEqProofs only [aA, seval, rI]
  intro b3 h3 b6 h6
  have h63 : b6 ≠ b3 := by rintro rfl; rw [aB.aP] at h6; cases h6
  have hn6 : st b6 = none := by rw [aB.aM st _ h63] at h6; exact h6
  have hwr : ∀ z : Int, -1 ≤ z → z ≤ 200 → IntKind.i64.wrap z = z := fun z h1 h2 => wrap64 (by omega) (by omega)
  have hw1 := hwr ((room : Int) - 1) (by omega) (by omega)
  refine aQ (fun h => ?_) (fun h => ?_)
  · simp only [bJ] at h
    obtain rfl : room = 0 := by omega
    simp -implicitDefEqProofs only [aK, aA, ↓aU, seval, rI]
    refine ⟨0, [], _, rfl, by simp, by simp, ⟨4, by simp⟩, st, (fun x => by by_cases e3 : x = b3 <;> by_cases e6 : x = b6 <;> simp_all [aB.aC]), rfl, Tm.zero, -1, ?_, Int.le_refl _, ?_⟩
    · simp only [Tm.zero, aV, fM, jL, eC, iP, oC, bA, aW]
    · rw [aE (by rw [Tm.gP]; omega)]; decide
  simp only [dH] at h
  simp -implicitDefEqProofs only [h63.symm, aA, seval, rI]
  refine (hcw _).to ?_
  simp only [aV]
  simp -implicitDefEqProofs only [aK, h63.symm, hw1, aA, ↓aU, seval, rI]
  intro b8 h8
  have h83 : b8 ≠ b3 := by rintro rfl; simp [aB.aC] at h8
  have h86 : b8 ≠ b6 := by rintro rfl; simp [aB.aC, h63] at h8
  have hn8 : st b8 = none := by rw [aB.aM _ _ h83, aB.aM _ _ h86, aB.aM _ _ h83] at h8; exact h8
  rw [aB.vJ h63]
  have hW6 : ((st.aC b6 (.cells [.int .i64 0, .int .i64 0, .str ⟨#[]⟩, .fslice []])).aC b3 (.cells [.int .i64 k, .int .i64 n, .str s, .slice (ts.map Tm.av)])) b6 = some (.cells [.int .i64 0, .int .i64 0, .str ⟨#[]⟩, .fslice []]) := by rw [aB.aM _ _ h63, aB.aP]
  have hW3 : ((st.aC b6 (.cells [.int .i64 0, .int .i64 0, .str ⟨#[]⟩, .fslice []])).aC b3 (.cells [.int .i64 k, .int .i64 n, .str s, .slice (ts.map Tm.av)])) b3 = some (.cells [.int .i64 k, .int .i64 n, .str s, .slice (ts.map Tm.av)]) := aB.aP _ _ _
  have hWd : ∀ Y Z, aL ((((st.aC b6 (.cells [.int .i64 0, .int .i64 0, .str ⟨#[]⟩, .fslice []])).aC b3 (.cells [.int .i64 k, .int .i64 n, .str s, .slice (ts.map Tm.av)])).aC b8 Z).aC b6 Y) st := fun Y Z x => by
   by_cases e3 : x = b3 <;> by_cases e6 : x = b6 <;> by_cases e8 : x = b8 <;> simp_all [aB.aC]
  generalize ((st.aC b6 (.cells [.int .i64 0, .int .i64 0, .str ⟨#[]⟩, .fslice []])).aC b3 (.cells [.int .i64 k, .int .i64 n, .str s, .slice (ts.map Tm.av)])) = W at *
  have xA : (Tm.mk k n s (ts.map (Tm.aJ R))).nodes = 1 + bG Tm.nodes (ts.map (Tm.aJ R)) := Tm.gP _ _ _ _
  refine eL (σ := Nat × List Tm × Int) [1000000, 3, 8] [1, 3, 6, 7, 8] ts
   (fun i p => (p.2.1.map Tm.av ≠ [] → (W.aC b8 (.cells ([.int .i64 k, .int .i64 n, .str s] ++ [a9 4 p.1 (p.2.1.map Tm.av)]))) p.1 = none) ∧ p.2.1.length = i ∧ -1 ≤ p.2.2 ∧
    (0 ≤ p.2.2 → p.2.1 = (ts.take i).map (Tm.aJ R) ∧ p.2.2 = (room : Int) - 1 - bG Tm.nodes p.2.1) ∧ (p.2.2 < 0 → room < 1 + bG Tm.nodes (ts.map (Tm.aJ R))))
   (fun i p => [(9, .int .i64 p.2.2), (10, .int .i64 i)])
   (fun i p => eU W b8 p.1 [.int .i64 k, .int .i64 n, .str s] (p.2.1.map Tm.av)) (by decide +kernel)
   ⟨(0, [], (room : Int) - 1), ⟨fun h => absurd rfl h, rfl, by simp only; omega, fun _ => ⟨by simp, by simp [bG]⟩, fun h => by simp only at h; omega⟩, aO.mk (by simp -implicitDefEqProofs only [aA, ↓aU, seval])⟩ (fun i x p hx hlt bU yW hinv => ?_) (fun p hge hinv => ?_)
  · obtain ⟨b, acc, left⟩ := p
    obtain ⟨i1, i2, i3, i4, i5⟩ := hinv
    simp only at i1 i2 i3 i4 i5
    have h3o := gF i1 (x := b3) (by rw [hW3]; simp) h83.symm
    rw [hW3] at h3o
    simp -implicitDefEqProofs only [bU, bM, iV, aF, h3o, aA, seval, rI]
    refine aQ (fun h9 => ?_) (fun h9 => ?_)
    case refine_2 =>
     simp only [dH] at h9
     have hbo := eD i1
     have h6o := gF i1 (x := b6) (by rw [hW6]; simp) h86.symm
     rw [hW6] at h6o
     simp -implicitDefEqProofs only [aK, hbo, h6o, eV, aA, seval, rI]
     obtain ⟨g5, g6⟩ := j8 (o := .cells [.int .i64 k, .int .i64 n, .str s, a9 4 b (acc.map Tm.av)]) i1 (show W b6 ≠ none by rw [hW6]; simp) h86.symm
     refine ⟨b, _, _, g5, g6, iB _, ⟨4, dR _⟩, st, hWd _ _, rfl, .mk k n s acc, left, ?_, i3, ?_⟩
     · simp only [jL, fM, bA, aW, eC, iP, iD, aV]
     · rw [xA]
       skip
       rw [aE (by have := i5 (by omega); omega)]
       omega
    simp only [bJ] at h9
    obtain ⟨e1, e2⟩ := i4 h9
    have gM := cW hx
    have hsl := aU3 Tm.nodes (ts.map (Tm.aJ R)) (i + 1)
    rw [← List.map_take, fN, hx] at hsl
    simp only [G1, vP, bA, aW, CK, bG, ← e1] at hsl
    obtain ⟨HO, rfl⟩ : ∃ r : Nat, left = r := ⟨left.toNat, by omega⟩
    have cV : (acc.map Tm.av).length = i := by rw [aF, i2]
    have hw := bK (n := (i : Int) + 1)
    have hbo := eD i1
    simp -implicitDefEqProofs only [h3o, bL (av := Tm.av) aN hx (aH x), aT, aH, aA, seval, rI]
    refine (IH HO (by omega) x _ (by omega) (hkk x gM)).mono ?_
    rintro _ _ ⟨rfl, y, aY0, rfl, hl1, hl2⟩
    simp -implicitDefEqProofs only [aT, aH, bZ, cG, hbo, mK, aA, ↓aU, seval, rI]
    refine eO aN bE bF rfl rfl (fB (aH _) (bZ _)) (dR _) i1 (by simp only [cV, aS, a7]; omega) (by simp only [cV, aS, a7]; omega) (fun b' hb' => ?_)
    rw [show acc.map Tm.av ++ [y.av] = (acc ++ [y]).map Tm.av by simp] at hb' ⊢
    obtain ⟨g1, g2, g3⟩ := nO hb'
    simp only [fF, eR] at g1 g3
    simp -implicitDefEqProofs only [g3, mB, eV, g1, hw, aK, aA, seval, rI]
    refine ⟨(b', acc ++ [y], aY0), ⟨g2, by simp [i2], hl1, fun h => ?_, fun h => ?_⟩, aO.mk (by simp -implicitDefEqProofs only [aA, seval])⟩
    · simp only at h
      split at hl2
      · obtain ⟨rfl, hl3⟩ := hl2
        refine ⟨by rw [fN, hx]; simp [e1], ?_⟩
        simp only [CK, bG]
        omega
      · omega
    · simp only at h
      split at hl2
      · omega
      · omega
  · obtain ⟨b, acc, left⟩ := p
    obtain ⟨i1, i2, i3, i4, i5⟩ := hinv
    simp only at i1 i2 i3 i4 i5
    rw [eS] at i4
    have h3o := gF i1 (x := b3) (by rw [hW3]; simp) h83.symm
    rw [hW3] at h3o
    simp -implicitDefEqProofs only [hge, aF, h3o, aA, seval, rI]
    have hbo := eD i1
    have h6o := gF i1 (x := b6) (by rw [hW6]; simp) h86.symm
    rw [hW6] at h6o
    simp -implicitDefEqProofs only [aK, hbo, h6o, eV, aA, seval, rI]
    obtain ⟨g5, g6⟩ := j8 (o := .cells [.int .i64 k, .int .i64 n, .str s, a9 4 b (acc.map Tm.av)]) i1 (show W b6 ≠ none by rw [hW6]; simp) h86.symm
    refine ⟨b, _, _, g5, g6, iB _, ⟨4, dR _⟩, st, hWd _ _, rfl, .mk k n s acc, left, ?_, i3, ?_⟩
    · simp only [jL, fM, bA, aW, eC, iP, iD, aV]
    · rw [xA]
      skip
      rcases Int.lt_or_le left 0 with h9 | h9
      · rw [aE (by have := i5 h9; omega)]; exact h9
      · obtain ⟨e1, e2⟩ := i4 h9
        rw [← e1] at i5 ⊢
        rw [aG (by omega)]
        exact ⟨rfl, by omega⟩
termination_by room => room
decreasing_by exact hlt
end Go.AW
namespace Go.AW
abbrev Cl := Tm × List Tm
def bY : Cl → AV
 | (.mk k n s ts, b) => .agg [.int .i64 k, .int .i64 n, .str s, .slice (ts.map Tm.av), .slice (b.map Tm.av)]
theorem gG (k n : Int) (s : ByteArray) (ts b : List Tm) : bY (.mk k n s ts, b) = .agg [.int .i64 k, .int .i64 n, .str s, .slice (ts.map Tm.av), .slice (b.map Tm.av)] := rfl
theorem A5 (c : Cl) : (bY c).isAgg = true := by obtain ⟨⟨k, n, s, ts⟩, b⟩ := c; rfl
theorem n9 (c : Cl) : (bY c).width = 5 := by obtain ⟨⟨k, n, s, ts⟩, b⟩ := c; rfl
theorem aFI (c : Cl) : (bY c).cells.length = 5 := by obtain ⟨⟨k, n, s, ts⟩, b⟩ := c; rfl
theorem VL (c : Cl) : (bY c).cells.all AV.storable = true := by obtain ⟨⟨k, n, s, ts⟩, b⟩ := c; rfl
theorem H9 (c : Cl) : (bY c).cB = false := by obtain ⟨⟨k, n, s, ts⟩, b⟩ := c; rfl
def N8 : Tm → Bool | .mk k _ s ts => pS k s (ts.length : Int)
def kV (c : Cl) : Bool := c.1.valid && N8 c.1 && (decide (c.2.length ≤ 6) && c.2.all Tm.goal)
def qE (p : List Cl) : Bool := decide (p.length ≤ 20) && p.all kV
def GN (c : Cl) : Int := (b7 (c.1 :: c.2) []).foldl (fun n v => if n ≤ v then v + 1 else n) 0
def nK (c : Cl) : Nat := (GN c).toNat
def dC (N : Nat) (t : Tm) : Tm := bV (fun v => v + (N : Int)) t
def eH (t : Tm) : Bool := t.flat 30 && decide (t.nodes ≤ 120)
def oA (t : Tm) : Bool := decide (t.k = 3) && decide (t.s = ⟨#[33]⟩) && decide ((t.ts.length : Int) = 0)
def E3 (c : Cl) (t : Tm) : Bool := decide (c.1.s = t.s) && decide ((c.1.ts.length : Int) = (t.ts.length : Int))
def fE (p : List Cl) (t : Tm) : List Nat := (List.range p.length).filter fun i => match p[i]? with
 | some c => E3 c t
 | none => false
def pW (c : Int) : Int := if c = 2 then 4 else if c = 3 then 5 else if c = 4 then 6 else 7
noncomputable def jI (σ : Sub) (vars : List Int) : Option (List Tm) :=
 if ((vars.map (rs σ)).all eH = true) ∧ (b7 (vars.map (rs σ)) []).length ≤ 26 then some (oS (vars.map (rs σ))) else none
structure RG where
 t : Tm
 a8 : Nat
structure RC where
 goal : Tm
 rest : List RG
 left : List Nat
 σ : Sub
 N : Nat
structure RS where
 goals : List RG
 σ : Sub
 N : Nat
 chs : List RC
inductive RO where
 | go (s : RS)
 | fail
 | stop (e : Int)
noncomputable def iF (p : List Cl) (chs : List RC) (goal : Tm) (rest : List RG) (σ : Sub) (N : Nat) : List Nat → Option RS
 | [] => none
 | i :: l => match p[i]? with
  | none => none
  | some x => if (iQ σ goal (dC N x.1)).1 = true then
   some ⟨x.2.map (fun t => ⟨dC N t, chs.length⟩) ++ rest, (iQ σ goal (dC N x.1)).2.1, N + nK x, if l = [] then chs else chs ++ [⟨goal, rest, l, σ, N⟩]⟩
   else iF p chs goal rest σ N l
noncomputable def f0 (p : List Cl) : Nat → List RC → Option RS
 | 0, _ => none
 | n + 1, chs => match chs.getLast? with
  | none => none
  | some c => match iF p chs.dropLast c.goal c.rest c.σ c.N c.left with
   | some s => some s
   | none => f0 p n chs.dropLast
noncomputable def iY (p : List Cl) (cnd : Tm → List Nat → List Nat) (s : RS) (g : RG) (rest : List RG) : RO :=
 if eH (g.t.aJ (rs s.σ)) = false then .stop 3
 else if oA (g.t.aJ (rs s.σ)) = true then .go ⟨rest, s.σ, s.N, s.chs.take g.a8⟩
 else if isBuiltin (g.t.aJ (rs s.σ)).s ((g.t.aJ (rs s.σ)).ts.length : Int) = true then
  if (c8 s.σ (g.t.aJ (rs s.σ)).s (g.t.aJ (rs s.σ)).ts).1 = 0 then .go ⟨rest, (c8 s.σ (g.t.aJ (rs s.σ)).s (g.t.aJ (rs s.σ)).ts).2.1, s.N, s.chs⟩
  else if (c8 s.σ (g.t.aJ (rs s.σ)).s (g.t.aJ (rs s.σ)).ts).1 = 1 then .fail
  else .stop (pW (c8 s.σ (g.t.aJ (rs s.σ)).s (g.t.aJ (rs s.σ)).ts).1)
 else if fE p (g.t.aJ (rs s.σ)) = [] then .stop 8
 else match iF p s.chs (g.t.aJ (rs s.σ)) rest s.σ s.N (cnd (g.t.aJ (rs s.σ)) (fE p (g.t.aJ (rs s.σ)))) with
  | some s' => .go s'
  | none => .fail
noncomputable def j3 (p : List Cl) (cnd : Tm → List Nat → List Nat) (vars : List Int) (most fuel : Nat) (s : RS) : List (List Tm) × Int :=
 match s.goals with
 | [] => if h : most = 0 then ([], 1) else match jI s.σ vars with
  | none => ([], 3)
  | some a => match f0 p s.chs.length s.chs with
   | none => ([a], 0)
   | some s' => (a :: (j3 p cnd vars (most - 1) fuel s').1, (j3 p cnd vars (most - 1) fuel s').2)
 | g :: rest => if h : fuel = 0 then ([], 2) else match iY p cnd s g rest with
  | .stop e => ([], e)
  | .go s' => j3 p cnd vars most (fuel - 1) s'
  | .fail => match f0 p s.chs.length s.chs with
   | none => ([], 0)
   | some s' => j3 p cnd vars most (fuel - 1) s'
termination_by most + fuel
decreasing_by all_goals omega
def lT (q : List Tm) : RS := ⟨q.map fun t => ⟨t, 0⟩, Sub.none, 26, []⟩
noncomputable def tJ (p : List Cl) (cnd : Tm → List Nat → List Nat) (q : List Tm) (most fuel : Nat) : List (List Tm) × Int := j3 p cnd (b7 q []) most fuel (lT q)
structure IG where
 t : Tm
 cut : Nat
 up : Int
structure IC where
 goal : Tm
 node : Nat
 rest : List IG
 list : List Nat
 eP : Nat
 taken : Nat
structure IS where
 goals : List IG
 σ : Sub
 tr : List Int
 chs : List IC
 fresh : Nat
 nn : Nat
inductive xL where
 | go (s : IS)
 | fail (s : IS)
 | stop (e : Int)
noncomputable def gI (p : List Cl) (goal : Tm) (at' : Nat) (rest : List IG) : List Nat → IS → Bool × IS
 | [], s => (false, s)
 | i :: l, s => match p[i]? with
  | none => (false, s)
  | some x => if (iQ s.σ goal (dC s.fresh x.1)).1 = true then
   (true, ⟨x.2.map (fun t => ⟨dC s.fresh t, s.chs.length, at'⟩) ++ rest, (iQ s.σ goal (dC s.fresh x.1)).2.1, s.tr ++ (iQ s.σ goal (dC s.fresh x.1)).2.2, if l = [] then s.chs else s.chs ++ [⟨goal, at', rest, l, s.tr.length, s.nn⟩], s.fresh + 26, s.nn⟩)
   else gI p goal at' rest l { s with fresh := s.fresh + 26 }
def IS.pop (s : IS) (c : IC) : IS := { s with chs := s.chs.dropLast, σ := s.σ.out (s.tr.drop c.eP), tr := s.tr.take c.eP, nn := c.taken }
noncomputable def gQ (p : List Cl) : Nat → IS → Option IS
 | 0, _ => none
 | n + 1, s => match s.chs.getLast? with
  | none => none
  | some c => if (gI p c.goal c.node c.rest c.list (s.pop c)).1 = true then some (gI p c.goal c.node c.rest c.list (s.pop c)).2 else gQ p n (gI p c.goal c.node c.rest c.list (s.pop c)).2
noncomputable def kX (p : List Cl) (cnd : Tm → List Nat → List Nat) (s : IS) (g : IG) (rest : List IG) : xL :=
 if eH (g.t.aJ (rs s.σ)) = false then .stop 3
 else if oA (g.t.aJ (rs s.σ)) = true then .go { s with goals := rest, chs := s.chs.take g.cut, nn := s.nn + 1 }
 else if isBuiltin (g.t.aJ (rs s.σ)).s ((g.t.aJ (rs s.σ)).ts.length : Int) = true then
  if (c8 s.σ (g.t.aJ (rs s.σ)).s (g.t.aJ (rs s.σ)).ts).1 = 0 then .go { s with goals := rest, σ := (c8 s.σ (g.t.aJ (rs s.σ)).s (g.t.aJ (rs s.σ)).ts).2.1, tr := s.tr ++ (c8 s.σ (g.t.aJ (rs s.σ)).s (g.t.aJ (rs s.σ)).ts).2.2, nn := s.nn + 1 }
  else if (c8 s.σ (g.t.aJ (rs s.σ)).s (g.t.aJ (rs s.σ)).ts).1 = 1 then .fail { s with σ := (c8 s.σ (g.t.aJ (rs s.σ)).s (g.t.aJ (rs s.σ)).ts).2.1, tr := s.tr ++ (c8 s.σ (g.t.aJ (rs s.σ)).s (g.t.aJ (rs s.σ)).ts).2.2, nn := s.nn + 1 }
  else .stop (pW (c8 s.σ (g.t.aJ (rs s.σ)).s (g.t.aJ (rs s.σ)).ts).1)
 else if fE p (g.t.aJ (rs s.σ)) = [] then .stop 8
 else if (gI p (g.t.aJ (rs s.σ)) s.nn rest (cnd (g.t.aJ (rs s.σ)) (fE p (g.t.aJ (rs s.σ)))) { s with nn := s.nn + 1 }).1 = true then .go (gI p (g.t.aJ (rs s.σ)) s.nn rest (cnd (g.t.aJ (rs s.σ)) (fE p (g.t.aJ (rs s.σ)))) { s with nn := s.nn + 1 }).2
 else .fail (gI p (g.t.aJ (rs s.σ)) s.nn rest (cnd (g.t.aJ (rs s.σ)) (fE p (g.t.aJ (rs s.σ)))) { s with nn := s.nn + 1 }).2
noncomputable def iZ (p : List Cl) (cnd : Tm → List Nat → List Nat) (vars : List Int) (most fuel : Nat) (s : IS) : List (List Tm) × Int :=
 match s.goals with
 | [] => if h : most = 0 then ([], 1) else match jI s.σ vars with
  | none => ([], 3)
  | some a => match gQ p s.chs.length s with
   | none => ([a], 0)
   | some s' => (a :: (iZ p cnd vars (most - 1) fuel s').1, (iZ p cnd vars (most - 1) fuel s').2)
 | g :: rest => if h : fuel = 0 then ([], 2) else match kX p cnd s g rest with
  | .stop e => ([], e)
  | .go s' => iZ p cnd vars most (fuel - 1) s'
  | .fail s' => match gQ p s'.chs.length s' with
   | none => ([], 0)
   | some s'' => iZ p cnd vars most (fuel - 1) s''
termination_by most + fuel
decreasing_by all_goals omega
def nV (q : List Tm) : IS := ⟨q.map fun t => ⟨t, 0, -1⟩, Sub.none, [], [], 26, 0⟩
structure nN (ρ : Int → Int) (N F : Nat) (σ τ : Sub) : Prop where
 sim : fC ρ N σ τ
 rng : ∀ v, 0 ≤ v → v < (N : Int) → 0 ≤ ρ v ∧ ρ v < (F : Int)
 g1 : cL σ
 o1 : cP (bD N) σ
 g2 : cL τ
 o2 : cP (bD F) τ
 d1 : ∀ n, ¬(0 ≤ n ∧ n < (N : Int)) → σ n = none
 d2 : ∀ n, ¬(0 ≤ n ∧ n < (F : Int)) → τ n = none
 h26 : 26 ≤ N
 idn : ∀ v, 0 ≤ v → v < 26 → ρ v = v
theorem nN.mono {ρ : Int → Int} {N F F' : Nat} {σ τ : Sub} (S : nN ρ N F σ τ) (h : F ≤ F') : nN ρ N F' σ τ :=
 ⟨S.sim, fun v h0 h1 => ⟨(S.rng v h0 h1).1, by have := (S.rng v h0 h1).2; omega⟩, S.g1, S.o1, S.g2, S.o2.imp fun t ht => ht.mono (by omega), S.d1, fun n hn => S.d2 n fun h' => hn ⟨h'.1, by omega⟩, S.h26, S.idn⟩
def sC (ρ : Int → Int) (N F : Nat) : Int → Int := fun v => if v < (N : Int) then ρ v else v - N + F
theorem tO {ρ : Int → Int} {N F : Nat} {v : Int} (h : v < (N : Int)) : sC ρ N F v = ρ v := aG h
theorem nN.ext {ρ : Int → Int} {N F : Nat} {σ τ : Sub} (S : nN ρ N F σ τ) {k : Nat} (hk : k ≤ 26) : nN (sC ρ N F) (N + k) (F + 26) σ τ := by
 have lJ : ∀ v : Int, ¬ v < (N : Int) → sC ρ N F v = v - N + F := fun v h => aE h
 refine ⟨⟨fun v w hv0 hv1 hw0 hw1 e => ?_, fun v h0 h1 => ?_⟩, fun v h0 h1 => ?_, S.g1, S.o1.imp fun t ht => ht.mono (by omega), S.g2, S.o2.imp fun t ht => ht.mono (by omega), fun n hn => S.d1 n fun h => hn ⟨h.1, by omega⟩, fun n hn => S.d2 n fun h => hn ⟨h.1, by omega⟩, by have := S.h26; omega, fun v h0 h1 => by rw [tO (by have := S.h26; omega)]; exact S.idn v h0 h1⟩
 · by_cases hv : v < (N : Int) <;> by_cases hw : w < (N : Int)
   · rw [tO hv, tO hw] at e; exact S.sim.inj v w hv0 hv hw0 hw e
   · rw [tO hv, lJ w hw] at e
     have := S.rng v hv0 hv
     omega
   · rw [tO hw, lJ v hv] at e
     have := S.rng w hw0 hw
     omega
   · rw [lJ v hv, lJ w hw] at e
     omega
 · by_cases hv : v < (N : Int)
   · rw [tO hv, S.sim.map v h0 hv]
     cases hs : σ v with
     | none => rfl
     | some u =>
      simp only [qZ, Option.some.injEq]
      refine LI fun w hw => ?_
      rw [tO ((S.o1 v u hs).1.2.2 w hw).2]
   · rw [lJ v hv, S.d1 v (fun h => hv h.2), S.d2 _ (fun h => by omega)]
     try rfl
 · by_cases hv : v < (N : Int)
   · rw [tO hv]
     have := S.rng v h0 hv
     omega
   · rw [lJ v hv]; omega
theorem ZM (l : List Int) : ∀ n : Int, n ≤ l.foldl (fun n v => if n ≤ v then v + 1 else n) n ∧ (∀ v ∈ l, v < l.foldl (fun n v => if n ≤ v then v + 1 else n) n) ∧ ∀ m : Int, n ≤ m → (∀ v ∈ l, v < m) → l.foldl (fun n v => if n ≤ v then v + 1 else n) n ≤ m := by
 induction l with
 | nil => intro n; exact ⟨Int.le_refl _, by simp, fun m h _ => h⟩
 | cons x l ih =>
  intro n
  simp only [z9]
  obtain ⟨h1, h2, h3⟩ := ih (if n ≤ x then x + 1 else n)
  refine ⟨?_, fun v hv => ?_, fun m hm hl => h3 m ?_ fun v hv => hl v (by simp [hv])⟩
  · split at h1 <;> rename_i h <;> split <;> omega
  · rcases cY.1 hv with rfl | hv
    · split at h1 <;> rename_i h <;> split <;> omega
    · exact h2 v hv
  · have := hl x (by simp)
    split <;> omega
structure gJ (c : Cl) : Prop where
 head : bD 26 c.1
 body : ∀ t ∈ c.2, bD 26 t ∧ t.k = 3
theorem gJ.vars {c : Cl} (h : gJ c) {v : Int} : v ∈ b7 (c.1 :: c.2) [] ↔ ∃ t ∈ c.1 :: c.2, v ∈ t.vl := by
 rw [wE]
 · simp
 · intro t ht
   rcases cY.1 ht with rfl | ht
   · exact h.head.1.2.1
   · exact (h.body t ht).1.1.2.1
theorem gJ.CS {c : Cl} (h : gJ c) : ∀ t ∈ c.1 :: c.2, bD 26 t := fun t ht => by
 rcases cY.1 ht with rfl | ht
 · exact h.head
 · exact (h.body t ht).1
theorem gJ.fr {c : Cl} (h : gJ c) : nK c ≤ 26 ∧ ∀ t ∈ c.1 :: c.2, ∀ v ∈ t.vl, v < (nK c : Int) := by
 obtain ⟨h1, h2, h3⟩ := ZM (b7 (c.1 :: c.2) []) 0
 have hle := h3 26 (by omega) fun v hv => by
  obtain ⟨t, ht, hv⟩ := h.vars.1 hv
  exact ((h.CS t ht).1.2.2 v hv).2
 unfold nK GN
 refine ⟨by omega, fun t ht v hv => ?_⟩
 have := h2 v (h.vars.2 ⟨t, ht, hv⟩)
 omega
theorem gJ.dC {c : Cl} (h : gJ c) (N : Nat) : ∀ t ∈ c.1 :: c.2, bD ((N + nK c : Nat) : Int) (dC N t) := fun t ht => by
 refine (h.CS t ht).bV fun v hv => ?_
 have h1 := ((h.CS t ht).1.2.2 v hv).1
 have h2 := h.fr.2 t ht v hv
 omega
theorem PI {ρ : Int → Int} {N F : Nat} {c : Cl} (h : gJ c) : ∀ t ∈ c.1 :: c.2, bV (sC ρ N F) (dC N t) = dC F t := fun t ht => by
 unfold AW.dC
 rw [show bV (sC ρ N F) (bV (fun v => v + (N : Int)) t) = t.aJ fun v => vr (sC ρ N F (v + N)) from FN _ _ t]
 refine pV t fun v hv => ?_
 have h1 := ((h.CS t ht).1.2.2 v hv).1
 show vr (sC ρ N F (v + (N : Int))) = vr (v + (F : Int))
 unfold sC
 rw [aE (by omega)]
 congr 1
 omega
theorem TD {N : Nat} (t : Tm) : (dC N t).k = t.k := v8 _ t
def GL (ρ : Int → Int) (N : Nat) (gs : List RG) (hs : List IG) : Prop := hs.map (fun h => (h.t, h.cut)) = gs.map (fun g => (bV ρ g.t, g.a8)) ∧ ∀ g ∈ gs, bD N g.t ∧ g.t.k = 3
theorem GL.ext {ρ ρ' : Int → Int} {N N' : Nat} {gs : List RG} {hs : List IG} (h : GL ρ N gs hs) (hN : N ≤ N') (hr : ∀ v, 0 ≤ v → v < (N : Int) → ρ' v = ρ v) : GL ρ' N' gs hs := by
 refine ⟨h.1.trans (q7 fun g hg => ?_), fun g hg => ⟨(h.2 g hg).1.mono (by omega), (h.2 g hg).2⟩⟩
 rw [LI (ρ := ρ) (ρ' := ρ') fun v hv => (hr v ((h.2 g hg).1.1.2.2 v hv).1 ((h.2 g hg).1.1.2.2 v hv).2).symm]
theorem GL.app {ρ : Int → Int} {N : Nat} {gs gs' : List RG} {hs hs' : List IG} (h : GL ρ N gs hs) (h' : GL ρ N gs' hs') : GL ρ N (gs ++ gs') (hs ++ hs') := by
 refine ⟨by rw [vP, vP, h.1, h'.1], fun g hg => ?_⟩
 rcases fS.1 hg with hg | hg
 · exact h.2 g hg
 · exact h'.2 g hg
def C1 (F : Nat) (c : RC) (d : IC) (τ : Sub) : Prop := ∃ ρ, nN ρ c.N F c.σ τ ∧ d.goal = bV ρ c.goal ∧ bD c.N c.goal ∧ GL ρ c.N c.rest d.rest ∧ d.list = c.left
inductive iE (F : Nat) : List RC → List IC → Sub → List Int → Prop
 | nil {τ : Sub} {tr : List Int} : iE F [] [] τ tr
 | snoc {cs : List RC} {ds : List IC} {c : RC} {d : IC} {τ : Sub} {tr : List Int} (h : iE F cs ds (τ.out (tr.drop d.eP)) (tr.take d.eP)) (h1 : C1 F c d (τ.out (tr.drop d.eP))) (h2 : d.eP ≤ tr.length) : iE F (cs ++ [c]) (ds ++ [d]) τ tr
theorem iE.len {F : Nat} {cs : List RC} {ds : List IC} {τ : Sub} {tr : List Int} (h : iE F cs ds τ tr) : ds.length = cs.length := by
 induction h with
 | nil => rfl
 | snoc _ _ _ ih => simp [ih]
theorem iE.mono {F F' : Nat} (hF : F ≤ F') {cs : List RC} {ds : List IC} {τ : Sub} {tr : List Int} (h : iE F cs ds τ tr) : iE F' cs ds τ tr := by
 induction h with
 | nil => exact .nil
 | snoc _ h1 h2 ih => exact .snoc ih (by obtain ⟨ρ, h3, h4⟩ := h1; exact ⟨ρ, h3.mono hF, h4⟩) h2
theorem aRJ (tr : List Int) {a m : Nat} (h : a ≤ m) (n : Int) : n ∈ tr.drop m ++ (tr.take m).drop a ↔ n ∈ tr.drop a := by
 have e : tr.drop a = (tr.take m).drop a ++ tr.drop m := by
  conv => lhs; rw [← sO m tr]
  rw [List.drop_append]
  by_cases hm : m ≤ tr.length
  · rw [d7, lE hm, show a - m = 0 by omega, tT]
  · rw [List.drop_of_length_le (show tr.length ≤ m by omega)]
    simp
 rw [e, fS, fS, or_comm]
theorem iE.lift {F : Nat} {cs : List RC} {ds : List IC} {τ : Sub} {tr : List Int} {m : Nat} (h : iE F cs ds (τ.out (tr.drop m)) (tr.take m)) (hm : m ≤ tr.length) : iE F cs ds τ tr := by
 generalize hτ : τ.out (tr.drop m) = τ' at h
 generalize htr : tr.take m = tr' at h
 cases h with
 | nil => exact .nil
 | @snoc cs ds c d _ _ h h1 h2 =>
  subst hτ htr
  have hd : d.eP ≤ m := by rw [d7] at h2; omega
  have e1 : (τ.out (tr.drop m)).out ((tr.take m).drop d.eP) = τ.out (tr.drop d.eP) := by
   rw [Sub.aU1]
   exact Sub.aNO τ (aRJ tr hd)
  have e2 : (tr.take m).take d.eP = tr.take d.eP := by rw [xQ, lE hd]
  rw [e1, e2] at h
  rw [e1] at h1
  exact .snoc h h1 (by omega)
theorem iE.more {F : Nat} {cs : List RC} {ds : List IC} {τ τ' : Sub} {tr add : List Int} (h : iE F cs ds τ tr) (e : τ'.out add = τ) : iE F cs ds τ' (tr ++ add) := by
 refine iE.lift (m := tr.length) ?_ (by simp)
 rw [GZ, G0, e]
 exact h
theorem iE.take {F : Nat} {cs : List RC} {ds : List IC} {τ : Sub} {tr : List Int} (h : iE F cs ds τ tr) (k : Nat) : iE F (cs.take k) (ds.take k) τ tr := by
 induction h with
 | nil => simp; exact .nil
 | @snoc cs ds c d τ tr h h1 h2 ih =>
  have hl := h.len
  by_cases hk : k ≤ cs.length
  · rw [DA hk, DA (by omega)]
    exact ih.lift h2
  · rw [mR (by simp; omega), mR (by simp; omega)]
    exact .snoc h h1 h2
def Rl (s : RS) (i : IS) : Prop := ∃ ρ, nN ρ s.N i.fresh s.σ i.σ ∧ GL ρ s.N s.goals i.goals ∧ iE i.fresh s.chs i.chs i.σ i.tr
theorem zX.yE {N : Int} {σ : Sub} {a b : Tm} {r : Bool} {σ' : Sub} {tr : List Int} (h : zX N σ a b r σ' tr) : σ'.out tr = σ := funext fun n => h.out n
theorem mH.yE {N : Int} {σ σ' : Sub} {add : List Int} (h : mH N σ σ' add) : σ'.out add = σ := by
 funext n
 unfold Sub.out
 split
 · rename_i hn; exact ((h.new n hn).1).symm
 · rename_i hn; exact h.a8 n hn
theorem mH.uG {N : Nat} {σ σ' : Sub} {add : List Int} (h : mH N σ σ' add) (hd : ∀ n, ¬(0 ≤ n ∧ n < (N : Int)) → σ n = none) : ∀ n, ¬(0 ≤ n ∧ n < (N : Int)) → σ' n = none := fun n hn => by
 rw [h.a8 n fun h' => hn (h.fO n h')]
 exact hd n hn
theorem nN.grow {ρ : Int → Int} {N F : Nat} {σ τ σ' τ' : Sub} {add aT3 : List Int} (S : nN ρ N F σ τ) (h : mH N σ σ' add) (h' : mH F τ τ' aT3) (s : fC ρ N σ' τ') : nN ρ N F σ' τ' :=
 ⟨s, S.rng, h.gK, h.ok, h'.gK, h'.ok, h.uG S.d1, h'.uG S.d2, S.h26, S.idn⟩
theorem nN.yQ {ρ : Int → Int} {N F : Nat} {σ τ : Sub} (S : nN ρ N F σ τ) {t : Tm} (h : bD N t) : bD F (bV ρ t) := h.bV fun v hv => S.rng v (h.1.2.2 v hv).1 (h.1.2.2 v hv).2
section
variable {p : List Cl} (hp : ∀ c ∈ p, gJ c)
include hp
theorem JM {cs : List RC} {goal : Tm} {rest : List RG} {σ : Sub} {N : Nat} {ρ : Int → Int} {M9 : List IG} {τ : Sub} {tr : List Int} {ds : List IC} {nn at' : Nat} (hg : bD N goal) (hr : GL ρ N rest M9) :
 ∀ (l : List Nat) (F : Nat) (gl : List IG), nN ρ N F σ τ → iE F cs ds τ tr →
 match iF p cs goal rest σ N l with
 | none => ∃ F', F ≤ F' ∧ gI p (bV ρ goal) at' M9 l ⟨gl, τ, tr, ds, F, nn⟩ = (false, ⟨gl, τ, tr, ds, F', nn⟩)
 | some s => ∃ i, gI p (bV ρ goal) at' M9 l ⟨gl, τ, tr, ds, F, nn⟩ = (true, i) ∧ Rl s i := by
 intro l
 induction l with
 | nil => intro F gl S C; exact ⟨F, c7 _, rfl⟩
 | cons j l ih =>
  intro F gl S C
  unfold iF gI
  cases hj : p[j]? with
  | none => exact ⟨F, c7 _, rfl⟩
  | some x =>
   have hx := hp x (cW hj)
   have S2 := S.ext hx.fr.1
   have hgo : bV (sC ρ N F) goal = bV ρ goal := LI fun v hv => tO (hg.1.2.2 v hv).2
   have hhd := hx.dC N x.1 (by simp)
   have hgN : bD ((N + nK x : Nat) : Int) goal := hg.mono (by omega)
   obtain ⟨r, σ', add, U⟩ := rD S2.g1 S2.o1 hgN hhd
   obtain ⟨g, nD⟩ := U.run
   obtain ⟨τ', e, S', _⟩ := S2.sim.iQ S2.g1 S2.g2 S2.o1.k8 hgN.1 hhd.1 nD
   rw [hgo, PI hx x.1 (by simp)] at e
   have hF1 : bD ((F + 26 : Nat) : Int) (bV ρ goal) := by rw [← hgo]; exact S2.yQ hgN
   have hF2 : bD ((F + 26 : Nat) : Int) (dC F x.1) := by rw [← PI (ρ := ρ) (N := N) (F := F) hx x.1 (by simp)]; exact S2.yQ hhd
   obtain ⟨r2, τ2, aMN, U2⟩ := rD S2.g2 S2.o2 hF1 hF2
   have e2 := U2.eq
   rw [e] at e2
   obtain ⟨rfl, rfl, rfl⟩ : r = r2 ∧ τ' = τ2 ∧ add.map (sC ρ N F) = aMN := by simpa using e2
   simp only [U.eq, e]
   cases r with
   | false =>
    simp only [jD, dZ]
    have := ih (F + 26) gl (S.mono (by omega)) (C.mono (by omega))
    cases hq : iF p cs goal rest σ N l with
    | none =>
     rw [hq] at this
     obtain ⟨F', h1, h2⟩ := this
     exact ⟨F', by omega, h2⟩
    | some s =>
     rw [hq] at this
     exact this
   | true =>
    simp only [fZ]
    refine ⟨_, rfl, sC ρ N F, S2.grow U.uI U2.uI S', ?_, ?_⟩
    · refine GL.app ⟨?_, fun g hg => ?_⟩ (hr.ext (show N ≤ N + nK x by omega) fun v _ hv => tO hv)
      · simp only [xT]
        refine q7 fun t ht => ?_
        simp only [GY]
        rw [PI hx t (by simp [ht]), C.len]
      · obtain ⟨t, ht, rfl⟩ := cU.1 hg
        exact ⟨hx.dC N t (by simp [ht]), by rw [TD]; exact (hx.body t ht).2⟩
    · have C2 := (C.mono (show F ≤ F + 26 by omega)).more U2.yE
      by_cases hl : l = []
      · simp only [aG hl]
        exact C2
      · simp only [aE hl]
        refine .snoc ?_ ?_ (by simp)
        · simp only [GZ, G0, U2.yE]
          exact C.mono (by omega)
        · simp only [GZ, U2.yE]
          exact ⟨ρ, S.mono (by omega), rfl, hg, hr, rfl⟩
theorem LO : ∀ (n : Nat) (cs : List RC) (i : IS), iE i.fresh cs i.chs i.σ i.tr →
 match f0 p n cs with
 | none => gQ p n i = none
 | some s => ∃ i', gQ p n i = some i' ∧ Rl s i' := by
 intro n
 induction n with
 | zero => intro cs i C; simp only [f0, gQ]
 | succ n ih =>
  intro cs i C
  obtain ⟨gl, τ, tr, ds, F, nn⟩ := i
  simp only at C
  cases C with
  | nil => simp only [f0, gQ, List.getLast?_nil]
  | @snoc cs ds c d _ _ h h1 h2 =>
   obtain ⟨ρ, S, e1, hok, hG, e2⟩ := h1
   have key := JM hp (cs := cs) (nn := d.taken) (at' := d.node) (tr := tr.take d.eP) hok hG c.left F gl S h
   simp only [f0, gQ, List.getLast?_append, List.getLast?_singleton, Option.some_or, RH]
   have e3 : (IS.pop ⟨gl, τ, tr, ds ++ [d], F, nn⟩ d) = ⟨gl, τ.out (tr.drop d.eP), tr.take d.eP, ds, F, d.taken⟩ := by simp only [IS.pop, RH]
   rw [e1, e2, e3]
   cases ht : iF p cs c.goal c.rest c.σ c.N c.left with
   | none =>
    rw [ht] at key
    obtain ⟨F', hF, e⟩ := key
    simp only [e, jD, dZ]
    exact ih cs _ (h.mono hF)
   | some s =>
    rw [ht] at key
    obtain ⟨i', e, hR⟩ := key
    simp only [e, fZ]
    exact ⟨i', rfl, hR⟩
variable {cnd : Tm → List Nat → List Nat} (hc : ∀ (ρ : Int → Int) (t : Tm) (l : List Nat), cnd (bV ρ t) l = cnd t l)
omit hp in
theorem aFJ {ρ : Int → Int} {t : Tm} (h : t.k = 3) : (bV ρ t).s = t.s ∧ (bV ρ t).ts = t.ts.map (bV ρ) ∧ (bV ρ t).k = 3 := by
 rw [A7 ρ (by omega)]
 exact ⟨rfl, rfl, h⟩
omit hp in
theorem aZI {ρ : Int → Int} {t : Tm} (h : t.k = 3) : fE p (bV ρ t) = fE p t := by
 obtain ⟨h1, h2, _⟩ := aFJ (ρ := ρ) h
 unfold fE E3
 simp only [h1, h2, aF]
include hc
theorem aEY {s : RS} {i : IS} {g : RG} {gs : List RG} (hR : Rl s i) (hgs : s.goals = g :: gs) :
 ∃ h hs, i.goals = h :: hs ∧ match iY p cnd s g gs with
 | .stop e => kX p cnd i h hs = .stop e
 | .go s' => ∃ i', kX p cnd i h hs = .go i' ∧ Rl s' i'
 | .fail => ∃ i', kX p cnd i h hs = .fail i' ∧ iE i'.fresh s.chs i'.chs i'.σ i'.tr := by
 obtain ⟨ρ, S, hG, C⟩ := hR
 rw [hgs] at hG
 obtain ⟨gl, τ, tr, ds, F, nn⟩ := i
 simp only at S hG C ⊢
 cases gl with
 | nil => exact absurd hG.1 (by simp)
 | cons h hs =>
  refine ⟨h, hs, rfl, ?_⟩
  have hGt : GL ρ s.N gs hs := ⟨(List.cons.inj hG.1).2, fun x hx => hG.2 x (by simp [hx])⟩
  have he := (List.cons.inj hG.1).1
  simp only [Prod.mk.injEq] at he
  obtain ⟨e1, e2⟩ := he
  obtain ⟨hgX, hg3⟩ := hG.2 g (by simp)
  have hT := S.sim.rsT S.g1 S.g2 S.o1.k8 hgX.1
  obtain ⟨rk, B, G⟩ := S.g1.rs
  have hV := G.NL S.o1.k8 hgX.1
  unfold iY kX
  simp only [e1, hT]
  have ht3 : (g.t.aJ (rs s.σ)).k = 3 := by rw [Tm.qJ _ (by omega)]; exact hg3
  generalize g.t.aJ (rs s.σ) = t at *
  obtain ⟨r1, r2, r3⟩ := aFJ (ρ := ρ) ht3
  have fY : eH (bV ρ t) = eH t := by unfold eH; rw [MP ρ hV.2.1, HG ρ hV.2.1]
  have tB : oA (bV ρ t) = oA t := by unfold oA; rw [r1, r2, r3, ht3, aF]
  simp only [fY, tB, aZI (p := p) (ρ := ρ) ht3, hc, r1, r2, aF]
  by_cases c1 : eH t = false
  · rw [aG c1, aG c1]
  rw [aE c1, aE c1]
  have hX : bD s.N t := ⟨hV, by
   have : eH t = true := by simpa using c1
   unfold eH at this
   simp only [cM, bJ] at this
   exact this.2⟩
  by_cases c2 : oA t = true
  · rw [aG c2, aG c2]
    refine ⟨_, rfl, ρ, S, hGt, ?_⟩
    simp only [e2]
    exact C.take g.a8
  rw [aE c2, aE c2]
  by_cases c3 : isBuiltin t.s (t.ts.length : Int) = true
  · rw [aG c3, aG c3]
    have hk : ∀ x ∈ t.ts, bD s.N x := qL _ t (by omega) hX
    obtain ⟨q1, q2, q3⟩ := S.sim.c8 S.g1 S.g2 S.o1 t.s t.ts hk
    have q4 := J7 S.g1 S.o1 t.s t.ts hk
    have q5 := J7 S.g2 S.o2 t.s (t.ts.map (bV ρ)) (fun x hx => by
     obtain ⟨y, hy, rfl⟩ := cU.1 hx
     exact S.yQ (hk y hy))
    rw [q1]
    by_cases c4 : (c8 s.σ t.s t.ts).1 = 0
    · rw [aG c4, aG c4]
      exact ⟨_, rfl, ρ, S.grow q4 q5 q3, hGt, C.more q5.yE⟩
    rw [aE c4, aE c4]
    by_cases c5 : (c8 s.σ t.s t.ts).1 = 1
    · rw [aG c5, aG c5]
      exact ⟨_, rfl, C.more q5.yE⟩
    rw [aE c5, aE c5]
  rw [aE c3, aE c3]
  by_cases c6 : fE p t = []
  · rw [aG c6, aG c6]
  rw [aE c6, aE c6]
  have key := JM hp (at' := nn) (nn := nn + 1) hX hGt (cnd t (fE p t)) F (h :: hs) S C
  cases hq : iF p s.chs t gs s.σ s.N (cnd t (fE p t)) with
  | none =>
   rw [hq] at key
   obtain ⟨F', hF, e⟩ := key
   simp only [e, jD, dZ]
   exact ⟨_, rfl, C.mono hF⟩
  | some s' =>
   rw [hq] at key
   obtain ⟨i', e, hR⟩ := key
   simp only [e, fZ]
   exact ⟨i', rfl, hR⟩
end
theorem aCR {ρ : Int → Int} {N : Int} {σ τ : Sub} (S : fC ρ N σ τ) : ∀ (l : List Tm) (acc : List Int), (∀ t ∈ l, cE N t) → (∀ v ∈ acc, 0 ≤ v ∧ v < N) → b7 (l.map (bV ρ)) (acc.map ρ) = (b7 l acc).map ρ ∧ ∀ v ∈ b7 l acc, 0 ≤ v ∧ v < N
 | [], acc, _, ha => ⟨rfl, ha⟩
 | t :: l, acc, h, ha => by
  obtain ⟨e1, e2⟩ := aWB (D := fun v => 0 ≤ v ∧ v < N) (h := ρ) (fun v w hv hw e => S.inj v w hv.1 hv.2 hw.1 hw.2 e) (f := fun v => vr (ρ v)) (fun _ _ => rfl) t (Tm.sS t (h t (by simp)).2.1) (h t (by simp)).2.2 acc ha
  simp only [bA, b7]
  rw [show (bV ρ t).vars (acc.map ρ) = (t.vars acc).map ρ from e1]
  exact aCR S l _ (fun x hx => h x (by simp [hx])) e2
theorem aSD {ρ : Int → Int} {N : Int} {σ τ : Sub} (S : fC ρ N σ τ) {l : List Tm} (h : ∀ t ∈ l, cE N t) : oS (l.map (bV ρ)) = oS l ∧ (b7 (l.map (bV ρ)) []).length = (b7 l []).length := by
 obtain ⟨e1, e2⟩ := aCR S l [] h (by simp)
 rw [aW] at e1
 refine ⟨?_, by rw [e1, aF]⟩
 unfold oS
 rw [e1, xT]
 refine q7 fun t ht => ?_
 simp only [GY]
 rw [FN]
 refine pV t fun v hv => ?_
 rw [aBL (D := fun v => 0 ≤ v ∧ v < N) (fun v w hv hw e => S.inj v w hv.1 hv.2 hw.1 hw.2 e) v ((h t ht).2.2 v hv) _ _ e2]
theorem a0R {ρ : Int → Int} {N F : Nat} {σ τ : Sub} (S : nN ρ N F σ τ) {vars : List Int} (hv : ∀ v ∈ vars, 0 ≤ v ∧ v < 26) : jI τ vars = jI σ vars := by
 obtain ⟨rk, B, G⟩ := S.g1.rs
 have hid := S.idn
 have h26 := S.h26
 have e : vars.map (rs τ) = (vars.map (rs σ)).map (bV ρ) := by
  rw [xT]
  refine q7 fun v h => ?_
  obtain ⟨h0, h1⟩ := hv v h
  have := S.sim.rs S.g1 S.g2 S.o1.k8 v h0 (by omega)
  rw [hid v h0 h1] at this
  exact this
 have hok : ∀ t ∈ vars.map (rs σ), cE N t := fun t ht => by
  obtain ⟨v, h, rfl⟩ := cU.1 ht
  obtain ⟨h0, h1⟩ := hv v h
  exact G.k8 S.o1.k8 v h0 (by omega)
 obtain ⟨e1, e2⟩ := aSD S.sim hok
 have e3 : ((vars.map (rs σ)).map (bV ρ)).all eH = (vars.map (rs σ)).all eH := by
  rw [List.all_map, vO, eW, eW]
  have : ∀ t ∈ vars.map (rs σ), eH (bV ρ t) = eH t := fun t ht => by unfold eH; rw [MP ρ (hok t ht).2.1, HG ρ (hok t ht).2.1]
  constructor
  · intro h t ht; rw [← this t ht]; exact h t ht
  · intro h t ht; simp only [GY]; rw [this t ht]; exact h t ht
 unfold jI
 rw [e, e1, e2, e3]
section
variable {p : List Cl} (hp : ∀ c ∈ p, gJ c) {cnd : Tm → List Nat → List Nat} (hc : ∀ (ρ : Int → Int) (t : Tm) (l : List Nat), cnd (bV ρ t) l = cnd t l)
include hp hc
theorem aMF {vars : List Int} (hv : ∀ v ∈ vars, 0 ≤ v ∧ v < 26) : ∀ (n most fuel : Nat) (s : RS) (i : IS), most + fuel ≤ n → Rl s i → iZ p cnd vars most fuel i = j3 p cnd vars most fuel s := by
 intro n
 induction n with
 | zero =>
  intro most fuel s i hn hR
  obtain ⟨rfl, rfl⟩ : most = 0 ∧ fuel = 0 := by omega
  obtain ⟨ρ, S, hG, C⟩ := hR
  rw [iZ, j3]
  cases hgs : s.goals with
  | nil =>
   rw [hgs] at hG
   have hi : i.goals = [] := List.map_eq_nil_iff.1 hG.1
   simp [hi]
  | cons g gs =>
   rw [hgs] at hG
   cases hi : i.goals with
   | nil => rw [hi] at hG; exact absurd hG.1 (by simp)
   | cons h hs => simp
 | succ n ih =>
  intro most fuel s i hn hR
  cases hgs : s.goals with
  | nil =>
   obtain ⟨ρ, S, hG, C⟩ := hR
   rw [hgs] at hG
   have hi : i.goals = [] := List.map_eq_nil_iff.1 hG.1
   rw [iZ, j3]
   simp only [hgs, hi]
   by_cases hm : most = 0
   · simp [hm]
   simp only [hm, dif_neg, G3]
   rw [a0R S hv]
   cases jI s.σ vars with
   | none => rfl
   | some a =>
    simp only
    have key := LO hp s.chs.length s.chs i C
    rw [C.len]
    cases hb : f0 p s.chs.length s.chs with
    | none => rw [hb] at key; simp only [key]
    | some s' =>
     rw [hb] at key
     obtain ⟨i', e, hR'⟩ := key
     simp only [e]
     rw [ih (most - 1) fuel s' i' (by omega) hR']
  | cons g gs =>
   obtain ⟨h, hs, hi, key⟩ := aEY hp hc hR hgs
   rw [iZ, j3]
   simp only [hgs, hi]
   by_cases hf : fuel = 0
   · simp [hf]
   simp only [hf, dif_neg, G3]
   cases hq : iY p cnd s g gs with
   | stop e =>
    rw [hq] at key
    simp only [key]
   | go s' =>
    rw [hq] at key
    obtain ⟨i', e, hR'⟩ := key
    simp only [e]
    exact ih most (fuel - 1) s' i' (by omega) hR'
   | fail =>
    rw [hq] at key
    obtain ⟨i', e, C'⟩ := key
    simp only [e]
    have JE := LO hp s.chs.length s.chs i' C'
    rw [C'.len]
    cases hb : f0 p s.chs.length s.chs with
    | none => rw [hb] at JE; simp only [JE]
    | some s' =>
     rw [hb] at JE
     obtain ⟨i'', e2, hR'⟩ := JE
     simp only [e2]
     exact ih most (fuel - 1) s' i'' (by omega) hR'
omit hp hc in
theorem VV {q : List Tm} (hq : ∀ t ∈ q, bD 26 t ∧ t.k = 3) : Rl (lT q) (nV q) := by
 refine ⟨fun v => v, ⟨⟨fun v w _ _ _ _ e => e, fun v _ _ => rfl⟩, fun v h0 h1 => ⟨h0, h1⟩, cL.none, fun n u h => (by cases h), cL.none, fun n u h => (by cases h), fun _ _ => rfl, fun _ _ => rfl, c7 _, fun _ _ _ => rfl⟩, ⟨?_, fun g hg => ?_⟩, .nil⟩
 · simp only [nV, lT, xT]
   refine q7 fun t ht => ?_
   simp only [GY]
   rw [show bV (fun v => v) t = t from L0 t (hq t ht).1.1.2.1]
 · simp only [lT] at hg
   obtain ⟨t, ht, rfl⟩ := cU.1 hg
   exact hq t ht
theorem aP0 {q : List Tm} (hq : ∀ t ∈ q, bD 26 t ∧ t.k = 3) (most fuel : Nat) : iZ p cnd (b7 q []) most fuel (nV q) = tJ p cnd q most fuel := by
 refine aMF hp hc (fun v hv => ?_) _ most fuel _ _ (c7 _) (VV hq)
 rw [wE _ _ fun t ht => (hq t ht).1.1.2.1] at hv
 rcases hv with hv | ⟨t, ht, hv⟩
 · cases hv
 · exact (hq t ht).1.1.2.2 v hv
end
theorem aOR {c : Cl} (h : kV c = true) : gJ c := by
 simp only [kV, cM, bJ, eW] at h
 refine ⟨⟨Tm.EJ h.1.1, Tm.G9 h.1.1⟩, fun t ht => ?_⟩
 have hg := h.2.2 t ht
 have hk : t.valid = true ∧ t.k = 3 := by
  obtain ⟨k, n, s, ts⟩ := t
  simp only [Tm.goal, cM] at hg
  refine ⟨hg.1, ?_⟩
  have := hg.2
  simp only [wR, pS, q9, cM, bJ] at this
  simp only [Tm.k]
  rcases this with (h | h) | h <;> first | exact h.1 | exact h.1.1 | exact h.1.1.1
 exact ⟨⟨Tm.EJ hk.1, Tm.G9 hk.1⟩, hk.2⟩
end Go.AW
namespace Go.AW
open Go.Proofs.Tryz
abbrev c9 (l : List Tm) : AV := .agg [.slice (l.map Tm.av)]
theorem QK : ∀ (a b : List Tm) (l : List Int), b7 (a ++ b) l = b7 b (b7 a l)
 | [], _, _ => rfl
 | t :: a, b, l => by simp only [fF, b7, QK a b]
abbrev OT := zi tI_3 (zi zI_3 (zi aX (zi tI_31 (zi zI_31 (zi aN (zi bE (zi bF (zi b9 (zi tI_51 (zi zI_51 (zi dW (zi fW (zi fU (zi gA (zi tI_63 (zi zI_63 (zi bP (zi bQ (zi bT (zi bS bR))))))))))))))))))))
theorem aEM (q : List Tm) (st : aB) (hwf : ∀ t ∈ q, t.wf = true) (hsz : bG Tm.nodes q ≤ 1099511627776) : aD prog 69 [.slice (q.map Tm.av)] st (fun r st' => r = .slice ((b7 q []).map iv) ∧ st' = st) := by
 refine aD.done ?_
 refine wF [1000000] 1 func69 ntmps69 rfl rfl ?_
 simp only [eG, AV.fits, eM, aF]
 intro ⟨hl, _⟩
 simp -implicitDefEqProofs only [aA, seval, OT]
 refine rC (σ := Unit) [1000000] [0, 2] q 1 3 (fun i _ => (b7 (q.take i) []).map iv) (fun _ _ => True) (fun i _ => [(4, .int .i64 i)]) (fun _ _ => st) (fun i _ _ e he => by simp only [cU] at he; obtain ⟨t, _, rfl⟩ := he; exact ⟨rfl, rfl⟩) (by decide +kernel) ⟨(), 0, trivial, fun h => absurd rfl h, aO.mk (by simp -implicitDefEqProofs only [jG, kU, b7, aW, aA, ↓aU, seval])⟩ (fun i x s b hx hlt bU hdr hinv hb => ?_) (fun s b hge hinv => ?_)
 case refine_2 =>
  simp -implicitDefEqProofs only [hge, eC, iK, oC, lI, eS, aF, aA, seval, OT]
  exact ⟨rfl, aL.refl _⟩
 have hw := bK (n := (i : Int) + 1)
 have hat := bL (av := Tm.av) aN hx (aH x)
 have hst := E5 Tm.nodes hx
 have hvl := xK (q.take i) []
 simp only [a7, gY] at hvl
 have htk : x.vars (b7 (q.take i) []) = b7 (q.take (i + 1)) [] := by
  rw [fN, hx, QK]
  try rfl
 simp -implicitDefEqProofs only [bU, aF, hat, aA, seval, OT]
 refine (GA x (b7 (q.take i) []) b st (hwf x (cW hx)) hb (by omega)).mono ?_
 rintro _ _ ⟨b', rfl, rfl, hb'⟩
 rw [htk] at hb' ⊢
 simp -implicitDefEqProofs only [aA, seval]
 exact ⟨(), b', hb', aO.mk (by simp -implicitDefEqProofs only [hw, aA, seval])⟩
end Go.AW
namespace Go.AW
theorem cC.of {h : bH} {st st' : aB} (hk : ∀ x, st x = none → st' x = none) : cC h st h st' := ⟨c7 _, fun x _ e => ⟨rfl, hk x e⟩, fun _ c _ _ e => ⟨c, e, rfl⟩⟩
theorem fL.aQ4 {φ : AF} {st : aB} {b c : Nat} {es cs : List AV} (hbc : b ≠ c) (h1 : st b = some (.cells (es.flatMap AV.cells))) (h2 : ∀ e ∈ es, e.cB = false) (h3 : gX es) (hc : st c = some (.cells cs)) :
 fL φ st φ ((st.erase b).aC c (.cells (kL b es cs))) := fun h tmps S F => by
 have T2 : cC h (st.erase b) h ((st.erase b).aC c (.cells (kL b es cs))) := cC.of fun x hx => by
  have : x ≠ c := by rintro rfl; simp [aB.erase, dB hbc, hc] at hx
  rw [aB.aM _ _ this]; exact hx
 have T : cC h st h ((st.erase b).aC c (.cells (kL b es cs))) := ((jH st b).step h).trans T2
 refine ⟨fun x o hx => ?_, T, fun d => (F d).mono T⟩
 by_cases e : x = c
 · subst e
   rw [aB.aP] at hx
   cases hx
   obtain ⟨hl, c0, t, e1, e2, vs, e3, e4⟩ := S x _ hc
   refine ⟨hl, c0, t, e1, ?_, vs, e3, aY.mono T2 _ _ (aY.fz S h1 h2 h3 cs vs e4)⟩
   rw [IA, aF]; exact e2
 · rw [aB.aM _ _ e] at hx
   have hx' : st x = some o := by
    simp only [aB.erase] at hx
    split at hx
    · cases hx
    · exact hx
   obtain ⟨hl, y⟩ := S x o hx'
   exact ⟨hl, k0.mono T rfl y⟩
theorem fL.aXJ {φ : AF} {st : aB} {c : Nat} {cs : List AV} (hc : st c = some (.cells cs)) : fL φ st φ (st.aC c (.cells (gO cs))) := fun h tmps S F => by
 have T : cC h st h (st.aC c (.cells (gO cs))) := cC.of fun x hx => by
  have : x ≠ c := by rintro rfl; rw [hc] at hx; cases hx
  rw [aB.aM _ _ this]; exact hx
 refine ⟨fun x o hx => ?_, T, fun d => (F d).mono T⟩
 by_cases e : x = c
 · subst e
   rw [aB.aP] at hx
   cases hx
   obtain ⟨hl, c0, t, e1, e2, vs, e3, e4⟩ := S x _ hc
   refine ⟨hl, c0, t, e1, ?_, vs, e3, aY.mono T _ _ (aY.soft cs vs e4)⟩
   rw [wB, aF]; exact e2
 · rw [aB.aM _ _ e] at hx
   obtain ⟨hl, y⟩ := S x o hx
   exact ⟨hl, k0.mono T rfl y⟩
theorem aR7 {φ : AF} {S : aB} {c b : Nat} {k n : Int} {s : ByteArray} {l : List AV} (hb : l ≠ [] → (S.aC c (.cells ([.int .i64 k, .int .i64 n, .str s] ++ [a9 4 b l]))) b = none) (hj : ∀ e ∈ l, e.cB = false) (hE : gX l) :
 fL φ (eU S c b [.int .i64 k, .int .i64 n, .str s] l) φ (S.aC c (.cells [.int .i64 k, .int .i64 n, .str s, .slice l])) := by
 have hcc := eD hb
 cases l with
 | nil =>
  have := fL.aXJ (φ := φ) hcc
  unfold eU at this ⊢
  simp only [vV, dE] at this
  exact this
 | cons y l =>
  have h0 := hb (by simp)
  have hne : b ≠ c := by rintro rfl; rw [aB.aP] at h0; cases h0
  have h1 : eU S c b [.int .i64 k, .int .i64 n, .str s] (y :: l) b = some (.cells ((y :: l).flatMap AV.cells)) := by unfold eU; simp only [aZ]; exact aB.aP _ _ _
  have := fL.aQ4 (φ := φ) hne h1 hj hE hcc
  have e : (eU S c b [.int .i64 k, .int .i64 n, .str s] (y :: l)).erase b = S.aC c (.cells ([.int .i64 k, .int .i64 n, .str s] ++ [a9 4 b (y :: l)])) := by unfold eU; simp only [aZ]; exact aB.w9 _ _ _ h0
  rw [e, dE] at this
  simpa [kL, AV.fz, a9] using this
theorem DI {S : aB} {c b : Nat} {hd hd' l : List AV} (hb : l ≠ [] → (S.aC c (.cells (hd ++ [a9 4 b l]))) b = none) :
 (eU S c b hd l).aC c (.cells (hd' ++ [a9 4 b l])) = eU S c b hd' l ∧ (l ≠ [] → (S.aC c (.cells (hd' ++ [a9 4 b l]))) b = none) := by
 have hne : l ≠ [] → c ≠ b := fun h e => by have := hb h; rw [← e, aB.aP] at this; cases this
 refine ⟨by unfold eU; rw [oJ hne, dE], fun h => ?_⟩
 have := hb h
 rw [aB.aM _ _ (dB (hne h))] at this ⊢
 exact this
theorem QE {s0 st : aB} {b : Nat} {l : List AV} (D : aL s0 st) : aL (aZ s0 b l) (aZ st b l) := by
 cases l with
 | nil => exact D
 | cons y l =>
  intro x
  simp only [aZ]
  by_cases e : x = b
  · subst e; simp [aB.aP]
  · rw [aB.aM _ _ e, aB.aM _ _ e]; exact D x
end Go.AW
