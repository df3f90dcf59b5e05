import Derived.Test.YtpficjlageaebaaGreatDoorSfak
import Derived.Test.YtpficjlageaebaaGreatDoorSfal
import Derived.Test.YtpficjlageaebaaGreatDoorSfan
import Derived.Test.YtpficjlageaebaaGreatDoorSfam
import Derived.Test.YtpficjlageaebaaGreatDoorSfaj
import Derived.Test.YtpficjlageaebaaGreatDoorSfai
set_option linter.unusedSimpArgs false
set_option linter.unusedVariables false
set_option maxRecDepth 100000
namespace Go.AW
open Go.Proofs.Tryz
def mQ (c m : Nat) (st : aB) (q : AV) (tr : List Int) (x : Int × Sub × List Int) (r : AV) (st' : aB) : Prop := r = .int .i64 x.1 ∧ vI c m st q x.2.1 (tr ++ x.2.2) st'
theorem mQ.same {c m : Nat} {st : aB} {q : AV} {σ : Sub} {tr : List Int} (h : fT st c m q σ tr) {r : AV} (k : Int) (hr : r = .int .i64 k) : mQ c m st q tr (k, σ, []) r st := ⟨hr, q, by rw [iC]; exact h, lP.refl _ _ _ _⟩
theorem fT.aJK {P : Program} {t e : TypeId} {st : aB} {c m : Nat} {q : AV} {σ : Sub} {tr : List Int} (h : fT st c m q σ tr) (hu : P.underlying t = some (.slice e)) : nS P t q = some (.int .i64 (tr.length : Int)) := by
 rcases h.eP with ⟨rfl, rfl⟩ | ⟨b, cs, rfl, _⟩ <;> simp only [nS, hu, a7]
theorem GI {N : Nat} {σ : Sub} (hg : cL σ) (ho : cP (bD N) σ) (a b : Tm) (ha : bD N a) (hb : bD N b) (c m : Nat) (q : AV) (tr : List Int) (st : aB) (hS : fT st c m q σ tr) (hl : tr.length + N ≤ 1099511627776) :
 aD prog 188 [.ptr c 0, a.av, b.av] st (fun r st' => r = .bool (iQ σ a b).1 ∧ vI c m st q (iQ σ a b).2.1 (tr ++ (iQ σ a b).2.2) st') := by
 obtain ⟨r, σ', tr', hU⟩ := rD hg ho ha hb
 obtain ⟨g, nD⟩ := hU.run
 have hlen := AK hU.l9.nodup hU.fO
 rw [hU.eq]
 exact aBB g σ a b r σ' tr' hg (ho.imp fun t ht => ht.1.small) ha.1.small hb.1.small nD c m q tr st hS (by omega)
abbrev kP := zi tI_3 (zi zI_3 (zi aX (zi tI_4 (zi zI_4 (zi cD (zi tI_9 (zi zI_9 (zi cH (zi tI_31 (zi zI_31 (zi aN (zi bE (zi bF (zi b9 (zi tI_51 (zi zI_51 (zi dW (zi fW (zi fU (zi gA (zi tI_63 (zi zI_63 (zi bP (zi bQ (zi bT (zi bS (zi bR (zi tI_148 (zi zI_148 (zi tI_183 (zi zI_183 (zi BR (zi AY BQ)))))))))))))))))))))))))))))))))
theorem aWJ {N : Nat} {σ : Sub} (hg : cL σ) (ho : cP (bD N) σ) (n : Int) (s : ByteArray) (ks : List Tm) (hb : isBuiltin s (ks.length : Int) = true) (hv : ∀ x ∈ ks, bD N x) (c m : Nat) (q : AV) (tr : List Int) (st : aB) (hS : fT st c m q σ tr) (hl : tr.length + N ≤ 1099511627776) :
 aD prog 150 [.ptr c 0, (Tm.mk 3 n s ks).av] st (mQ c m st q tr (c8 σ s ks)) := by
 have M6 := a0E 3 n s ks
 have hcs := aHD hb
 have CZ := fun x y (hxy : ks = [x, y]) h => aNQ n s x y h (hv x (by simp [hxy])).1 (hv y (by simp [hxy])).1
 simp only [aV] at M6 CZ ⊢
 refine wF [1000000] 2 func150 ntmps150 rfl rfl ?_
 intro _
 simp -implicitDefEqProofs only [aA, seval, kP]
 refine (M6 _).to ?_
 simp -implicitDefEqProofs only [aA, seval]
 refine aQ (fun h => ?_) (fun h => ?_)
 · have h' : ks.length = 2 ∧ fO qR s = true := by simp at h; exact ⟨by omega, h.2⟩
   obtain ⟨x, y, rfl⟩ := sZ h'.1
   have e : c8 σ s [x, y] = (xG s x y, σ, []) := by simp only [c8]; rw [aG h'.2]
   rw [e]
   have hc := CZ x y rfl h'.2
   simp only [bA, aW] at hc
   simp -implicitDefEqProofs only [aA, ↓aU, seval, kP]
   refine (hc _).to ?_
   simp -implicitDefEqProofs only [aA, seval]
   exact mQ.same hS _ rfl
 have hnc : ks.length = 2 → fO qR s = false := fun h2 => by simpa [h2] using h
 clear M6 CZ h
 simp -implicitDefEqProofs only [aA, seval, kP]
 refine aQ (fun h => ?_) (fun h => ?_)
 · have hs : s = ⟨#[116, 114, 117, 101]⟩ := by simpa using h
   have hk := HT (ts := ks) (by subst hs; simpa [isBuiltin] using hb)
   subst hk
   simp -implicitDefEqProofs only [aA, seval]
   exact mQ.same hS _ (by simp [g9, hs])
 have ht : s ≠ ⟨#[116, 114, 117, 101]⟩ := by simpa using h
 simp -implicitDefEqProofs only [aA, seval]
 refine aQ (fun h => ?_) (fun h => ?_)
 · have hs : s = ⟨#[102, 97, 105, 108]⟩ := by simpa using h
   have hk := HT (ts := ks) (by subst hs; simpa [isBuiltin] using hb)
   subst hk
   simp -implicitDefEqProofs only [aA, seval]
   exact mQ.same hS _ (by simp [g9, hs])
 have hf : s ≠ ⟨#[102, 97, 105, 108]⟩ := by simpa using h
 simp -implicitDefEqProofs only [aA, seval]
 refine aQ (fun h => ?_) (fun h => ?_)
 · have hs : s = ⟨#[61]⟩ := by simpa using h
   obtain ⟨x, y, rfl⟩ := sZ (ts := ks) (by subst hs; simp [isBuiltin] at hb; omega)
   have e : c8 σ s [x, y] = qU σ x y := by simp only [c8]; rw [aE (by rw [hnc rfl]; simp), aG hs]
   rw [e]
   have dT : dJ prog 31 (.slice [x.av, y.av]) (.int .i64 0) = some (.pptr x.av) := bL (av := Tm.av) (l := [x, y]) (i := 0) aN rfl (aH x)
   have gC : dJ prog 31 (.slice [x.av, y.av]) (.int .i64 1) = some (.pptr y.av) := bL (av := Tm.av) (l := [x, y]) (i := 1) aN rfl (aH y)
   simp -implicitDefEqProofs only [aA, ↓aU, seval]
   refine wX [(0, 1), (1, 1), (2, 1), (3, 1), (4, 1), (5, 1), (6, 1), (7, 0), (8, 0), (9, 1)] [0, 1, 2, 3, 4, 5, 6, 9] dX mixed rfl gB ?_
   simp -implicitDefEqProofs only [dT, gC, aT, aH, aA, seval, kP]
   refine (GI hg ho x y (hv x (by simp)) (hv y (by simp)) c m q tr _ hS hl).mono ?_
   rintro _ s2 ⟨rfl, hP⟩
   simp -implicitDefEqProofs only [aA, seval]
   refine ⟨gB, ?_⟩
   refine (oD _ _).to ?_
   simp -implicitDefEqProofs only [aA, seval]
   exact ⟨gB, rfl, hP⟩
 have he : s ≠ ⟨#[61]⟩ := by simpa using h
 simp -implicitDefEqProofs only [aA, seval]
 refine aQ (fun h => ?_) (fun h => ?_)
 · have hs : s = ⟨#[92, 61]⟩ := by simpa using h
   obtain ⟨x, y, rfl⟩ := sZ (ts := ks) (by subst hs; simp [isBuiltin] at hb; omega)
   have e : c8 σ s [x, y] = (g9 (!(iQ σ x y).1), σ, []) := by simp only [c8]; rw [aE (by rw [hnc rfl]; simp), aE he, aG hs]
   rw [e]
   have e1 := hS.sub.cells
   have hql := hS.aJK gA
   obtain ⟨hqa, hqw, hqj, hqc, hqs⟩ := hS.shape
   have dT : dJ prog 31 (.slice [x.av, y.av]) (.int .i64 0) = some (.pptr x.av) := bL (av := Tm.av) (l := [x, y]) (i := 0) aN rfl (aH x)
   have gC : dJ prog 31 (.slice [x.av, y.av]) (.int .i64 1) = some (.pptr y.av) := bL (av := Tm.av) (l := [x, y]) (i := 1) aN rfl (aH y)
   simp -implicitDefEqProofs only [e1, hql, hqa, aA, ↓aU, seval, kP]
   refine wX [(0, 1), (1, 1), (2, 1), (3, 1), (4, 1), (5, 1), (6, 1), (7, 0), (8, 1)] [0, 1, 2, 3, 4, 5, 6, 8] dX mixed rfl gB ?_
   simp -implicitDefEqProofs only [dT, gC, aT, aH, aA, seval, kP]
   refine (GI hg ho x y (hv x (by simp)) (hv y (by simp)) c m q tr _ hS hl).mono ?_
   rintro _ s2 ⟨rfl, hP⟩
   obtain ⟨r, σ', add, hU⟩ := rD hg ho (hv x (by simp)) (hv y (by simp))
   rw [hU.eq] at hP ⊢
   obtain ⟨q', hS2, hQ2⟩ := hP
   have aW9 := AK hU.l9.nodup hU.fO
   simp -implicitDefEqProofs only [aA, seval]
   refine ⟨gB, ?_⟩
   refine (LN σ' (tr ++ add) tr.length (by simp) c m q' s2 hS2 (by rw [dQ]; omega)).mono ?_
   rintro _ s3 ⟨rfl, q2, hS3, hb3, hk3⟩
   rw [GZ, G0, show σ'.out add = σ from funext fun n => hU.out n] at hS3
   simp -implicitDefEqProofs only [aA, seval]
   refine (oD _ _).to ?_
   simp -implicitDefEqProofs only [aA, seval]
   refine ⟨rfl, q2, by rw [iC]; exact hS3, fun b o h h1 h2 h3 => hk3 b o (hQ2.frame b o h h1 h2 h3) h1 h2, fun b hb' => hQ2.fresh b (hb3 b hb')⟩
 have hne : s ≠ ⟨#[92, 61]⟩ := by simpa using h
 simp -implicitDefEqProofs only [aA, seval]
 refine aQ (fun h => ?_) (fun h => ?_)
 · have hs : s = ⟨#[61, 61]⟩ := by simpa using h
   obtain ⟨x, y, rfl⟩ := sZ (ts := ks) (by subst hs; simp [isBuiltin] at hb; omega)
   have e : c8 σ s [x, y] = (g9 (x.same y), σ, []) := by simp only [c8]; rw [aE (by rw [hnc rfl]; simp), aE he, aE hne, aG hs]
   rw [e]
   have dT : dJ prog 31 (.slice [x.av, y.av]) (.int .i64 0) = some (.pptr x.av) := bL (av := Tm.av) (l := [x, y]) (i := 0) aN rfl (aH x)
   have gC : dJ prog 31 (.slice [x.av, y.av]) (.int .i64 1) = some (.pptr y.av) := bL (av := Tm.av) (l := [x, y]) (i := 1) aN rfl (aH y)
   simp -implicitDefEqProofs only [aA, ↓aU, seval]
   refine HA mixed (by decide +kernel) (by decide +kernel) ?_
   simp -implicitDefEqProofs only [dT, gC, aT, aH, aA, seval, kP]
   refine jC (O9 x y _) ?_
   simp -implicitDefEqProofs only [aA, seval]
   refine jC (oD _ _) ?_
   simp -implicitDefEqProofs only [aA, seval]
   exact mQ.same hS _ rfl
 have hee : s ≠ ⟨#[61, 61]⟩ := by simpa using h
 simp -implicitDefEqProofs only [aA, seval]
 refine aQ (fun h => ?_) (fun h => ?_)
 · have hs : s = ⟨#[105, 115]⟩ := by simpa using h
   obtain ⟨x, y, rfl⟩ := sZ (ts := ks) (by subst hs; simp [isBuiltin] at hb; omega)
   have e : c8 σ s [x, y] = if y.ev.2 ≠ 0 then (y.ev.2, σ, []) else qU σ x (mW y.ev.1) := by simp only [c8]; rw [aE (by rw [hnc rfl]; simp), aE he, aE hne, aE hee]
   rw [e]
   have hy := hv y (by simp)
   have hin := HF (N := N) (Tm.tQ y hy.1)
   have har := fun st => H0 y st hy.1
   generalize y.ev.1 = a at *
   generalize y.ev.2 = ca at *
   have dT : dJ prog 31 (.slice [x.av, y.av]) (.int .i64 0) = some (.pptr x.av) := bL (av := Tm.av) (l := [x, y]) (i := 0) aN rfl (aH x)
   have gC : dJ prog 31 (.slice [x.av, y.av]) (.int .i64 1) = some (.pptr y.av) := bL (av := Tm.av) (l := [x, y]) (i := 1) aN rfl (aH y)
   simp -implicitDefEqProofs only [gC, aT, aH, aA, ↓aU, seval, kP]
   refine (har _).to ?_
   simp -implicitDefEqProofs only [aA, seval]
   refine aQ (fun h4 => ?_) (fun h4 => ?_)
   · simp -implicitDefEqProofs only [aA, seval]
     have h4' : ca ≠ 0 := by simpa using h4
     rw [aG h4']
     exact mQ.same hS _ rfl
   have h4' : ca = 0 := by simpa using h4
   subst h4'
   rw [aE (by simp)]
   simp -implicitDefEqProofs only [aA, seval]
   refine wX [(0, 1), (1, 1), (2, 1), (3, 1), (4, 1), (5, 0), (6, 0), (7, 0), (8, 1)] [0, 1, 2, 3, 4, 8] dX mixed rfl gB ?_
   simp -implicitDefEqProofs only [dT, aT, aH, aA, seval, kP]
   refine (aW3 a _).to ?_
   simp -implicitDefEqProofs only [aA, seval]
   refine ⟨gB, ?_⟩
   refine (GI hg ho x (mW a) (hv x (by simp)) hin c m q tr _ hS hl).mono ?_
   rintro _ s2 ⟨rfl, hP⟩
   simp -implicitDefEqProofs only [aA, seval]
   refine ⟨gB, ?_⟩
   refine (oD _ _).to ?_
   simp -implicitDefEqProofs only [aA, seval]
   exact ⟨gB, rfl, hP⟩
 have his : s ≠ ⟨#[105, 115]⟩ := by simpa using h
 simp -implicitDefEqProofs only [aA, seval]
 refine aQ (fun h => ?_) (fun h => ?_)
 · have hs : s = ⟨#[118, 97, 114]⟩ := by simpa using h
   obtain ⟨x, rfl⟩ := GQ (ts := ks) (by subst hs; simp [isBuiltin] at hb; omega)
   have e : c8 σ s [x] = (g9 (rB s x), σ, []) := rfl
   rw [e]
   subst hs
   obtain ⟨xk, xn, xs, xt⟩ := x
   have dT : dJ prog 31 (.slice [(Tm.mk xk xn xs xt).av]) (.int .i64 0) = some (.pptr (Tm.mk xk xn xs xt).av) := bL (av := Tm.av) (l := [Tm.mk xk xn xs xt]) (i := 0) aN rfl (aH _)
   have eat := GH xk xn xs xt
   simp only [aV] at dT eat
   simp only [bA, aW, aV]
   simp -implicitDefEqProofs only [dT, aA, ↓aU, seval, kP]
   refine (oD _ _).to ?_
   simp -implicitDefEqProofs only [aA, seval]
   exact mQ.same hS _ rfl
 have hva : s ≠ ⟨#[118, 97, 114]⟩ := by simpa using h
 simp -implicitDefEqProofs only [aA, seval]
 refine aQ (fun h => ?_) (fun h => ?_)
 · have hs : s = ⟨#[110, 111, 110, 118, 97, 114]⟩ := by simpa using h
   obtain ⟨x, rfl⟩ := GQ (ts := ks) (by subst hs; simp [isBuiltin] at hb; omega)
   have e : c8 σ s [x] = (g9 (rB s x), σ, []) := rfl
   rw [e]
   subst hs
   obtain ⟨xk, xn, xs, xt⟩ := x
   have dT : dJ prog 31 (.slice [(Tm.mk xk xn xs xt).av]) (.int .i64 0) = some (.pptr (Tm.mk xk xn xs xt).av) := bL (av := Tm.av) (l := [Tm.mk xk xn xs xt]) (i := 0) aN rfl (aH _)
   have eat := GH xk xn xs xt
   simp only [aV] at dT eat
   simp only [bA, aW, aV]
   simp -implicitDefEqProofs only [dT, aA, ↓aU, seval, kP]
   refine (oD _ _).to ?_
   simp -implicitDefEqProofs only [aA, seval]
   exact mQ.same hS _ rfl
 have hnv : s ≠ ⟨#[110, 111, 110, 118, 97, 114]⟩ := by simpa using h
 simp -implicitDefEqProofs only [aA, seval]
 refine aQ (fun h => ?_) (fun h => ?_)
 · have hs : s = ⟨#[97, 116, 111, 109]⟩ := by simpa using h
   obtain ⟨x, rfl⟩ := GQ (ts := ks) (by subst hs; simp [isBuiltin] at hb; omega)
   have e : c8 σ s [x] = (g9 (rB s x), σ, []) := rfl
   rw [e]
   subst hs
   obtain ⟨xk, xn, xs, xt⟩ := x
   have dT : dJ prog 31 (.slice [(Tm.mk xk xn xs xt).av]) (.int .i64 0) = some (.pptr (Tm.mk xk xn xs xt).av) := bL (av := Tm.av) (l := [Tm.mk xk xn xs xt]) (i := 0) aN rfl (aH _)
   have eat := GH xk xn xs xt
   simp only [aV] at dT eat
   simp only [bA, aW, aV]
   simp -implicitDefEqProofs only [dT, aA, ↓aU, seval, kP]
   refine (eat _).to ?_
   simp -implicitDefEqProofs only [aA, seval]
   refine (oD _ _).to ?_
   simp -implicitDefEqProofs only [aA, seval]
   exact mQ.same hS _ rfl
 have hat : s ≠ ⟨#[97, 116, 111, 109]⟩ := by simpa using h
 simp -implicitDefEqProofs only [aA, seval]
 refine aQ (fun h => ?_) (fun h => ?_)
 · have hs : s = ⟨#[105, 110, 116]⟩ := by simpa using h
   obtain ⟨x, rfl⟩ := GQ (ts := ks) (by subst hs; simp [isBuiltin] at hb; omega)
   have e : c8 σ s [x] = (g9 (rB s x), σ, []) := rfl
   rw [e]
   subst hs
   obtain ⟨xk, xn, xs, xt⟩ := x
   have dT : dJ prog 31 (.slice [(Tm.mk xk xn xs xt).av]) (.int .i64 0) = some (.pptr (Tm.mk xk xn xs xt).av) := bL (av := Tm.av) (l := [Tm.mk xk xn xs xt]) (i := 0) aN rfl (aH _)
   have eat := GH xk xn xs xt
   simp only [aV] at dT eat
   simp only [bA, aW, aV]
   simp -implicitDefEqProofs only [dT, aA, ↓aU, seval, kP]
   refine (oD _ _).to ?_
   simp -implicitDefEqProofs only [aA, seval]
   exact mQ.same hS _ rfl
 have hint : s ≠ ⟨#[105, 110, 116]⟩ := by simpa using h
 have hs : s = ⟨#[97, 114, 103]⟩ ∧ ks.length = 3 := by
  rcases hcs with ⟨h2, h3⟩ | ⟨h2, h3⟩ | ⟨h2, h3⟩ | ⟨h2, h3⟩
  · rw [hnc h2] at h3
    simp [he, hne, hee, his] at h3
  · simp [ht, hf] at h3
  · simp [hva, hnv, hat, hint] at h3
  · exact ⟨h3, h2⟩
 obtain ⟨hs, hk3⟩ := hs
 obtain ⟨x, y, z, rfl⟩ := XF hk3
 have hz := hv z (by simp)
 have hy := hv y (by simp)
 have e : c8 σ s [x, y, z] = tZ σ x y z := rfl
 rw [e]
 unfold tZ
 have dT : dJ prog 31 (.slice [x.av, y.av, z.av]) (.int .i64 0) = some (.pptr x.av) := bL (av := Tm.av) (l := [x, y, z]) (i := 0) aN rfl (aH x)
 have gC : dJ prog 31 (.slice [x.av, y.av, z.av]) (.int .i64 1) = some (.pptr y.av) := bL (av := Tm.av) (l := [x, y, z]) (i := 1) aN rfl (aH y)
 have BE : dJ prog 31 (.slice [x.av, y.av, z.av]) (.int .i64 2) = some (.pptr z.av) := bL (av := Tm.av) (l := [x, y, z]) (i := 2) aN rfl (aH z)
 clear hcs hb hnc hv e
 obtain ⟨xk, xn, xs, xt⟩ := x
 obtain ⟨yk, yn, ys, yt⟩ := y
 have hyl : yt.length ≤ 4 := by
  exact hy.1.kind.2
 rw [aV] at dT
 simp only [aV xk, aV yk] at dT gC BE
 simp only [bA, aW, aV xk, aV yk, Tm.k, Tm.ts]
 simp -implicitDefEqProofs only [dT, aA, ↓aU, seval, kP]
 refine cT (fun h => ?_) (fun h => ?_)
 case refine_2 =>
  have h' : xk = 1 := by simpa using h
  simp -implicitDefEqProofs only [h, aA, seval]
  rw [aG (.inl h')]
  exact mQ.same hS _ rfl
 have hx1 : xk ≠ 1 := by simpa using h
 simp -implicitDefEqProofs only [h, gC, aA, seval, kP]
 refine aQ (fun h1 => ?_) (fun h1 => ?_)
 · have h' : yk = 1 := by simpa using h1
   simp -implicitDefEqProofs only [aA, seval]
   rw [aG (.inr h')]
   exact mQ.same hS _ rfl
 have hy1 : yk ≠ 1 := by simpa using h1
 rw [aE (fun h2 => h2.elim hx1 hy1)]
 have h3 : ∀ s2, (xk ≠ 2 ∨ yk ≠ 3 ∨ yt.length = 0) → s2 = st → mQ c m st q tr (if xk ≠ 2 ∨ yk ≠ 3 ∨ yt.length = 0 then ((3 : Int), σ, []) else match mJ (.mk xk xn xs xt) (.mk yk yn ys yt) with | some u => qU σ z u | none => (1, σ, [])) (.int .i64 3) s2 := fun s2 hh e => by
  subst e
  rw [aG hh]
  exact mQ.same hS _ rfl
 simp -implicitDefEqProofs only [dT, aA, seval, kP]
 refine cT (fun h4 => ?_) (fun h4 => ?_)
 case refine_2 =>
  have h' : xk ≠ 2 := by simpa using h4
  simp -implicitDefEqProofs only [h4, aA, seval]
  exact h3 _ (.inl h') rfl
 have hx2 : xk = 2 := by simpa using h4
 simp -implicitDefEqProofs only [h4, gC, aA, seval, kP]
 refine cT (fun h5 => ?_) (fun h5 => ?_)
 case refine_2 =>
  have h' : yk ≠ 3 := by simpa using h5
  simp -implicitDefEqProofs only [h5, aA, seval]
  exact h3 _ (.inr (.inl h')) rfl
 have hy3 : yk = 3 := by simpa using h5
 simp -implicitDefEqProofs only [h5, gC, aF, aA, seval, kP]
 refine aQ (fun h6 => ?_) (fun h6 => ?_)
 · have h' : yt.length = 0 := by simp at h6; simp [h6]
   simp -implicitDefEqProofs only [aA, seval]
   exact h3 _ (.inr (.inr h')) rfl
 have hyt : yt.length ≠ 0 := by simp at h6; simpa using h6
 clear h3
 rw [aE (by simp [hx2, hy3]; intro h7; simp [h7] at hyt)]
 simp -implicitDefEqProofs only [aA, seval]
 refine HA mixed (by decide +kernel) (by decide +kernel) ?_
 simp -implicitDefEqProofs only [dT, gC, aF, aA, seval, kP]
 refine jC (C5 xn 1 _ _) ?_
 simp -implicitDefEqProofs only [aA, seval]
 refine aQ (fun h7 => ?_) (fun h7 => ?_)
 · have h' : ¬ (1 ≤ xn ∧ xn ≤ yt.length) := by simp at h7; omega
   have ea : mJ (.mk xk xn xs xt) (.mk yk yn ys yt) = none := aE h'
   rw [ea]
   simp -implicitDefEqProofs only [aA, seval]
   exact mQ.same hS _ rfl
 have h' : 1 ≤ xn ∧ xn ≤ yt.length := by simp at h7; omega
 obtain ⟨i, hi⟩ : ∃ i : Nat, xn - 1 = i := ⟨(xn - 1).toNat, by omega⟩
 have hlt : i < yt.length := by omega
 obtain ⟨u, hu⟩ : ∃ u, yt[i]? = some u := ⟨_, fH hlt⟩
 have ea : mJ (.mk xk xn xs xt) (.mk yk yn ys yt) = some u := by
  refine (aG h').trans ?_
  show yt[(xn - 1).toNat]? = some u
  rw [hi, l7, hu]
 rw [ea]
 have huv : bD N u := qL N (.mk yk yn ys yt) hy1 hy u (cW hu)
 have hw : IntKind.i64.wrap (xn - 1) = (i : Int) := by rw [wrap64 (by omega) (by omega)]; exact hi
 have PR := bL (av := Tm.av) (P := prog) aN hu (aH u)
 simp -implicitDefEqProofs only [aA, seval]
 refine wX [(0, 1), (1, 1), (2, 1), (3, 1), (4, 1), (5, 1), (6, 1), (7, 1), (8, 1), (9, 1), (10, 1), (11, 1), (12, 1), (13, 1), (14, 1), (15, 0), (16, 0), (17, 1)] [0, 1, 2, 3, 4, 5, 6, 7, 8, 9, 10, 11, 12, 13, 14, 17] dX mixed rfl gB ?_
 simp -implicitDefEqProofs only [dT, gC, BE, PR, hw, aT, aH, aA, seval, kP]
 refine (GI hg ho z u hz huv c m q tr _ hS hl).mono ?_
 rintro _ s2 ⟨rfl, hP⟩
 simp -implicitDefEqProofs only [aA, seval]
 refine ⟨gB, ?_⟩
 refine (oD _ _).to ?_
 simp -implicitDefEqProofs only [aA, seval]
 exact ⟨gB, rfl, hP⟩
abbrev XK := zi tI_3 (zi zI_3 (zi aX (zi tI_63 (zi zI_63 (zi bP (zi bQ (zi bT (zi bS bR))))))))
theorem aZD (n : Int) (F : Nat) (h0 : 0 ≤ n) (h1 : n ≤ 1048576) (hF : F ≤ 536870912) (st : aB) : aD prog 196 [.int .i64 n, .pptr (.int .i64 (F : Int))] st (fun r st' => r = (vr (n + (F : Int))).av ∧ st' = st) := by
 refine aD.done ?_
 refine wF [1000000] 2 func196 ntmps196 rfl rfl ?_
 intro _
 have hw := bK (n := n + (F : Int))
 simp -implicitDefEqProofs only [hw, aA, seval, XK]
 intro b3 h3
 refine (MH _ _).to ?_
 simp -implicitDefEqProofs only [aK, bZ, bO, d9 (bO _), d8 (aT _), aA, seval, XK]
 exact ⟨by simp only [Tm.soft], (aL.refl _).aC h3⟩
theorem O0 {F : Nat} (hF : F ≤ 536870912) (t : Tm) (h : bD 26 t) (st : aB) : aD prog 197 [t.av, .func 196 [.pptr (.int .i64 (F : Int))]] st (fun r st' => r = (dC F t).av ∧ st' = st) :=
 NM (fun v => vr (v + (F : Int))) _ _ rfl t st h.1.small fun n hn s => aZD n F (h.1.2.2 n hn).1 (by have := (h.1.2.2 n hn).2; omega) hF s
theorem aFQ {b : Nat} {L : List AV} (l : List IG) : (eA l).fin b L = eA l := by
 cases l with
 | nil => rw [eA]; unfold AV.fin; split <;> rfl
 | cons g l => obtain ⟨⟨k, n, s, ts⟩, cut, up⟩ := g; rw [r9]; exact AS
abbrev mC := zi tI_3 (zi zI_3 (zi aX (zi tI_4 (zi zI_4 (zi cD (zi tI_29 (zi zI_29 (zi gT (zi j0 (zi jZ (zi kM (zi tI_31 (zi zI_31 (zi aN (zi bE (zi bF (zi b9 (zi tI_51 (zi zI_51 (zi dW (zi fW (zi fU (zi gA (zi tI_63 (zi zI_63 (zi bP (zi bQ (zi bT (zi bS (zi bR (zi tI_76 (zi zI_76 (zi lO (zi lU (zi lM (zi tI_112 (zi zI_112 (zi tI_148 (zi zI_148 (zi tI_150 (zi zI_150 (zi tI_151 (zi zI_151 (zi yM (zi KU (zi KB (zi L3 (zi tI_152 (zi zI_152 (zi B2 (zi KT (zi JP (zi QF (zi tI_154 (zi zI_154 (zi DS (zi GR (zi EV (zi ED (zi FK (zi EQ (zi D1 (zi D8 (zi EI (zi FR (zi GC (zi ER (zi FY (zi tI_183 (zi zI_183 (zi BR (zi AY (zi BQ (zi tI_189 (zi zI_189 (zi aL6 (zi YU (zi ZO (zi TL (zi tI_198 (zi zI_198 (zi MU (zi OC (zi PM (zi NR (zi PN (zi MF LZ)))))))))))))))))))))))))))))))))))))))))))))))))))))))))))))))))))))))))))))))))))))))
set_option maxHeartbeats 2000000 in
theorem R5 {p : List Cl} (hp : ∀ c ∈ p, gJ c ∧ c.2.length ≤ 6) {M : Nat} (hM : M ≤ 268435456) {st0 st : aB} {S c m : Nat} {qt qc qn : AV} {q : List Tm} {idx : Bool} {fuel used mx : Int} {nd : List AV} {i : IS} (h : dG st0 st S c m qt qc qn p q idx fuel used mx nd i)
 (goal : Tm) (at' : Nat) (rest : List IG) (list : List Nat) (hg : cL i.σ) (ho : cP (bD i.fresh) i.σ) (hgo : bD i.fresh goal) (hl : ∀ x ∈ list, x < p.length) (hll : list.length ≤ 1048576) (ha : at' < i.nn) (hX : IX p M i) (hMl : i.fresh + 26 * oQ i.chs + 26 * list.length ≤ M) (hch : i.chs.length ≤ 524288) (hnn : i.nn ≤ 524288) :
 aD prog 155 [.ptr S 0, goal.av, .int .i64 (at' : Int), .slice (list.map nv), eA rest] st (fun r st' => r = .bool (gI p goal at' rest list i).1 ∧ ∃ qt' qc' mx' nd', dG st0 st' S c m qt' qc' qn p q idx fuel used mx' nd' (gI p goal at' rest list i).2) := by
 obtain ⟨bN, rfl⟩ := h.nodes ha
 obtain ⟨gk, gn, gs', gts⟩ := goal
 obtain ⟨g1, g2, g3, g4, g5, g6⟩ := oU rest
 generalize hT : gI p (.mk gk gn gs' gts) at' rest list i = T
 simp only [aV]
 have hun : prog.underlying 51 = some (.slice 3) := by kernel_rfl
 have iL : st S = some (.cells [.ptr c 0, .slice (p.map bY), .slice (q.map Tm.av), .bool idx, .bool false, .int .i64 fuel, .int .i64 used, .int .i64 i.fresh, eA i.goals, qc, .mslice bN 0 nd.length 6, .int .i64 mx]) := h.cell
 have hcc := h.sto.sub.cells
 have htl := h.sto.aJK (P := prog) hun
 obtain ⟨t1, t2, t3, t4, t5⟩ := h.sto.shape
 refine aD.lH ?_
 refine wF [1000000] 5 func155 ntmps155 rfl rfl ?_
 intro _
 simp -implicitDefEqProofs only [aF, iL, hcc, htl, t1, aA, seval, mC]
 refine eL (σ := aB × AV) [1000000] [0, 2, 3, 4, 6, 11, 28, 29] list (fun k s => dG st0 s.1 S c m s.2 qc (.mslice bN 0 nd.length 6) p q idx fuel used mx nd { i with fresh := i.fresh + 26 * k } ∧ gI p (.mk gk gn gs' gts) at' rest (list.drop k) { i with fresh := i.fresh + 26 * k } = T)
  (fun k s => [(10, .bool false), (30, .int .i64 k)]) (fun k s => s.1) (by decide +kernel) ⟨(st, qt), ⟨h, hT⟩, aO.mk (by simp -implicitDefEqProofs only [aA, ↓aU, seval])⟩ (fun k x s hx hlt bU hdr hinv => ?_) (fun s hge hinv => ?_)
 case refine_2 =>
  simp -implicitDefEqProofs only [hge, aA, seval]
  obtain ⟨hi, he⟩ := hinv
  rw [kH] at he
  unfold gI at he
  subst he
  exact ⟨s.1, aL.refl _, rfl, _, _, _, _, hi⟩
 obtain ⟨st, qt⟩ := s
 obtain ⟨h, hT⟩ := hinv
 simp only at h hT
 obtain ⟨t1, t2, t3, t4, t5⟩ := h.sto.shape
 obtain ⟨n1, n2, n3, n4, n5⟩ := h.acC.shape
 obtain ⟨m1, m2, m3, m4, m5⟩ := h.acN.shape
 obtain ⟨l1, l2, l3, l4, l5, l6⟩ := oU i.goals
 have hxl := hl x (cW hx)
 obtain ⟨cl, hcx⟩ : ∃ cl, p[x]? = some cl := ⟨_, fH hxl⟩
 obtain ⟨rR, pE⟩ := hp cl (cW hcx)
 rw [hdr, gI.eq_def] at hT
 simp only [hcx] at hT
 have hat : dJ prog 51 (.slice (list.map nv)) (.int .i64 (k : Int)) = some (.pptr (.int .i64 (x : Int))) := bL (av := nv) dW hx rfl
 have y7 := bL (av := bY) (P := prog) gT hcx (n9 cl)
 have hw := bK (n := (k : Int) + 1)
 generalize hF : i.fresh + 26 * k = F at *
 have hFM : F + 26 ≤ M := by have := aE1 i.chs 0; omega
 have aZP := bK (n := (F : Int) + 26)
 have iL : st S = some (.cells [.ptr c 0, .slice (p.map bY), .slice (q.map Tm.av), .bool idx, .bool false, .int .i64 fuel, .int .i64 used, .int .i64 F, eA i.goals, qc, .mslice bN 0 nd.length 6, .int .i64 mx]) := h.cell
 obtain ⟨⟨ck, cn, cs', cts⟩, bd⟩ := cl
 rw [gG] at y7
 simp -implicitDefEqProofs only [bU, aK, iL, hat, aZP, aA, ↓aU, seval, mC]
 have h2 := h.put (gl := i.goals) (F := F + 26) (fuel' := fuel) (used' := used) (mx' := mx) (cs := [.ptr c 0, .slice (p.map bY), .slice (q.map Tm.av), .bool idx, .bool false, .int .i64 fuel, .int .i64 used, .int .i64 ((F : Int) + 26), eA i.goals, qc, .mslice bN 0 nd.length 6, .int .i64 mx]) rfl
 generalize st.aC S (.cells [.ptr c 0, .slice (p.map bY), .slice (q.map Tm.av), .bool idx, .bool false, .int .i64 fuel, .int .i64 used, .int .i64 ((F : Int) + 26), eA i.goals, qc, .mslice bN 0 nd.length 6, .int .i64 mx]) = V at *
 simp only at h2
 have qO : V S = some (.cells [.ptr c 0, .slice (p.map bY), .slice (q.map Tm.av), .bool idx, .bool false, .int .i64 fuel, .int .i64 used, .int .i64 ((F : Int) + 26), eA i.goals, qc, .mslice bN 0 nd.length 6, .int .i64 mx]) := h2.cell
 refine wX [(0, 1), (1, 1), (2, 1), (3, 1), (4, 1), (5, 1), (6, 1), (7, 1), (8, 1), (9, 1), (10, 1), (11, 1), (12, 1), (13, 1), (14, 0), (15, 0), (16, 1)] [0, 1, 2, 3, 4, 5, 6, 7, 8, 9, 10, 11, 12, 13, 16] (one S (.cells [.ptr c 0, .slice (p.map bY), .slice (q.map Tm.av), .bool idx, .bool false, .int .i64 fuel, .int .i64 used, .int .i64 ((F : Int) + 26), eA i.goals, qc, .mslice bN 0 nd.length 6, .int .i64 mx])) mixed rfl (iA qO) ?_
 simp -implicitDefEqProofs only [uC, y7, aA, seval, mC]
 have hsh := fun st => O0 (F := F) (by omega) (.mk ck cn cs' cts) rR.head st
 have hhd : bD ((F + 26 : Nat) : Int) (dC F (.mk ck cn cs' cts)) := (rR.dC F (.mk ck cn cs' cts) (by simp)).mono (by have := rR.fr.1; omega)
 have htr := h2.sto
 obtain ⟨r, σ', add, U⟩ := rD (N := F + 26) hg (fun n u e => (ho n u e).mono (by omega)) (hgo.mono (by omega)) hhd
 have htl : i.tr.length ≤ i.fresh := hX.NX
 have hun := GI (N := F + 26) hg (fun n u e => (ho n u e).mono (by omega)) (.mk gk gn gs' gts) (dC F (.mk ck cn cs' cts)) (hgo.mono (by omega)) hhd c m qt i.tr V h2.sto (by omega)
 rw [U.eq] at hT hun
 simp only at hT hun
 have FH := U.yE
 have hso := U.uI
 clear U
 generalize hy : dC F (.mk ck cn cs' cts) = y at *
 obtain ⟨yk, yn, ys, yt⟩ := y
 simp only [aV] at hsh hun ⊢
 refine (hsh _).to ?_
 simp -implicitDefEqProofs only [aA, seval]
 refine ⟨iA qO, ?_⟩
 refine hun.mono ?_
 rintro _ s2 ⟨rfl, hP⟩
 obtain ⟨qt2, h3⟩ := h2.post hP
 have CC : s2 S = some (.cells [.ptr c 0, .slice (p.map bY), .slice (q.map Tm.av), .bool idx, .bool false, .int .i64 fuel, .int .i64 used, .int .i64 ((F : Int) + 26), eA i.goals, qc, .mslice bN 0 nd.length 6, .int .i64 mx]) := h3.cell
 simp -implicitDefEqProofs only [aA, seval]
 refine ⟨iA CC, ?_⟩
 refine aQ (fun hr => ?_) (fun hr => ?_)
 · have hr' : r = false := by simpa using hr
   rw [aE (by rw [hr']; simp)] at hT
   simp -implicitDefEqProofs only [CC, aA, seval, mC]
   have hud := LN σ' (i.tr ++ add) i.tr.length (by simp) c m qt2 s2 h3.sto (by
    have := h3.sto
    have : add.length ≤ F + 26 := AK hso.nodup hso.fO
    rw [dQ]; omega)
   refine hud.mono ?_
   rintro _ s4 ⟨rfl, qt4, hS4, hb4, hf4⟩
   simp -implicitDefEqProofs only [hw, aA, seval]
   have h5 := h3.OJ hS4 (fun b o hb e1 e2 _ => hf4 b o hb e1 e2) (fun b hb => .inl (hb4 b hb))
   simp only [GZ, G0, FH] at h5
   refine ⟨(s4, qt4), ⟨?_, ?_⟩, aO.mk (by simp -implicitDefEqProofs only [aA, seval])⟩
   · rw [show i.fresh + 26 * (k + 1) = F + 26 by omega]; exact h5
   · rw [show i.fresh + 26 * (k + 1) = F + 26 by omega]; exact hT
 have hr' : r = true := by simpa using hr
 have aY3 : nd.length = i.nn := h3.ndl
 rw [aG hr'] at hT
 have EO : prog.underlying 151 = some (.slice 198) := by kernel_rfl
 have QU : prog.underlying 152 = some (.slice 189) := by kernel_rfl
 have hlC := h3.acC.len EO
 have hlN := h3.acN.len QU
 rw [aF] at hlC
 rw [h3.ndl] at hlN
 simp only at hlC hlN
 have aI2 := xX (P := prog) (b := bN) (w := 6) (i := at') B2 (len := nd.length) (by rw [h3.ndl]; exact ha)
 simp -implicitDefEqProofs only [aF, CC, hlC, hw, n1, aA, seval, mC]
 refine aQ (fun h7 => ?_) (fun h7 => ?_)
 · have h' : k + 1 < list.length := by simp at h7; omega
   have hdn : list.drop (k + 1) ≠ [] := by intro e; have := n6 List.length e; simp at this; omega
   rw [aE hdn] at hT
   have hsl := fun (φ : AF) (d : Nat) (h : φ d = .int .i64 ((k : Int) + 1)) => aCM h' h
   refine wX [(0, 1), (1, 1), (2, 1), (3, 1), (4, 1), (5, 1), (6, 1), (7, 1), (8, 1), (9, 1), (10, 1), (11, 1), (12, 1), (13, 1), (14, 1), (15, 1), (16, 1), (17, 1), (18, 1), (19, 1), (20, 0), (21, 1), (22, 1), (23, 2)] [0, 1, 2, 3, 4, 5, 6, 7, 8, 9, 10, 11, 12, 13, 14, 15, 16, 17, 18, 19, 21, 22] (one S (.cells [.ptr c 0, .slice (p.map bY), .slice (q.map Tm.av), .bool idx, .bool false, .int .i64 fuel, .int .i64 used, .int .i64 ((F : Int) + 26), eA i.goals, qc, .mslice bN 0 nd.length 6, .int .i64 mx])) mixed rfl (iA CC) ?_
   simp -implicitDefEqProofs only [hsl, hw, g3, g4, n1, m1, uC, aA, seval, mC]
   refine i8.append yM KU KB rfl (by decide) h3.acC rfl (aOB ⟨.mk gk gn gs' gts, at', rest, list.drop (k + 1), i.tr.length, nd.length⟩) (by rw [aF]; simp only; omega) (fun qc5 s5 nM hf hn => ?_)
   have aUD : (i.chs.map qD) ++ [qD ⟨.mk gk gn gs' gts, at', rest, list.drop (k + 1), i.tr.length, nd.length⟩] = (i.chs ++ [(⟨.mk gk gn gs' gts, at', rest, list.drop (k + 1), i.tr.length, nd.length⟩ : IC)]).map qD := by simp
   have nM := aUD ▸ nM
   obtain ⟨c1, c2, c3, c4, c5⟩ := nM.shape
   have hS5 : s5 S = s2 S := hf S h3.parts.2.2.2.2.1 (fun hb => by
    rcases hn S hb with h' | h'
    · exact h3.parts.2.2.2.2.1 h'
    · rw [CC] at h'; cases h')
   have XP := hS5.trans CC
   have aX6 := iA XP
   simp -implicitDefEqProofs only [aK, XP, c4, c5, m1, aB.aP, aA, seval, mC]
   refine ⟨aX6, ?_⟩
   have h5 := h3.aZW nM hf hn (cs := [.ptr c 0, .slice (p.map bY), .slice (q.map Tm.av), .bool idx, .bool false, .int .i64 fuel, .int .i64 used, .int .i64 ((F : Int) + 26), eA i.goals, qc5, .mslice bN 0 nd.length 6, .int .i64 mx]) rfl
   generalize s5.aC S (.cells [.ptr c 0, .slice (p.map bY), .slice (q.map Tm.av), .bool idx, .bool false, .int .i64 fuel, .int .i64 used, .int .i64 ((F : Int) + 26), eA i.goals, qc5, .mslice bN 0 nd.length 6, .int .i64 mx]) = V5 at *
   rw [show (⟨.mk gk gn gs' gts, at', rest, list.drop (k + 1), i.tr.length, nd.length⟩ : IC) = ⟨.mk gk gn gs' gts, at', rest, list.drop (k + 1), i.tr.length, i.nn⟩ by rw [aY3]] at h5
   obtain ⟨csN, hbN, hcN⟩ := h5.nodeAt
   obtain ⟨c1, c2, c3, c4, c5⟩ := (h5).acC.shape
   have hSN : S ≠ bN := fun e => (h5).parts.2.2.2.2.2.1 (by rw [e]; simp [dM])
   have sH := h5.cell
   simp only [gV] at sH
   rw [show ((F + 26 : Nat) : Int) = (F : Int) + 26 from rfl] at sH
   simp -implicitDefEqProofs only [aK, aF, sH, hbN, hSN, aI2, y7, aA, seval, mC]
   refine ⟨by omega, ?_⟩
   obtain ⟨nd6, h6⟩ := (h5).aJW (x := .int .i64 (x : Int)) (k := at' * 6 + 5) rfl hbN (by omega)
   have PB := h6.ndl
   simp only at PB
   rw [show aK csN (at' * 6 + 5) [.int .i64 (x : Int)] = List.take (at' * 6 + 5) csN ++ [AV.int IntKind.i64 (x : Int)] ++ List.drop (at' * 6 + 5 + 1) csN from rfl] at h6
   generalize aB.aC _ bN (.cells (List.take (at' * 6 + 5) csN ++ [AV.int IntKind.i64 (x : Int)] ++ List.drop (at' * 6 + 5 + 1) csN)) = V6 at *
   have lD := h6.cell
   simp only [gV] at lD
   rw [show ((F + 26 : Nat) : Int) = (F : Int) + 26 from rfl] at lD
   refine rC (σ := Unit) [1000000] [0, 2, 3, 4, 6, 10, 11, 12, 13, 14, 15, 16, 28, 29, 30, 31, 32, 33, 34, 35, 36, 37, 38, 39, 40, 41, 42, 43, 44, 45, 46, 47, 48, 49, 50, 51, 52, 53, 54, 55, 56, 57, 58, 59, 60, 61, 62, 63, 64, 65, 66, 67, 68, 70, 71, 72, 73, 74, 75, 76, 77, 78, 79, 80, 81, 82, 83, 84, 85, 86, 87, 88, 89, 90, 91, 92, 93, 94, 95, 96, 97, 98, 99, 100, 101, 102, 103, 104, 105, 106, 107, 108, 109, 110, 111, 112, 113, 114, 115, 116, 117, 118, 119] bd 4 17 (fun j _ => ((bd.take j).map (dC F)).map Tm.av) (fun _ _ => True) (fun j _ => [(120, .int .i64 j)]) (fun _ _ => V6) (fun j _ _ e he => by simp only [cU] at he; obtain ⟨t, _, rfl⟩ := he; exact ⟨cG _, aH _⟩) (by decide +kernel) ⟨(), 0, trivial, fun h => absurd rfl h, aO.mk (by simp -implicitDefEqProofs only [jG, kU, aW, aA, ↓aU, seval])⟩ (fun j y5 _ b5 hx5 aZ9 NS aRX MK hb5 => ?_) (fun _ b5 PF MK => ?_)
   · have hw5 := wrap64 (n := (j : Int) + 1) (by simp only at pE; omega) (by simp only at pE; omega)
     have LE := bL (av := Tm.av) (P := prog) aN hx5 (aH y5)
     have GG : (((bd.take j).map (dC F)).map Tm.av).length = j := by simp only [aF, d7]; omega
     have hyb := rR.body y5 (cW hx5)
     simp -implicitDefEqProofs only [NS, LE, aT, aH, bZ, cG, aA, ↓aU, seval, mC]
     refine (O0 (F := F) (by omega) y5 hyb.1 _).to ?_
     simp -implicitDefEqProofs only [aT, aH, cG, aA, seval, mC]
     refine eO aN bE bF rfl rfl (fB (aH _) (bZ _)) (dR _) hb5 (by simp only [GG, aS, a7]; simp only at pE; omega) (by simp only [GG, aS, a7]; simp only at pE; omega) (fun b' hb' => ?_)
     rw [show (((bd.take j).map (dC F)).map Tm.av) ++ [(dC F y5).av] = ((bd.take (j + 1)).map (dC F)).map Tm.av by rw [fN, hx5]; simp] at hb' ⊢
     simp -implicitDefEqProofs only [aA, seval]
     exact ⟨(), b', hb', aO.mk (by simp -implicitDefEqProofs only [hw5, aA, seval])⟩
   · have yK := fun st => LV (bd.map (dC F)) i.chs.length at' rest (by simp only [aF]; simp only at pE; omega) st
     simp -implicitDefEqProofs only [PF, fM, eC, pQ, iP, iK, oC, AS, E9, X1, lI, eS, aFQ, aA, seval]
     refine (yK _).to ?_
     have h7 := h6.put (gl := (bd.map (dC F)).map (fun t => (⟨t, i.chs.length, at'⟩ : IG)) ++ rest) (F := F + 26) (fuel' := fuel) (used' := used) (mx' := mx) rfl
     simp only [gV] at h7
     rw [show ((F + 26 : Nat) : Int) = (F : Int) + 26 from rfl] at h7
     have hgl : (bd.map (dC F)).map (fun t => (⟨t, i.chs.length, at'⟩ : IG)) ++ rest = bd.map (fun t => (⟨dC F t, i.chs.length, at'⟩ : IG)) ++ rest := by rw [xT]; try rfl
     rw [hgl] at h7 ⊢
     generalize bd.map (fun t => (⟨dC F t, i.chs.length, at'⟩ : IG)) ++ rest = NG at *
     obtain ⟨u1, u2, u3, u4, u5, u6⟩ := oU NG
     have GE := h7.acC.len EO
     simp only [aF] at GE
     simp -implicitDefEqProofs only [aK, lD, u4, u5, aA, seval, mC]
     generalize aB.aC V6 S _ = V7 at h7 ⊢
     have mV := h7.cell
     simp only [gV] at mV
     rw [show ((F + 26 : Nat) : Int) = (F : Int) + 26 from rfl] at mV
     refine wX [(0, 1), (1, 1), (2, 1), (3, 1), (4, 1), (5, 1), (6, 1), (7, 1), (8, 1), (9, 1), (10, 0), (11, 1), (12, 1), (13, 2)] [0, 1, 2, 3, 4, 5, 6, 7, 8, 9, 11, 12] _ mixed rfl (iA mV) ?_
     simp -implicitDefEqProofs only [aK, mV, GE, c1, uC, aA, seval, mC]
     refine ⟨iA mV, ?_⟩
     subst hT
     exact ⟨_, aL.refl _, rfl, qt2, _, _, nd6, h7.put (gl := NG) (F := F + 26) rfl⟩
 · have h' : list.drop (k + 1) = [] := GU (by simp at h7; omega)
   rw [aG h'] at hT
   obtain ⟨csN, hbN, hcN⟩ := h3.nodeAt
   obtain ⟨c1, c2, c3, c4, c5⟩ := (h3).acC.shape
   have hSN : S ≠ bN := fun e => (h3).parts.2.2.2.2.2.1 (by rw [e]; simp [dM])
   have sH := h3.cell
   simp only [gV] at sH
   rw [show ((F + 26 : Nat) : Int) = (F : Int) + 26 from rfl] at sH
   simp -implicitDefEqProofs only [aK, aF, sH, hbN, hSN, aI2, y7, m1, aA, seval, mC]
   refine ⟨by omega, ?_⟩
   obtain ⟨nd6, h6⟩ := (h3).aJW (x := .int .i64 (x : Int)) (k := at' * 6 + 5) rfl hbN (by omega)
   have PB := h6.ndl
   simp only at PB
   rw [show aK csN (at' * 6 + 5) [.int .i64 (x : Int)] = List.take (at' * 6 + 5) csN ++ [AV.int IntKind.i64 (x : Int)] ++ List.drop (at' * 6 + 5 + 1) csN from rfl] at h6
   generalize aB.aC _ bN (.cells (List.take (at' * 6 + 5) csN ++ [AV.int IntKind.i64 (x : Int)] ++ List.drop (at' * 6 + 5 + 1) csN)) = V6 at *
   have lD := h6.cell
   simp only [gV] at lD
   rw [show ((F + 26 : Nat) : Int) = (F : Int) + 26 from rfl] at lD
   refine rC (σ := Unit) [1000000] [0, 2, 3, 4, 6, 10, 11, 12, 13, 14, 15, 16, 28, 29, 30, 31, 32, 33, 34, 35, 36, 37, 38, 39, 40, 41, 42, 43, 44, 45, 46, 47, 48, 49, 50, 51, 52, 53, 54, 55, 56, 57, 58, 59, 60, 61, 62, 63, 64, 65, 66, 67, 68, 70, 71, 72, 73, 74, 75, 76, 77, 78, 79, 80, 81, 82, 83, 84, 85, 86, 87, 88, 89, 90, 91, 92, 93, 94, 95, 96, 97, 98, 99, 100, 101, 102, 103, 104, 105, 106, 107, 108, 109, 110, 111, 112, 113, 114, 115, 116, 117, 118, 119] bd 4 17 (fun j _ => ((bd.take j).map (dC F)).map Tm.av) (fun _ _ => True) (fun j _ => [(120, .int .i64 j)]) (fun _ _ => V6) (fun j _ _ e he => by simp only [cU] at he; obtain ⟨t, _, rfl⟩ := he; exact ⟨cG _, aH _⟩) (by decide +kernel) ⟨(), 0, trivial, fun h => absurd rfl h, aO.mk (by simp -implicitDefEqProofs only [jG, kU, aW, aA, ↓aU, seval])⟩ (fun j y5 _ b5 hx5 aZ9 NS aRX MK hb5 => ?_) (fun _ b5 PF MK => ?_)
   · have hw5 := wrap64 (n := (j : Int) + 1) (by simp only at pE; omega) (by simp only at pE; omega)
     have LE := bL (av := Tm.av) (P := prog) aN hx5 (aH y5)
     have GG : (((bd.take j).map (dC F)).map Tm.av).length = j := by simp only [aF, d7]; omega
     have hyb := rR.body y5 (cW hx5)
     simp -implicitDefEqProofs only [NS, LE, aT, aH, bZ, cG, aA, ↓aU, seval, mC]
     refine (O0 (F := F) (by omega) y5 hyb.1 _).to ?_
     simp -implicitDefEqProofs only [aT, aH, cG, aA, seval, mC]
     refine eO aN bE bF rfl rfl (fB (aH _) (bZ _)) (dR _) hb5 (by simp only [GG, aS, a7]; simp only at pE; omega) (by simp only [GG, aS, a7]; simp only at pE; omega) (fun b' hb' => ?_)
     rw [show (((bd.take j).map (dC F)).map Tm.av) ++ [(dC F y5).av] = ((bd.take (j + 1)).map (dC F)).map Tm.av by rw [fN, hx5]; simp] at hb' ⊢
     simp -implicitDefEqProofs only [aA, seval]
     exact ⟨(), b', hb', aO.mk (by simp -implicitDefEqProofs only [hw5, aA, seval])⟩
   · have yK := fun st => LV (bd.map (dC F)) i.chs.length at' rest (by simp only [aF]; simp only at pE; omega) st
     simp -implicitDefEqProofs only [PF, fM, eC, pQ, iP, iK, AS, E9, X1, lI, eS, aFQ, aA, seval]
     refine (yK _).to ?_
     have h7 := h6.put (gl := (bd.map (dC F)).map (fun t => (⟨t, i.chs.length, at'⟩ : IG)) ++ rest) (F := F + 26) (fuel' := fuel) (used' := used) (mx' := mx) rfl
     simp only [gV] at h7
     rw [show ((F + 26 : Nat) : Int) = (F : Int) + 26 from rfl] at h7
     have hgl : (bd.map (dC F)).map (fun t => (⟨t, i.chs.length, at'⟩ : IG)) ++ rest = bd.map (fun t => (⟨dC F t, i.chs.length, at'⟩ : IG)) ++ rest := by rw [xT]; try rfl
     rw [hgl] at h7 ⊢
     generalize bd.map (fun t => (⟨dC F t, i.chs.length, at'⟩ : IG)) ++ rest = NG at *
     obtain ⟨u1, u2, u3, u4, u5, u6⟩ := oU NG
     have GE := h7.acC.len EO
     simp only [aF] at GE
     simp -implicitDefEqProofs only [aK, lD, u4, u5, aA, seval, mC]
     generalize aB.aC V6 S _ = V7 at h7 ⊢
     have mV := h7.cell
     simp only [gV] at mV
     rw [show ((F + 26 : Nat) : Int) = (F : Int) + 26 from rfl] at mV
     refine wX [(0, 1), (1, 1), (2, 1), (3, 1), (4, 1), (5, 1), (6, 1), (7, 1), (8, 1), (9, 1), (10, 0), (11, 1), (12, 1), (13, 2)] [0, 1, 2, 3, 4, 5, 6, 7, 8, 9, 11, 12] _ mixed rfl (iA mV) ?_
     simp -implicitDefEqProofs only [aK, mV, GE, c1, uC, aA, seval, mC]
     refine ⟨iA mV, ?_⟩
     subst hT
     exact ⟨_, aL.refl _, rfl, qt2, _, _, nd6, h7.put (gl := NG) (F := F + 26) rfl⟩
theorem aQ0 (p : List Cl) (s : IS) : gQ p s.chs.length s = match s.chs.getLast? with
 | none => none
 | some c => if (gI p c.goal c.node c.rest c.list (s.pop c)).1 = true then some (gI p c.goal c.node c.rest c.list (s.pop c)).2 else gQ p (s.chs.length - 1) (gI p c.goal c.node c.rest c.list (s.pop c)).2 := by
 obtain ⟨gl, σ, tr, chs, F, nn⟩ := s
 cases chs with
 | nil => rfl
 | cons c l => rw [aS, gQ]; try rfl
structure aGG (p : List Cl) (M : Nat) (st0 : aB) (S c m : Nat) (q : List Tm) (idx : Bool) (fuel used : Int) (T : Option IS) (st : aB) (qt qc qn : AV) (mx : Int) (nd : List AV) (i : IS) (cs : List RC) : Prop where
 s : dG st0 st S c m qt qc qn p q idx fuel used mx nd i
 r : iE i.fresh cs i.chs i.σ i.tr
 x : IX p M i
 t : gQ p i.chs.length i = T
 n : i.chs.length ≤ 524288 ∧ i.nn ≤ 524288
def U7 (st0 st' : aB) (S c m : Nat) (p : List Cl) (q : List Tm) (idx : Bool) (fuel used : Int) (r : AV) : Option IS → Prop
 | some i' => r = .int .i64 (-1) ∧ ∃ qt qc qn mx nd, dG st0 st' S c m qt qc qn p q idx fuel used mx nd i'
 | none => r = .int .i64 0 ∧ ∃ qt qc qn mx nd i', dG st0 st' S c m qt qc qn p q idx fuel used mx nd i'
abbrev DK := zi tI_3 (zi zI_3 (zi aX (zi tI_51 (zi zI_51 (zi dW (zi fW (zi fU (zi gA (zi tI_63 (zi zI_63 (zi bP (zi bQ (zi bT (zi bS (zi bR (zi tI_112 (zi zI_112 (zi tI_148 (zi zI_148 (zi tI_150 (zi zI_150 (zi tI_151 (zi zI_151 (zi yM (zi KU (zi KB (zi L3 (zi tI_152 (zi zI_152 (zi B2 (zi KT (zi JP (zi QF (zi tI_154 (zi zI_154 (zi DS (zi GR (zi EV (zi ED (zi FK (zi EQ (zi D1 (zi D8 (zi EI (zi FR (zi GC (zi ER (zi FY (zi tI_198 (zi zI_198 (zi MU (zi OC (zi PM (zi NR (zi PN (zi MF LZ))))))))))))))))))))))))))))))))))))))))))))))))))))))))
set_option maxHeartbeats 2000000 in
theorem N3 {p : List Cl} (hp : ∀ c ∈ p, gJ c ∧ c.2.length ≤ 6) {M : Nat} (hM : M ≤ 16777216) {st0 : aB} {S c m : Nat} {q : List Tm} {idx : Bool} {fuel used : Int} {T : Option IS} (st : aB) (qt qc qn : AV) (mx : Int) (nd : List AV) (i : IS) (cs : List RC)
 (hI : aGG p M st0 S c m q idx fuel used T st qt qc qn mx nd i cs) :
 aD prog 116 [.ptr S 0] st (fun r st' => U7 st0 st' S c m p q idx fuel used r T) := by
 refine aD.lH ?_
 refine wF [1000000] 1 func116 ntmps116 rfl rfl ?_
 intro _
 simp -implicitDefEqProofs only [aA, seval]
 refine gZ (σ := aB × AV × AV × AV × Int × List AV × IS × List RC) [1000000] [0] (fun x => aGG p M st0 S c m q idx fuel used T x.1 x.2.1 x.2.2.1 x.2.2.2.1 x.2.2.2.2.1 x.2.2.2.2.2.1 x.2.2.2.2.2.2.1 x.2.2.2.2.2.2.2) (fun x => [(2, .int .i64 0)]) (fun x => x.1) (fun x => x.2.2.2.2.2.2.1.chs.length) (by decide +kernel) ⟨(st, qt, qc, qn, mx, nd, i, cs), hI, aO.mk (by simp -implicitDefEqProofs only [aA, seval])⟩ ?_
 clear hI
 rintro ⟨st, qt, qc, qn, mx, nd, i, cs⟩ ⟨hs, hr, hx, ht, hn1, hn2⟩
 simp only at hs hr hx ht hn1 hn2
 simp only
 obtain ⟨gl, τ, tr, ch, F, nn⟩ := i
 obtain ⟨t1, t2, t3, t4, t5⟩ := hs.sto.shape
 obtain ⟨n1, n2, n3, n4, n5⟩ := hs.acC.shape
 obtain ⟨m1, m2, m3, m4, m5⟩ := hs.acN.shape
 obtain ⟨l1, l2, l3, l4, l5, l6⟩ := oU gl
 have EO : prog.underlying 151 = some (.slice 198) := by kernel_rfl
 have hlC := hs.acC.len EO
 rw [aF] at hlC
 simp only at hlC hr hx ht hn1 hn2
 have iL := hs.cell
 simp only [gV] at iL
 replace ht := (aQ0 p ⟨gl, τ, tr, ch, F, nn⟩).symm.trans ht
 simp only at ht
 cases hr with
 | nil =>
  simp only [List.getLast?_nil] at ht
  subst ht
  simp only [a7] at hlC
  simp -implicitDefEqProofs only [iL, hlC, n1, vA, ↓K5, List.contains, List.elem, qS, g7, sub, xM, ↓reduceIte, reduceCtorEq, DK]
  refine aQ (fun h => absurd h (by decide)) (fun h => ?_)
  simp -implicitDefEqProofs only [aA, seval]
  exact ⟨st, aL.refl _, rfl, _, _, _, _, _, _, hs⟩
 | @snoc cs ds cR d _ _ C h1 h2 =>
  obtain ⟨hP, hMl, hnt, htn, htr, hli⟩ := hx.pop
  have e3 : (IS.pop ⟨gl, τ, tr, ds ++ [d], F, nn⟩ d) = ⟨gl, τ.out (tr.drop d.eP), tr.take d.eP, ds, F, d.taken⟩ := by simp only [IS.pop, RH]
  simp only [List.getLast?_append, List.getLast?_singleton, Option.some_or, e3] at ht
  obtain ⟨bC, csC, rfl, hbC, aNK, htk⟩ := hs.acC.at (LR _) (i := ds.length) (e := qD d) (by simp)
  have hlm : ((ds ++ [d]).map qD).length = ds.length + 1 := by simp
  rw [hlm] at hs iL hlC
  have hSb : S ≠ bC := fun e => hs.parts.2.2.2.2.1 (by rw [e]; simp [dM])
  have hdl : ds.length + 1 ≤ 524288 := by simp only [dQ, aS, a7] at hn1; omega
  have hw : IntKind.i64.wrap ((ds.length : Int) + 1 - 1) = (ds.length : Int) := by rw [wrap64 (by omega) (by omega)]; omega
  have aTP := xX (P := prog) (b := bC) (w := 9) (i := ds.length) yM (len := ds.length + 1) (by omega)
  have tB := fun (φ : AF) (dd : Nat) (h : φ dd = .int .i64 (ds.length : Int)) => ML (b := bC) (n := ds.length + 1) (k := ds.length) yM h (by omega)
  obtain ⟨⟨dk, dn, ds', dts⟩, KW, KS, LH, DU, BL⟩ := d
  rw [aHV] at htk
  simp only at htn htr hnt hli hMl hP
  obtain ⟨g1, g2, g3, g4, g5, g6⟩ := oU KS
  have aVR : (csC.drop (ds.length * 9)).take 9 = [.int .i64 dk, .int .i64 dn, .str ds', .slice (dts.map Tm.av), .int .i64 (KW : Int), eA KS, .slice (LH.map nv), .int .i64 (DU : Int), .int .i64 (BL : Int)] := htk
  simp -implicitDefEqProofs only [dQ, aS, a7, iL, hlC, aA, seval, DK]
  refine aQ (fun h => ?_) (fun h => absurd h (by simp))
  simp -implicitDefEqProofs only [aK, dQ, aS, a7, iL, hlC, hbC, aNK, aVR, aTP, tB, hw, g5, aA, ↓aU, seval, DK]
  have hs2 := hs.aBT (k := ds.length) (gl := gl) (by simp only [dQ, aS, a7]; omega) (cs := gV c p q idx fuel used F (eA gl) (.mslice bC 0 ds.length 9) qn mx) rfl
  simp only [G0, gV] at hs2
  generalize aB.aC st S _ = V at hs2 ⊢
  have qO := hs2.cell
  simp only [gV, wS] at qO hs2
  have htl := hs2.sto.eP
  refine wX [(0, 1), (1, 1), (2, 1), (3, 1), (4, 1), (5, 1), (6, 2)] [0, 1, 2, 3, 4, 5] _ mixed rfl (iA qO) ?_
  simp -implicitDefEqProofs only [uC, aA, seval, DK]
  refine (LN τ tr DU htr c m qt V hs2.sto (by have := hx.NX; have := hx.phi; simp only at *; omega)).mono ?_
  rintro _ s4 ⟨rfl, qt4, hS4, hb4, hf4⟩
  have hs4 := hs2.OJ hS4 (fun b o hb e1 e2 _ => hf4 b o hb e1 e2) (fun b hb => .inl (hb4 b hb))
  have MO := hs4.cell
  simp only [gV] at MO
  obtain ⟨q1, q2, q3, q4, q5⟩ := hs4.sto.shape
  have aSA := fun (φ : AF) (dd : Nat) (h : φ dd = .int .i64 (BL : Int)) => XB B2 hs4.acN h (by rw [hs4.ndl]; exact htn)
  simp -implicitDefEqProofs only [aA, seval]
  have hAN := hs4.acN.take (k := BL) (by rw [hs4.ndl]; exact htn) hs4.ndw
  obtain ⟨e1', e2', e3', e4', e5'⟩ := hAN.shape
  have hs6 := hs4.aP9 (k := BL) htn rfl
  simp only [gV] at hs6
  obtain ⟨ρ, Sm, e1, hok, hG, e2⟩ := h1
  simp only at e1 e2
  have E7 := R5 hp (show M ≤ 268435456 by omega) hs6 (.mk dk dn ds' dts) KW KS LH Sm.g2 Sm.o2 (e1 ▸ Sm.yQ hok) hli (by omega) hnt hP hMl (by first | omega | (simp only; omega)) (by first | omega | (simp only; omega))
  simp only [aV] at E7
  have D9 := JM (fun c h => (hp c h).1) (nn := BL) (at' := KW) (tr := tr.take DU) hok hG cR.left F gl Sm C
  rw [← e1, ← e2] at D9
  refine wX [(0, 1), (1, 1), (2, 1), (3, 1), (4, 1), (5, 1), (6, 1), (7, 1), (8, 1), (9, 1), (10, 2)] [0, 1, 2, 3, 4, 5, 6, 7, 8, 9] _ mixed rfl (iA MO) ?_
  simp -implicitDefEqProofs only [aK, MO, aSA, e4', e5', m1, g1, g2, uC, aA, seval, DK]
  refine E7.mono ?_
  rintro _ s7 ⟨rfl, qt7, qc7, mx7, nd7, hs7⟩
  simp -implicitDefEqProofs only [aA, seval]
  refine aQ (fun h => ?_) (fun h => ?_)
  · simp -implicitDefEqProofs only [aA, seval]
    rw [aG h] at ht
    subst ht
    exact ⟨s7, aL.refl _, rfl, _, _, _, _, _, hs7⟩
  · rw [aE (by rw [h]; simp)] at ht
    cases hrt : iF p cs cR.goal cR.rest cR.σ cR.N cR.left with
    | some s =>
     rw [e2, hrt] at D9
     obtain ⟨i2, k1, _⟩ := D9
     rw [← e2] at k1
     rw [k1] at h
     cases h
    | none =>
     rw [e2, hrt] at D9
     obtain ⟨F', hF, k1⟩ := D9
     rw [← e2] at k1
     have hX7 := KF (fun c h => (hp c h).1) (rest := KS) LH _ hli (at' := KW) (by simp only; exact hnt) (by simp only; exact hMl) hP Sm.g2 Sm.o2 (e1 ▸ Sm.yQ hok)
     rw [k1] at hs7 ht hX7
     simp -implicitDefEqProofs only [aA, seval]
     refine ⟨(s7, qt7, qc7, _, mx7, nd7, ⟨gl, τ.out (tr.drop DU), tr.take DU, ds, F', BL⟩, cs), by simp only; omega, ⟨hs7, C.mono hF, hX7, ?_, by simp only; omega, by simp only; omega⟩, aO.mk (by simp -implicitDefEqProofs only [aA, seval])⟩
     simpa using ht
end Go.AW
namespace Go.AW
theorem IX.node {p : List Cl} {M : Nat} {i : IS} (h : IX p M i) : IX p M { i with nn := i.nn + 1 } :=
 ⟨h.tnd, h.tin, h.phi, fun c hc => by obtain ⟨h1, h2, h3, h4⟩ := h.ch c hc; exact ⟨h1, by simp only; omega, h3, h4⟩, h.mono⟩
theorem IX.more {p : List Cl} {M : Nat} {i : IS} {σ' : Sub} {add : List Int} {gl : List IG} (h : IX p M i) (S : mH (i.fresh : Int) i.σ σ' add) : IX p M { i with goals := gl, σ := σ', tr := i.tr ++ add } := by
 refine ⟨tV.2 ⟨h.tnd, S.nodup, fun a ha b hb e => ?_⟩, fun n hn => ?_, h.phi, fun c hc => ?_, h.mono⟩
 · subst e
   exact (h.tin a ha).2 (S.new a hb).1
 · simp only [fS] at hn
   rcases hn with hn | hn
   · have h1 := h.tin n hn
     have hna : n ∉ add := fun ha => h1.2 (S.new n ha).1
     exact ⟨h1.1, by simp only; rw [S.a8 n hna]; exact h1.2⟩
   · exact ⟨S.fO n hn, (S.new n hn).2⟩
 · obtain ⟨h1, h2, h3, h4⟩ := h.ch c hc
   exact ⟨h1, h2, by simp only [dQ]; omega, h4⟩
theorem IX.cut {p : List Cl} {M : Nat} {i : IS} {gl : List IG} (h : IX p M i) (k : Nat) : IX p M { i with goals := gl, chs := i.chs.take k } :=
 ⟨h.tnd, h.tin, by have := aE1 i.chs k; have := h.phi; simp only; omega, fun c hc => h.ch c (lY hc), h.mono.sublist (List.take_sublist _ _)⟩
def OG (p : List Cl) (M : Nat) : xL → Prop
 | .go s => IX p M s
 | .fail s => IX p M s
 | .stop _ => True
theorem aVV {p : List Cl} (hp : ∀ c ∈ p, gJ c) (hpl : p.length ≤ 20) {cnd : Tm → List Nat → List Nat} (hc : ∀ t l, (∀ i ∈ cnd t l, i ∈ l) ∧ (cnd t l).length ≤ l.length) {M : Nat} {i : IS} {g : IG} {rest : List IG} (h : IX p M i) (hg : cL i.σ) (ho : cP (bD i.fresh) i.σ) (hgo : bD i.fresh g.t) :
 OG p (M + 520) (kX p cnd i g rest) := by
 have hU := h.up (M' := M + 520) (by omega)
 unfold kX
 split
 · trivial
 rename_i fY
 have PS : eH (g.t.aJ (rs i.σ)) = true := by simpa using fY
 have hok := G8 hg ho hgo PS
 generalize g.t.aJ (rs i.σ) = t at *
 split
 · exact (hU.cut (gl := rest) g.cut).node
 split
 · have S := J7 hg ho t.s t.ts fun x hx => by
    obtain ⟨k, n, s', ts⟩ := t
    by_cases hk : k = 1
    · obtain ⟨_, _, _, h2⟩ := (show cE i.fresh (.mk 1 n s' ts) from hk ▸ hok.1).var
      simp only [Tm.ts] at hx
      rw [h2] at hx; cases hx
    · exact qL _ (.mk k n s' ts) hk hok x hx
   split
   · exact (hU.more (gl := rest) S).node
   · split
     · exact (hU.more (gl := i.goals) S).node
     · trivial
 split
 · trivial
 obtain ⟨c1, c2⟩ := hc t (fE p t)
 have hfl : (fE p t).length ≤ p.length := by
  have := List.length_filter_le (fun j => match p[j]? with | some c => E3 c t | none => false) (List.range p.length)
  rw [K8] at this
  exact this
 have hr : ∀ x ∈ cnd t (fE p t), x < p.length := fun x hx => by
  have := c1 x hx
  unfold fE at this
  exact xR.1 (List.mem_filter.1 this).1
 have hT := KF hp (rest := rest) (cnd t (fE p t)) { i with nn := i.nn + 1 } hr (at' := i.nn) (by simp only; omega) (by have := h.phi; simp only; omega) hU.node hg ho hok
 split
 · exact hT
 · exact hT
end Go.AW
namespace Go.AW
open Go.Proofs.Tryz
theorem T6 {p : List Cl} {goal : Tm} {at' : Nat} {rest : List IG} : ∀ (l : List Nat) (s : IS), (gI p goal at' rest l s).1 = false → ∃ F, (gI p goal at' rest l s).2 = { s with fresh := F }
 | [], s, _ => ⟨s.fresh, by rw [gI.eq_def]⟩
 | j :: l, s, h => by
  rw [gI.eq_def] at h ⊢
  simp only at h ⊢
  split at h
  · exact ⟨s.fresh, rfl⟩
  · split at h
    · cases h
    · rename_i hu
      rw [aE hu]
      obtain ⟨F, e⟩ := T6 l { s with fresh := s.fresh + 26 } h
      exact ⟨F, e⟩
theorem K0 {p : List Cl} {goal : Tm} {at' : Nat} {rest : List IG} : ∀ (l : List Nat) (s : IS), (gI p goal at' rest l s).2.nn = s.nn
 | [], s => by rw [gI.eq_def]
 | j :: l, s => by
  rw [gI.eq_def]
  simp only
  split
  · rfl
  · split
    · rfl
    · exact K0 l { s with fresh := s.fresh + 26 }
theorem Rl.facts {s : RS} {i : IS} (h : Rl s i) : cL i.σ ∧ cP (bD i.fresh) i.σ ∧ i.chs.length = s.chs.length ∧ i.goals.length = s.goals.length := by
 obtain ⟨ρ, S, G, C⟩ := h
 have := n6 List.length G.1
 simp only [aF] at this
 exact ⟨S.g2, S.o2, C.len, this⟩
theorem Rl.goal {s : RS} {i : IS} {h : IG} {hs : List IG} (hR : Rl s i) (hh : i.goals = h :: hs) : bD i.fresh h.t ∧ h.t.k = 3 ∧ ∃ g gs, s.goals = g :: gs ∧ h.cut = g.a8 := by
 obtain ⟨ρ, S, G, C⟩ := hR
 rw [hh] at G
 cases hg : s.goals with
 | nil => rw [hg] at G; exact absurd G.1 (by simp)
 | cons g gs =>
  rw [hg] at G
  have he := (List.cons.inj G.1).1
  simp only [Prod.mk.injEq] at he
  obtain ⟨e1, e2⟩ := he
  obtain ⟨h1, h2⟩ := G.2 g (by simp)
  rw [e1]
  exact ⟨S.yQ h1, by rw [v8]; exact h2, g, gs, rfl, e2⟩
section
variable {p : List Cl} (hp : ∀ c ∈ p, gJ c) {cnd : Tm → List Nat → List Nat} (hc : ∀ (ρ : Int → Int) (t : Tm) (l : List Nat), cnd (bV ρ t) l = cnd t l)
include hp hc
theorem Rl.step {s : RS} {i : IS} {h : IG} {hs : List IG} (hR : Rl s i) (hh : i.goals = h :: hs) : ∃ g gs, s.goals = g :: gs ∧ match kX p cnd i h hs with
 | .stop e => iY p cnd s g gs = .stop e
 | .go i' => ∃ s', iY p cnd s g gs = .go s' ∧ Rl s' i'
 | .fail i' => iY p cnd s g gs = .fail ∧ iE i'.fresh s.chs i'.chs i'.σ i'.tr := by
 obtain ⟨_, _, g, gs, hg, _⟩ := hR.goal hh
 obtain ⟨h', hs', e, k⟩ := aEY hp hc hR hg
 rw [hh] at e
 cases e
 refine ⟨g, gs, hg, ?_⟩
 cases hr : iY p cnd s g gs with
 | stop e => rw [hr] at k; simp only at k; rw [k]
 | go s' => rw [hr] at k; simp only at k; obtain ⟨i', e, k⟩ := k; rw [e]; exact ⟨s', rfl, k⟩
 | fail => rw [hr] at k; simp only at k; obtain ⟨i', e, k⟩ := k; rw [e]; exact ⟨rfl, k⟩
end
theorem aUX (p : List Cl) (t : Tm) : (fE p t).length ≤ p.length := by
 have := List.length_filter_le (fun j => match p[j]? with | some c => E3 c t | none => false) (List.range p.length)
 rw [K8] at this
 exact this
theorem aUY (p : List Cl) (t : Tm) : ∀ x ∈ fE p t, x < p.length := fun x hx => by
 unfold fE at hx
 exact xR.1 (List.mem_filter.1 hx).1
theorem aLQ {p : List Cl} {N : Nat} {i' : IS} : ∀ (n : Nat) (i : IS), (∀ c ∈ i.chs, c.taken ≤ N) → gQ p n i = some i' → i'.nn ≤ N
 | 0, i, _, e => by simp [gQ] at e
 | n + 1, i, h, e => by
  rw [gQ] at e
  split at e
  · cases e
  · rename_i c hl
    split at e
    · cases e
      rw [K0]
      exact h c (RK hl)
    · rename_i hf
      obtain ⟨F, e2⟩ := T6 _ _ (by simpa using hf)
      rw [e2] at e
      exact aLQ n _ (fun c hc => h c (RL _ hc)) e
def M0 (k : Nat) : xL → Prop
 | .go s => s.nn = k
 | .fail s => s.nn = k
 | .stop _ => True
theorem aS5 {p : List Cl} {cnd : Tm → List Nat → List Nat} {i : IS} {g : IG} {rest : List IG} : M0 (i.nn + 1) (kX p cnd i g rest) := by
 unfold kX
 split
 · trivial
 split
 · exact rfl
 split
 · split
   · exact rfl
   · split
     · exact rfl
     · trivial
 split
 · trivial
 split
 · exact K0 _ _
 · exact K0 _ _
def XD : xL → Prop
 | .stop e => e ≠ -1
 | _ => True
theorem aXL {p : List Cl} {cnd : Tm → List Nat → List Nat} {i : IS} {g : IG} {rest : List IG} : XD (kX p cnd i g rest) := by
 unfold kX
 split
 · exact (by decide : (3 : Int) ≠ -1)
 split
 · trivial
 split
 · split
   · trivial
   · split
     · trivial
     · show pW _ ≠ -1
       unfold pW
       split
       · decide
       · split
         · decide
         · split <;> decide
 split
 · exact (by decide : (8 : Int) ≠ -1)
 split <;> trivial
structure RI (p : List Cl) (B M k : Nat) (s : RS) (i : IS) : Prop where
 r : Rl s i
 a : lX p B s
 x : IX p M i
 n : i.nn ≤ k
theorem RI.pG {p : List Cl} {B M k : Nat} {s : RS} {i : IS} (h : RI p B M k s i) : i.chs.length ≤ B := by rw [h.r.facts.2.2.1]; exact h.a.a.pG
theorem RI.cr {p : List Cl} {B M k : Nat} {s : RS} {i : IS} (h : RI p B M k s i) : iE i.fresh s.chs i.chs i.σ i.tr := by obtain ⟨_, _, _, C⟩ := h.r; exact C
theorem RI.cut {p : List Cl} {B M k : Nat} {s : RS} {i : IS} {g : IG} {gs : List IG} (h : RI p B M k s i) (hg : i.goals = g :: gs) : g.cut ≤ i.chs.length := by
 obtain ⟨_, _, g', gs', e, e2⟩ := h.r.goal hg
 rw [e2, h.r.facts.2.2.1]
 have := h.a.k.goals.2 g' (by rw [e]; simp)
 exact this
section
variable {p : List Cl} (hp : ∀ c ∈ p, gJ c ∧ c.2.length ≤ 6) (hpl : p.length ≤ 20) {cnd : Tm → List Nat → List Nat} (hc : ∀ (ρ : Int → Int) (t : Tm) (l : List Nat), cnd (bV ρ t) l = cnd t l) (hd : ∀ t l, (∀ i ∈ cnd t l, i ∈ l) ∧ (cnd t l).length ≤ l.length)
include hp
theorem RI.S8 {B M k : Nat} (hB : B ≤ 524288) {s : RS} {i i' : IS} (ha : lX p B s) (hC : iE i.fresh s.chs i.chs i.σ i.tr) (hx : IX p M i) (hn : i.nn ≤ k) (e : gQ p i.chs.length i = some i') : ∃ s', RI p B M k s' i' := by
 have hp1 := fun c h => (hp c h).1
 have key := LO hp1 i.chs.length s.chs i hC
 cases hr : f0 p i.chs.length s.chs with
 | none => rw [hr] at key; simp only at key; rw [key] at e; cases e
 | some s' =>
  rw [hr] at key
  obtain ⟨i2, e2, R⟩ := key
  rw [e2] at e
  cases e
  rw [hC.len] at hr
  exact ⟨s', R, ha.back hp hB hr, VK hp1 _ s.chs i hC hx i' e2, aLQ _ i (fun c hc => nF (hx.ch c hc).2.1 hn) e2⟩
theorem RI.back {B M k : Nat} (hB : B ≤ 524288) {s : RS} {i i' : IS} (h : RI p B M k s i) (e : gQ p i.chs.length i = some i') : ∃ s', RI p B M k s' i' :=
 RI.S8 hp hB h.a h.cr h.x h.n e
include hpl hc hd
theorem RI.step {B M k : Nat} (hB : B + 26 ≤ 524288) {s : RS} {i : IS} {g : IG} {gs : List IG} (h : RI p B M k s i) (hg : i.goals = g :: gs) : match kX p cnd i g gs with
 | .stop e => True
 | .go i' => ∃ s', RI p (B + 26) (M + 520) (k + 1) s' i'
 | .fail i' => iE i'.fresh s.chs i'.chs i'.σ i'.tr ∧ IX p (M + 520) i' ∧ i'.nn ≤ k + 1 ∧ ∀ i2, gQ p i'.chs.length i' = some i2 → ∃ s', RI p (B + 26) (M + 520) (k + 1) s' i2 := by
 have hp1 := fun c h => (hp c h).1
 have hn := aS5 (p := p) (cnd := cnd) (i := i) (g := g) (rest := gs)
 have hx := aVV hp1 hpl hd (rest := gs) h.x h.r.facts.1 h.r.facts.2.1 (h.r.goal hg).1
 obtain ⟨g', gs', e, k⟩ := h.r.step hp1 hc hg
 have hk := h.n
 cases hs : kX p cnd i g gs with
 | stop e => trivial
 | go i' =>
  rw [hs] at hn hx k
  simp only [M0, OG] at hn hx k
  obtain ⟨s', e1, R⟩ := k
  exact ⟨s', R, h.a.step hp (by omega) hB hd e e1, hx, by omega⟩
 | fail i' =>
  rw [hs] at hn hx k
  simp only [M0, OG] at hn hx k
  obtain ⟨e1, C⟩ := k
  exact ⟨C, hx, by omega, fun i2 e2 => RI.S8 hp hB (h.a.up (by omega)) C hx (by omega) e2⟩
end
theorem RI.start {p : List Cl} {q : List Tm} (hq : ∀ t ∈ q, bD 26 t ∧ t.k = 3) (h6 : q.length ≤ 6) : RI p 26 26 0 (lT q) (nV q) := by
 refine ⟨VV hq, lX.start hq h6, ⟨pZ, fun n hn => (by cases hn), (by show 26 + 26 * oQ [] ≤ 26; simp [oQ]), fun c hc => (by cases hc), List.Pairwise.nil⟩, c7 _⟩
theorem aOW {p : List Cl} {cnd : Tm → List Nat → List Nat} {vars : List Int} {most fuel : Nat} {s : IS} (hg : s.goals = []) : iZ p cnd vars most fuel s = if most = 0 then ([], 1) else match jI s.σ vars with
 | none => ([], 3)
 | some a => match gQ p s.chs.length s with
  | none => ([a], 0)
  | some s' => (a :: (iZ p cnd vars (most - 1) fuel s').1, (iZ p cnd vars (most - 1) fuel s').2) := by
 rw [iZ.eq_def, hg]
 simp only
 split <;> rfl
theorem aYR {p : List Cl} {cnd : Tm → List Nat → List Nat} {vars : List Int} {most fuel : Nat} {s : IS} {g : IG} {rest : List IG} (hg : s.goals = g :: rest) : iZ p cnd vars most fuel s = if fuel = 0 then ([], 2) else match kX p cnd s g rest with
 | .stop e => ([], e)
 | .go s' => iZ p cnd vars most (fuel - 1) s'
 | .fail s' => match gQ p s'.chs.length s' with
  | none => ([], 0)
  | some s'' => iZ p cnd vars most (fuel - 1) s'' := by
 rw [iZ.eq_def, hg]
 simp only
 split <;> rfl
section
variable {st0 st : aB} {S c m : Nat} {qt qc qn : AV} {p : List Cl} {q : List Tm} {idx : Bool} {fuel used mx : Int} {nd : List AV} {i : IS}
theorem dG.acc {b : Nat} {l : List AV} (h : dG st0 st S c m qt qc qn p q idx fuel used mx nd i) (hb : l ≠ [] → st b = none) : dG (aZ st0 b l) (aZ st b l) S c m qt qc qn p q idx fuel used mx nd i := by
 cases l with
 | nil => exact h
 | cons x l =>
  have hn := hb (by simp)
  have hne : ∀ a ∈ iO S c m qt qc qn, aZ st b (x :: l) a = st a := fun a ha => pX (by rintro rfl; exact h.held a ha hn)
  have aVG : ∀ a ∈ iO S c m qt qc qn, aZ st0 b (x :: l) a = st0 a := fun a ha => pX (by rintro rfl; exact h.held a ha hn)
  refine ⟨by rw [hne S (d5.2 (.inl rfl))]; exact h.cell, h.sto.AR (hne c (d5.2 (.inr (.inl rfl)))) (hne m (d5.2 (.inr (.inr (.inl rfl))))) (fun b hb => hne b (d5.2 (.inr (.inr (.inr (.inl hb)))))),
   h.acC.a8 fun b hb => hne b (d5.2 (.inr (.inr (.inr (.inr (.inl hb)))))), h.acN.a8 fun b hb => hne b (d5.2 (.inr (.inr (.inr (.inr (.inr hb)))))), h.ndl, h.ndw, h.dis, fun a ha => by rw [aVG a ha]; exact h.new a ha, fun a o ha => ?_⟩
  by_cases e : a = b
  · subst e
    rw [jF (by simp), aB.aP] at ha ⊢
    exact ha
  · rw [pX e] at ha ⊢
    exact h.a8 a o ha
theorem dG.z5 {b : Nat} {l : List AV} {st2 : aB} (h : dG (aZ st0 b l) st2 S c m qt qc qn p q idx fuel used mx nd i) (hb : l ≠ [] → st0 b = none) : ∃ s, st2 = aZ s b l ∧ (l ≠ [] → s b = none) ∧ dG st0 s S c m qt qc qn p q idx fuel used mx nd i := by
 cases l with
 | nil => exact ⟨st2, rfl, fun h => absurd rfl h, h⟩
 | cons x l =>
  have hn := hb (by simp)
  have h2 : st2 b = some (.cells ((x :: l).flatMap AV.cells)) := h.a8 b _ (by rw [jF (by simp), aB.aP])
  have hbn : b ∉ iO S c m qt qc qn := fun hm => by
   have := h.new b hm
   rw [jF (by simp), aB.aP] at this
   cases this
  obtain ⟨s', hs'⟩ : ∃ s' : aB, ∀ y, s' y = if y = b then none else st2 y := ⟨_, fun _ => rfl⟩
  have hne : ∀ a ∈ iO S c m qt qc qn, s' a = st2 a := fun a ha => by rw [hs', aE (by rintro rfl; exact hbn ha)]
  refine ⟨s', ?_, fun _ => by rw [hs', aG rfl], ?_⟩
  · funext y
    by_cases e : y = b
    · subst e; rw [jF (by simp), aB.aP, h2]
    · rw [pX e, hs', aE e]
  · refine ⟨by rw [hne S (d5.2 (.inl rfl))]; exact h.cell, h.sto.AR (hne c (d5.2 (.inr (.inl rfl)))) (hne m (d5.2 (.inr (.inr (.inl rfl))))) (fun b hb => hne b (d5.2 (.inr (.inr (.inr (.inl hb)))))),
     h.acC.a8 fun b hb => hne b (d5.2 (.inr (.inr (.inr (.inr (.inl hb)))))), h.acN.a8 fun b hb => hne b (d5.2 (.inr (.inr (.inr (.inr (.inr hb)))))), h.ndl, h.ndw, h.dis, fun a ha => ?_, fun a o ha => ?_⟩
    · have := h.new a ha
      rwa [pX (by rintro rfl; exact hbn ha)] at this
    · have e : a ≠ b := by rintro rfl; rw [hn] at ha; cases ha
      rw [hs', aE e]
      exact h.a8 a o (by rw [pX e]; exact ha)
theorem H1 {st : aB} {b : Nat} {o : AO} (h : st b = none) : fK st (st.aC b o) := fun x p hx => by
 rw [aB.aM _ _ (by rintro rfl; rw [h] at hx; cases hx)]; exact hx
theorem JB {S b : Nat} (hne : S ≠ b) (X Y : AO) : ∃ s0 : aB, s0 S = some X ∧ s0 b = some Y ∧ ∀ st : aB, st S = some X → st b = some Y → fK s0 st := by
 refine ⟨(one S X).aC b Y, by rw [aB.aM _ _ hne]; exact uC, aB.aP _ _ _, fun st h1 h2 x p hx => ?_⟩
 by_cases e : x = b
 · subst e; rw [aB.aP] at hx; cases hx; exact h2
 · rw [aB.aM _ _ e] at hx; exact iA h1 x p hx
theorem dG.box {b : Nat} {o : AO} (h : dG st0 st S c m qt qc qn p q idx fuel used mx nd i) (hn : st b = none) : dG (st0.aC b o) (st.aC b o) S c m qt qc qn p q idx fuel used mx nd i := by
 have hne : ∀ (s : aB) a, a ∈ iO S c m qt qc qn → (s.aC b o) a = s a := fun s a ha => aB.aM _ _ (by rintro rfl; exact h.held a ha hn)
 refine ⟨by rw [hne _ S (d5.2 (.inl rfl))]; exact h.cell, h.sto.AR (hne _ c (d5.2 (.inr (.inl rfl)))) (hne _ m (d5.2 (.inr (.inr (.inl rfl))))) (fun b hb => hne _ b (d5.2 (.inr (.inr (.inr (.inl hb)))))),
  h.acC.a8 fun b hb => hne _ b (d5.2 (.inr (.inr (.inr (.inr (.inl hb)))))), h.acN.a8 fun b hb => hne _ b (d5.2 (.inr (.inr (.inr (.inr (.inr hb)))))), h.ndl, h.ndw, h.dis, fun a ha => by rw [hne _ a ha]; exact h.new a ha, fun a o' ha => ?_⟩
 by_cases e : a = b
 · subst e
   rw [aB.aP] at ha ⊢
   exact ha
 · rw [aB.aM _ _ e] at ha ⊢
   exact h.a8 a o' ha
theorem dG.unbox {b : Nat} {o : AO} (h : dG (st0.aC b o) st S c m qt qc qn p q idx fuel used mx nd i) (hn : st0 b = none) : dG st0 st S c m qt qc qn p q idx fuel used mx nd i := by
 refine ⟨h.cell, h.sto, h.acC, h.acN, h.ndl, h.ndw, h.dis, fun a ha => ?_, fun a o' ha => ?_⟩
 · have := h.new a ha
   by_cases e : a = b
   · subst e; exact hn
   · rwa [aB.aM _ _ e] at this
 · have e : a ≠ b := by rintro rfl; rw [hn] at ha; cases ha
   exact h.a8 a o' (by rw [aB.aM _ _ e]; exact ha)
end
def KQ (st0 st' : aB) (S c m : Nat) (p : List Cl) (q : List Tm) (idx : Bool) (fuel used : Int) (r : AV) : xL → Prop
 | .go i' => r = .int .i64 (-1) ∧ ∃ qt qc qn mx nd, dG st0 st' S c m qt qc qn p q idx fuel used mx nd i'
 | .fail i' => U7 st0 st' S c m p q idx fuel used r (gQ p i'.chs.length i')
 | .stop e => r = .int .i64 e ∧ ∃ qt qc qn mx nd i', dG st0 st' S c m qt qc qn p q idx fuel used mx nd i'
def NF (p : List Cl) (idx : Bool) (cnd : Tm → List Nat → List Nat) : Prop :=
 (idx = false → cnd = fun _ l => l)
theorem aMW (yn : Int) (ys : ByteArray) (yts : List Tm) (st : aB) : aD prog 148 [(Tm.mk 3 yn ys yts).av] st (fun r st' => r = .bool (oA (.mk 3 yn ys yts)) ∧ st' = st) := by
 have h := aDE 3 yn ys yts st
 have e : (decide ((3 : Int) = 3) && decide ((yts.length : Int) = 0) && decide (ys = ⟨#[33]⟩)) = oA (.mk 3 yn ys yts) := by
  rw [vO]
  simp [oA, Tm.k, Tm.s, Tm.ts, and_comm]
  exact fun _ => ⟨fun h => gD h, fun h => of_decide_eq_true h⟩
 rw [e] at h
 exact h
theorem aVH (yn : Int) (ys : ByteArray) (yts : List Tm) (st : aB) : aD prog 149 [(Tm.mk 3 yn ys yts).av] st (fun r st' => r = .bool (isBuiltin ys (yts.length : Int)) ∧ st' = st) := by
 have h := QX 3 yn ys yts st
 rw [show (decide ((3 : Int) = 3) && isBuiltin ys (yts.length : Int)) = isBuiltin ys (yts.length : Int) from rfl] at h
 exact h
abbrev mA := zi tI_3 (zi zI_3 (zi aX (zi tI_4 (zi zI_4 (zi cD (zi tI_29 (zi zI_29 (zi gT (zi j0 (zi jZ (zi kM (zi tI_51 (zi zI_51 (zi dW (zi fW (zi fU (zi gA (zi tI_63 (zi zI_63 (zi bP (zi bQ (zi bT (zi bS (zi bR (zi tI_112 (zi zI_112 (zi tI_148 (zi zI_148 (zi tI_150 (zi zI_150 (zi tI_151 (zi zI_151 (zi yM (zi KU (zi KB (zi L3 (zi tI_152 (zi zI_152 (zi B2 (zi KT (zi JP (zi QF (zi tI_154 (zi zI_154 (zi DS (zi GR (zi EV (zi ED (zi FK (zi EQ (zi D1 (zi D8 (zi EI (zi FR (zi GC (zi ER (zi FY (zi tI_185 (zi zI_185 (zi aL1 (zi aDU (zi ZI (zi aL3 (zi aGS (zi tI_189 (zi zI_189 (zi aL6 (zi YU (zi ZO (zi TL (zi tI_193 (zi zI_193 (zi MB (zi OH PX))))))))))))))))))))))))))))))))))))))))))))))))))))))))))))))))))))))))))
set_option maxHeartbeats 2000000 in
theorem aQP {p : List Cl} (hp : ∀ c ∈ p, gJ c ∧ c.2.length ≤ 6) (hpl : p.length ≤ 20) {cnd : Tm → List Nat → List Nat} (hc : ∀ (ρ : Int → Int) (t : Tm) (l : List Nat), cnd (bV ρ t) l = cnd t l) (hd : ∀ t l, (∀ i ∈ cnd t l, i ∈ l) ∧ (cnd t l).length ≤ l.length) {idx : Bool} (CT : NF p idx cnd) (zB : idx = false)
 {B M k : Nat} (hB : B + 26 ≤ 524288) (hM : M + 520 ≤ 16777216) (hk : k + 1 ≤ 524288) {st0 st : aB} {S c m : Nat} {qt qc qn : AV} {q : List Tm} {fuel used : Int} {mx : Int} {nd : List AV} {s : RS} {i : IS} {g : IG} {rest : List IG}
 (h : dG st0 st S c m qt qc qn p q idx fuel used mx nd i) (hR : RI p B M k s i) (hg : i.goals = g :: rest) (hu0 : 0 ≤ used) (hu : used ≤ 1000000) :
 aD prog 114 [.ptr S 0] st (fun r st' => if used = fuel then r = .int .i64 2 ∧ dG st0 st' S c m qt qc qn p q idx fuel used mx nd i else KQ st0 st' S c m p q idx fuel (used + 1) r (kX p cnd i g rest)) := by
 have hp1 := fun c h => (hp c h).1
 obtain ⟨hgd, ho, hcl, _⟩ := hR.r.facts
 obtain ⟨hgo, hg3, _⟩ := hR.r.goal hg
 have hct := hR.cut hg
 have hst := hR.step hp hpl hc hd hB hg
 have a19 := hR.pG
 have hnn := hR.n
 have hX := hR.x
 obtain ⟨rk, D, G⟩ := hgd.rs
 have hfo := G8 hgd ho hgo
 have hyk : (g.t.aJ (rs i.σ)).k = 3 := by rw [Tm.qJ _ (by omega)]; exact hg3
 have z7 := aFR G (ho.imp fun t ht => ht.1.2.1) (ho.imp fun t ht => ht.1.small) c m qt g.t hgo.1.2.1 hgo.1.small
 generalize hT : kX p cnd i g rest = T at *
 unfold kX at hT
 obtain ⟨⟨gk, gn, gs', gts⟩, cut, up⟩ := g
 simp only at hgo hg3 hct hfo hyk z7 hT
 generalize (Tm.mk gk gn gs' gts).aJ (rs i.σ) = y at *
 obtain ⟨yk, yn, ys, yts⟩ := y
 obtain rfl : yk = 3 := hyk
 simp only [Tm.s, Tm.ts] at hT
 have iL := h.cell
 rw [hg, r9] at iL
 simp only [gV] at iL
 obtain ⟨t1, t2, t3, t4, t5⟩ := h.sto.shape
 obtain ⟨n1, n2, n3, n4, n5⟩ := h.acC.shape
 obtain ⟨m1, m2, m3, m4, m5⟩ := h.acN.shape
 obtain ⟨l1, l2, l3, l4, l5, l6⟩ := oU rest
 refine aD.lH ?_
 refine wF [1000000] 1 func114 ntmps114 rfl rfl ?_
 intro _
 simp -implicitDefEqProofs only [aA, seval]
 refine wX [(0, 1), (1, 1), (2, 1), (3, 1), (4, 1), (5, 1), (6, 1), (7, 1), (8, 1)] [0, 1, 2, 3, 4, 5, 6, 7, 8] _ mixed rfl (iA iL) ?_
 simp -implicitDefEqProofs only [uC, aA, seval, mA]
 refine aQ (fun h1 => ?_) (fun h1 => ?_)
 · have h1' : used = fuel := by simpa using h1
   simp -implicitDefEqProofs only [aA, seval]
   exact ⟨st, aL.refl _, by rw [aG h1']; exact h⟩
 have h1' : used ≠ fuel := by simpa using h1
 have hw := bK (n := used + 1)
 simp -implicitDefEqProofs only [aK, iL, hw, aB.aP, aA, seval, mA]
 have h2 := h.put (gl := i.goals) (F := i.fresh) (fuel' := fuel) (used' := used + 1) (mx' := mx) rfl
 rw [hg, r9] at h2
 simp only [gV] at h2
 generalize aB.aC st S _ = V at h2 ⊢
 have qO := h2.cell
 rw [r9] at qO
 simp only [gV] at qO
 have hSV := h2.sto
 have hr := fun (s2 : aB) (hs2 : fK V s2) => z7 s2 ⟨hs2 _ _ hSV.sub.cells, hs2 _ _ hSV.sub.map⟩
 unfold H4 at hr
 by_cases hf : eH (.mk 3 yn ys yts) = true
 case neg =>
  rw [aE (by unfold eH at hf; simpa using hf)] at hr
  rw [aG (by simpa using hf)] at hT
  subst hT
  simp only [aV, Tm.zero, aW] at hr
  refine wX [(0, 1), (1, 1), (2, 1), (3, 1), (4, 1), (5, 1), (6, 1), (7, 1), (8, 1), (9, 1), (10, 1), (11, 1), (12, 0), (13, 0), (14, 1)] [0, 1, 2, 3, 4, 5, 6, 7, 8, 9, 10, 11, 14] V mixed rfl (fK.refl V) ?_
  simp -implicitDefEqProofs only [qO, aA, seval, mA]
  refine XC hr ?_
  simp -implicitDefEqProofs only [aK, aB.aP, aA, seval, mA]
  exact fun b hb => ⟨H1 hb, H1 hb, V, (aL.refl _).aC hb, by rw [aE h1']; exact ⟨rfl, _, _, _, _, _, _, h2⟩⟩
 rw [aG (by unfold eH at hf; simpa using hf)] at hr
 rw [aE (by rw [hf]; simp)] at hT
 have hyo := hfo hf
 simp only [aV] at hr
 have QU : prog.underlying 152 = some (.slice 189) := by kernel_rfl
 refine wX [(0, 1), (1, 1), (2, 1), (3, 1), (4, 1), (5, 1), (6, 1), (7, 1), (8, 1), (9, 1), (10, 1), (11, 1), (12, 0), (13, 0), (14, 1)] [0, 1, 2, 3, 4, 5, 6, 7, 8, 9, 10, 11, 14] V mixed rfl (fK.refl V) ?_
 simp -implicitDefEqProofs only [qO, aA, seval, mA]
 refine XC hr ?_
 simp -implicitDefEqProofs only [aK, aB.aP, aA, seval, mA]
 intro b4 h4
 refine ⟨H1 h4, H1 h4, ?_⟩
 have h40 := h2.aJC h4
 have KV : S ≠ b4 := by rintro rfl; rw [qO] at h4; cases h4
 have h3 := h2.box (o := .cells [AV.int IntKind.i64 3, AV.int IntKind.i64 yn, AV.str ys, AV.slice (List.map Tm.av yts)]) h4
 have GJ : (st0.aC b4 (.cells [AV.int IntKind.i64 3, AV.int IntKind.i64 yn, AV.str ys, AV.slice (List.map Tm.av yts)])) b4 = some (.cells [AV.int IntKind.i64 3, AV.int IntKind.i64 yn, AV.str ys, AV.slice (List.map Tm.av yts)]) := aB.aP _ _ _
 have hun := fun {st' qt qc qn q idx fuel used mx nd i} => dG.unbox (st0 := st0) (st := st') (S := S) (c := c) (m := m) (qt := qt) (qc := qc) (qn := qn) (p := p) (q := q) (idx := idx) (fuel := fuel) (used := used) (mx := mx) (nd := nd) (i := i) (b := b4) (o := .cells [AV.int IntKind.i64 3, AV.int IntKind.i64 yn, AV.str ys, AV.slice (List.map Tm.av yts)]) (hn := h40)
 generalize V.aC b4 (.cells [AV.int IntKind.i64 3, AV.int IntKind.i64 yn, AV.str ys, AV.slice (List.map Tm.av yts)]) = W at h3 ⊢
 generalize st0.aC b4 (.cells [AV.int IntKind.i64 3, AV.int IntKind.i64 yn, AV.str ys, AV.slice (List.map Tm.av yts)]) = W0 at h3 GJ hun
 clear qO hSV hr h2
 have AJ := h3.cell
 rw [r9] at AJ
 simp only [gV] at AJ
 have hbW := h3.a8 b4 _ GJ
 have hlN := h3.acN.len QU
 rw [h3.ndl] at hlN
 simp only at hlN
 simp -implicitDefEqProofs only [AJ, hlN, m1, aA, seval]
 obtain ⟨s0, z1, z2, z3⟩ := JB KV _ _
 refine wX [(0, 1), (1, 1), (2, 1), (3, 1), (4, 1), (5, 1), (6, 1), (7, 1), (8, 1), (9, 1), (10, 1), (11, 1), (12, 0), (13, 1), (14, 1), (15, 2)] [0, 1, 2, 3, 4, 5, 6, 7, 8, 9, 10, 11, 13, 14] s0 mixed rfl (z3 _ AJ hbW) ?_
 simp -implicitDefEqProofs only [z1, z2, m1, aA, seval, mA]
 refine i8.append B2 KT JP rfl (by decide) h3.acN rfl rfl (by rw [h3.ndl]; simp only; omega) (fun qn5 s5 nM hf hn => ?_)
 have hbo : b4 ∉ iO S c m qt qc qn := fun hm => by have := h3.new b4 hm; rw [GJ] at this; cases this
 have hold : ∀ y o, W y = some o → y ∉ dM qn → s5 y = some o := fun y o hy hq => by
  rw [hf y hq fun hq' => by
   rcases hn y hq' with h' | h'
   · exact hq h'
   · rw [hy] at h'; cases h']
  exact hy
 have sH := hold S _ AJ h3.parts.2.2.2.2.2.1
 have hb5 := hold b4 _ hbW fun hm => hbo (d5.2 (.inr (.inr (.inr (.inr (.inr hm))))))
 obtain ⟨m1, m2, m3, m4, m5⟩ := nM.shape
 simp -implicitDefEqProofs only [aK, sH, m4, m5, aA, seval, mA]
 refine ⟨z3 _ sH hb5, ?_⟩
 have h5 := h3.aVJ (n' := i.nn + 1) nM (by rw [dQ, h3.ndl]; try rfl) (fun e he => by
  rcases fS.1 he with he | he
  · exact h3.ndw e he
  · simp only [cY, dP, d4] at he; subst he; rfl) hf hn rfl
 rw [r9] at h5
 simp only [gV] at h5
 generalize aB.aC s5 S _ = W5 at h5 ⊢
 clear sH hb5 hold hf hn AJ hbW
 have lD := h5.cell
 rw [r9] at lD
 simp only [gV] at lD
 have hb6 := h5.a8 b4 _ GJ
 have aLY := aMW yn ys yts
 have RP := aVH yn ys yts
 simp only [aV] at aLY RP
 simp -implicitDefEqProofs only [hb6, aA, seval]
 refine (aLY _).to ?_
 simp -implicitDefEqProofs only [aA, seval]
 refine aQ (fun hcu => ?_) (fun hcu => ?_)
 · simp only [hcu, fZ] at hT
   subst hT
   simp -implicitDefEqProofs only [lD, aA, seval, mA]
   have hsl := fun (φ : AF) (dd : Nat) (h : φ dd = .int .i64 (cut : Int)) => XB yM h5.acC h (by rw [aF]; exact hct)
   have hQ := (h5.acC.take (k := cut) (by rw [aF]; exact hct) (LR _)).shape
   obtain ⟨c1, c2, c3, c4, c5⟩ := hQ
   obtain ⟨s1, y1, y2, y3⟩ := JB KV _ _
   refine wX [(0, 1), (1, 1), (2, 1), (3, 1), (4, 1), (5, 1), (6, 1), (7, 1), (8, 1), (9, 1), (10, 1), (11, 1), (12, 2)] [0, 1, 2, 3, 4, 5, 6, 7, 8, 9, 10, 11] s1 mixed rfl (y3 _ lD hb6) ?_
   simp -implicitDefEqProofs only [aK, y1, lD, hsl, c4, c5, n1, l1, l2, l4, l5, aB.aP, aA, seval, mA]
   refine ⟨_, aL.refl _, ?_⟩
   rw [aE h1']
   have h6 := h5.aBT (k := cut) (gl := rest) hct rfl
   exact ⟨rfl, _, _, _, _, _, hun h6⟩
 simp only [hcu, jD, dZ] at hT
 simp -implicitDefEqProofs only [hb6, aA, seval, mA]
 refine (RP _).to ?_
 simp -implicitDefEqProofs only [aA, seval]
 refine aQ (fun hbl => ?_) (fun hbl => ?_)
 · simp only [hbl, fZ] at hT
   have hks : ∀ x ∈ yts, bD i.fresh x := qL _ (.mk 3 yn ys yts) (show (3 : Int) ≠ 1 by decide) hyo
   have FG := aWJ hgd ho yn ys yts hbl hks c m qt i.tr W5 h5.sto (by have := hX.NX; have := hX.phi; omega)
   simp only [aV] at FG
   replace hT : (if (c8 i.σ ys yts).1 = 0 then xL.go { goals := rest, σ := (c8 i.σ ys yts).2.1, tr := i.tr ++ (c8 i.σ ys yts).2.2, chs := i.chs, fresh := i.fresh, nn := i.nn + 1 } else if (c8 i.σ ys yts).1 = 1 then xL.fail { goals := i.goals, σ := (c8 i.σ ys yts).2.1, tr := i.tr ++ (c8 i.σ ys yts).2.2, chs := i.chs, fresh := i.fresh, nn := i.nn + 1 } else xL.stop (pW (c8 i.σ ys yts).1)) = T := hT
   generalize AQ : c8 i.σ ys yts = Z at FG hT
   obtain ⟨code, σ', add⟩ := Z
   simp only at hT
   obtain ⟨s1, y1, y2, y3⟩ := JB KV _ _
   refine wX [(0, 1), (1, 1), (2, 1), (3, 1), (4, 1), (5, 0), (6, 1)] [0, 1, 2, 3, 4, 6] s1 mixed rfl (y3 _ lD hb6) ?_
   simp -implicitDefEqProofs only [y1, y2, aA, seval, mA]
   refine FG.mono ?_
   rintro _ s6 ⟨rfl, hP⟩
   obtain ⟨qt6, h6⟩ := h5.post hP
   have mV := h6.cell
   rw [r9] at mV
   simp only [gV] at mV
   have hb7 := h6.a8 b4 _ GJ
   obtain ⟨t1, t2, t3, t4, t5⟩ := h6.sto.shape
   simp -implicitDefEqProofs only [aA, seval]
   refine ⟨y3 _ mV hb7, ?_⟩
   refine aQ (fun hc0 => ?_) (fun hc0 => ?_)
   · have QO : code = 0 := by simpa using hc0
     rw [aG QO] at hT
     subst hT
     simp -implicitDefEqProofs only [aK, mV, l1, l2, l4, l5, aA, seval, mA]
     refine ⟨_, aL.refl _, ?_⟩
     rw [aE h1']
     exact ⟨rfl, _, _, _, _, _, hun (h6.put (gl := rest) (F := i.fresh) (fuel' := fuel) (used' := used + 1) (mx' := mx) rfl)⟩
   have QO : code ≠ 0 := by simpa using hc0
   rw [aE QO] at hT
   simp -implicitDefEqProofs only [aA, seval]
   refine aQ (fun hc1 => ?_) (fun hc1 => ?_)
   · have LB : code = 1 := by simpa using hc1
     rw [aG LB] at hT
     subst hT
     simp only at hst
     rw [← hg] at h6
     have hbk := N3 hp (M := M + 520) (by omega) _ _ _ _ _ _ ({ goals := i.goals, σ := σ', tr := i.tr ++ add, chs := i.chs, fresh := i.fresh, nn := i.nn + 1 } : IS) s.chs (T := gQ p (({ goals := i.goals, σ := σ', tr := i.tr ++ add, chs := i.chs, fresh := i.fresh, nn := i.nn + 1 } : IS)).chs.length ({ goals := i.goals, σ := σ', tr := i.tr ++ add, chs := i.chs, fresh := i.fresh, nn := i.nn + 1 } : IS)) ⟨h6, hst.1, hst.2.1, rfl, ⟨by rw [hst.1.len]; have := hR.a.a.pG; omega, nF hst.2.2.1 (by omega)⟩⟩
     simp -implicitDefEqProofs only [aA, seval]
     refine hbk.mono ?_
     rintro r s7 hr
     simp -implicitDefEqProofs only [aA, seval]
     refine ⟨s7, aL.refl _, ?_⟩
     rw [aE h1']
     simp only [KQ]
     cases hB2 : gQ p (({ goals := i.goals, σ := σ', tr := i.tr ++ add, chs := i.chs, fresh := i.fresh, nn := i.nn + 1 } : IS)).chs.length ({ goals := i.goals, σ := σ', tr := i.tr ++ add, chs := i.chs, fresh := i.fresh, nn := i.nn + 1 } : IS) with
     | none =>
      rw [hB2] at hr
      obtain ⟨e1, qt7, qc7, qn7, mx7, nd7, i7, h7⟩ := hr
      exact ⟨e1, _, _, _, _, _, _, hun h7⟩
     | some i7 =>
      rw [hB2] at hr
      obtain ⟨e1, qt7, qc7, qn7, mx7, nd7, h7⟩ := hr
      exact ⟨e1, _, _, _, _, _, hun h7⟩
   have LB : code ≠ 1 := by simpa using hc1
   rw [aE LB] at hT
   subst hT
   simp -implicitDefEqProofs only [aA, seval]
   refine (aOM code _).to ?_
   simp -implicitDefEqProofs only [aA, seval]
   refine ⟨_, aL.refl _, ?_⟩
   rw [aE h1']
   exact ⟨rfl, _, _, _, _, _, _, hun h6⟩
 simp only [hbl, jD, dZ] at hT
 have hpr := aF1 3 yn ys yts
 have hcf := aXF p (.mk 3 yn ys yts) (by omega)
 simp only [aV, Tm.s, Tm.ts] at hpr hcf
 obtain ⟨s1, y1, y2, y3⟩ := JB KV _ _
 simp -implicitDefEqProofs only [aA, seval]
 refine wX [(0, 1), (1, 1), (2, 1), (3, 1), (4, 1), (5, 0), (6, 0), (7, 1)] [0, 1, 2, 3, 4, 7] s1 mixed rfl (y3 _ lD hb6) ?_
 simp -implicitDefEqProofs only [y1, y2, aA, seval, mA]
 refine (hpr _).to ?_
 simp -implicitDefEqProofs only [aA, seval]
 refine ⟨y3 _ lD hb6, ?_⟩
 refine (hcf _).to ?_
 simp -implicitDefEqProofs only [aF, aA, seval, mA]
 refine ⟨y3 _ lD hb6, ?_⟩
 refine aQ (fun hl0 => ?_) (fun hl0 => ?_)
 · have pC : fE p (.mk 3 yn ys yts) = [] := by simpa using hl0
   rw [aG pC] at hT
   subst hT
   simp -implicitDefEqProofs only [aA, seval]
   refine ⟨_, aL.refl _, ?_⟩
   rw [aE h1']
   exact ⟨rfl, _, _, _, _, _, _, hun h5⟩
 have pC : fE p (.mk 3 yn ys yts) ≠ [] := by simpa using hl0
 rw [aE pC] at hT
 subst zB
 obtain rfl := CT rfl
 have hfl := aUX p (.mk 3 yn ys yts)
 have h5' := h5
 rw [← hg] at h5'
 have E7 := R5 hp (M := M + 520) (by omega) h5' (.mk 3 yn ys yts) i.nn rest (fE p (.mk 3 yn ys yts)) hgd ho hyo (aUY _ _) (by omega) (by simp only; omega) (hX.up (Nat.le_add_right M 520)).node (by have := hX.phi; simp only; omega) (by simp only; omega) (by simp only; omega)
 simp only [aV] at E7
 simp -implicitDefEqProofs only [lD, aA, seval, mA]
 refine wX [(0, 1), (1, 1), (2, 1), (3, 1), (4, 1), (5, 1), (6, 1), (7, 1), (8, 2)] [0, 1, 2, 3, 4, 5, 6, 7] s1 mixed rfl (y3 _ lD hb6) ?_
 simp -implicitDefEqProofs only [y2, l1, l2, aA, seval, mA]
 refine E7.mono ?_
 rintro _ s6 ⟨rfl, qt6, qc6, mx6, nd6, h6⟩
 simp -implicitDefEqProofs only [aA, seval]
 refine aQ (fun ht0 => ?_) (fun ht0 => ?_)
 · simp only [ht0, fZ] at hT
   subst hT
   simp -implicitDefEqProofs only [aA, seval]
   refine ⟨_, aL.refl _, ?_⟩
   rw [aE h1']
   exact ⟨rfl, _, _, _, _, _, hun h6⟩
 simp only [ht0, jD, dZ] at hT
 subst hT
 simp only at hst
 have hbk := N3 hp (M := M + 520) (by omega) _ _ _ _ _ _ (gI p (.mk 3 yn ys yts) i.nn rest (fE p (.mk 3 yn ys yts)) { i with nn := i.nn + 1 }).2 s.chs (T := gQ p ((gI p (.mk 3 yn ys yts) i.nn rest (fE p (.mk 3 yn ys yts)) { i with nn := i.nn + 1 }).2).chs.length (gI p (.mk 3 yn ys yts) i.nn rest (fE p (.mk 3 yn ys yts)) { i with nn := i.nn + 1 }).2) ⟨h6, hst.1, hst.2.1, rfl, ⟨by rw [hst.1.len]; have := hR.a.a.pG; omega, nF hst.2.2.1 (by omega)⟩⟩
 simp -implicitDefEqProofs only [aA, seval]
 refine hbk.mono ?_
 rintro r s7 hr
 simp -implicitDefEqProofs only [aA, seval]
 refine ⟨s7, aL.refl _, ?_⟩
 rw [aE h1']
 simp only [KQ]
 cases hB2 : gQ p ((gI p (.mk 3 yn ys yts) i.nn rest (fE p (.mk 3 yn ys yts)) { i with nn := i.nn + 1 }).2).chs.length (gI p (.mk 3 yn ys yts) i.nn rest (fE p (.mk 3 yn ys yts)) { i with nn := i.nn + 1 }).2 with
 | none =>
  rw [hB2] at hr
  obtain ⟨e1, qt7, qc7, qn7, mx7, nd7, i7, h7⟩ := hr
  exact ⟨e1, _, _, _, _, _, _, hun h7⟩
 | some i7 =>
  rw [hB2] at hr
  obtain ⟨e1, qt7, qc7, qn7, mx7, nd7, h7⟩ := hr
  exact ⟨e1, _, _, _, _, _, hun h7⟩


abbrev YC := zi tI_3 (zi zI_3 (zi aX (zi tI_51 (zi zI_51 (zi dW (zi fW (zi fU (zi gA (zi tI_63 (zi zI_63 (zi bP (zi bQ (zi bT (zi bS bR))))))))))))))
theorem aV8 (vars : List Int) (n : Int) (st : aB) : aD prog 198 [.int .i64 n, .pptr (.slice (vars.map iv))] st (fun r st' => r = (vr (eN n vars 0)).av ∧ st' = st) := by
 refine aD.done ?_
 refine wF [1000000] 2 func198 ntmps198 rfl rfl ?_
 intro _
 simp -implicitDefEqProofs only [aA, seval, YC]
 intro b hb
 refine (aK2 vars n _).to ?_
 simp -implicitDefEqProofs only [aA, seval]
 refine (MH _ _).to ?_
 simp -implicitDefEqProofs only [aK, bZ, bO, d9 (bO _), d8 (aT _), aA, seval, YC]
 exact ⟨Tm.soft _, (aL.refl _).aC hb⟩
abbrev LW := zi tI_3 (zi zI_3 (zi aX (zi tI_31 (zi zI_31 (zi aN (zi bE (zi bF (zi b9 (zi tI_51 (zi zI_51 (zi dW (zi fW (zi fU (zi gA (zi tI_63 (zi zI_63 (zi bP (zi bQ (zi bT (zi bS (zi bR (zi tI_198 (zi zI_198 (zi MU (zi OC (zi PM (zi NR (zi PN (zi MF LZ)))))))))))))))))))))))))))))
theorem a0M (l : List Tm) (hln : l.length ≤ 1048576) (hsz : bG Tm.nodes l ≤ 1099511627776) (hsm : ∀ t ∈ l, t.small = true) (st : aB) : aD prog 157 [.slice (l.map Tm.av)] st (fun r st' => r = .slice ((oS l).map Tm.av) ∧ st' = st) := by
 refine aD.done ?_
 refine wF [1000000] 1 func157 ntmps157 rfl rfl ?_
 simp only [eG, AV.fits, eM, aF]
 intro ⟨hl, _⟩
 simp -implicitDefEqProofs only [aA, seval]
 refine (QA l _ hsz).to ?_
 simp -implicitDefEqProofs only [aF, aA, ↓aU, seval, LW]
 generalize hv : b7 l [] = vars
 have hR : oS l = l.map fun t => t.aJ fun v => vr (eN v vars 0) := by rw [← hv]; try rfl
 rw [hR]
 refine rC (σ := Unit) [1000000] [2, 3, 9, 10] (l) 4 4 (fun i _ => (((l).take i).map (fun t => t.aJ fun v => vr (eN v vars 0))).map Tm.av) (fun _ _ => True) (fun i _ => [(11, .int .i64 i)]) (fun _ _ => st) (fun i _ _ e he => by simp only [cU] at he; obtain ⟨t, _, rfl⟩ := he; exact ⟨cG t, aH t⟩) (by decide +kernel) ⟨(), 0, trivial, fun h => absurd rfl h, aO.mk (by simp -implicitDefEqProofs only [jG, kU, aW, aA, ↓aU, seval])⟩ (fun i x s b hx hlt bU hdr hinv hb => ?_) (fun s b hge hinv => ?_)
 case refine_1 =>
  have hw := bK (n := (i : Int) + 1)
  have cV : ((((l).take i).map (fun t => t.aJ fun v => vr (eN v vars 0))).map Tm.av).length = i := by simp only [aF, d7]; omega
  have htk : ((((l).take i).map (fun t => t.aJ fun v => vr (eN v vars 0))).map Tm.av) ++ [Tm.av ((fun t => t.aJ fun v => vr (eN v vars 0)) x)] = (((l).take (i + 1)).map (fun t => t.aJ fun v => vr (eN v vars 0))).map Tm.av := by rw [fN, hx]; simp
  have hat := bL (av := Tm.av) aN hx (aH x)
  simp -implicitDefEqProofs only [bU, hat, aA, ↓aU, seval, LW]
  refine (NM (fun v => vr (eN v vars 0)) _ [.pptr (.slice (vars.map iv))] rfl x _ (hsm x (cW hx)) (fun n _ s => aV8 vars n s)).to ?_
  simp -implicitDefEqProofs only [aA, seval, LW]
  refine eO aN bE bF rfl rfl (fB (aH _) (bZ _)) (by intro e he; simp only [cU] at he; obtain ⟨t, _, rfl⟩ := he; exact aH t) hb (by simp only [cV, aS, a7]; omega) (by simp only [cV, aS, a7]; omega) (fun b' hb' => ?_)
  rw [htk] at hb' ⊢
  simp -implicitDefEqProofs only [aA, seval]
  exact ⟨(), b', hb', aO.mk (by simp -implicitDefEqProofs only [hw, aA, seval])⟩
 simp -implicitDefEqProofs only [hge, eC, iK, oC, AS, lI, eS, aA, seval]
 exact ⟨rfl, aL.refl _⟩
def OY : Option (List Tm) → AV
 | none => .tup [.slice [], .bool false]
 | some l => .tup [.slice (l.map Tm.av), .bool true]
theorem aI9 : ∀ {l : List Tm}, (∀ t ∈ l, t.nodes ≤ 120) → bG Tm.nodes l ≤ 120 * l.length
 | [], _ => by simp [bG]
 | t :: l, h => by
  have h1 := h t (by simp)
  have h2 := aI9 (l := l) fun x hx => h x (by simp [hx])
  simp only [bG, aS]; omega
abbrev DN := zi tI_3 (zi zI_3 (zi aX (zi tI_4 (zi zI_4 (zi cD (zi tI_31 (zi zI_31 (zi aN (zi bE (zi bF (zi b9 (zi tI_51 (zi zI_51 (zi dW (zi fW (zi fU (zi gA (zi tI_63 (zi zI_63 (zi bP (zi bQ (zi bT (zi bS (zi bR (zi tI_148 zI_148)))))))))))))))))))))))))
theorem a0S {N : Nat} {σ : Sub} (hg : cL σ) (ho : cP (bD N) σ) (vars : List Int) (hv : ∀ v ∈ vars, 0 ≤ v ∧ v < (N : Int)) (hl : vars.length ≤ 1000) (c m : Nat) (q : AV) (st : aB) (hS : iM st c m q σ) :
 aD prog 115 [.ptr c 0, .slice (vars.map iv)] st (fun r st' => r = OY (jI σ vars) ∧ st' = st) := by
 obtain ⟨rk, B, G⟩ := hg.rs
 have z7 := fun (t : Tm) (ht : bD N t) st hS => aFR G (ho.imp fun t ht => ht.1.2.1) (ho.imp fun t ht => ht.1.small) c m q t ht.1.2.1 ht.1.small st hS
 refine aD.done ?_
 refine wF [1000000] 2 func115 ntmps115 rfl rfl ?_
 intro _
 simp -implicitDefEqProofs only [aF, aA, seval, DN]
 refine rC (σ := Unit) [1000000] [0, 11, 12] vars 4 6 (fun i _ => ((vars.take i).map (rs σ)).map Tm.av) (fun i _ => ((vars.take i).map (rs σ)).all eH = true) (fun i _ => [(4, .fslice []), (5, .bool false), (13, .int .i64 i)]) (fun _ _ => st) (fun i _ _ e he => by simp only [cU] at he; obtain ⟨t, _, rfl⟩ := he; exact ⟨cG _, aH _⟩) (by decide +kernel) ⟨(), 0, rfl, fun h => absurd rfl h, aO.mk (by simp -implicitDefEqProofs only [jG, kU, aW, aA, ↓aU, seval])⟩ (fun i x s b hx hlt bU hdr hinv hb => ?_) (fun s b hge hinv => ?_)
 · have hw := bK (n := (i : Int) + 1)
   have hxm := cW hx
   obtain ⟨hx0, hx1⟩ := hv x hxm
   have hvr : bD N (vr x) := ⟨FU hx0 hx1, by rw [vr, Tm.gP]; simp [bG]⟩
   have hat : dJ prog 51 (.slice (vars.map iv)) (.int .i64 (i : Int)) = some (.pptr (.int .i64 x)) := bL (av := iv) dW hx rfl
   have cV : (((vars.take i).map (rs σ)).map Tm.av).length = i := by simp only [aF, d7]; omega
   have dV : ((vars.take (i + 1)).map (rs σ)).all eH = eH (rs σ x) := by
    rw [fN, hx]
    simp only [G1, vP, bA, aW, DF, hinv, kG, List.all_nil, DD, eT]
   have hr := z7 (vr x) hvr _ (hS.acc hb)
   rw [t9] at hr
   unfold H4 at hr
   simp -implicitDefEqProofs only [bU, hat, aA, seval, DN]
   refine (MH x _).to ?_
   simp -implicitDefEqProofs only [aA, seval]
   by_cases hf : eH (rs σ x) = true
   · rw [aG (by unfold eH at hf; simpa using hf)] at hr
     refine hr.to ?_
     simp -implicitDefEqProofs only [aT, aH, bZ, cG, aA, ↓aU, seval, DN]
     refine eO aN bE bF rfl rfl (fB (aH _) (bZ _)) (dR _) hb (by simp only [cV, aS, a7]; omega) (by simp only [cV, aS, a7]; omega) (fun b' hb' => ?_)
     rw [show (((vars.take i).map (rs σ)).map Tm.av) ++ [(rs σ x).av] = ((vars.take (i + 1)).map (rs σ)).map Tm.av by rw [fN, hx]; simp] at hb' ⊢
     simp -implicitDefEqProofs only [hw, aA, seval]
     exact ⟨(), b', by rw [dV]; exact hf, hb', aO.mk (by simp -implicitDefEqProofs only [aA, seval])⟩
   · rw [aE (by unfold eH at hf; simpa using hf)] at hr
     refine hr.to ?_
     simp -implicitDefEqProofs only [aH, bZ, cG, aA, ↓aU, seval, DN]
     have pN : jI σ vars = none := by
      unfold jI
      rw [aE]
      rintro ⟨h1, _⟩
      exact hf (eW.1 h1 _ (cU.2 ⟨x, hxm, rfl⟩))
     rw [pN]
     exact ⟨rfl, aL.aZ (aL.refl _) hb⟩
 · rw [eS] at hinv
   have hok : ∀ t ∈ vars.map (rs σ), bD N t := fun t ht => by
    obtain ⟨v, hvm, rfl⟩ := cU.1 ht
    have hf := eW.1 hinv _ ht
    unfold eH at hf
    simp only [cM, bJ] at hf
    exact ⟨G.k8 ho.k8 v (hv v hvm).1 (hv v hvm).2, hf.2⟩
   have hsz : bG Tm.nodes (vars.map (rs σ)) ≤ 1099511627776 := by
    have := aI9 (l := vars.map (rs σ)) fun t ht => (hok t ht).2
    rw [aF] at this
    omega
   simp -implicitDefEqProofs only [hge, eC, pQ, iK, oC, E9, lI, eS, aA, seval]
   refine (QA (vars.map (rs σ)) _ hsz).to ?_
   simp -implicitDefEqProofs only [aF, aF, aA, seval, DN]
   refine aQ (fun h => ?_) (fun h => ?_)
   · simp -implicitDefEqProofs only [aA, seval]
     have h' : ¬ (b7 (vars.map (rs σ)) []).length ≤ 26 := by simp at h; omega
     unfold jI
     rw [aE (fun hh => h' hh.2)]
     exact ⟨rfl, aL.refl _⟩
   · simp -implicitDefEqProofs only [aA, seval]
     have h' : (b7 (vars.map (rs σ)) []).length ≤ 26 := by simp at h; omega
     refine (a0M (vars.map (rs σ)) (by rw [aF]; omega) hsz (fun t ht => (hok t ht).1.small) _).to ?_
     simp -implicitDefEqProofs only [aA, seval]
     unfold jI
     rw [aG ⟨hinv, h'⟩]
     exact ⟨rfl, aL.refl _⟩
abbrev YT := zi tI_3 (zi zI_3 (zi aX (zi tI_4 (zi zI_4 (zi cD (zi tI_26 (zi zI_26 (zi o0 (zi rQ (zi r7 (zi uF (zi tI_29 (zi zI_29 (zi gT (zi j0 (zi jZ (zi kM (zi tI_31 (zi zI_31 (zi aN (zi bE (zi bF (zi b9 (zi tI_112 (zi zI_112 (zi tI_150 (zi zI_150 (zi tI_154 (zi zI_154 (zi DS (zi GR (zi EV (zi ED (zi FK (zi EQ (zi D1 (zi D8 (zi EI (zi FR (zi GC (zi ER FY)))))))))))))))))))))))))))))))))))))))))
theorem aPF (p : List Cl) (q : List Tm) (fuel : Int) (idx : Bool) (hq : q.length ≤ 1048576) (st : aB) :
 aD prog 75 [.slice (p.map bY), .slice (q.map Tm.av), .int .i64 fuel, .bool idx] st (fun r st' => ∃ S c m, r = .ptr S 0 ∧ dG st st' S c m (.fslice []) (.fslice []) (.fslice []) p q idx fuel 0 0 [] (nV q)) := by
 have yK := fun st => LV q 0 (-1) [] hq st
 simp only [iC] at yK
 rw [eA] at yK
 refine wF [1000000, 16] 4 func75 ntmps75 rfl rfl ?_
 intro _
 simp -implicitDefEqProofs only [aA, seval]
 refine (aRE st).mono ?_
 rintro _ s1 ⟨c, m, rfl, hS, hQ, hc, hm⟩
 simp -implicitDefEqProofs only [aA, seval, YT]
 intro S hS0
 have hSc : S ≠ c := by rintro rfl; rw [hS.sub.cells] at hS0; cases hS0
 have hSm : S ≠ m := by rintro rfl; rw [hS.sub.map] at hS0; cases hS0
 refine (yK _).to ?_
 obtain ⟨l1, l2, l3, l4, l5, l6⟩ := oU (q.map (fun t => (⟨t, 0, -1⟩ : IG)))
 simp -implicitDefEqProofs only [aK, aB.aP, l4, l5, aA, seval, YT]
 refine ⟨S, c, m, rfl, ?_⟩
 have hcm : c ≠ m := by rintro rfl; have := hS.sub.cells; rw [hS.sub.map] at this; cases this
 have S4 : st S = none := by
  cases hh : st S with
  | none => rfl
  | some o => have := hQ.frame S o hh hSc hSm (by simp [dI]); rw [hS0] at this; cases this
 refine ⟨aB.aP _ _ _, hS.aC hSc hSm (by simp [dI]), .inl ⟨rfl, rfl⟩, .inl ⟨rfl, rfl⟩, rfl, by simp, ?_, ?_, ?_⟩
 · simp [iO, dI, dM, hSc, hSm, hcm]
 · intro b hb
   rcases d5.1 hb with rfl | rfl | rfl | hb | hb | hb
   · exact S4
   · exact hc
   · exact hm
   · simp [dI] at hb
   · simp [dM] at hb
   · simp [dM] at hb
 · intro b o hb
   have e1 : b ≠ S := by rintro rfl; rw [S4] at hb; cases hb
   rw [aB.aM _ _ e1]
   exact hQ.frame b o hb (by rintro rfl; rw [hc] at hb; cases hb) (by rintro rfl; rw [hm] at hb; cases hb) (by simp [dI])
theorem aRG (p : List Cl) (q : List Tm) (most fuel : Int) (st : aB) :
 aD prog 74 [.slice (p.map bY), .slice (q.map Tm.av), .int .i64 most, .int .i64 fuel] st (fun r st' => r = .bool (qE p && (lW q && (decide (0 ≤ most) && (decide (most ≤ 20) && (decide (0 ≤ fuel) && decide (fuel ≤ 300)))))) ∧ st' = st) := by
 have h1 := fun st => aM2 p st
 have h2 := fun st => aTL q st
 have h3 := fun n lo hi st => C5 n lo hi st
 refine wF [] 4 func74 ntmps74 rfl rfl ?_
 intro _
 simp -implicitDefEqProofs only [aA, seval]
 refine (h1 _).to ?_
 simp -implicitDefEqProofs only [aA, seval]
 refine cT (fun h => ?_) (fun h => ?_)
 · simp -implicitDefEqProofs only [h, aA, seval]
   refine (h2 _).to ?_
   simp -implicitDefEqProofs only [aA, seval]
   refine cT (fun h5 => ?_) (fun h5 => ?_)
   · simp -implicitDefEqProofs only [h5, aA, seval]
     refine (h3 _ _ _ _).to ?_
     simp -implicitDefEqProofs only [aA, seval]
     refine cT (fun h6 => ?_) (fun h6 => ?_)
     · simp -implicitDefEqProofs only [h6, aA, seval]
       refine (h3 _ _ _ _).to ?_
       simp -implicitDefEqProofs only [aA, seval]
       rw [← Bool.and_assoc (decide (0 ≤ most)), h6, eT]
     · simp -implicitDefEqProofs only [h6, aA, seval]
       rw [← Bool.and_assoc (decide (0 ≤ most)), h6]
       try rfl
   · simp -implicitDefEqProofs only [h5, aA, seval]
     rw [gN]
 · simp -implicitDefEqProofs only [h, aA, seval]
   rw [gN]
theorem aZG (st : aB) : aD prog 77 [] st (fun r st' => r = .tup [] ∧ st' = st) := by
 refine wF [1000000] 0 func77 ntmps77 rfl rfl ?_
 intro _
 simp -implicitDefEqProofs only [aA, seval, ]
structure N9 where
 st : aB
 qt : AV
 qc : AV
 qn : AV
 mx : Int
 nd : List AV
 s : RS
 i : IS
 out : List (List Tm)
 b : Nat
 u : Nat
 B : Nat
 M : Nat
 e : Int
structure aS8 (st0 : aB) (S c m : Nat) (p : List Cl) (q : List Tm) (idx : Bool) (cnd : Tm → List Nat → List Nat) (vars : List Int) (most fuel : Nat) (T : List (List Tm) × Int) (x : N9) : Prop where
 a : dG st0 x.st S c m x.qt x.qc x.qn p q idx fuel x.u x.mx x.nd x.i
 r : RI p x.B x.M x.u x.s x.i
 t : T = (x.out ++ (iZ p cnd vars (most - x.out.length) (fuel - x.u) x.i).1, (iZ p cnd vars (most - x.out.length) (fuel - x.u) x.i).2)
 u : x.u ≤ fuel
 B : x.B ≤ 26 + 26 * x.u
 M : x.M ≤ 26 + 520 * x.u
structure ZB (st0 : aB) (S c m : Nat) (p : List Cl) (q : List Tm) (idx : Bool) (cnd : Tm → List Nat → List Nat) (vars : List Int) (most fuel : Nat) (T : List (List Tm) × Int) (x : N9) : Prop where
 d : aL x.st st0
 b : x.out.map c9 ≠ [] → x.st x.b = none
 l : x.out.length ≤ most
 g : x.e = -1 → aS8 st0 S c m p q idx cnd vars most fuel T x
 f : x.e ≠ -1 → T = (x.out, x.e)
abbrev JF := zi tI_3 (zi zI_3 (zi aX (zi tI_4 (zi zI_4 (zi cD (zi tI_26 (zi zI_26 (zi o0 (zi rQ (zi r7 (zi uF (zi tI_31 (zi zI_31 (zi aN (zi bE (zi bF (zi b9 (zi tI_51 (zi zI_51 (zi dW (zi fW (zi fU (zi gA (zi tI_82 (zi zI_82 (zi AI (zi BZ (zi tI_112 (zi zI_112 (zi tI_148 (zi zI_148 (zi tI_150 (zi zI_150 (zi tI_154 (zi zI_154 (zi DS (zi GR (zi EV (zi ED (zi FK (zi EQ (zi D1 (zi D8 (zi EI (zi FR (zi GC (zi ER FY)))))))))))))))))))))))))))))))))))))))))))))))
set_option maxHeartbeats 2000000 in
theorem aSY {p : List Cl} (hp : ∀ c ∈ p, gJ c ∧ c.2.length ≤ 6) (hpl : p.length ≤ 20) {cnd : Tm → List Nat → List Nat} (hc : ∀ (ρ : Int → Int) (t : Tm) (l : List Nat), cnd (bV ρ t) l = cnd t l) (hd : ∀ t l, (∀ i ∈ cnd t l, i ∈ l) ∧ (cnd t l).length ≤ l.length) {idx : Bool} (CT : NF p idx cnd) (zB : idx = false)
 {q : List Tm} (hq : ∀ t ∈ q, bD 26 t ∧ t.k = 3) (h6 : q.length ≤ 6) {most fuel : Nat} (hm : most ≤ 20) (hf : fuel ≤ 300) {st0 st : aB} {S c m : Nat} (h : dG st0 st S c m (.fslice []) (.fslice []) (.fslice []) p q idx fuel 0 0 [] (nV q)) :
 aD prog 76 [.ptr S 0, .int .i64 (most : Int), .func 77 []] st (fun r st' => ∃ b s, r = .tup [a9 1 b ((iZ p cnd (b7 q []) most fuel (nV q)).1.map c9), .int .i64 (iZ p cnd (b7 q []) most fuel (nV q)).2] ∧ st' = aZ s b ((iZ p cnd (b7 q []) most fuel (nV q)).1.map c9) ∧ ((iZ p cnd (b7 q []) most fuel (nV q)).1.map c9 ≠ [] → s b = none) ∧ aL s st0) := by
 have hnd : bG Tm.nodes q ≤ 1099511627776 := by
  have := A8 q fun t ht => (hq t ht).1.2
  omega
 have hva := fun st => QA q st hnd
 have hv : ∀ v ∈ b7 q [], 0 ≤ v ∧ v < 26 := fun v hv => by
  rcases (wE q [] fun t ht => (hq t ht).1.1.2.1).1 hv with h | ⟨t, ht, h⟩
  · cases h
  · exact (hq t ht).1.1.2.2 v h
 have hvl : (b7 q []).length ≤ 1000 := by
  have h1 := xK q []
  have h2 := A8 q fun t ht => (hq t ht).1.2
  simp only [a7] at h1
  omega
 have I0 := RI.start (p := p) hq h6
 generalize hT : iZ p cnd (b7 q []) most fuel (nV q) = T
 generalize b7 q [] = vars at *
 have hI0 : ZB st0 S c m p q idx cnd vars most fuel T ⟨st, .fslice [], .fslice [], .fslice [], 0, [], lT q, nV q, [], 0, 0, 26, 26, -1⟩ :=
  ⟨h.uW, by simp, jE _, fun _ => ⟨h, I0, by rw [← hT]; try rfl, jE _, c7 _, c7 _⟩, fun h => absurd rfl h⟩
 have P9 := h.cell
 simp only [gV] at P9
 obtain ⟨l1, l2, l3, l4, l5, l6⟩ := oU (nV q).goals
 refine wF [1000000] 3 func76 ntmps76 rfl rfl ?_
 intro _
 simp -implicitDefEqProofs only [P9, aA, seval, JF]
 refine (hva _).to ?_
 simp -implicitDefEqProofs only [aA, seval]
 clear P9 l1 l2 l3 l4 l5 l6
 have hne : ∀ l : List IG, d6 prog .neq 150 (eA l) .nilptr = some (.bool (!l.isEmpty)) := fun l => by
  have h : prog.underlying 150 = some (.pointer 185) := by kernel_rfl
  cases l with
  | nil => rw [eA]; simp only [d6, h]; rfl
  | cons g l => obtain ⟨⟨k, n, s, ts⟩, cut, up⟩ := g; rw [r9]; simp only [d6, h]; rfl
 refine gZ (σ := N9) [1000000] [0, 1, 2, 8] (fun x => ZB st0 S c m p q idx cnd vars most fuel T x)
  (fun x => [(6, .fslice []), (7, .int .i64 0), (9, a9 1 x.b (x.out.map c9)), (10, .int .i64 x.e)])
  (fun x => aZ x.st x.b (x.out.map c9))
  (fun x => (most - x.out.length) + (fuel - x.u) + (if x.e = -1 then 1 else 0)) (by decide +kernel) ⟨_, hI0, aO.mk (by simp -implicitDefEqProofs only [jG, aW, aA, seval])⟩ ?_
 clear hI0 h hT I0
 rintro ⟨st, qt, qc, qn, mx, nd, s, i, out, b, u, B, M, e⟩ ⟨hdr, hb, hlen, hgo, gW⟩
 simp only at hdr hb hlen hgo gW
 simp only
 simp -implicitDefEqProofs only [aA, seval]
 refine aQ (fun h => ?_) (fun h => ?_)
 case refine_2 =>
  have h' : e ≠ -1 := by simpa using h
  have hTe := gW h'
  subst hTe
  simp -implicitDefEqProofs only [mZ, aA, seval]
  exact ⟨b, st, rfl, rfl, hb, hdr⟩
 obtain rfl : e = -1 := by simpa using h
 obtain ⟨ha, hR, ht, hu, hBB, hMM⟩ := hgo rfl
 simp only at ha hR ht hu hBB hMM
 have hb0 : out.map c9 ≠ [] → st0 b = none := fun h => (hdr b).1 (hb h)
 have hA := ha.acc hb
 have hlo : (out.map c9).length = out.length := aF _
 have hun : prog.underlying 26 = some (.slice 82) := by kernel_rfl
 have tA := sW (w := 1) (b := b) (l := out.map c9) hun
 rw [hlo] at tA
 have JR : ∀ l : List (List Tm), ∀ e ∈ l.map c9, e.width = 1 := fun l e he => by simp only [cU] at he; obtain ⟨t, _, rfl⟩ := he; rfl
 have iL := hA.cell
 simp only [gV] at iL
 obtain ⟨l1, l2, l3, l4, l5, l6⟩ := oU i.goals
 have uM := hne i.goals
 simp -implicitDefEqProofs only [aA, seval]
 refine (aZG _).to ?_
 simp -implicitDefEqProofs only [iL, l1, uM, aA, seval, JF]
 cases hg : i.goals with
 | cons g rest =>
  rw [hg] at uM
  simp only [List.isEmpty_cons, n0] at uM
  refine aQ (fun h2 => ?_) (fun h2 => absurd h2 (by first | rw [hg]; simp | simp))
  simp -implicitDefEqProofs only [aA, seval]
  rw [aYR hg] at ht
  have iJ := aQP hp hpl hc hd CT zB (B := B) (M := M) (k := u) (by omega) (by omega) (by omega) hA hR hg (by omega) (by omega)
  have hRs := hR.step hp hpl hc hd (by omega) hg
  have hse := aXL (p := p) (cnd := cnd) (i := i) (g := g) (rest := rest)
  refine iJ.mono ?_
  clear iJ
  rintro r s2 hr
  split at hr
  · rename_i hfu
    obtain ⟨rfl, hA2⟩ := hr
    obtain ⟨s3, rfl, hb3, hA3⟩ := hA2.z5 hb0
    rw [aG (by omega)] at ht
    simp -implicitDefEqProofs only [aA, seval]
    exact ⟨⟨s3, qt, qc, qn, mx, nd, s, i, out, b, u, B, M, 2⟩, by simp, ⟨hA3.uW, hb3, hlen, fun h => absurd h (by simp), fun _ => by rw [ht]; simp⟩, aO.mk (by simp -implicitDefEqProofs only [aA, seval])⟩
  · rename_i hfu
    have a2Q : u < fuel := by omega
    rw [aE (by omega)] at ht
    cases hS : kX p cnd i g rest with
    | stop e =>
     rw [hS] at hr ht hse
     simp only [XD] at hse
     simp only at ht
     obtain ⟨rfl, qt2, qc2, qn2, mx2, nd2, i2, hA2⟩ := hr
     obtain ⟨s3, rfl, hb3, hA3⟩ := hA2.z5 hb0
     simp -implicitDefEqProofs only [aA, seval]
     exact ⟨⟨s3, qt, qc, qn, mx, nd, s, i, out, b, u, B, M, e⟩, by simp [hse], ⟨hA3.uW, hb3, hlen, fun h => absurd h hse, fun _ => by rw [ht]; simp⟩, aO.mk (by simp -implicitDefEqProofs only [aA, seval])⟩
    | go i' =>
     rw [hS] at hr ht hRs
     simp only at ht hRs
     obtain ⟨s', hR'⟩ := hRs
     obtain ⟨rfl, qt2, qc2, qn2, mx2, nd2, hA2⟩ := hr
     obtain ⟨s3, rfl, hb3, hA3⟩ := hA2.z5 hb0
     simp -implicitDefEqProofs only [aA, seval]
     exact ⟨⟨s3, qt2, qc2, qn2, mx2, nd2, s', i', out, b, u + 1, B + 26, M + 520, -1⟩, by simp; omega, ⟨hA3.uW, hb3, hlen, fun _ => ⟨hA3, hR', by rw [ht, Nat.sub_sub], by simp only; omega, by simp only; omega, by simp only; omega⟩, fun h => absurd rfl h⟩, aO.mk (by simp -implicitDefEqProofs only [aA, seval])⟩
    | fail i' =>
     rw [hS] at hr ht hRs
     simp only [KQ] at ht hRs hr
     obtain ⟨_, _, _, hRb⟩ := hRs
     cases hbk : gQ p i'.chs.length i' with
     | none =>
      rw [hbk] at hr ht
      simp only at ht
      obtain ⟨rfl, qt2, qc2, qn2, mx2, nd2, i2, hA2⟩ := hr
      obtain ⟨s3, rfl, hb3, hA3⟩ := hA2.z5 hb0
      simp -implicitDefEqProofs only [aA, seval]
      exact ⟨⟨s3, qt, qc, qn, mx, nd, s, i, out, b, u, B, M, 0⟩, by simp, ⟨hA3.uW, hb3, hlen, fun h => absurd h (by simp), fun _ => by rw [ht]; simp⟩, aO.mk (by simp -implicitDefEqProofs only [aA, seval])⟩
     | some i2 =>
      rw [hbk] at hr ht
      simp only at ht
      obtain ⟨s', hR'⟩ := hRb i2 hbk
      obtain ⟨rfl, qt2, qc2, qn2, mx2, nd2, hA2⟩ := hr
      obtain ⟨s3, rfl, hb3, hA3⟩ := hA2.z5 hb0
      simp -implicitDefEqProofs only [aA, seval]
      exact ⟨⟨s3, qt2, qc2, qn2, mx2, nd2, s', i2, out, b, u + 1, B + 26, M + 520, -1⟩, by simp; omega, ⟨hA3.uW, hb3, hlen, fun _ => ⟨hA3, hR', by rw [ht, Nat.sub_sub], by simp only; omega, by simp only; omega, by simp only; omega⟩, fun h => absurd rfl h⟩, aO.mk (by simp -implicitDefEqProofs only [aA, seval])⟩
 | nil =>
  rw [hg] at uM
  simp only [List.isEmpty_nil, oW] at uM
  refine aQ (fun h2 => absurd h2 (by first | rw [hg]; simp | simp)) (fun h2 => ?_)
  simp -implicitDefEqProofs only [tA, aA, seval]
  rw [aOW hg] at ht
  refine aQ (fun h2 => ?_) (fun h2 => ?_)
  · have h' : out.length = most := by simp at h2; omega
    rw [aG (by omega)] at ht
    simp -implicitDefEqProofs only [mZ, aA, seval]
    have hTe : T = (out, 1) := by rw [ht]; simp
    subst hTe
    exact ⟨b, st, rfl, rfl, hb, hdr⟩
  have h' : out.length < most := by simp at h2; omega
  rw [aE (by omega)] at ht
  simp -implicitDefEqProofs only [iL, hg, aA, seval, JF]
  obtain ⟨hgd, ho, _, _⟩ := hR.r.facts
  have hfr : 26 ≤ i.fresh := by
   obtain ⟨ρ, S', _⟩ := hR.r
   have h1 := S'.rng 25 (by omega) (by have := S'.h26; omega)
   rw [S'.idn 25 (by omega) (by omega)] at h1
   omega
  refine (a0S (N := i.fresh) hgd ho vars (fun v h => ⟨(hv v h).1, by have := (hv v h).2; omega⟩) hvl c m qt _ hA.sto.sub).to ?_
  cases pN : jI i.σ vars with
  | none =>
   rw [pN] at ht
   simp only [OY]
   simp only at ht
   simp -implicitDefEqProofs only [mZ, aA, seval]
   have hTe : T = (out, 3) := by rw [ht]; simp
   subst hTe
   exact ⟨b, st, rfl, rfl, hb, hdr⟩
  | some a =>
   rw [pN] at ht
   simp only [OY]
   simp only at ht
   simp -implicitDefEqProofs only [aA, seval, JF]
   refine eO (P := prog) (b := b) (l := out.map c9) (xs := [c9 a]) o0 rQ r7 rfl rfl (fB rfl rfl) (JR out) hb (by simp only [aS, a7, hlo]; omega) (by simp only [aS, a7, hlo]; omega) (fun b' hb' => ?_)
   rw [show (out.map c9) ++ [c9 a] = (out ++ [a]).map c9 by simp] at hb' ⊢
   have hA' := ha.acc hb'
   have aBY : (out ++ [a]).map c9 ≠ [] → st0 b' = none := fun h => (hdr b').1 (hb' h)
   have aXP := hA'.cell
   simp only [gV] at aXP
   simp -implicitDefEqProofs only [aA, seval]
   have hbk := N3 hp (M := M) (by omega) _ qt qc qn mx nd i s.chs (st0 := aZ st0 b' ((out ++ [a]).map c9)) (S := S) (c := c) (m := m) (q := q) (idx := idx) (fuel := fuel) (used := u) (T := gQ p i.chs.length i) ⟨hA', hR.cr, hR.x, rfl, by have := hR.pG; have := hR.n; constructor <;> omega⟩
   refine hbk.mono ?_
   rintro r s2 hr
   have hln : (out ++ [a]).length = out.length + 1 := by simp
   cases hbk : gQ p i.chs.length i with
   | none =>
    rw [hbk] at hr ht
    simp only at ht
    obtain ⟨rfl, qt2, qc2, qn2, mx2, nd2, i2, hA2⟩ := hr
    obtain ⟨s3, rfl, hb3, hA3⟩ := hA2.z5 aBY
    simp -implicitDefEqProofs only [aA, seval]
    exact ⟨⟨s3, qt, qc, qn, mx, nd, s, i, out ++ [a], b', u, B, M, 0⟩, by simp only [hln]; simp; omega, ⟨hA3.uW, hb3, by simp only [hln]; omega, fun h => absurd h (by simp), fun _ => by rw [ht]⟩, aO.mk (by simp -implicitDefEqProofs only [aA, seval])⟩
   | some i2 =>
    rw [hbk] at hr ht
    simp only at ht
    obtain ⟨s', hR'⟩ := hR.back hp (by omega) hbk
    obtain ⟨rfl, qt2, qc2, qn2, mx2, nd2, hA2⟩ := hr
    obtain ⟨s3, rfl, hb3, hA3⟩ := hA2.z5 aBY
    simp -implicitDefEqProofs only [aA, seval]
    exact ⟨⟨s3, qt2, qc2, qn2, mx2, nd2, s', i2, out ++ [a], b', u, B, M, -1⟩, by simp [hln]; omega, ⟨hA3.uW, hb3, by simp only [hln]; omega, fun _ => ⟨hA3, hR', by rw [ht]; simp only [hln, nZ, fF, eR, Nat.sub_sub], hu, hBB, hMM⟩, fun h => absurd rfl h⟩, aO.mk (by simp -implicitDefEqProofs only [aA, seval])⟩
end Go.AW
