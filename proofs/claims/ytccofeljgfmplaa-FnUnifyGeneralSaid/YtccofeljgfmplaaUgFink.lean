import Derived.Test.YtccofeljgfmplaaUgFing
import Derived.Test.YtccofeljgfmplaaUgFini
import Derived.Test.YtccofeljgfmplaaUgFinj

/- Terms that share nothing: what the program's functions return. -/
namespace Go.AW
open Go.Proofs.Try
set_option linter.unusedSimpArgs false
set_option maxRecDepth 100000

mutual
/-- No list is long. -/
def Tm.small : Tm → Bool
  | .mk _ _ _ ts => decide (ts.length ≤ 1048576) && tmsSmall ts
def tmsSmall : List Tm → Bool
  | [] => true
  | t :: ts => t.small && tmsSmall ts
end
theorem tmsSmall_all : ∀ (ts : List Tm), tmsSmall ts = ts.all Tm.small
  | [] => rfl
  | t :: ts => by simp only [tmsSmall, List.all_cons, tmsSmall_all ts]
theorem Tm.small_mk {k n : Int} {s : ByteArray} {ts : List Tm} (h : (Tm.mk k n s ts).small = true) : ts.length ≤ 1048576 ∧ ∀ x ∈ ts, x.small = true := by
  simpa [Tm.small, tmsSmall_all] using h

theorem tf_V3_65 : (type_of% tI_2) ∧ (type_of% zI_2) ∧ (type_of% Go.Proofs.Try.underlying2) ∧ (type_of% tI_3) ∧ (type_of% zI_3) ∧ (type_of% Go.Proofs.Try.underlying3) ∧ (type_of% tI_4) ∧ (type_of% zI_4) ∧ (type_of% Go.Proofs.Try.underlying4) ∧ (type_of% tI_5) ∧ (type_of% zI_5) ∧ (type_of% Go.Proofs.Try.underlying5) ∧ (type_of% tI_6) ∧ (type_of% zI_6) ∧ (type_of% Go.Proofs.Try.underlying6) ∧ (type_of% tI_7) ∧ (type_of% zI_7) ∧ (type_of% fI_7_0) ∧ (type_of% fI_7_1) ∧ (type_of% fI_7_2) ∧ (type_of% fI_7_3) ∧ (type_of% bI_7) ∧ (type_of% tI_8) ∧ (type_of% zI_8) ∧ (type_of% fI_8_0) ∧ (type_of% fI_8_1) ∧ (type_of% fI_8_2) ∧ (type_of% fI_8_3) ∧ (type_of% bI_8) ∧ (type_of% tI_12) ∧ (type_of% zI_12) ∧ (type_of% Go.Proofs.Try.underlying12) ∧ (type_of% tI_13) ∧ (type_of% zI_13) ∧ (type_of% fI_13_0) ∧ (type_of% fI_13_1) ∧ (type_of% bI_13) ∧ (type_of% tI_14) ∧ (type_of% zI_14) ∧ (type_of% fI_14_0) ∧ (type_of% fI_14_1) ∧ (type_of% bI_14) ∧ (type_of% tI_15) ∧ (type_of% zI_15) ∧ (type_of% tI_16) ∧ (type_of% zI_16) ∧ (type_of% tI_17) ∧ (type_of% zI_17) ∧ (type_of% tI_19) ∧ (type_of% zI_19) ∧ (type_of% fI_19_0) ∧ (type_of% bI_19) ∧ (type_of% tI_27) ∧ (type_of% zI_27) ∧ (type_of% eI_27) ∧ (type_of% eB_27) ∧ (type_of% eZ_27) ∧ (type_of% Go.Proofs.Try.underlying27) ∧ (type_of% tI_41) ∧ (type_of% zI_41) ∧ (type_of% fI_41_0) ∧ (type_of% fI_41_1) ∧ (type_of% fI_41_2) ∧ (type_of% fI_41_3) ∧ (type_of% bI_41) ∧ (type_of% tI_64) ∧ (type_of% zI_64) ∧ (type_of% fI_64_0) ∧ (type_of% fI_64_1) ∧ (type_of% bI_64) ∧ (type_of% tI_75) ∧ (type_of% zI_75) ∧ (type_of% fI_75_0) ∧ (type_of% fI_75_1) ∧ (type_of% fI_75_2) ∧ (type_of% fI_75_3) ∧ (type_of% fI_75_4) ∧ (type_of% fI_75_5) ∧ (type_of% bI_75) ∧ (type_of% tI_92) ∧ (type_of% zI_92) ∧ (type_of% fI_92_0) ∧ (type_of% fI_92_1) ∧ (type_of% fI_92_2) ∧ (type_of% fI_92_3) ∧ (type_of% bI_92) ∧ (type_of% tI_93) ∧ (type_of% zI_93) ∧ (type_of% eI_93) ∧ (type_of% eB_93) ∧ (type_of% eZ_93) ∧ (type_of% Go.Proofs.Try.underlying93) := ⟨tI_2, zI_2, Go.Proofs.Try.underlying2, tI_3, zI_3, Go.Proofs.Try.underlying3, tI_4, zI_4, Go.Proofs.Try.underlying4, tI_5, zI_5, Go.Proofs.Try.underlying5, tI_6, zI_6, Go.Proofs.Try.underlying6, tI_7, zI_7, fI_7_0, fI_7_1, fI_7_2, fI_7_3, bI_7, tI_8, zI_8, fI_8_0, fI_8_1, fI_8_2, fI_8_3, bI_8, tI_12, zI_12, Go.Proofs.Try.underlying12, tI_13, zI_13, fI_13_0, fI_13_1, bI_13, tI_14, zI_14, fI_14_0, fI_14_1, bI_14, tI_15, zI_15, tI_16, zI_16, tI_17, zI_17, tI_19, zI_19, fI_19_0, bI_19, tI_27, zI_27, eI_27, eB_27, eZ_27, Go.Proofs.Try.underlying27, tI_41, zI_41, fI_41_0, fI_41_1, fI_41_2, fI_41_3, bI_41, tI_64, zI_64, fI_64_0, fI_64_1, bI_64, tI_75, zI_75, fI_75_0, fI_75_1, fI_75_2, fI_75_3, fI_75_4, fI_75_5, bI_75, tI_92, zI_92, fI_92_0, fI_92_1, fI_92_2, fI_92_3, bI_92, tI_93, zI_93, eI_93, eB_93, eZ_93, Go.Proofs.Try.underlying93⟩
theorem o_ownList (l : List Tm) (st : Store) (hb : l.length ≤ 1048576) (hc : ∀ x ∈ l, ∀ (st : Store), ACalls prog 75 [Tm.av x] st (Made st (Tm.av x))) :
    ACalls prog 65 [.slice (l.map Tm.av)] st (Made st (.slice (l.map Tm.av))) := by
  have hws : ∀ e ∈ l.map Tm.av, e.width = 4 := fun e he => by simp only [List.mem_map] at he; obtain ⟨t, _, rfl⟩ := he; exact Tm.av_width t
  refine acalls_fit [] func65 ntmps65 rfl rfl (by kernel_rfl) (by decide +kernel) (by show 1 ≤ _; decide +kernel) ?_
  intro _
  simp -implicitDefEqProofs only [List.length_map, evb0, evb1, evb2, evb3, evb4, evb5, evb6, evb7, evb8, evb9, ↓evZ2, ↓evZ3, ↓Int.cast_ofNat_Int, implies_true, ne_eq, or_false, false_or, or_self, gt_iff_lt, isMut, aFn, List.contains, List.elem, aBox, aField, aLoad, sub, aNil, aPick, aExt, aFld, gd, noJunk, plainOp, aBuildSlice, aBuild, aFill, aParts, seqParts, fitAll, List.range', ↓reduceIte, reduceCtorEq, Nat.reduceEqDiff, Nat.reduceAdd, Nat.reduceLeDiff, Nat.reduceMul, Nat.reduceLT, Nat.reduceBEq, Int.reduceEq, tf_V3_65]
  refine arun_each (σ := List AV × List Nat × Nat × Store) [] [2, 6, 7] l (fun i p => GrowTo (l.map Tm.av) st i p.1 p.2.1 p.2.2.1 p.2.2.2) (fun i p => [(3, accV 4 p.2.2.1 p.1), (8, .int .i64 i)]) (fun _ p => p.2.2.2) (by decide +kernel)
    ⟨([], [], 0, st), GrowTo.start, LessL.mk (by simp -implicitDefEqProofs only [accV_nil, evb0, evb1, evb2, evb3, evb4, evb5, evb6, evb7, evb8, evb9, ↓evZ2, ↓evZ3, ↓Int.cast_ofNat_Int, implies_true, ne_eq, or_false, false_or, or_self, gt_iff_lt, isMut, aFn, List.contains, List.elem, aBox, aField, aLoad, sub, aNil, aPick, aExt, aFld, gd, noJunk, plainOp, aBuildSlice, aBuild, aFill, aParts, seqParts, fitAll, List.range', ↓reduceIte, reduceCtorEq, Nat.reduceEqDiff, Nat.reduceAdd, Nat.reduceLeDiff, Nat.reduceMul, Nat.reduceLT, Nat.reduceBEq, Int.reduceEq, tf_V3_65])⟩ (fun i x p hx hlt hlt' hdr hinv => ?_) (fun p hge hinv => ?_)
  case refine_2 =>
    obtain ⟨os, bs, b, s⟩ := p
    simp -implicitDefEqProofs only [List.length_map, hge, evb0, evb1, evb2, evb3, evb4, evb5, evb6, evb7, evb8, evb9, ↓evZ2, ↓evZ3, ↓Int.cast_ofNat_Int, implies_true, ne_eq, or_false, false_or, or_self, gt_iff_lt, isMut, aFn, List.contains, List.elem, aBox, aField, aLoad, sub, aNil, aPick, aExt, aFld, gd, noJunk, plainOp, aBuildSlice, aBuild, aFill, aParts, seqParts, fitAll, List.range', ↓reduceIte, reduceCtorEq, Nat.reduceEqDiff, Nat.reduceAdd, Nat.reduceLeDiff, Nat.reduceMul, Nat.reduceLT, Nat.reduceBEq, Int.reduceEq, tf_V3_65]
    exact hinv.done (List.length_map _) hws
  obtain ⟨os, bs, b, s⟩ := p
  simp only at hinv
  have hw := wrap64 (n := (i : Int) + 1) (by omega) (by omega)
  have hset : ∀ zs : List AV, zs.length = 4 → setCells zs 0 (Tm.av x).cells = (Tm.av x).cells := fun zs h => set_all (Tm.av_cells x) h
  simp -implicitDefEqProofs only [List.length_map, hlt', ev_at (av := Tm.av) eI_27 hx (Tm.av_width x), Tm.av_agg, Tm.av_width, Tm.av_cells, Tm.av_store, Store.upd_upd, hset, evb0, evb1, evb2, evb3, evb4, evb5, evb6, evb7, evb8, evb9, ↓evZ2, ↓evZ3, ↓Int.cast_ofNat_Int, implies_true, ne_eq, or_false, false_or, or_self, gt_iff_lt, isMut, aFn, List.contains, List.elem, aBox, aField, aLoad, sub, aNil, aPick, aExt, aFld, gd, noJunk, plainOp, aBuildSlice, aBuild, aFill, aParts, seqParts, fitAll, List.range', ↓reduceIte, reduceCtorEq, Nat.reduceEqDiff, Nat.reduceAdd, Nat.reduceLeDiff, Nat.reduceMul, Nat.reduceLT, Nat.reduceBEq, Int.reduceEq, tf_V3_65]
  intro b2 hb2
  try simp -implicitDefEqProofs only [su_eq, Tm.av_cells, take_all (Tm.av_cells x), agg_cells (Tm.av_agg x), Nat.le_refl, hset, Store.upd_upd, Tm.av_store, evb0, evb1, evb2, evb3, evb4, evb5, evb6, evb7, evb8, evb9, ↓evZ2, ↓evZ3, ↓Int.cast_ofNat_Int, implies_true, ne_eq, or_false, false_or, or_self, gt_iff_lt, isMut, aFn, List.contains, List.elem, aBox, aField, aLoad, sub, aNil, aPick, aExt, aFld, gd, noJunk, plainOp, aBuildSlice, aBuild, aFill, aParts, seqParts, fitAll, List.range', ↓reduceIte, reduceCtorEq, Nat.reduceEqDiff, Nat.reduceAdd, Nat.reduceLeDiff, Nat.reduceMul, Nat.reduceLT, Nat.reduceBEq, Int.reduceEq, tf_V3_65]
  refine (hc x (List.mem_of_getElem? hx) _).mono ?_
  rintro r s2 ⟨bx, m1, m2, m3, m4⟩
  obtain ⟨f1, f2, f3⟩ := m3.cellsFit (Tm.av_width x) (Tm.av_store x)
  have hra : r.isAgg = true := by rw [(Own.shape m3).1, Tm.av_agg]
  have hrj : r.isJunk = false := (Own.shape m3).2.2.1
  simp -implicitDefEqProofs only [f1, hra, hrj, evb0, evb1, evb2, evb3, evb4, evb5, evb6, evb7, evb8, evb9, ↓evZ2, ↓evZ3, ↓Int.cast_ofNat_Int, implies_true, ne_eq, or_false, false_or, or_self, gt_iff_lt, isMut, aFn, List.contains, List.elem, aBox, aField, aLoad, sub, aNil, aPick, aExt, aFld, gd, noJunk, plainOp, aBuildSlice, aBuild, aFill, aParts, seqParts, fitAll, List.range', ↓reduceIte, reduceCtorEq, Nat.reduceEqDiff, Nat.reduceAdd, Nat.reduceLeDiff, Nat.reduceMul, Nat.reduceLT, Nat.reduceBEq, Int.reduceEq, tf_V3_65]
  have hlen : os.length = i := hinv.1
  have hosw : ∀ e ∈ os, e.width = 4 := fun e he => by
    obtain ⟨k, hk, rfl⟩ := List.getElem_of_mem he
    exact hinv.2.1.widths (fun q hq => hws q (List.mem_of_mem_take hq)) _ he
  have hkb : os ≠ [] → s2 b = some (.cells (os.flatMap AV.cells)) := fun hne => by
    have h := (hinv.2.2.2.2.1 hne).2.2
    have hbx : b ∉ bx := fun hq => by
      have := m2 b hq
      have hne2 : b ≠ b2 := fun e => by rw [e, hb2] at h; cases h
      rw [Store.upd_ne _ _ hne2, h] at this; cases this
    have hne2 : b ≠ b2 := fun e => by rw [e, hb2] at h; cases h
    rw [m4 b hbx, Store.upd_ne _ _ hne2, h]
  refine acc_appendG eI_27 eB_27 eZ_27 rfl rfl (by intro e he; simp only [List.mem_cons, List.not_mem_nil, or_false] at he; subst he; exact ⟨f1, f3⟩) hosw hkb (by simp only [List.length_cons, List.length_nil, hlen]; omega) (by simp only [List.length_cons, List.length_nil, hlen]; omega) (fun b' s' k1 k2 k3 k4 => ?_)
  have hstep := hinv.step hb2 (show (l.map Tm.av)[i]? = some (Tm.av x) by rw [List.getElem?_map, hx]; rfl) m1 m2 m3 m4 (k1 (by simp)) (k2 (by simp)) (fun q h1 h2 => k3 q (fun _ => h1) h2) k4
  simp -implicitDefEqProofs only [hw, evb0, evb1, evb2, evb3, evb4, evb5, evb6, evb7, evb8, evb9, ↓evZ2, ↓evZ3, ↓Int.cast_ofNat_Int, implies_true, ne_eq, or_false, false_or, or_self, gt_iff_lt, isMut, aFn, List.contains, List.elem, aBox, aField, aLoad, sub, aNil, aPick, aExt, aFld, gd, noJunk, plainOp, aBuildSlice, aBuild, aFill, aParts, seqParts, fitAll, List.range', ↓reduceIte, reduceCtorEq, Nat.reduceEqDiff, Nat.reduceAdd, Nat.reduceLeDiff, Nat.reduceMul, Nat.reduceLT, Nat.reduceBEq, Int.reduceEq, tf_V3_65]
  exact ⟨(os ++ [r], bs ++ bx, b', s'.erase b2), hstep, LessL.drop (Drops.erase' _ _) (by simp -implicitDefEqProofs only [evb0, evb1, evb2, evb3, evb4, evb5, evb6, evb7, evb8, evb9, ↓evZ2, ↓evZ3, ↓Int.cast_ofNat_Int, implies_true, ne_eq, or_false, false_or, or_self, gt_iff_lt, isMut, aFn, List.contains, List.elem, aBox, aField, aLoad, sub, aNil, aPick, aExt, aFld, gd, noJunk, plainOp, aBuildSlice, aBuild, aFill, aParts, seqParts, fitAll, List.range', ↓reduceIte, reduceCtorEq, Nat.reduceEqDiff, Nat.reduceAdd, Nat.reduceLeDiff, Nat.reduceMul, Nat.reduceLT, Nat.reduceBEq, Int.reduceEq, tf_V3_65])⟩


theorem tf_V3_75 : (type_of% tI_2) ∧ (type_of% zI_2) ∧ (type_of% Go.Proofs.Try.underlying2) ∧ (type_of% tI_3) ∧ (type_of% zI_3) ∧ (type_of% Go.Proofs.Try.underlying3) ∧ (type_of% tI_4) ∧ (type_of% zI_4) ∧ (type_of% Go.Proofs.Try.underlying4) ∧ (type_of% tI_5) ∧ (type_of% zI_5) ∧ (type_of% Go.Proofs.Try.underlying5) ∧ (type_of% tI_8) ∧ (type_of% zI_8) ∧ (type_of% fI_8_0) ∧ (type_of% fI_8_1) ∧ (type_of% fI_8_2) ∧ (type_of% fI_8_3) ∧ (type_of% bI_8) ∧ (type_of% tI_27) ∧ (type_of% zI_27) ∧ (type_of% eI_27) ∧ (type_of% eB_27) ∧ (type_of% eZ_27) ∧ (type_of% Go.Proofs.Try.underlying27) ∧ (type_of% tI_41) ∧ (type_of% zI_41) ∧ (type_of% fI_41_0) ∧ (type_of% fI_41_1) ∧ (type_of% fI_41_2) ∧ (type_of% fI_41_3) ∧ (type_of% bI_41) := ⟨tI_2, zI_2, Go.Proofs.Try.underlying2, tI_3, zI_3, Go.Proofs.Try.underlying3, tI_4, zI_4, Go.Proofs.Try.underlying4, tI_5, zI_5, Go.Proofs.Try.underlying5, tI_8, zI_8, fI_8_0, fI_8_1, fI_8_2, fI_8_3, bI_8, tI_27, zI_27, eI_27, eB_27, eZ_27, Go.Proofs.Try.underlying27, tI_41, zI_41, fI_41_0, fI_41_1, fI_41_2, fI_41_3, bI_41⟩
theorem o_own : ∀ (t : Tm) (st : Store), t.small = true → ACalls prog 75 [t.av] st (Made st t.av)
  | .mk k n s ts, st, hb => by
    obtain ⟨hb1, hb2⟩ := Tm.small_mk hb
    have hc := fun st => o_ownList ts st hb1 fun x hx st => o_own x st (hb2 x hx)
    refine ACalls.madeJ ?_
    refine acalls_fit [1] func75 ntmps75 rfl rfl (by kernel_rfl) (by decide +kernel) (by show 1 ≤ _; decide +kernel) ?_
    intro _
    simp only [Tm.av_mk]
    simp -implicitDefEqProofs only [evb0, evb1, evb2, evb3, evb4, evb5, evb6, evb7, evb8, evb9, ↓evZ2, ↓evZ3, ↓Int.cast_ofNat_Int, implies_true, ne_eq, or_false, false_or, or_self, gt_iff_lt, isMut, aFn, List.contains, List.elem, aBox, aField, aLoad, sub, aNil, aPick, aExt, aFld, gd, noJunk, plainOp, aBuildSlice, aBuild, aFill, aParts, seqParts, fitAll, List.range', ↓reduceIte, reduceCtorEq, Nat.reduceEqDiff, Nat.reduceAdd, Nat.reduceLeDiff, Nat.reduceMul, Nat.reduceLT, Nat.reduceBEq, Int.reduceEq, tf_V3_75]
    intro b hb1' b2 hb2'
    have hne : b2 ≠ b := by rintro rfl; rw [Store.upd_same] at hb2'; cases hb2'
    have hn2 : st b2 = none := by rw [Store.upd_ne st _ hne] at hb2'; exact hb2'
    simp -implicitDefEqProofs only [su_eq, hne, hne.symm, setCells, Store.upd_upd, evb0, evb1, evb2, evb3, evb4, evb5, evb6, evb7, evb8, evb9, ↓evZ2, ↓evZ3, ↓Int.cast_ofNat_Int, implies_true, ne_eq, or_false, false_or, or_self, gt_iff_lt, isMut, aFn, List.contains, List.elem, aBox, aField, aLoad, sub, aNil, aPick, aExt, aFld, gd, noJunk, plainOp, aBuildSlice, aBuild, aFill, aParts, seqParts, fitAll, List.range', ↓reduceIte, reduceCtorEq, Nat.reduceEqDiff, Nat.reduceAdd, Nat.reduceLeDiff, Nat.reduceMul, Nat.reduceLT, Nat.reduceBEq, Int.reduceEq, tf_V3_75]
    refine (hc _).mono ?_
    rintro q s2 ⟨bs, m1, m2, m3, m4⟩
    have hbb : b ∉ bs := fun h => by have := m2 b h; simp [su_eq, hne, hne.symm] at this
    have hbb2 : b2 ∉ bs := fun h => by have := m2 b2 h; simp [su_eq] at this
    have e1 := m4 b hbb
    have e2 := m4 b2 hbb2
    simp only [su_eq, hne, hne.symm, if_true, if_false] at e1 e2
    have hqc : q.cells = [q] := by have := (Own.shape m3).1; cases q <;> first | rfl | simp [AV.isAgg] at this
    have hqs : q.storable = true := by
      have := m3
      simp only [Own] at this
      rcases this with ⟨_, rfl, _⟩ | ⟨_, _, _, _, rfl, _⟩ <;> rfl
    simp -implicitDefEqProofs only [su_eq, hne, hne.symm, e1, e2, hqc, hqs, setCells, Store.upd_upd, evb0, evb1, evb2, evb3, evb4, evb5, evb6, evb7, evb8, evb9, ↓evZ2, ↓evZ3, ↓Int.cast_ofNat_Int, implies_true, ne_eq, or_false, false_or, or_self, gt_iff_lt, isMut, aFn, List.contains, List.elem, aBox, aField, aLoad, sub, aNil, aPick, aExt, aFld, gd, noJunk, plainOp, aBuildSlice, aBuild, aFill, aParts, seqParts, fitAll, List.range', ↓reduceIte, reduceCtorEq, Nat.reduceEqDiff, Nat.reduceAdd, Nat.reduceLeDiff, Nat.reduceMul, Nat.reduceLT, Nat.reduceBEq, Int.reduceEq, tf_V3_75]
    refine ⟨[b, b2], bs, m1, fun x hx => ?_, ?_, ?_, ?_⟩
    · have := m2 x hx
      have h1 : x ≠ b := fun e => hbb (e ▸ hx)
      have h2 : x ≠ b2 := fun e => hbb2 (e ▸ hx)
      simpa [su_eq, h1, h2] using this
    · simp [hb1', hn2, hbb, hbb2]
    · rw [← Tm.av_mk]
      refine own_Tm.2 ⟨q, rfl, Own.keep _ _ _ (fun x hx => ?_) m3⟩
      have h1 : x ≠ b := fun e => hbb (e ▸ hx)
      have h2 : x ≠ b2 := fun e => hbb2 (e ▸ hx)
      simp only [su_eq, h1, h2, if_false]
    · intro x hx hd
      simp only [List.mem_cons, List.not_mem_nil, or_false, not_or] at hd
      simp only [su_eq, hd.1, hd.2, if_false]
      rw [m4 x hx]
      simp only [su_eq, hd.1, hd.2, if_false]
termination_by t => SizeOf.sizeOf t
decreasing_by have := List.sizeOf_lt_of_mem hx; simp only [Tm.mk.sizeOf_spec]; omega
end Go.AW

/- Bindings as data; replaced variables. -/
namespace Go.AW
set_option linter.unusedSimpArgs false
set_option linter.unusedVariables false

theorem Tm.soft (t : Tm) : t.av.soft = t.av := by cases t; simp [Tm.av_mk, AV.soft, softL]
theorem Tm.fin0 (t : Tm) (b : Nat) : t.av.fin b [] = t.av := Tm.soft t
/-- A binding. -/
abbrev Bd := Int × Tm
def bdAv (b : Bd) : AV := .agg (.int .i64 b.1 :: b.2.av.cells)
theorem bdAv_agg (b : Bd) : (bdAv b).isAgg = true := rfl
theorem bdAv_width (b : Bd) : (bdAv b).width = 5 := by simp only [bdAv, AV.width, List.length_cons, Tm.av_cells]
theorem bdAv_store (b : Bd) : (bdAv b).cells.all AV.storable = true := by
  show (AV.int .i64 b.1 :: b.2.av.cells).all AV.storable = true
  rw [List.all_cons, Tm.av_store b.2]
  rfl
theorem bdAv_junk (b : Bd) : (bdAv b).isJunk = false := rfl
theorem bd_widths (l : List Bd) : ∀ e ∈ l.map bdAv, e.width = 5 := by intro e h; simp only [List.mem_map] at h; obtain ⟨t, _, rfl⟩ := h; exact bdAv_width t
theorem bd_junks (l : List Bd) : ∀ e ∈ l.map bdAv, e.isJunk = false := by intro e h; simp only [List.mem_map] at h; obtain ⟨t, _, rfl⟩ := h; rfl
theorem bdAv_mk (n : Int) (t : Tm) : AV.agg (.int .i64 n :: t.av.cells) = bdAv (n, t) := rfl

def findB : List Bd → Int → Option Tm
  | [], _ => none
  | (m, x) :: r, n => if m = n then some x else findB r n
/-- The variable replaced by what it stands for. -/
def subB (bs : List Bd) (n : Int) : Tm := (findB bs n).getD (vr n)
def Tm.zero : Tm := .mk 0 0 ⟨#[]⟩ []
mutual
/-- Variables have neither name nor arguments. -/
def Tm.cv : Tm → Bool
  | .mk k _ s ts => (!decide (k = 1) || (decide (s = ⟨#[]⟩) && ts.isEmpty)) && tmsCv ts
def tmsCv : List Tm → Bool
  | [] => true
  | t :: ts => t.cv && tmsCv ts
end
theorem tmsCv_all : ∀ (ts : List Tm), tmsCv ts = ts.all Tm.cv
  | [] => rfl
  | t :: ts => by simp only [tmsCv, List.all_cons, tmsCv_all ts]
theorem Tm.cv_mk {k n : Int} {s : ByteArray} {ts : List Tm} : (Tm.mk k n s ts).cv = true ↔ (k = 1 → s = ⟨#[]⟩ ∧ ts = []) ∧ ∀ x ∈ ts, x.cv = true := by
  simp only [Tm.cv, tmsCv_all, Bool.and_eq_true, Bool.or_eq_true, Bool.not_eq_true', decide_eq_false_iff_not, List.isEmpty_iff, List.all_eq_true, decide_eq_true_eq]
  constructor
  · exact fun h => ⟨fun hk => h.1.resolve_left (fun hn => hn hk), h.2⟩
  · intro h
    refine ⟨?_, h.2⟩
    by_cases hk : k = 1
    · exact .inr (h.1 hk)
    · exact .inl hk
theorem Tm.cv_wf : ∀ (t : Tm), t.cv = true → t.wf = true := by
  intro t
  induction t using Tm.ind with
  | h k n s ts ih =>
    intro h
    obtain ⟨h1, h2⟩ := Tm.cv_mk.1 h
    simp only [Tm.wf, tmsWf_all, Bool.and_eq_true, Bool.or_eq_true, Bool.not_eq_true', decide_eq_false_iff_not, List.isEmpty_iff, List.all_eq_true]
    refine ⟨?_, fun x hx => ih x hx (h2 x hx)⟩
    by_cases hk : k = 1
    · exact .inr (h1 hk).2
    · exact .inl hk
theorem Tm.shape_small : ∀ (t : Tm) (d : Int), t.shape d = true → t.small = true := by
  intro t
  induction t using Tm.ind with
  | h k n s ts ih =>
    intro d h
    rw [Tm.shape_mk] at h
    simp only [Bool.and_eq_true, List.all_eq_true] at h
    obtain ⟨⟨_, h1⟩, h2⟩ := h
    simp only [Tm.small, tmsSmall_all, Bool.and_eq_true, decide_eq_true_eq, List.all_eq_true]
    refine ⟨?_, fun x hx => ih x hx _ (h2 x hx)⟩
    unfold ownOk at h1
    cases h3 : decide (k = 1) <;> rw [h3] at h1
    · cases h4 : decide (k = 2) <;> rw [h4] at h1
      · cases h5 : decide (k = 3) <;> rw [h5] at h1 <;> simp at h1; omega
      · simp at h1; rw [h1.2]; simp
    · simp at h1; rw [h1.2]; simp
theorem Tm.valid_small {t : Tm} (h : t.valid = true) : t.small = true := by simp only [Tm.valid, Bool.and_eq_true] at h; exact Tm.shape_small t 30 h.1
theorem Tm.mapv_small {f : Int → Tm} (hf : ∀ n, (f n).small = true) : ∀ (t : Tm), t.small = true → (t.mapv f).small = true := by
  intro t
  induction t using Tm.ind with
  | h k n s ts ih =>
    intro h
    by_cases hk : k = 1
    · rw [Tm.mapv_var f hk]; exact hf n
    · obtain ⟨h1, h2⟩ := Tm.small_mk h
      rw [Tm.mapv_mk f hk]
      simp only [Tm.small, tmsSmall_all, Bool.and_eq_true, decide_eq_true_eq, List.all_eq_true, List.length_map]
      refine ⟨h1, fun x hx => ?_⟩
      obtain ⟨y, hy, rfl⟩ := List.mem_map.1 hx
      exact ih y hy (h2 y hy)

/-! ### The first place -/
def idxP {α : Type} (p : α → Bool) : List α → Int → Int
  | [], _ => -1
  | x :: xs, i => if p x = true then i else idxP p xs (i + 1)
theorem idxP_spec {α : Type} (p : α → Bool) : ∀ (l : List α) (i : Int), 0 ≤ i → (idxP p l i = -1 ∧ l.any p = false) ∨ ∃ (j : Nat) (x : α), idxP p l i = i + j ∧ l[j]? = some x ∧ p x = true ∧ l.any p = true ∧ ∀ (k : Nat) y, k < j → l[k]? = some y → p y = false
  | [], i, _ => .inl ⟨rfl, rfl⟩
  | x :: xs, i, h => by
    by_cases hp : p x = true
    · exact .inr ⟨0, x, by simp [idxP, hp], rfl, hp, by simp [hp], fun k y hk => absurd hk (Nat.not_lt_zero k)⟩
    · rcases idxP_spec p xs (i + 1) (by omega) with ⟨h1, h2⟩ | ⟨j, y, h1, h2, h3, h4, h5⟩
      · exact .inl ⟨by simp [idxP, hp, h1], by simp [hp, h2]⟩
      · refine .inr ⟨j + 1, y, by simp only [idxP, hp, h1]; simp; omega, by simpa using h2, h3, by simp [h4], fun k z hk hz => ?_⟩
        cases k with
        | zero => simp at hz; subst hz; simpa using hp
        | succ k => exact h5 k z (by omega) (by simpa using hz)
theorem idxP_any {α : Type} (p : α → Bool) (l : List α) : decide (0 ≤ idxP p l 0) = l.any p := by
  rcases idxP_spec p l 0 (Int.le_refl 0) with ⟨h1, h2⟩ | ⟨j, y, h1, _, _, h4, _⟩
  · rw [h1, h2]; rfl
  · rw [h1, h4]; simp
theorem findB_idx (bs : List Bd) (n : Int) : (idxP (fun b => decide (b.1 = n)) bs 0 = -1 ∧ findB bs n = none) ∨ ∃ (j : Nat) (b : Bd), idxP (fun b => decide (b.1 = n)) bs 0 = j ∧ bs[j]? = some b ∧ findB bs n = some b.2 := by
  have key : ∀ (l : List Bd) (j : Nat) (b : Bd), l[j]? = some b → b.1 = n → (∀ (k : Nat) y, k < j → l[k]? = some y → ¬ y.1 = n) → findB l n = some b.2 := by
    intro l
    induction l with
    | nil => intro j b h; simp at h
    | cons x l ih =>
      intro j b h hb hlt
      cases j with
      | zero => simp at h; subst h; simp [findB, hb]
      | succ j =>
        have hx := hlt 0 x (by omega) rfl
        obtain ⟨m, t⟩ := x
        simp only [findB, hx, if_false]
        exact ih j b (by simpa using h) hb fun k y hk hy => hlt (k + 1) y (by omega) (by simpa using hy)
  rcases idxP_spec (fun b : Bd => decide (b.1 = n)) bs 0 (Int.le_refl 0) with ⟨h1, h2⟩ | ⟨j, y, h1, h2, h3, _, h5⟩
  · refine .inl ⟨h1, ?_⟩
    clear h1
    induction bs with
    | nil => rfl
    | cons x l ih =>
      obtain ⟨m, t⟩ := x
      simp only [List.any_cons, Bool.or_eq_false_iff, decide_eq_false_iff_not] at h2
      simp only [findB, h2.1, if_false]
      exact ih h2.2
  · refine .inr ⟨j, y, by rw [h1]; omega, h2, key bs j y h2 (by simpa using h3) fun k z hk hz => by simpa using h5 k z hk hz⟩
end Go.AW

/- Unification of valid terms: what is bound is well-formed; the bindings in the end. -/
namespace Go.AW
set_option linter.unusedSimpArgs false
set_option linter.unusedVariables false

mutual
/-- Not deeper than d. -/
def Tm.flat : Tm → Nat → Bool
  | .mk _ _ _ _, 0 => false
  | .mk _ _ _ ts, d + 1 => tmsFlat ts d
def tmsFlat : List Tm → Nat → Bool
  | [], _ => true
  | t :: ts, d => t.flat d && tmsFlat ts d
end
theorem tmsFlat_all : ∀ (ts : List Tm) (d : Nat), tmsFlat ts d = ts.all fun t => t.flat d
  | [], _ => rfl
  | t :: ts, d => by simp only [tmsFlat, List.all_cons, tmsFlat_all ts d]
theorem Tm.flat_zero (t : Tm) : t.flat 0 = false := by cases t; simp only [Tm.flat]
theorem Tm.flat_succ (k n : Int) (s : ByteArray) (ts : List Tm) (d : Nat) : (Tm.mk k n s ts).flat (d + 1) = ts.all fun t => t.flat d := by simp only [Tm.flat, tmsFlat_all]
mutual
/-- Each node by itself is well-formed. -/
def Tm.okA : Tm → Bool
  | .mk k n s ts => ownOk k n s ts.length && tmsOkA ts
def tmsOkA : List Tm → Bool
  | [] => true
  | t :: ts => t.okA && tmsOkA ts
end
theorem tmsOkA_all : ∀ (ts : List Tm), tmsOkA ts = ts.all Tm.okA
  | [] => rfl
  | t :: ts => by simp only [tmsOkA, List.all_cons, tmsOkA_all ts]
theorem Tm.okA_mk (k n : Int) (s : ByteArray) (ts : List Tm) : (Tm.mk k n s ts).okA = (ownOk k n s ts.length && ts.all Tm.okA) := by simp only [Tm.okA, tmsOkA_all]
theorem all_and {α : Type} (p q : α → Bool) : ∀ l : List α, (l.all fun x => p x && q x) = (l.all p && l.all q)
  | [] => rfl
  | x :: l => by simp only [List.all_cons, all_and p q l]; cases p x <;> cases q x <;> cases l.all p <;> simp
theorem Tm.shape_flat : ∀ (t : Tm) (d : Nat), t.shape (d : Int) = (t.okA && t.flat d) := by
  intro t
  induction t using Tm.ind with
  | h k n s ts ih =>
    intro d
    cases d with
    | zero => rw [Tm.flat_zero, Bool.and_false, Tm.shape_mk]; rfl
    | succ d =>
      rw [Tm.shape_mk, Tm.okA_mk, Tm.flat_succ, show decide ((1 : Int) ≤ ((d + 1 : Nat) : Int)) = true by simp; omega, Bool.true_and, Bool.and_assoc, ← all_and]
      congr 1
      rw [show (((d + 1 : Nat) : Int) - 1) = (d : Int) by omega]
      have : ∀ l : List Tm, (∀ x ∈ l, x ∈ ts) → (l.all fun t => t.shape (d : Int)) = l.all fun x => x.okA && x.flat d := by
        intro l
        induction l with
        | nil => intro _; rfl
        | cons x l ihl => intro h; rw [List.all_cons, List.all_cons, ih x (h x (by simp)), ihl fun y hy => h y (by simp [hy])]
      exact this ts fun _ h => h
theorem Tm.valid_okA {t : Tm} (h : t.valid = true) : t.okA = true := by
  simp only [Tm.valid, Bool.and_eq_true] at h
  have := h.1
  rw [show (30 : Int) = ((30 : Nat) : Int) from rfl, Tm.shape_flat, Bool.and_eq_true] at this
  exact this.1
theorem Tm.valid_iff {t : Tm} (h : t.okA = true) : t.valid = (t.flat 30 && decide (t.nodes ≤ 120)) := by
  unfold Tm.valid
  rw [show (30 : Int) = ((30 : Nat) : Int) from rfl, Tm.shape_flat, h, Bool.true_and]
theorem okA_kids : ∀ t : Tm, t.k ≠ 1 → t.okA = true → ∀ x ∈ t.ts, x.okA = true := fun t _ h x hx => by
  cases t
  rw [Tm.okA_mk, Bool.and_eq_true] at h
  exact List.all_eq_true.1 h.2 x hx
theorem Tm.okA_own {k n : Int} {s : ByteArray} {ts : List Tm} (h : (Tm.mk k n s ts).okA = true) : ownOk k n s ts.length = true ∧ ∀ x ∈ ts, x.okA = true := by
  rw [Tm.okA_mk, Bool.and_eq_true] at h
  exact ⟨h.1, List.all_eq_true.1 h.2⟩
theorem ownOk_var {n : Int} {s : ByteArray} {len : Int} (h : ownOk 1 n s len = true) : 0 ≤ n ∧ n ≤ 25 ∧ s = ⟨#[]⟩ ∧ len = 0 := by
  simp [ownOk] at h
  exact ⟨h.1.1.1, h.1.1.2, h.1.2, h.2⟩
theorem ownOk_kind {k n : Int} {s : ByteArray} {len : Int} (h : ownOk k n s len = true) : (k = 1 ∨ k = 2 ∨ k = 3) ∧ len ≤ 4 := by
  unfold ownOk at h
  by_cases h1 : k = 1
  · simp [h1] at h; omega
  · by_cases h2 : k = 2
    · simp [h2] at h; omega
    · by_cases h3 : k = 3
      · simp [h3] at h; omega
      · simp [h1, h2, h3] at h
theorem Tm.okA_cv : ∀ (t : Tm), t.okA = true → t.cv = true := by
  intro t
  induction t using Tm.ind with
  | h k n s ts ih =>
    intro h
    obtain ⟨h1, h2⟩ := Tm.okA_own h
    refine Tm.cv_mk.2 ⟨fun hk => ?_, fun x hx => ih x hx (h2 x hx)⟩
    subst hk
    obtain ⟨_, _, h3, h4⟩ := ownOk_var h1
    exact ⟨h3, List.eq_nil_of_length_eq_zero (by omega)⟩
theorem Tm.okA_small : ∀ (t : Tm), t.okA = true → t.small = true := by
  intro t
  induction t using Tm.ind with
  | h k n s ts ih =>
    intro h
    obtain ⟨h1, h2⟩ := Tm.okA_own h
    have := (ownOk_kind h1).2
    simp only [Tm.small, tmsSmall_all, Bool.and_eq_true, decide_eq_true_eq, List.all_eq_true]
    exact ⟨by omega, fun x hx => ih x hx (h2 x hx)⟩
/-- The numbers of variables. -/
def V25 : List Int := (List.range 26).map fun i : Nat => (i : Int)
theorem mem_V25 {n : Int} : n ∈ V25 ↔ 0 ≤ n ∧ n ≤ 25 := by
  simp only [V25, List.mem_map, List.mem_range]
  constructor
  · rintro ⟨i, h, rfl⟩; omega
  · intro h; exact ⟨n.toNat, by omega, by omega⟩
theorem Tm.okA_inV : ∀ (t : Tm), t.okA = true → InV V25 t := by
  intro t
  induction t using Tm.ind with
  | h k n s ts ih =>
    intro h v hv
    obtain ⟨h1, h2⟩ := Tm.okA_own h
    by_cases hk : k = 1
    · rw [Tm.vl_var hk] at hv
      simp only [List.mem_cons, List.not_mem_nil, or_false] at hv
      subst hv hk
      obtain ⟨h3, h4, _⟩ := ownOk_var h1
      exact mem_V25.2 ⟨h3, h4⟩
    · obtain ⟨x, hx, hvx⟩ := (Tm.vl_mk hk).1 hv
      exact ih x hx (h2 x hx) v hvx
theorem mapv_okA {f : Int → Tm} : ∀ (t : Tm), t.okA = true → (∀ v ∈ t.vl, (f v).okA = true) → (t.mapv f).okA = true := by
  intro t
  induction t using Tm.ind with
  | h k n s ts ih =>
    intro h hf
    obtain ⟨h1, h2⟩ := Tm.okA_own h
    by_cases hk : k = 1
    · rw [Tm.mapv_var f hk]; exact hf n (by rw [Tm.vl_var hk]; simp)
    · rw [Tm.mapv_mk f hk, Tm.okA_mk, List.length_map, h1, Bool.true_and, List.all_map, List.all_eq_true]
      exact fun x hx => ih x hx (h2 x hx) fun v hv => hf v ((Tm.vl_mk hk).2 ⟨x, hx, hv⟩)
theorem vr_okA {n : Int} (h : n ∈ V25) : (vr n).okA = true := by
  rw [mem_V25] at h
  rw [vr, Tm.okA_mk]
  simp [ownOk, h]
theorem Good.okA {σ : Sub} {R : Int → Tm} {rk : Int → Nat} {B : Nat} (G : Good σ R rk B) (ho : AllS (fun t => t.okA = true) σ) : ∀ n ∈ V25, (R n).okA = true := by
  refine fun n => G.ind (p := fun n => n ∈ V25 → (R n).okA = true) (fun n h hn => ?_) (fun n u h ih hn => ?_) n
  · rw [G.free h]; exact vr_okA hn
  · rw [G.bound h]
    exact mapv_okA u (ho n u h) fun v hv => ih v hv (Tm.okA_inV u (ho n u h) v hv)
theorem Good.okT {σ : Sub} {R : Int → Tm} {rk : Int → Nat} {B : Nat} (G : Good σ R rk B) (ho : AllS (fun t => t.okA = true) σ) {t : Tm} (h : t.okA = true) : (t.mapv R).okA = true :=
  mapv_okA t h fun v hv => G.okA ho v (Tm.okA_inV t h v hv)

/-! ### What two terms are unified to -/
theorem uniF_det {g g' : Nat} {σ : Sub} {a b : Tm} {x y : Bool × Sub × List Int} (h : uniF g σ a b = some x) (h' : uniF g' σ a b = some y) : x = y := by
  have h1 := uniF_le (Nat.le_max_left g g') h
  rw [uniF_le (Nat.le_max_right g g') h'] at h1
  exact (Option.some.inj h1).symm
open Classical in
noncomputable def uniR (a b : Tm) : Bool × Sub × List Int := if h : ∃ x g, uniF g Sub.none a b = some x then h.choose else (false, Sub.none, [])
theorem uniR_eq {g : Nat} {a b : Tm} {x : Bool × Sub × List Int} (h : uniF g Sub.none a b = some x) : uniR a b = x := by
  unfold uniR
  have h' : ∃ x g, uniF g Sub.none a b = some x := ⟨x, g, h⟩
  rw [dif_pos h']
  obtain ⟨g', h''⟩ := h'.choose_spec
  exact uniF_det h'' h
/-- The bindings in the end, in order. -/
noncomputable def bindsOf (σ : Sub) : List Bd := (List.range 26).filterMap fun i : Nat => (σ (i : Int)).map fun u => ((i : Int), u.mapv (rs σ))
noncomputable def uniB (a b : Tm) : Option (List Bd) :=
  if a.valid = true ∧ b.valid = true ∧ (uniR a b).1 = true ∧ ((bindsOf (uniR a b).2.1).all fun x => x.2.valid) = true then some (bindsOf (uniR a b).2.1) else none

/-- What is known of the unification of two valid terms. -/
structure Unif (a b : Tm) (r : Bool) (σ : Sub) (tr : List Int) : Prop where
  run : ∃ g, uniF g Sub.none a b = some (r, σ, tr)
  uni : Uni Sub.none [a] [b] r σ tr
  okA : AllS (fun t => t.okA = true) σ
  inV : RangeIn V25 σ
  trV : ∀ m ∈ tr, m ∈ V25
theorem Uni.out {σ : Sub} {a b : List Tm} {r : Bool} {tr : List Int} (h : Uni Sub.none a b r σ tr) {n : Int} {u : Tm} (e : σ n = some u) : n ∈ tr := by
  refine Classical.byContradiction fun hn => ?_
  rw [h.keep n hn] at e
  cases e
theorem unif_of {a b : Tm} (ha : a.valid = true) (hb : b.valid = true) : ∃ r σ tr, Unif a b r σ tr ∧ uniR a b = (r, σ, tr) := by
  have oa := Tm.valid_okA ha
  have ob := Tm.valid_okA hb
  have hn : RangeIn V25 Sub.none := fun n u h => (by cases h)
  obtain ⟨g, ⟨r, σ, tr⟩, h⟩ := uniF_total V25 _ _ Sub.none a b IsGood.none hn (Tm.okA_inV a oa) (Tm.okA_inV b ob) (Nat.le_refl _) (Nat.le_refl _)
  obtain ⟨h1, h2⟩ := (uni_inV g).1 Sub.none a b r σ tr V25 IsGood.none h hn (Tm.okA_inV a oa) (Tm.okA_inV b ob)
  exact ⟨r, σ, tr, ⟨⟨g, h⟩, uniF_uni IsGood.none h, (uni_all okA_kids g).1 Sub.none a b r σ tr IsGood.none h (fun n u h => (by cases h)) oa ob, h1, h2⟩, uniR_eq h⟩
theorem findB_filterMap (σ : Sub) (f : Tm → Tm) (n : Int) : ∀ l : List Nat, findB (l.filterMap fun i : Nat => (σ (i : Int)).map fun u => ((i : Int), f u)) n = if n ∈ l.map (fun i : Nat => (i : Int)) then (σ n).map f else none
  | [] => rfl
  | i :: l => by
    have ih := findB_filterMap σ f n l
    rw [List.filterMap_cons]
    cases h : σ (i : Int) with
    | none =>
      simp only [Option.map_none, ih, List.map_cons, List.mem_cons]
      by_cases h2 : n = (i : Int)
      · subst h2
        rw [h]
        simp
      · simp [h2]
    | some u =>
      simp only [Option.map_some, findB, List.map_cons, List.mem_cons, ih]
      by_cases h2 : (i : Int) = n
      · subst h2
        rw [h]
        simp
      · rw [if_neg h2]
        simp [Ne.symm h2]
theorem Unif.subB {a b : Tm} {r : Bool} {σ : Sub} {tr : List Int} (h : Unif a b r σ tr) : AW.subB (bindsOf σ) = rs σ := by
  obtain ⟨rk, B, G⟩ := h.uni.good.rs
  funext n
  have e : findB (bindsOf σ) n = if n ∈ V25 then (σ n).map (Tm.mapv (rs σ)) else none := findB_filterMap σ _ n _
  unfold AW.subB
  rw [e, G.sol n]
  split
  · cases σ n <;> rfl
  · rename_i hn
    cases hs : σ n with
    | none => rfl
    | some u => exact absurd (h.trV n (h.uni.out hs)) hn
theorem nodup_len : ∀ {l V : List Int}, l.Nodup → (∀ x ∈ l, x ∈ V) → l.length ≤ V.length
  | [], _, _, _ => Nat.zero_le _
  | x :: l, V, h, hV => by
    rw [List.nodup_cons] at h
    have hx := hV x (by simp)
    have := nodup_len (V := V.erase x) h.2 fun y hy => (List.mem_erase_of_ne (by rintro rfl; exact h.1 hy)).2 (hV y (by simp [hy]))
    rw [List.length_erase_of_mem hx] at this
    have := List.length_pos_of_mem hx
    simp only [List.length_cons]
    omega
theorem nodup_V25 {tr : List Int} (h : tr.Nodup) (hV : ∀ m ∈ tr, m ∈ V25) : tr.length ≤ 26 := by
  have := nodup_len h hV
  simpa [V25] using this
end Go.AW

/- The store of bindings in memory. -/
namespace Go.AW
set_option linter.unusedSimpArgs false
set_option linter.unusedVariables false

abbrev zt : AV := .agg [.int .i64 0, .int .i64 0, .str ⟨#[]⟩, .fslice []]
def mapOf (σ : Sub) : Int → Option AV := fun n => (σ n).map Tm.av
/-- What a look at a variable finds. -/
def found : Option Tm → AV
  | some u => .tup [u.av, .bool true]
  | none => .tup [zt, .bool false]
theorem look_sub {P : Program} {st : Store} {m : Nat} {σ : Sub} {t kt et : TypeId} {n : Int} (hm : st m = some (.map (mapOf σ))) (hu : P.underlying t = some (.map kt et)) (hk : P.underlying kt = some (.int .i64)) (hz : zV P et = some zt) :
    aLookup P st t true (.map m) (.int .i64 n) = some (found (σ n)) := by
  unfold aLookup
  simp only [hm, hu, hk, mapOf]
  cases h : σ n with
  | none => simp [hz, found, AV.isJunk]
  | some u => simp [found, Tm.av_junk]
theorem upd_sub {P : Program} {st : Store} {m : Nat} {σ : Sub} {t kt et : TypeId} {n : Int} {u : Tm} {K : AV → Store → Prop} (hm : st m = some (.map (mapOf σ))) (hu : P.underlying t = some (.map kt et)) (hk : P.underlying kt = some (.int .i64))
    (h : K .undef (st.upd m (.map (mapOf (σ.set n u))))) : aMapUpdate P t st (.map m) (.int .i64 n) u.av K := by
  unfold aMapUpdate
  simp only [hu, hm, hk]
  refine ⟨Tm.av_junk u, ?_⟩
  have : mapSet (mapOf σ) n (some u.av) = mapOf (σ.set n u) := by
    funext x
    unfold mapSet mapOf Sub.set
    split <;> rfl
  rw [this]
  exact h
/-- The bindings are there: the struct in block c, the map in block m; q is the list of what was bound. -/
structure SubAt (st : Store) (c m : Nat) (q : AV) (σ : Sub) : Prop where
  cells : st c = some (.cells [.map m, q])
  map : st m = some (.map (mapOf σ))
theorem SubAt.upd {st : Store} {c m b : Nat} {q : AV} {σ : Sub} {o : AO} (h : SubAt st c m q σ) (hb : st b = none) : SubAt (st.upd b o) c m q σ :=
  ⟨(by rw [Store.upd_ne _ _ (by rintro rfl; rw [h.cells] at hb; cases hb)]; exact h.cells), (by rw [Store.upd_ne _ _ (by rintro rfl; rw [h.map] at hb; cases hb)]; exact h.map)⟩
theorem SubAt.upd2 {st : Store} {c m b : Nat} {q : AV} {σ : Sub} {o : AO} (h : SubAt st c m q σ) (h1 : b ≠ c) (h2 : b ≠ m) : SubAt (st.upd b o) c m q σ :=
  ⟨(by rw [Store.upd_ne _ _ (Ne.symm h1)]; exact h.cells), by rw [Store.upd_ne _ _ (Ne.symm h2)]; exact h.map⟩
theorem SubAt.ne {st : Store} {c m b : Nat} {q : AV} {σ : Sub} (h : SubAt st c m q σ) (hb : st b = none) : b ≠ c ∧ b ≠ m := ⟨(by rintro rfl; rw [h.cells] at hb; cases hb), (by rintro rfl; rw [h.map] at hb; cases hb)⟩
theorem SubAt.cm {st : Store} {c m : Nat} {q : AV} {σ : Sub} (h : SubAt st c m q σ) : c ≠ m := by rintro rfl; have := h.cells; rw [h.map] at this; cases this

/-! ### Which variables were met -/
def metOf (M : List Int) : Int → Option AV := fun x => if x ∈ M then some (.bool true) else none
theorem look_met {P : Program} {st : Store} {mm : Nat} {M : List Int} {t kt et : TypeId} {n : Int} (hm : st mm = some (.map (metOf M))) (hu : P.underlying t = some (.map kt et)) (hk : P.underlying kt = some (.int .i64)) (hz : zV P et = some (.bool false)) :
    aLookup P st t false (.map mm) (.int .i64 n) = some (.bool (decide (n ∈ M))) := by
  unfold aLookup
  simp only [hm, hu, hk, metOf]
  by_cases h : n ∈ M
  · simp [h, AV.isJunk]
  · simp [h, hz, AV.isJunk]
theorem upd_met {P : Program} {st : Store} {mm : Nat} {M : List Int} {t kt et : TypeId} {n : Int} {K : AV → Store → Prop} (hm : st mm = some (.map (metOf M))) (hu : P.underlying t = some (.map kt et)) (hk : P.underlying kt = some (.int .i64))
    (h : K .undef (st.upd mm (.map (metOf (n :: M))))) : aMapUpdate P t st (.map mm) (.int .i64 n) (.bool true) K := by
  unfold aMapUpdate
  simp only [hu, hm, hk]
  refine ⟨rfl, ?_⟩
  have : mapSet (metOf M) n (some (.bool true)) = metOf (n :: M) := by
    funext x
    unfold mapSet metOf
    by_cases e : x = n
    · simp [e]
    · simp [e]
  rw [this]
  exact h
theorem metOf_nil : metOf [] = fun _ => none := by funext x; simp [metOf]
end Go.AW

/- Unification: variables as they are met; the reference's list of bindings in memory. -/
namespace Go.AW
set_option linter.unusedSimpArgs false
set_option linter.unusedVariables false

theorem vars_spec (t : Tm) : t.wf = true → ∀ l : List Int, (∀ v, v ∈ t.vars l ↔ v ∈ l ∨ v ∈ t.vl) ∧ (l.Nodup → (t.vars l).Nodup) ∧ ∃ m, t.vars l = l ++ m := by
  induction t using Tm.ind with
  | h k n s ts ih =>
    intro h l
    obtain ⟨hk, hw⟩ := Tm.wf_mk h
    have list : ∀ xs : List Tm, (∀ x ∈ xs, x ∈ ts) → ∀ l : List Int, (∀ v, v ∈ tmsVars xs l ↔ v ∈ l ∨ ∃ x ∈ xs, v ∈ x.vl) ∧ (l.Nodup → (tmsVars xs l).Nodup) ∧ ∃ m, tmsVars xs l = l ++ m := by
      intro xs
      induction xs with
      | nil => intro _ l; exact ⟨by simp [tmsVars], fun h => h, [], by simp [tmsVars]⟩
      | cons x xs ihx =>
        intro hs l
        obtain ⟨a1, a2, m1, a3⟩ := ih x (hs x (by simp)) (hw x (hs x (by simp))) l
        obtain ⟨b1, b2, m2, b3⟩ := ihx (fun y hy => hs y (by simp [hy])) (x.vars l)
        simp only [tmsVars]
        refine ⟨fun v => ?_, fun hn => b2 (a2 hn), m1 ++ m2, by rw [b3, a3, List.append_assoc]⟩
        rw [b1, a1]
        simp [or_assoc]
    rw [Tm.vars]
    by_cases hk1 : k = 1
    · obtain rfl := hk hk1
      rw [Tm.vl_var hk1]
      simp only [tmsVars]
      split
      · rename_i hc
        refine ⟨fun v => by simp, fun hn => ?_, [n], rfl⟩
        rw [List.nodup_append]
        refine ⟨hn, by simp, fun x hx y hy e => ?_⟩
        simp only [List.mem_cons, List.not_mem_nil, or_false] at hy
        subst hy e
        exact hc.2 hx
      · rename_i hc
        refine ⟨fun v => ?_, fun hn => hn, [], by simp⟩
        have hm : n ∈ l := Classical.byContradiction fun h => hc ⟨hk1, h⟩
        simp only [List.mem_cons, List.not_mem_nil, or_false]
        exact ⟨.inl, fun h => h.elim id fun e => e ▸ hm⟩
    · rw [if_neg (by simp [hk1])]
      obtain ⟨c1, c2, c3⟩ := list ts (fun _ h => h) l
      exact ⟨fun v => by rw [c1, Tm.vl_mk hk1], c2, c3⟩

/-- All that is reached is looked at, and it is not there. -/
theorem within_no {σ : Sub} {R : Int → Tm} {rk : Int → Nat} {B : Nat} (G : Good σ R rk B) {n : Int} {W : List Int} (hW : ∀ w ∈ W, w ≠ n ∧ ∀ u, σ w = some u → ∀ v ∈ u.vl, v ∈ W) : ∀ w ∈ W, n ∉ (R w).vl := by
  refine fun w => G.ind (p := fun w => w ∈ W → n ∉ (R w).vl) (fun w h hw hm => ?_) (fun w u h ih hw hm => ?_) w
  · rw [G.free h, vl_vr] at hm
    simp only [List.mem_cons, List.not_mem_nil, or_false] at hm
    exact (hW w hw).1 hm.symm
  · rw [G.bound h] at hm
    obtain ⟨v, hv, hnv⟩ := (vl_mapv u).1 hm
    exact ih v hv ((hW w hw).2 u h v hv) hnv

/-! ### A list in memory, one element of it -/
theorem flat_mid {w : Nat} {l : List AV} {i : Nat} {e : AV} (hw : ∀ e ∈ l, e.width = w) (h : l[i]? = some e) :
    ∃ A B, l.flatMap AV.cells = A ++ e.cells ++ B ∧ A.length = i * w ∧ ∀ e', (l.set i e').flatMap AV.cells = A ++ e'.cells ++ B := by
  obtain ⟨hi, he⟩ := List.getElem?_eq_some_iff.1 h
  refine ⟨(l.take i).flatMap AV.cells, (l.drop (i + 1)).flatMap AV.cells, ?_, ?_, fun e' => ?_⟩
  · have : l = l.take i ++ e :: l.drop (i + 1) := by rw [← he, ← List.drop_eq_getElem_cons hi, List.take_append_drop]
    conv => lhs; rw [this]
    simp
  · rw [flat_length (fun e he => hw e (List.mem_of_mem_take he)), List.length_take, Nat.min_eq_left (by omega)]
  · rw [List.set_eq_take_append_cons_drop, if_pos hi]
    simp
def cellOf : Option Tm → AV
  | some u => u.av
  | none => zt
/-- The reference's bindings. -/
def arrS (σ : Sub) : List AV := (List.range 26).map fun i : Nat => cellOf (σ (i : Int))
theorem cellOf_width (o : Option Tm) : (cellOf o).width = 4 := by cases o <;> first | rfl | exact Tm.av_width _
theorem cellOf_cells (o : Option Tm) : (cellOf o).cells.length = 4 := by rw [cells_width, cellOf_width]
theorem arrS_widths (σ : Sub) : ∀ e ∈ arrS σ, e.width = 4 := by intro e h; simp only [arrS, List.mem_map] at h; obtain ⟨i, _, rfl⟩ := h; exact cellOf_width _
theorem arrS_get (σ : Sub) {i : Nat} (h : i < 26) : (arrS σ)[i]? = some (cellOf (σ (i : Int))) := by
  simp only [arrS, List.getElem?_map, List.getElem?_range h, Option.map_some]
theorem arrS_set (σ : Sub) {i : Nat} (h : i < 26) (u : Tm) : (arrS σ).set i u.av = arrS (σ.set (i : Int) u) := by
  apply List.ext_getElem?
  intro j
  by_cases hj : j < 26
  · rw [arrS_get _ hj, List.getElem?_set]
    by_cases e : i = j
    · subst e
      simp [arrS, hj, Sub.set, cellOf]
    · rw [if_neg e, arrS_get _ hj]
      simp only [Sub.set]
      rw [if_neg (by omega)]
  · rw [List.getElem?_eq_none (by simp [arrS]; omega), List.getElem?_eq_none (by simp [arrS]; omega)]
theorem arrS_none : (List.replicate 26 zt).flatMap AV.cells = (arrS Sub.none).flatMap AV.cells := by
  simp only [arrS, Sub.none, cellOf]
  rw [List.map_const', List.length_range]
/-- The reference's bindings are there. -/
def ArrAt (st : Store) (b : Nat) (σ : Sub) : Prop := st b = some (.cells ((arrS σ).flatMap AV.cells))
theorem ArrAt.mid {st : Store} {b : Nat} {σ : Sub} (h : ArrAt st b σ) {i : Nat} (hi : i < 26) :
    ∃ A B, st b = some (.cells (A ++ (cellOf (σ (i : Int))).cells ++ B)) ∧ A.length = i * 4 ∧ ∀ (u : Tm), ArrAt (st.upd b (.cells (A ++ u.av.cells ++ B))) b (σ.set (i : Int) u) := by
  obtain ⟨A, B, h1, h2, h3⟩ := flat_mid (arrS_widths σ) (arrS_get σ hi)
  refine ⟨A, B, by rw [← h1]; exact h, h2, fun u => ?_⟩
  unfold ArrAt
  rw [Store.upd_same, ← arrS_set σ hi, h3]
theorem ArrAt.upd {st : Store} {b x : Nat} {σ : Sub} {o : AO} (h : ArrAt st b σ) (hx : x ≠ b) : ArrAt (st.upd x o) b σ := by
  unfold ArrAt
  rw [Store.upd_ne _ _ (Ne.symm hx)]
  exact h
end Go.AW


/- Copies of terms: what the reference's functions return. -/
namespace Go.AW
open Go.Proofs.Try
set_option linter.unusedSimpArgs false
set_option maxRecDepth 100000

theorem tf_V5_138 : (type_of% tI_2) ∧ (type_of% zI_2) ∧ (type_of% Go.Proofs.Try.underlying2) ∧ (type_of% tI_3) ∧ (type_of% zI_3) ∧ (type_of% Go.Proofs.Try.underlying3) ∧ (type_of% tI_4) ∧ (type_of% zI_4) ∧ (type_of% Go.Proofs.Try.underlying4) ∧ (type_of% tI_5) ∧ (type_of% zI_5) ∧ (type_of% Go.Proofs.Try.underlying5) ∧ (type_of% tI_6) ∧ (type_of% zI_6) ∧ (type_of% Go.Proofs.Try.underlying6) ∧ (type_of% tI_9) ∧ (type_of% zI_9) ∧ (type_of% Go.Proofs.Try.underlying9) ∧ (type_of% tI_12) ∧ (type_of% zI_12) ∧ (type_of% Go.Proofs.Try.underlying12) ∧ (type_of% tI_14) ∧ (type_of% zI_14) ∧ (type_of% fI_14_0) ∧ (type_of% fI_14_1) ∧ (type_of% bI_14) ∧ (type_of% tI_15) ∧ (type_of% zI_15) ∧ (type_of% tI_27) ∧ (type_of% zI_27) ∧ (type_of% eI_27) ∧ (type_of% eB_27) ∧ (type_of% eZ_27) ∧ (type_of% Go.Proofs.Try.underlying27) ∧ (type_of% tI_31) ∧ (type_of% zI_31) ∧ (type_of% fI_31_0) ∧ (type_of% bI_31) ∧ (type_of% tI_41) ∧ (type_of% zI_41) ∧ (type_of% fI_41_0) ∧ (type_of% fI_41_1) ∧ (type_of% fI_41_2) ∧ (type_of% fI_41_3) ∧ (type_of% bI_41) ∧ (type_of% tI_64) ∧ (type_of% zI_64) ∧ (type_of% fI_64_0) ∧ (type_of% fI_64_1) ∧ (type_of% bI_64) := ⟨tI_2, zI_2, Go.Proofs.Try.underlying2, tI_3, zI_3, Go.Proofs.Try.underlying3, tI_4, zI_4, Go.Proofs.Try.underlying4, tI_5, zI_5, Go.Proofs.Try.underlying5, tI_6, zI_6, Go.Proofs.Try.underlying6, tI_9, zI_9, Go.Proofs.Try.underlying9, tI_12, zI_12, Go.Proofs.Try.underlying12, tI_14, zI_14, fI_14_0, fI_14_1, bI_14, tI_15, zI_15, tI_27, zI_27, eI_27, eB_27, eZ_27, Go.Proofs.Try.underlying27, tI_31, zI_31, fI_31_0, bI_31, tI_41, zI_41, fI_41_0, fI_41_1, fI_41_2, fI_41_3, bI_41, tI_64, zI_64, fI_64_0, fI_64_1, bI_64⟩
theorem c_l1Copy : ∀ (t : Tm) (st : Store), t.small = true → ACalls prog 138 [t.av] st (fun r st' => r = t.av ∧ st' = st)
  | .mk k n s ts, st, hsm => by
    obtain ⟨hlen, hsms⟩ := Tm.small_mk hsm
    have IH := fun (x : Tm) (hx : x ∈ ts) st => c_l1Copy x st (hsms x hx)
    refine ACalls.drop2 (ACalls.fin ?_)
    simp only [Tm.av_mk]
    refine acalls_fit [] func138 ntmps138 rfl rfl (by kernel_rfl) (by decide +kernel) (by show 1 ≤ _; decide +kernel) ?_
    simp only [fitsL, AV.fits, and_true, List.length_map]
    intro ⟨_, _, _, hl, _⟩
    simp -implicitDefEqProofs only [evb0, evb1, evb2, evb3, evb4, evb5, evb6, evb7, evb8, evb9, ↓evZ2, ↓evZ3, ↓Int.cast_ofNat_Int, implies_true, ne_eq, or_false, false_or, or_self, gt_iff_lt, isMut, aFn, List.contains, List.elem, aBox, aField, aLoad, sub, aNil, aPick, aExt, aFld, gd, noJunk, plainOp, aBuildSlice, aBuild, aFill, aParts, seqParts, fitAll, List.range', ↓reduceIte, reduceCtorEq, Nat.reduceEqDiff, Nat.reduceAdd, Nat.reduceLeDiff, Nat.reduceMul, Nat.reduceLT, Nat.reduceBEq, Int.reduceEq, tf_V5_138]
    intro b2 hb2 c hc
    have hne : c ≠ b2 := by rintro rfl; rw [Store.upd_same] at hc; cases hc
    have hn2 : st c = none := by rw [Store.upd_ne st _ hne] at hc; exact hc
    simp -implicitDefEqProofs only [Store.upd_upd, setCells, evb0, evb1, evb2, evb3, evb4, evb5, evb6, evb7, evb8, evb9, ↓evZ2, ↓evZ3, ↓Int.cast_ofNat_Int, implies_true, ne_eq, or_false, false_or, or_self, gt_iff_lt, isMut, aFn, List.contains, List.elem, aBox, aField, aLoad, sub, aNil, aPick, aExt, aFld, gd, noJunk, plainOp, aBuildSlice, aBuild, aFill, aParts, seqParts, fitAll, List.range', ↓reduceIte, reduceCtorEq, Nat.reduceEqDiff, Nat.reduceAdd, Nat.reduceLeDiff, Nat.reduceMul, Nat.reduceLT, Nat.reduceBEq, Int.reduceEq, tf_V5_138]
    refine arun_each (σ := Nat) [] [1, 2, 3] ts (fun i b => (((ts.take i).map (fun y => y)).map Tm.av ≠ [] → (Store.upd (st.upd b2 (.cells [AV.int .i64 0, AV.int .i64 0, AV.str ⟨#[]⟩, AV.fslice []])) c (.cells ([AV.int .i64 k, AV.int .i64 n, AV.str s] ++ [accV 4 b (((ts.take i).map (fun y => y)).map Tm.av)]))) b = none)) (fun i b => [(4, .int .i64 i)]) (fun i b => kidS (st.upd b2 (.cells [AV.int .i64 0, AV.int .i64 0, AV.str ⟨#[]⟩, AV.fslice []])) c b [AV.int .i64 k, AV.int .i64 n, AV.str s] (((ts.take i).map (fun y => y)).map Tm.av)) (by decide +kernel)
      ⟨0, fun h => absurd rfl h, LessL.mk (by simp -implicitDefEqProofs only [List.length_map, evb0, evb1, evb2, evb3, evb4, evb5, evb6, evb7, evb8, evb9, ↓evZ2, ↓evZ3, ↓Int.cast_ofNat_Int, implies_true, ne_eq, or_false, false_or, or_self, gt_iff_lt, isMut, aFn, List.contains, List.elem, aBox, aField, aLoad, sub, aNil, aPick, aExt, aFld, gd, noJunk, plainOp, aBuildSlice, aBuild, aFill, aParts, seqParts, fitAll, List.range', ↓reduceIte, reduceCtorEq, Nat.reduceEqDiff, Nat.reduceAdd, Nat.reduceLeDiff, Nat.reduceMul, Nat.reduceLT, Nat.reduceBEq, Int.reduceEq, tf_V5_138])⟩ (fun i x b hx hlt hlt' hdr hinv => ?_) (fun b hge hinv => ?_)
    case refine_1 =>
      have hw := wrap64 (n := (i : Int) + 1) (by omega) (by omega)
      have hlen' : (((ts.take i).map (fun y => y)).map Tm.av).length = i := by simp only [List.length_map, List.length_take]; omega
      have htk : (ts.take (i + 1)).map (fun y => y) = (ts.take i).map (fun y => y) ++ [(fun y => y) x] := by rw [List.take_add_one, hx]; simp
      have hbo := kidS_c hinv
      simp -implicitDefEqProofs only [List.length_map, hlt', Nat.zero_add, evb0, evb1, evb2, evb3, evb4, evb5, evb6, evb7, evb8, evb9, ↓evZ2, ↓evZ3, ↓Int.cast_ofNat_Int, implies_true, ne_eq, or_false, false_or, or_self, gt_iff_lt, isMut, aFn, List.contains, List.elem, aBox, aField, aLoad, sub, aNil, aPick, aExt, aFld, gd, noJunk, plainOp, aBuildSlice, aBuild, aFill, aParts, seqParts, fitAll, List.range', ↓reduceIte, reduceCtorEq, Nat.reduceEqDiff, Nat.reduceAdd, Nat.reduceLeDiff, Nat.reduceMul, Nat.reduceLT, Nat.reduceBEq, Int.reduceEq, tf_V5_138]
      refine arun_plan [(0, 1), (2, 1), (4, 1), (1, 2), (3, 2), (5, 1), (6, 2), (7, 2), (8, 1), (9, 0), (10, 1), (11, 0)] [0, 2, 4, 1, 3, 5, 6, 7, 8, 10] mixed (by decide +kernel) (by decide +kernel) (by decide +kernel) ?_
      simp -implicitDefEqProofs only [ev_at (av := Tm.av) eI_27 hx (Tm.av_width x), Tm.av_agg, Tm.av_width, hbo, accV_agg, accV_width, Nat.zero_add, evb0, evb1, evb2, evb3, evb4, evb5, evb6, evb7, evb8, evb9, ↓evZ2, ↓evZ3, ↓Int.cast_ofNat_Int, implies_true, ne_eq, or_false, false_or, or_self, gt_iff_lt, isMut, aFn, List.contains, List.elem, aBox, aField, aLoad, sub, aNil, aPick, aExt, aFld, gd, noJunk, plainOp, aBuildSlice, aBuild, aFill, aParts, seqParts, fitAll, List.range', ↓reduceIte, reduceCtorEq, Nat.reduceEqDiff, Nat.reduceAdd, Nat.reduceLeDiff, Nat.reduceMul, Nat.reduceLT, Nat.reduceBEq, Int.reduceEq, tf_V5_138]
      refine callH_mk (IH x (List.mem_of_getElem? hx) _) ?_
      simp -implicitDefEqProofs only [Tm.av_agg, Tm.av_width, Tm.av_junk, hbo, accV_agg, accV_width, Nat.zero_add, evb0, evb1, evb2, evb3, evb4, evb5, evb6, evb7, evb8, evb9, ↓evZ2, ↓evZ3, ↓Int.cast_ofNat_Int, implies_true, ne_eq, or_false, false_or, or_self, gt_iff_lt, isMut, aFn, List.contains, List.elem, aBox, aField, aLoad, sub, aNil, aPick, aExt, aFld, gd, noJunk, plainOp, aBuildSlice, aBuild, aFill, aParts, seqParts, fitAll, List.range', ↓reduceIte, reduceCtorEq, Nat.reduceEqDiff, Nat.reduceAdd, Nat.reduceLeDiff, Nat.reduceMul, Nat.reduceLT, Nat.reduceBEq, Int.reduceEq, tf_V5_138]
      refine acc_append eI_27 eB_27 eZ_27 rfl rfl (by intro e he; simp only [List.mem_cons, List.not_mem_nil, or_false] at he; subst he; exact ⟨Tm.av_width _, Tm.av_store _⟩) (tm_widths _) hinv (by simp only [hlen', List.length_cons, List.length_nil]; omega) (by simp only [hlen', List.length_cons, List.length_nil]; omega) (fun b' hb' => ?_)
      rw [show (((ts.take i).map (fun y => y)).map Tm.av) ++ [((fun y => y) x).av] = ((ts.take (i + 1)).map (fun y => y)).map Tm.av by rw [htk]; simp] at hb' ⊢
      obtain ⟨g1, g2, g3⟩ := kidS_set hb'
      simp only [List.cons_append, List.nil_append] at g1 g3
      simp -implicitDefEqProofs only [g3, accV_cells, accV_store, setCells, Nat.le_refl, g1, hw, evb0, evb1, evb2, evb3, evb4, evb5, evb6, evb7, evb8, evb9, ↓evZ2, ↓evZ3, ↓Int.cast_ofNat_Int, implies_true, ne_eq, or_false, false_or, or_self, gt_iff_lt, isMut, aFn, List.contains, List.elem, aBox, aField, aLoad, sub, aNil, aPick, aExt, aFld, gd, noJunk, plainOp, aBuildSlice, aBuild, aFill, aParts, seqParts, fitAll, List.range', ↓reduceIte, reduceCtorEq, Nat.reduceEqDiff, Nat.reduceAdd, Nat.reduceLeDiff, Nat.reduceMul, Nat.reduceLT, Nat.reduceBEq, Int.reduceEq, tf_V5_138]
      exact ⟨b', g2, LessL.mk (by simp -implicitDefEqProofs only [evb0, evb1, evb2, evb3, evb4, evb5, evb6, evb7, evb8, evb9, ↓evZ2, ↓evZ3, ↓Int.cast_ofNat_Int, implies_true, ne_eq, or_false, false_or, or_self, gt_iff_lt, isMut, aFn, List.contains, List.elem, aBox, aField, aLoad, sub, aNil, aPick, aExt, aFld, gd, noJunk, plainOp, aBuildSlice, aBuild, aFill, aParts, seqParts, fitAll, List.range', ↓reduceIte, reduceCtorEq, Nat.reduceEqDiff, Nat.reduceAdd, Nat.reduceLeDiff, Nat.reduceMul, Nat.reduceLT, Nat.reduceBEq, Int.reduceEq, tf_V5_138])⟩
    have hbo := kidS_c hinv
    rw [List.take_length] at hinv hbo ⊢
    simp -implicitDefEqProofs only [List.length_map, hge, evb0, evb1, evb2, evb3, evb4, evb5, evb6, evb7, evb8, evb9, ↓evZ2, ↓evZ3, ↓Int.cast_ofNat_Int, implies_true, ne_eq, or_false, false_or, or_self, gt_iff_lt, isMut, aFn, List.contains, List.elem, aBox, aField, aLoad, sub, aNil, aPick, aExt, aFld, gd, noJunk, plainOp, aBuildSlice, aBuild, aFill, aParts, seqParts, fitAll, List.range', ↓reduceIte, reduceCtorEq, Nat.reduceEqDiff, Nat.reduceAdd, Nat.reduceLeDiff, Nat.reduceMul, Nat.reduceLT, Nat.reduceBEq, Int.reduceEq, tf_V5_138]
    simp -implicitDefEqProofs only [hbo, evb0, evb1, evb2, evb3, evb4, evb5, evb6, evb7, evb8, evb9, ↓evZ2, ↓evZ3, ↓Int.cast_ofNat_Int, implies_true, ne_eq, or_false, false_or, or_self, gt_iff_lt, isMut, aFn, List.contains, List.elem, aBox, aField, aLoad, sub, aNil, aPick, aExt, aFld, gd, noJunk, plainOp, aBuildSlice, aBuild, aFill, aParts, seqParts, fitAll, List.range', ↓reduceIte, reduceCtorEq, Nat.reduceEqDiff, Nat.reduceAdd, Nat.reduceLeDiff, Nat.reduceMul, Nat.reduceLT, Nat.reduceBEq, Int.reduceEq, tf_V5_138]
    have hb2c : b2 ≠ c := Ne.symm hne
    have hS : (st.upd b2 (.cells [AV.int .i64 0, AV.int .i64 0, AV.str ⟨#[]⟩, AV.fslice []])) b2 ≠ none := by rw [Store.upd_same]; simp
    have h1 := kidS_ne hinv hS hb2c
    rw [Store.upd_same] at h1
    simp -implicitDefEqProofs only [h1, accV_store, accV_cells, setCells, Nat.le_refl, evb0, evb1, evb2, evb3, evb4, evb5, evb6, evb7, evb8, evb9, ↓evZ2, ↓evZ3, ↓Int.cast_ofNat_Int, implies_true, ne_eq, or_false, false_or, or_self, gt_iff_lt, isMut, aFn, List.contains, List.elem, aBox, aField, aLoad, sub, aNil, aPick, aExt, aFld, gd, noJunk, plainOp, aBuildSlice, aBuild, aFill, aParts, seqParts, fitAll, List.range', ↓reduceIte, reduceCtorEq, Nat.reduceEqDiff, Nat.reduceAdd, Nat.reduceLeDiff, Nat.reduceMul, Nat.reduceLT, Nat.reduceBEq, Int.reduceEq, tf_V5_138]
    obtain ⟨h2, h3⟩ := kidS_upd (o := .cells [AV.int .i64 k, AV.int .i64 n, AV.str s, accV 4 b ((ts.map fun y => y).map Tm.av)]) hinv hS hb2c
    refine ⟨b, _, _, h2, h3, tm_junk _, ⟨4, tm_widths _⟩, ?_, ?_⟩
    · simp only [fin_agg, List.map_cons, List.map_nil, fin_int, fin_str, accV_fin, List.map_id']
    · exact (((Drops.refl _).upd hb2).upd hn2).upd hb2
termination_by t => SizeOf.sizeOf t
decreasing_by have := List.sizeOf_lt_of_mem hx; simp only [Tm.mk.sizeOf_spec]; omega
end Go.AW


/- Valid terms: what the reference's functions return. -/
namespace Go.AW
open Go.Proofs.Try
set_option linter.unusedSimpArgs false
set_option maxRecDepth 100000

theorem tf_Gs5_172 : (type_of% tI_2) ∧ (type_of% zI_2) ∧ (type_of% Go.Proofs.Try.underlying2) ∧ (type_of% tI_3) ∧ (type_of% zI_3) ∧ (type_of% Go.Proofs.Try.underlying3) ∧ (type_of% tI_4) ∧ (type_of% zI_4) ∧ (type_of% Go.Proofs.Try.underlying4) ∧ (type_of% tI_5) ∧ (type_of% zI_5) ∧ (type_of% Go.Proofs.Try.underlying5) ∧ (type_of% tI_6) ∧ (type_of% zI_6) ∧ (type_of% Go.Proofs.Try.underlying6) ∧ (type_of% tI_7) ∧ (type_of% zI_7) ∧ (type_of% fI_7_0) ∧ (type_of% fI_7_1) ∧ (type_of% fI_7_2) ∧ (type_of% fI_7_3) ∧ (type_of% bI_7) ∧ (type_of% tI_8) ∧ (type_of% zI_8) ∧ (type_of% fI_8_0) ∧ (type_of% fI_8_1) ∧ (type_of% fI_8_2) ∧ (type_of% fI_8_3) ∧ (type_of% bI_8) ∧ (type_of% tI_9) ∧ (type_of% zI_9) ∧ (type_of% Go.Proofs.Try.underlying9) ∧ (type_of% tI_13) ∧ (type_of% zI_13) ∧ (type_of% fI_13_0) ∧ (type_of% fI_13_1) ∧ (type_of% bI_13) ∧ (type_of% tI_22) ∧ (type_of% zI_22) ∧ (type_of% eI_22) ∧ (type_of% eB_22) ∧ (type_of% eZ_22) ∧ (type_of% Go.Proofs.Try.underlying22) ∧ (type_of% tI_23) ∧ (type_of% zI_23) ∧ (type_of% fI_23_0) ∧ (type_of% bI_23) ∧ (type_of% tI_27) ∧ (type_of% zI_27) ∧ (type_of% eI_27) ∧ (type_of% eB_27) ∧ (type_of% eZ_27) ∧ (type_of% Go.Proofs.Try.underlying27) ∧ (type_of% tI_39) ∧ (type_of% zI_39) ∧ (type_of% eI_39) ∧ (type_of% eB_39) ∧ (type_of% eZ_39) ∧ (type_of% Go.Proofs.Try.underlying39) ∧ (type_of% tI_41) ∧ (type_of% zI_41) ∧ (type_of% fI_41_0) ∧ (type_of% fI_41_1) ∧ (type_of% fI_41_2) ∧ (type_of% fI_41_3) ∧ (type_of% bI_41) ∧ (type_of% tI_44) ∧ (type_of% zI_44) ∧ (type_of% eI_44) ∧ (type_of% eB_44) ∧ (type_of% eZ_44) ∧ (type_of% Go.Proofs.Try.underlying44) ∧ (type_of% tI_54) ∧ (type_of% zI_54) ∧ (type_of% fI_54_0) ∧ (type_of% fI_54_1) ∧ (type_of% bI_54) ∧ (type_of% tI_60) ∧ (type_of% zI_60) ∧ (type_of% eI_60) ∧ (type_of% eB_60) ∧ (type_of% eZ_60) ∧ (type_of% Go.Proofs.Try.underlying60) ∧ (type_of% tI_63) ∧ (type_of% zI_63) ∧ (type_of% fI_63_0) ∧ (type_of% fI_63_1) ∧ (type_of% bI_63) ∧ (type_of% tI_64) ∧ (type_of% zI_64) ∧ (type_of% fI_64_0) ∧ (type_of% fI_64_1) ∧ (type_of% bI_64) := ⟨tI_2, zI_2, Go.Proofs.Try.underlying2, tI_3, zI_3, Go.Proofs.Try.underlying3, tI_4, zI_4, Go.Proofs.Try.underlying4, tI_5, zI_5, Go.Proofs.Try.underlying5, tI_6, zI_6, Go.Proofs.Try.underlying6, tI_7, zI_7, fI_7_0, fI_7_1, fI_7_2, fI_7_3, bI_7, tI_8, zI_8, fI_8_0, fI_8_1, fI_8_2, fI_8_3, bI_8, tI_9, zI_9, Go.Proofs.Try.underlying9, tI_13, zI_13, fI_13_0, fI_13_1, bI_13, tI_22, zI_22, eI_22, eB_22, eZ_22, Go.Proofs.Try.underlying22, tI_23, zI_23, fI_23_0, bI_23, tI_27, zI_27, eI_27, eB_27, eZ_27, Go.Proofs.Try.underlying27, tI_39, zI_39, eI_39, eB_39, eZ_39, Go.Proofs.Try.underlying39, tI_41, zI_41, fI_41_0, fI_41_1, fI_41_2, fI_41_3, bI_41, tI_44, zI_44, eI_44, eB_44, eZ_44, Go.Proofs.Try.underlying44, tI_54, zI_54, fI_54_0, fI_54_1, bI_54, tI_60, zI_60, eI_60, eB_60, eZ_60, Go.Proofs.Try.underlying60, tI_63, zI_63, fI_63_0, fI_63_1, bI_63, tI_64, zI_64, fI_64_0, fI_64_1, bI_64⟩
theorem c_l1Own (k n : Int) (s : ByteArray) (ts : List Tm) (st : Store) : ACalls prog 172 [(Tm.mk k n s ts).av] st (fun r st' => r = .bool (ownOk k n s ts.length) ∧ st' = st) := by
  refine acalls_fit [] func172 ntmps172 rfl rfl (by kernel_rfl) (by decide +kernel) (by show 1 ≤ _; decide +kernel) ?_
  intro _
  simp only [Tm.av_mk]
  have hl : (ts.map Tm.av).length = ts.length := List.length_map _
  repeat' (first
    | (simp -implicitDefEqProofs only [*, evb0, evb1, evb2, evb3, evb4, evb5, evb6, evb7, evb8, evb9, ↓evZ2, ↓evZ3, ↓Int.cast_ofNat_Int, implies_true, ne_eq, or_false, false_or, or_self, gt_iff_lt, isMut, aFn, List.contains, List.elem, aBox, aField, aLoad, sub, aNil, aPick, aExt, aFld, gd, noJunk, plainOp, aBuildSlice, aBuild, aFill, aParts, seqParts, fitAll, List.range', ↓reduceIte, reduceCtorEq, Nat.reduceEqDiff, Nat.reduceAdd, Nat.reduceLeDiff, Nat.reduceMul, Nat.reduceLT, Nat.reduceBEq, Int.reduceEq, tf_Gs5_172])
    | (refine opsG_split (fun h => ?_) (fun h => ?_))
    | (refine (c_spec_NameValid s st).to ?_)
    | (refine cond_split (fun h => ?_) (fun h => ?_)))
  all_goals simp only [ownOk, *, cond_true, cond_false, Bool.not_true, Bool.not_false, Bool.true_and, Bool.false_and, Bool.and_false, Bool.and_true]

theorem tf_Gs5_125 : (type_of% tI_2) ∧ (type_of% zI_2) ∧ (type_of% Go.Proofs.Try.underlying2) ∧ (type_of% tI_3) ∧ (type_of% zI_3) ∧ (type_of% Go.Proofs.Try.underlying3) ∧ (type_of% tI_4) ∧ (type_of% zI_4) ∧ (type_of% Go.Proofs.Try.underlying4) ∧ (type_of% tI_5) ∧ (type_of% zI_5) ∧ (type_of% Go.Proofs.Try.underlying5) ∧ (type_of% tI_6) ∧ (type_of% zI_6) ∧ (type_of% Go.Proofs.Try.underlying6) ∧ (type_of% tI_7) ∧ (type_of% zI_7) ∧ (type_of% fI_7_0) ∧ (type_of% fI_7_1) ∧ (type_of% fI_7_2) ∧ (type_of% fI_7_3) ∧ (type_of% bI_7) ∧ (type_of% tI_8) ∧ (type_of% zI_8) ∧ (type_of% fI_8_0) ∧ (type_of% fI_8_1) ∧ (type_of% fI_8_2) ∧ (type_of% fI_8_3) ∧ (type_of% bI_8) ∧ (type_of% tI_9) ∧ (type_of% zI_9) ∧ (type_of% Go.Proofs.Try.underlying9) ∧ (type_of% tI_10) ∧ (type_of% zI_10) ∧ (type_of% Go.Proofs.Try.underlying10) ∧ (type_of% tI_13) ∧ (type_of% zI_13) ∧ (type_of% fI_13_0) ∧ (type_of% fI_13_1) ∧ (type_of% bI_13) ∧ (type_of% tI_15) ∧ (type_of% zI_15) ∧ (type_of% tI_16) ∧ (type_of% zI_16) ∧ (type_of% tI_24) ∧ (type_of% zI_24) ∧ (type_of% fI_24_0) ∧ (type_of% bI_24) ∧ (type_of% tI_27) ∧ (type_of% zI_27) ∧ (type_of% eI_27) ∧ (type_of% eB_27) ∧ (type_of% eZ_27) ∧ (type_of% Go.Proofs.Try.underlying27) ∧ (type_of% tI_41) ∧ (type_of% zI_41) ∧ (type_of% fI_41_0) ∧ (type_of% fI_41_1) ∧ (type_of% fI_41_2) ∧ (type_of% fI_41_3) ∧ (type_of% bI_41) ∧ (type_of% tI_64) ∧ (type_of% zI_64) ∧ (type_of% fI_64_0) ∧ (type_of% fI_64_1) ∧ (type_of% bI_64) ∧ (type_of% tI_125) ∧ (type_of% zI_125) ∧ (type_of% fI_125_0) ∧ (type_of% fI_125_1) ∧ (type_of% bI_125) ∧ (type_of% tI_172) ∧ (type_of% zI_172) ∧ (type_of% fI_172_0) ∧ (type_of% fI_172_1) ∧ (type_of% fI_172_2) ∧ (type_of% fI_172_3) ∧ (type_of% fI_172_4) ∧ (type_of% fI_172_5) ∧ (type_of% fI_172_6) ∧ (type_of% bI_172) := ⟨tI_2, zI_2, Go.Proofs.Try.underlying2, tI_3, zI_3, Go.Proofs.Try.underlying3, tI_4, zI_4, Go.Proofs.Try.underlying4, tI_5, zI_5, Go.Proofs.Try.underlying5, tI_6, zI_6, Go.Proofs.Try.underlying6, tI_7, zI_7, fI_7_0, fI_7_1, fI_7_2, fI_7_3, bI_7, tI_8, zI_8, fI_8_0, fI_8_1, fI_8_2, fI_8_3, bI_8, tI_9, zI_9, Go.Proofs.Try.underlying9, tI_10, zI_10, Go.Proofs.Try.underlying10, tI_13, zI_13, fI_13_0, fI_13_1, bI_13, tI_15, zI_15, tI_16, zI_16, tI_24, zI_24, fI_24_0, bI_24, tI_27, zI_27, eI_27, eB_27, eZ_27, Go.Proofs.Try.underlying27, tI_41, zI_41, fI_41_0, fI_41_1, fI_41_2, fI_41_3, bI_41, tI_64, zI_64, fI_64_0, fI_64_1, bI_64, tI_125, zI_125, fI_125_0, fI_125_1, bI_125, tI_172, zI_172, fI_172_0, fI_172_1, fI_172_2, fI_172_3, fI_172_4, fI_172_5, fI_172_6, bI_172⟩
theorem c_l1Shape : ∀ (t : Tm) (d : Int) (st : Store), d ≤ 30 → -1 ≤ d → ACalls prog 125 [t.av, .int .i64 d] st (fun r st' => r = .bool (t.shape d) ∧ st' = st)
  | .mk k n s ts, d, st, hd, hd0 => by
    have hc := fun (x : Tm) (hx : x ∈ ts) d st h h0 => c_l1Shape x d st h h0
    have h1 := c_l1Own k n s ts st
    rw [Tm.av_mk] at h1
    refine acalls_fit [] func125 ntmps125 rfl rfl (by kernel_rfl) (by decide +kernel) (by show 2 ≤ _; decide +kernel) ?_
    simp only [Tm.av_mk, fitsL, AV.fits, and_true, List.length_map, Tm.shape_mk]
    intro ⟨_, _, _, hl, _⟩
    generalize ownOk k n s ts.length = z at *
    simp -implicitDefEqProofs only [evb0, evb1, evb2, evb3, evb4, evb5, evb6, evb7, evb8, evb9, ↓evZ2, ↓evZ3, ↓Int.cast_ofNat_Int, implies_true, ne_eq, or_false, false_or, or_self, gt_iff_lt, isMut, aFn, List.contains, List.elem, aBox, aField, aLoad, sub, aNil, aPick, aExt, aFld, gd, noJunk, plainOp, aBuildSlice, aBuild, aFill, aParts, seqParts, fitAll, List.range', ↓reduceIte, reduceCtorEq, Nat.reduceEqDiff, Nat.reduceAdd, Nat.reduceLeDiff, Nat.reduceMul, Nat.reduceLT, Nat.reduceBEq, Int.reduceEq, tf_Gs5_125]
    refine opsG_split (fun h => ?_) (fun h => ?_)
    case refine_2 =>
      simp -implicitDefEqProofs only [h, evb0, evb1, evb2, evb3, evb4, evb5, evb6, evb7, evb8, evb9, ↓evZ2, ↓evZ3, ↓Int.cast_ofNat_Int, implies_true, ne_eq, or_false, false_or, or_self, gt_iff_lt, isMut, aFn, List.contains, List.elem, aBox, aField, aLoad, sub, aNil, aPick, aExt, aFld, gd, noJunk, plainOp, aBuildSlice, aBuild, aFill, aParts, seqParts, fitAll, List.range', ↓reduceIte, reduceCtorEq, Nat.reduceEqDiff, Nat.reduceAdd, Nat.reduceLeDiff, Nat.reduceMul, Nat.reduceLT, Nat.reduceBEq, Int.reduceEq, tf_Gs5_125]
      simp only [Bool.not_false, decide_eq_true_eq] at h
      simp; omega
    simp -implicitDefEqProofs only [h, evb0, evb1, evb2, evb3, evb4, evb5, evb6, evb7, evb8, evb9, ↓evZ2, ↓evZ3, ↓Int.cast_ofNat_Int, implies_true, ne_eq, or_false, false_or, or_self, gt_iff_lt, isMut, aFn, List.contains, List.elem, aBox, aField, aLoad, sub, aNil, aPick, aExt, aFld, gd, noJunk, plainOp, aBuildSlice, aBuild, aFill, aParts, seqParts, fitAll, List.range', ↓reduceIte, reduceCtorEq, Nat.reduceEqDiff, Nat.reduceAdd, Nat.reduceLeDiff, Nat.reduceMul, Nat.reduceLT, Nat.reduceBEq, Int.reduceEq, tf_Gs5_125]
    refine h1.to ?_
    simp -implicitDefEqProofs only [h, evb0, evb1, evb2, evb3, evb4, evb5, evb6, evb7, evb8, evb9, ↓evZ2, ↓evZ3, ↓Int.cast_ofNat_Int, implies_true, ne_eq, or_false, false_or, or_self, gt_iff_lt, isMut, aFn, List.contains, List.elem, aBox, aField, aLoad, sub, aNil, aPick, aExt, aFld, gd, noJunk, plainOp, aBuildSlice, aBuild, aFill, aParts, seqParts, fitAll, List.range', ↓reduceIte, reduceCtorEq, Nat.reduceEqDiff, Nat.reduceAdd, Nat.reduceLeDiff, Nat.reduceMul, Nat.reduceLT, Nat.reduceBEq, Int.reduceEq, tf_Gs5_125]
    refine ⟨fun h2 => ?_, fun h2 => ?_⟩
    · simp -implicitDefEqProofs only [evb0, evb1, evb2, evb3, evb4, evb5, evb6, evb7, evb8, evb9, ↓evZ2, ↓evZ3, ↓Int.cast_ofNat_Int, implies_true, ne_eq, or_false, false_or, or_self, gt_iff_lt, isMut, aFn, List.contains, List.elem, aBox, aField, aLoad, sub, aNil, aPick, aExt, aFld, gd, noJunk, plainOp, aBuildSlice, aBuild, aFill, aParts, seqParts, fitAll, List.range', ↓reduceIte, reduceCtorEq, Nat.reduceEqDiff, Nat.reduceAdd, Nat.reduceLeDiff, Nat.reduceMul, Nat.reduceLT, Nat.reduceBEq, Int.reduceEq, tf_Gs5_125]
      simp only [Bool.not_eq_true'] at h2
      simp [h2]
    simp only [Bool.not_eq_false', decide_eq_false_iff_not] at h2 h
    subst h2
    have hw := wrap64 (n := d - 1) (by omega) (by omega)
    rw [show decide (1 ≤ d) = true by simp; omega]
    simp -implicitDefEqProofs only [evb0, evb1, evb2, evb3, evb4, evb5, evb6, evb7, evb8, evb9, ↓evZ2, ↓evZ3, ↓Int.cast_ofNat_Int, implies_true, ne_eq, or_false, false_or, or_self, gt_iff_lt, isMut, aFn, List.contains, List.elem, aBox, aField, aLoad, sub, aNil, aPick, aExt, aFld, gd, noJunk, plainOp, aBuildSlice, aBuild, aFill, aParts, seqParts, fitAll, List.range', ↓reduceIte, reduceCtorEq, Nat.reduceEqDiff, Nat.reduceAdd, Nat.reduceLeDiff, Nat.reduceMul, Nat.reduceLT, Nat.reduceBEq, Int.reduceEq, tf_Gs5_125]
    refine arun_loopL (α := Nat) [] (fun i => i ≤ ts.length ∧ ∀ (j : Nat) x, j < i → ts[j]? = some x → x.shape (d - 1) = true)
      (fun i => [(1, .int .i64 d), (2, .pptr (.agg [.int .i64 k, .int .i64 n, .str s, .slice (ts.map Tm.av)])), (5, .int .i64 i)]) (fun _ => st) (fun i => ts.length - i) (by decide +kernel)
      ⟨0, ⟨by omega, by intro j x h; omega⟩, LessL.mk (by simp -implicitDefEqProofs only [evb0, evb1, evb2, evb3, evb4, evb5, evb6, evb7, evb8, evb9, ↓evZ2, ↓evZ3, ↓Int.cast_ofNat_Int, implies_true, ne_eq, or_false, false_or, or_self, gt_iff_lt, isMut, aFn, List.contains, List.elem, aBox, aField, aLoad, sub, aNil, aPick, aExt, aFld, gd, noJunk, plainOp, aBuildSlice, aBuild, aFill, aParts, seqParts, fitAll, List.range', ↓reduceIte, reduceCtorEq, Nat.reduceEqDiff, Nat.reduceAdd, Nat.reduceLeDiff, Nat.reduceMul, Nat.reduceLT, Nat.reduceBEq, Int.reduceEq, tf_Gs5_125])⟩ ?_
    intro i ⟨hi, hall⟩
    simp -implicitDefEqProofs only [List.length_map, evb0, evb1, evb2, evb3, evb4, evb5, evb6, evb7, evb8, evb9, ↓evZ2, ↓evZ3, ↓Int.cast_ofNat_Int, implies_true, ne_eq, or_false, false_or, or_self, gt_iff_lt, isMut, aFn, List.contains, List.elem, aBox, aField, aLoad, sub, aNil, aPick, aExt, aFld, gd, noJunk, plainOp, aBuildSlice, aBuild, aFill, aParts, seqParts, fitAll, List.range', ↓reduceIte, reduceCtorEq, Nat.reduceEqDiff, Nat.reduceAdd, Nat.reduceLeDiff, Nat.reduceMul, Nat.reduceLT, Nat.reduceBEq, Int.reduceEq, tf_Gs5_125]
    refine ⟨fun h5 => ?_, fun h5 => ?_⟩
    case refine_2 =>
      simp -implicitDefEqProofs only [evb0, evb1, evb2, evb3, evb4, evb5, evb6, evb7, evb8, evb9, ↓evZ2, ↓evZ3, ↓Int.cast_ofNat_Int, implies_true, ne_eq, or_false, false_or, or_self, gt_iff_lt, isMut, aFn, List.contains, List.elem, aBox, aField, aLoad, sub, aNil, aPick, aExt, aFld, gd, noJunk, plainOp, aBuildSlice, aBuild, aFill, aParts, seqParts, fitAll, List.range', ↓reduceIte, reduceCtorEq, Nat.reduceEqDiff, Nat.reduceAdd, Nat.reduceLeDiff, Nat.reduceMul, Nat.reduceLT, Nat.reduceBEq, Int.reduceEq, tf_Gs5_125]
      simp only [decide_eq_false_iff_not, Int.ofNat_lt] at h5
      rw [all_of fun j x hx => hall j x (by have := (List.getElem?_eq_some_iff.1 hx).1; omega) hx]
    simp only [decide_eq_true_eq, Int.ofNat_lt] at h5
    obtain ⟨x, hx⟩ : ∃ x, ts[i]? = some x := ⟨_, List.getElem?_eq_getElem h5⟩
    simp -implicitDefEqProofs only [ev_at (av := Tm.av) eI_27 hx (Tm.av_width x), Tm.av_agg, Tm.av_width, hw, evb0, evb1, evb2, evb3, evb4, evb5, evb6, evb7, evb8, evb9, ↓evZ2, ↓evZ3, ↓Int.cast_ofNat_Int, implies_true, ne_eq, or_false, false_or, or_self, gt_iff_lt, isMut, aFn, List.contains, List.elem, aBox, aField, aLoad, sub, aNil, aPick, aExt, aFld, gd, noJunk, plainOp, aBuildSlice, aBuild, aFill, aParts, seqParts, fitAll, List.range', ↓reduceIte, reduceCtorEq, Nat.reduceEqDiff, Nat.reduceAdd, Nat.reduceLeDiff, Nat.reduceMul, Nat.reduceLT, Nat.reduceBEq, Int.reduceEq, tf_Gs5_125]
    refine (hc x (List.mem_of_getElem? hx) (d - 1) st (by omega) (by omega)).to ?_
    simp -implicitDefEqProofs only [evb0, evb1, evb2, evb3, evb4, evb5, evb6, evb7, evb8, evb9, ↓evZ2, ↓evZ3, ↓Int.cast_ofNat_Int, implies_true, ne_eq, or_false, false_or, or_self, gt_iff_lt, isMut, aFn, List.contains, List.elem, aBox, aField, aLoad, sub, aNil, aPick, aExt, aFld, gd, noJunk, plainOp, aBuildSlice, aBuild, aFill, aParts, seqParts, fitAll, List.range', ↓reduceIte, reduceCtorEq, Nat.reduceEqDiff, Nat.reduceAdd, Nat.reduceLeDiff, Nat.reduceMul, Nat.reduceLT, Nat.reduceBEq, Int.reduceEq, tf_Gs5_125]
    refine ⟨fun h6 => ?_, fun h6 => ?_⟩
    · simp -implicitDefEqProofs only [evb0, evb1, evb2, evb3, evb4, evb5, evb6, evb7, evb8, evb9, ↓evZ2, ↓evZ3, ↓Int.cast_ofNat_Int, implies_true, ne_eq, or_false, false_or, or_self, gt_iff_lt, isMut, aFn, List.contains, List.elem, aBox, aField, aLoad, sub, aNil, aPick, aExt, aFld, gd, noJunk, plainOp, aBuildSlice, aBuild, aFill, aParts, seqParts, fitAll, List.range', ↓reduceIte, reduceCtorEq, Nat.reduceEqDiff, Nat.reduceAdd, Nat.reduceLeDiff, Nat.reduceMul, Nat.reduceLT, Nat.reduceBEq, Int.reduceEq, tf_Gs5_125]
      simp only [Bool.not_eq_true'] at h6
      rw [all_at hx h6]
    simp only [Bool.not_eq_false'] at h6
    simp -implicitDefEqProofs only [evb0, evb1, evb2, evb3, evb4, evb5, evb6, evb7, evb8, evb9, ↓evZ2, ↓evZ3, ↓Int.cast_ofNat_Int, implies_true, ne_eq, or_false, false_or, or_self, gt_iff_lt, isMut, aFn, List.contains, List.elem, aBox, aField, aLoad, sub, aNil, aPick, aExt, aFld, gd, noJunk, plainOp, aBuildSlice, aBuild, aFill, aParts, seqParts, fitAll, List.range', ↓reduceIte, reduceCtorEq, Nat.reduceEqDiff, Nat.reduceAdd, Nat.reduceLeDiff, Nat.reduceMul, Nat.reduceLT, Nat.reduceBEq, Int.reduceEq, tf_Gs5_125]
    refine ⟨i + 1, by omega, ⟨by omega, fun j u hj hu => ?_⟩, LessL.mk ?_⟩
    · rcases Nat.lt_or_ge j i with h8 | h8
      · exact hall j u h8 hu
      · obtain rfl : j = i := by omega
        rw [hx] at hu; cases hu; exact h6
    · have := wrap64 (n := (i : Int) + 1) (by omega) (by omega)
      simp -implicitDefEqProofs only [this, evb0, evb1, evb2, evb3, evb4, evb5, evb6, evb7, evb8, evb9, ↓evZ2, ↓evZ3, ↓Int.cast_ofNat_Int, implies_true, ne_eq, or_false, false_or, or_self, gt_iff_lt, isMut, aFn, List.contains, List.elem, aBox, aField, aLoad, sub, aNil, aPick, aExt, aFld, gd, noJunk, plainOp, aBuildSlice, aBuild, aFill, aParts, seqParts, fitAll, List.range', ↓reduceIte, reduceCtorEq, Nat.reduceEqDiff, Nat.reduceAdd, Nat.reduceLeDiff, Nat.reduceMul, Nat.reduceLT, Nat.reduceBEq, Int.reduceEq, tf_Gs5_125]
termination_by t => SizeOf.sizeOf t
decreasing_by have := List.sizeOf_lt_of_mem hx; simp only [Tm.mk.sizeOf_spec]; omega

theorem tf_Gs5_126 : (type_of% tI_2) ∧ (type_of% zI_2) ∧ (type_of% Go.Proofs.Try.underlying2) ∧ (type_of% tI_3) ∧ (type_of% zI_3) ∧ (type_of% Go.Proofs.Try.underlying3) ∧ (type_of% tI_4) ∧ (type_of% zI_4) ∧ (type_of% Go.Proofs.Try.underlying4) ∧ (type_of% tI_5) ∧ (type_of% zI_5) ∧ (type_of% Go.Proofs.Try.underlying5) ∧ (type_of% tI_6) ∧ (type_of% zI_6) ∧ (type_of% Go.Proofs.Try.underlying6) ∧ (type_of% tI_7) ∧ (type_of% zI_7) ∧ (type_of% fI_7_0) ∧ (type_of% fI_7_1) ∧ (type_of% fI_7_2) ∧ (type_of% fI_7_3) ∧ (type_of% bI_7) ∧ (type_of% tI_9) ∧ (type_of% zI_9) ∧ (type_of% Go.Proofs.Try.underlying9) ∧ (type_of% tI_10) ∧ (type_of% zI_10) ∧ (type_of% Go.Proofs.Try.underlying10) ∧ (type_of% tI_24) ∧ (type_of% zI_24) ∧ (type_of% fI_24_0) ∧ (type_of% bI_24) ∧ (type_of% tI_27) ∧ (type_of% zI_27) ∧ (type_of% eI_27) ∧ (type_of% eB_27) ∧ (type_of% eZ_27) ∧ (type_of% Go.Proofs.Try.underlying27) ∧ (type_of% tI_31) ∧ (type_of% zI_31) ∧ (type_of% fI_31_0) ∧ (type_of% bI_31) ∧ (type_of% tI_41) ∧ (type_of% zI_41) ∧ (type_of% fI_41_0) ∧ (type_of% fI_41_1) ∧ (type_of% fI_41_2) ∧ (type_of% fI_41_3) ∧ (type_of% bI_41) ∧ (type_of% tI_62) ∧ (type_of% zI_62) ∧ (type_of% eI_62) ∧ (type_of% eB_62) ∧ (type_of% eZ_62) ∧ (type_of% Go.Proofs.Try.underlying62) ∧ (type_of% tI_63) ∧ (type_of% zI_63) ∧ (type_of% fI_63_0) ∧ (type_of% fI_63_1) ∧ (type_of% bI_63) ∧ (type_of% tI_64) ∧ (type_of% zI_64) ∧ (type_of% fI_64_0) ∧ (type_of% fI_64_1) ∧ (type_of% bI_64) ∧ (type_of% tI_126) ∧ (type_of% zI_126) ∧ (type_of% fI_126_0) ∧ (type_of% fI_126_1) ∧ (type_of% bI_126) := ⟨tI_2, zI_2, Go.Proofs.Try.underlying2, tI_3, zI_3, Go.Proofs.Try.underlying3, tI_4, zI_4, Go.Proofs.Try.underlying4, tI_5, zI_5, Go.Proofs.Try.underlying5, tI_6, zI_6, Go.Proofs.Try.underlying6, tI_7, zI_7, fI_7_0, fI_7_1, fI_7_2, fI_7_3, bI_7, tI_9, zI_9, Go.Proofs.Try.underlying9, tI_10, zI_10, Go.Proofs.Try.underlying10, tI_24, zI_24, fI_24_0, bI_24, tI_27, zI_27, eI_27, eB_27, eZ_27, Go.Proofs.Try.underlying27, tI_31, zI_31, fI_31_0, bI_31, tI_41, zI_41, fI_41_0, fI_41_1, fI_41_2, fI_41_3, bI_41, tI_62, zI_62, eI_62, eB_62, eZ_62, Go.Proofs.Try.underlying62, tI_63, zI_63, fI_63_0, fI_63_1, bI_63, tI_64, zI_64, fI_64_0, fI_64_1, bI_64, tI_126, zI_126, fI_126_0, fI_126_1, bI_126⟩
theorem c_l1Count : ∀ (t : Tm) (m : Int) (st : Store), 0 ≤ m → m ≤ 120 → ACalls prog 126 [t.av, .int .i64 m] st (fun r st' => r = .int .i64 (min (t.nodes : Int) (m + 1)) ∧ st' = st)
  | .mk k n s ts, m, st, hm0, hm => by
    have hc := fun (x : Tm) (hx : x ∈ ts) m st h h0 => c_l1Count x m st h h0
    refine acalls_fit [] func126 ntmps126 rfl rfl (by kernel_rfl) (by decide +kernel) (by show 2 ≤ _; decide +kernel) ?_
    simp only [Tm.av_mk, fitsL, AV.fits, and_true, List.length_map, Tm.nodes_mk]
    intro ⟨_, _, _, hl, _⟩
    simp -implicitDefEqProofs only [evb0, evb1, evb2, evb3, evb4, evb5, evb6, evb7, evb8, evb9, ↓evZ2, ↓evZ3, ↓Int.cast_ofNat_Int, implies_true, ne_eq, or_false, false_or, or_self, gt_iff_lt, isMut, aFn, List.contains, List.elem, aBox, aField, aLoad, sub, aNil, aPick, aExt, aFld, gd, noJunk, plainOp, aBuildSlice, aBuild, aFill, aParts, seqParts, fitAll, List.range', ↓reduceIte, reduceCtorEq, Nat.reduceEqDiff, Nat.reduceAdd, Nat.reduceLeDiff, Nat.reduceMul, Nat.reduceLT, Nat.reduceBEq, Int.reduceEq, tf_Gs5_126]
    refine arun_loopL (α := Nat) [] (fun i => i ≤ ts.length)
      (fun i => [(1, .int .i64 m), (2, .pptr (.agg [.int .i64 k, .int .i64 n, .str s, .slice (ts.map Tm.av)])), (5, .int .i64 (min ((1 + sumL Tm.nodes (ts.take i) : Nat) : Int) (m + 1))), (6, .int .i64 i)]) (fun _ => st) (fun i => ts.length - i) (by decide +kernel)
      ⟨0, by omega, LessL.mk (by simp -implicitDefEqProofs only [List.take_zero, sumL, show min ((0 : Int) + 1) (m + 1) = 1 by omega, evb0, evb1, evb2, evb3, evb4, evb5, evb6, evb7, evb8, evb9, ↓evZ2, ↓evZ3, ↓Int.cast_ofNat_Int, implies_true, ne_eq, or_false, false_or, or_self, gt_iff_lt, isMut, aFn, List.contains, List.elem, aBox, aField, aLoad, sub, aNil, aPick, aExt, aFld, gd, noJunk, plainOp, aBuildSlice, aBuild, aFill, aParts, seqParts, fitAll, List.range', ↓reduceIte, reduceCtorEq, Nat.reduceEqDiff, Nat.reduceAdd, Nat.reduceLeDiff, Nat.reduceMul, Nat.reduceLT, Nat.reduceBEq, Int.reduceEq, tf_Gs5_126])⟩ ?_
    intro i hi
    simp -implicitDefEqProofs only [List.length_map, evb0, evb1, evb2, evb3, evb4, evb5, evb6, evb7, evb8, evb9, ↓evZ2, ↓evZ3, ↓Int.cast_ofNat_Int, implies_true, ne_eq, or_false, false_or, or_self, gt_iff_lt, isMut, aFn, List.contains, List.elem, aBox, aField, aLoad, sub, aNil, aPick, aExt, aFld, gd, noJunk, plainOp, aBuildSlice, aBuild, aFill, aParts, seqParts, fitAll, List.range', ↓reduceIte, reduceCtorEq, Nat.reduceEqDiff, Nat.reduceAdd, Nat.reduceLeDiff, Nat.reduceMul, Nat.reduceLT, Nat.reduceBEq, Int.reduceEq, tf_Gs5_126]
    have hfull : ¬ i < ts.length → sumL Tm.nodes (ts.take i) = sumL Tm.nodes ts := fun h => by rw [List.take_of_length_le (by omega)]
    refine opsG_split (fun h5 => ?_) (fun h5 => ?_)
    case refine_2 =>
      simp -implicitDefEqProofs only [h5, evb0, evb1, evb2, evb3, evb4, evb5, evb6, evb7, evb8, evb9, ↓evZ2, ↓evZ3, ↓Int.cast_ofNat_Int, implies_true, ne_eq, or_false, false_or, or_self, gt_iff_lt, isMut, aFn, List.contains, List.elem, aBox, aField, aLoad, sub, aNil, aPick, aExt, aFld, gd, noJunk, plainOp, aBuildSlice, aBuild, aFill, aParts, seqParts, fitAll, List.range', ↓reduceIte, reduceCtorEq, Nat.reduceEqDiff, Nat.reduceAdd, Nat.reduceLeDiff, Nat.reduceMul, Nat.reduceLT, Nat.reduceBEq, Int.reduceEq, tf_Gs5_126]
      simp only [Bool.not_true, decide_eq_false_iff_not, Int.ofNat_lt] at h5
      rw [hfull h5]
    simp -implicitDefEqProofs only [h5, evb0, evb1, evb2, evb3, evb4, evb5, evb6, evb7, evb8, evb9, ↓evZ2, ↓evZ3, ↓Int.cast_ofNat_Int, implies_true, ne_eq, or_false, false_or, or_self, gt_iff_lt, isMut, aFn, List.contains, List.elem, aBox, aField, aLoad, sub, aNil, aPick, aExt, aFld, gd, noJunk, plainOp, aBuildSlice, aBuild, aFill, aParts, seqParts, fitAll, List.range', ↓reduceIte, reduceCtorEq, Nat.reduceEqDiff, Nat.reduceAdd, Nat.reduceLeDiff, Nat.reduceMul, Nat.reduceLT, Nat.reduceBEq, Int.reduceEq, tf_Gs5_126]
    simp only [decide_eq_true_eq, Int.ofNat_lt] at h5
    obtain ⟨x, hx⟩ : ∃ x, ts[i]? = some x := ⟨_, List.getElem?_eq_getElem h5⟩
    have hs := sumL_take Tm.nodes hx
    refine ⟨fun h6 => ?_, fun h6 => ?_⟩
    case refine_2 =>
      simp -implicitDefEqProofs only [evb0, evb1, evb2, evb3, evb4, evb5, evb6, evb7, evb8, evb9, ↓evZ2, ↓evZ3, ↓Int.cast_ofNat_Int, implies_true, ne_eq, or_false, false_or, or_self, gt_iff_lt, isMut, aFn, List.contains, List.elem, aBox, aField, aLoad, sub, aNil, aPick, aExt, aFld, gd, noJunk, plainOp, aBuildSlice, aBuild, aFill, aParts, seqParts, fitAll, List.range', ↓reduceIte, reduceCtorEq, Nat.reduceEqDiff, Nat.reduceAdd, Nat.reduceLeDiff, Nat.reduceMul, Nat.reduceLT, Nat.reduceBEq, Int.reduceEq, tf_Gs5_126]
      simp only [decide_eq_false_iff_not] at h6
      simp only [AV.int.injEq, true_and]
      omega
    simp only [decide_eq_true_eq] at h6
    have e6 : min (((1 + sumL Tm.nodes (ts.take i) : Nat) : Int)) (m + 1) = ((1 + sumL Tm.nodes (ts.take i) : Nat) : Int) := by omega
    rw [e6] at h6 ⊢
    have hw := wrap64 (n := m - ((1 + sumL Tm.nodes (ts.take i) : Nat) : Int)) (by omega) (by omega)
    simp -implicitDefEqProofs only [ev_at (av := Tm.av) eI_27 hx (Tm.av_width x), Tm.av_agg, Tm.av_width, hw, evb0, evb1, evb2, evb3, evb4, evb5, evb6, evb7, evb8, evb9, ↓evZ2, ↓evZ3, ↓Int.cast_ofNat_Int, implies_true, ne_eq, or_false, false_or, or_self, gt_iff_lt, isMut, aFn, List.contains, List.elem, aBox, aField, aLoad, sub, aNil, aPick, aExt, aFld, gd, noJunk, plainOp, aBuildSlice, aBuild, aFill, aParts, seqParts, fitAll, List.range', ↓reduceIte, reduceCtorEq, Nat.reduceEqDiff, Nat.reduceAdd, Nat.reduceLeDiff, Nat.reduceMul, Nat.reduceLT, Nat.reduceBEq, Int.reduceEq, tf_Gs5_126]
    refine (hc x (List.mem_of_getElem? hx) _ st (by omega) (by omega)).to ?_
    have hw2 := wrap64 (n := ((1 + sumL Tm.nodes (ts.take i) : Nat) : Int) + min (x.nodes : Int) (m - ((1 + sumL Tm.nodes (ts.take i) : Nat) : Int) + 1)) (by omega) (by omega)
    simp -implicitDefEqProofs only [hw2, evb0, evb1, evb2, evb3, evb4, evb5, evb6, evb7, evb8, evb9, ↓evZ2, ↓evZ3, ↓Int.cast_ofNat_Int, implies_true, ne_eq, or_false, false_or, or_self, gt_iff_lt, isMut, aFn, List.contains, List.elem, aBox, aField, aLoad, sub, aNil, aPick, aExt, aFld, gd, noJunk, plainOp, aBuildSlice, aBuild, aFill, aParts, seqParts, fitAll, List.range', ↓reduceIte, reduceCtorEq, Nat.reduceEqDiff, Nat.reduceAdd, Nat.reduceLeDiff, Nat.reduceMul, Nat.reduceLT, Nat.reduceBEq, Int.reduceEq, tf_Gs5_126]
    refine ⟨i + 1, by omega, by omega, LessL.mk ?_⟩
    have := wrap64 (n := (i : Int) + 1) (by omega) (by omega)
    simp -implicitDefEqProofs only [this, show ((1 + sumL Tm.nodes (ts.take i) : Nat) : Int) + min (x.nodes : Int) (m - ((1 + sumL Tm.nodes (ts.take i) : Nat) : Int) + 1) = min ((1 + sumL Tm.nodes (ts.take (i + 1)) : Nat) : Int) (m + 1) by omega, evb0, evb1, evb2, evb3, evb4, evb5, evb6, evb7, evb8, evb9, ↓evZ2, ↓evZ3, ↓Int.cast_ofNat_Int, implies_true, ne_eq, or_false, false_or, or_self, gt_iff_lt, isMut, aFn, List.contains, List.elem, aBox, aField, aLoad, sub, aNil, aPick, aExt, aFld, gd, noJunk, plainOp, aBuildSlice, aBuild, aFill, aParts, seqParts, fitAll, List.range', ↓reduceIte, reduceCtorEq, Nat.reduceEqDiff, Nat.reduceAdd, Nat.reduceLeDiff, Nat.reduceMul, Nat.reduceLT, Nat.reduceBEq, Int.reduceEq, tf_Gs5_126]
termination_by t => SizeOf.sizeOf t
decreasing_by have := List.sizeOf_lt_of_mem hx; simp only [Tm.mk.sizeOf_spec]; omega

theorem tf_Gs5_72 : (type_of% tI_2) ∧ (type_of% zI_2) ∧ (type_of% Go.Proofs.Try.underlying2) ∧ (type_of% tI_3) ∧ (type_of% zI_3) ∧ (type_of% Go.Proofs.Try.underlying3) ∧ (type_of% tI_4) ∧ (type_of% zI_4) ∧ (type_of% Go.Proofs.Try.underlying4) ∧ (type_of% tI_6) ∧ (type_of% zI_6) ∧ (type_of% Go.Proofs.Try.underlying6) ∧ (type_of% tI_7) ∧ (type_of% zI_7) ∧ (type_of% fI_7_0) ∧ (type_of% fI_7_1) ∧ (type_of% fI_7_2) ∧ (type_of% fI_7_3) ∧ (type_of% bI_7) ∧ (type_of% tI_10) ∧ (type_of% zI_10) ∧ (type_of% Go.Proofs.Try.underlying10) ∧ (type_of% tI_41) ∧ (type_of% zI_41) ∧ (type_of% fI_41_0) ∧ (type_of% fI_41_1) ∧ (type_of% fI_41_2) ∧ (type_of% fI_41_3) ∧ (type_of% bI_41) ∧ (type_of% tI_64) ∧ (type_of% zI_64) ∧ (type_of% fI_64_0) ∧ (type_of% fI_64_1) ∧ (type_of% bI_64) ∧ (type_of% tI_120) ∧ (type_of% zI_120) ∧ (type_of% fI_120_0) ∧ (type_of% fI_120_1) ∧ (type_of% fI_120_2) ∧ (type_of% fI_120_3) ∧ (type_of% fI_120_4) ∧ (type_of% fI_120_5) ∧ (type_of% fI_120_6) ∧ (type_of% bI_120) ∧ (type_of% tI_125) ∧ (type_of% zI_125) ∧ (type_of% fI_125_0) ∧ (type_of% fI_125_1) ∧ (type_of% bI_125) ∧ (type_of% tI_126) ∧ (type_of% zI_126) ∧ (type_of% fI_126_0) ∧ (type_of% fI_126_1) ∧ (type_of% bI_126) := ⟨tI_2, zI_2, Go.Proofs.Try.underlying2, tI_3, zI_3, Go.Proofs.Try.underlying3, tI_4, zI_4, Go.Proofs.Try.underlying4, tI_6, zI_6, Go.Proofs.Try.underlying6, tI_7, zI_7, fI_7_0, fI_7_1, fI_7_2, fI_7_3, bI_7, tI_10, zI_10, Go.Proofs.Try.underlying10, tI_41, zI_41, fI_41_0, fI_41_1, fI_41_2, fI_41_3, bI_41, tI_64, zI_64, fI_64_0, fI_64_1, bI_64, tI_120, zI_120, fI_120_0, fI_120_1, fI_120_2, fI_120_3, fI_120_4, fI_120_5, fI_120_6, bI_120, tI_125, zI_125, fI_125_0, fI_125_1, bI_125, tI_126, zI_126, fI_126_0, fI_126_1, bI_126⟩
theorem c_spec_TermValid (t : Tm) (st : Store) : ACalls prog 72 [t.av] st (fun r st' => r = .bool t.valid ∧ st' = st) := by
  refine acalls_fit [] func72 ntmps72 rfl rfl (by kernel_rfl) (by decide +kernel) (by show 1 ≤ _; decide +kernel) ?_
  intro _
  simp -implicitDefEqProofs only [Tm.av_junk, Tm.av_agg, Tm.av_width, evb0, evb1, evb2, evb3, evb4, evb5, evb6, evb7, evb8, evb9, ↓evZ2, ↓evZ3, ↓Int.cast_ofNat_Int, implies_true, ne_eq, or_false, false_or, or_self, gt_iff_lt, isMut, aFn, List.contains, List.elem, aBox, aField, aLoad, sub, aNil, aPick, aExt, aFld, gd, noJunk, plainOp, aBuildSlice, aBuild, aFill, aParts, seqParts, fitAll, List.range', ↓reduceIte, reduceCtorEq, Nat.reduceEqDiff, Nat.reduceAdd, Nat.reduceLeDiff, Nat.reduceMul, Nat.reduceLT, Nat.reduceBEq, Int.reduceEq, tf_Gs5_72]
  refine (c_l1Shape t 30 st (by omega) (by omega)).to ?_
  simp -implicitDefEqProofs only [evb0, evb1, evb2, evb3, evb4, evb5, evb6, evb7, evb8, evb9, ↓evZ2, ↓evZ3, ↓Int.cast_ofNat_Int, implies_true, ne_eq, or_false, false_or, or_self, gt_iff_lt, isMut, aFn, List.contains, List.elem, aBox, aField, aLoad, sub, aNil, aPick, aExt, aFld, gd, noJunk, plainOp, aBuildSlice, aBuild, aFill, aParts, seqParts, fitAll, List.range', ↓reduceIte, reduceCtorEq, Nat.reduceEqDiff, Nat.reduceAdd, Nat.reduceLeDiff, Nat.reduceMul, Nat.reduceLT, Nat.reduceBEq, Int.reduceEq, tf_Gs5_72]
  refine opsG_split (fun h => ?_) (fun h => ?_)
  · simp -implicitDefEqProofs only [h, Tm.av_agg, Tm.av_width, evb0, evb1, evb2, evb3, evb4, evb5, evb6, evb7, evb8, evb9, ↓evZ2, ↓evZ3, ↓Int.cast_ofNat_Int, implies_true, ne_eq, or_false, false_or, or_self, gt_iff_lt, isMut, aFn, List.contains, List.elem, aBox, aField, aLoad, sub, aNil, aPick, aExt, aFld, gd, noJunk, plainOp, aBuildSlice, aBuild, aFill, aParts, seqParts, fitAll, List.range', ↓reduceIte, reduceCtorEq, Nat.reduceEqDiff, Nat.reduceAdd, Nat.reduceLeDiff, Nat.reduceMul, Nat.reduceLT, Nat.reduceBEq, Int.reduceEq, tf_Gs5_72]
    refine (c_l1Count t 120 st (by omega) (by omega)).to ?_
    simp -implicitDefEqProofs only [h, evb0, evb1, evb2, evb3, evb4, evb5, evb6, evb7, evb8, evb9, ↓evZ2, ↓evZ3, ↓Int.cast_ofNat_Int, implies_true, ne_eq, or_false, false_or, or_self, gt_iff_lt, isMut, aFn, List.contains, List.elem, aBox, aField, aLoad, sub, aNil, aPick, aExt, aFld, gd, noJunk, plainOp, aBuildSlice, aBuild, aFill, aParts, seqParts, fitAll, List.range', ↓reduceIte, reduceCtorEq, Nat.reduceEqDiff, Nat.reduceAdd, Nat.reduceLeDiff, Nat.reduceMul, Nat.reduceLT, Nat.reduceBEq, Int.reduceEq, tf_Gs5_72]
    simp only [Tm.valid, h, Bool.true_and, AV.bool.injEq, decide_eq_decide]
    omega
  · simp -implicitDefEqProofs only [h, evb0, evb1, evb2, evb3, evb4, evb5, evb6, evb7, evb8, evb9, ↓evZ2, ↓evZ3, ↓Int.cast_ofNat_Int, implies_true, ne_eq, or_false, false_or, or_self, gt_iff_lt, isMut, aFn, List.contains, List.elem, aBox, aField, aLoad, sub, aNil, aPick, aExt, aFld, gd, noJunk, plainOp, aBuildSlice, aBuild, aFill, aParts, seqParts, fitAll, List.range', ↓reduceIte, reduceCtorEq, Nat.reduceEqDiff, Nat.reduceAdd, Nat.reduceLeDiff, Nat.reduceMul, Nat.reduceLT, Nat.reduceBEq, Int.reduceEq, tf_Gs5_72]
    simp at h
    simp [Tm.valid, h]
end Go.AW


/- Goals: what the reference's and the program's functions return. -/
namespace Go.AW
open Go.Proofs.Try
set_option linter.unusedSimpArgs false
set_option maxRecDepth 100000

def plainGoal (k : Int) (s : ByteArray) (len : Int) : Bool := decide (k = 3) && letters s && !isBuiltin s len && decide ((opLevel s : Int) = 0)

def goalOk (k : Int) (s : ByteArray) (len : Int) : Bool := (decide (k = 3) && decide (s = ⟨#[33]⟩) && decide (len = 0)) || plainGoal k s len || (decide (k = 3) && isBuiltin s len)

end Go.AW


/- Valid terms: what the program's functions return. -/
namespace Go.AW
open Go.Proofs.Try
set_option linter.unusedSimpArgs false
set_option maxRecDepth 100000

theorem upd_self {st : Store} {b : Nat} {o : AO} (h : st b = some o) : st.upd b o = st := by
  funext x; simp only [Store.upd]; split
  · rename_i e; rw [e, h]
  · rfl

/-- What a scan leaves: the answer, the counter. -/
def scanned (ok : Bool) (c n : Int) (b : Nat) (st : Store) (r : AV) (st' : Store) : Prop :=
  ∃ c', r = .bool (decide (c + n ≤ 120) && ok) ∧ st' = st.upd b (.cells [.int .i64 c']) ∧ ((decide (c + n ≤ 120) && ok) = true → c' = c + n)

theorem tf_Gs6_131 : (type_of% tI_3) ∧ (type_of% zI_3) ∧ (type_of% Go.Proofs.Try.underlying3) ∧ (type_of% tI_4) ∧ (type_of% zI_4) ∧ (type_of% Go.Proofs.Try.underlying4) ∧ (type_of% tI_5) ∧ (type_of% zI_5) ∧ (type_of% Go.Proofs.Try.underlying5) ∧ (type_of% tI_7) ∧ (type_of% zI_7) ∧ (type_of% fI_7_0) ∧ (type_of% fI_7_1) ∧ (type_of% fI_7_2) ∧ (type_of% fI_7_3) ∧ (type_of% bI_7) ∧ (type_of% tI_8) ∧ (type_of% zI_8) ∧ (type_of% fI_8_0) ∧ (type_of% fI_8_1) ∧ (type_of% fI_8_2) ∧ (type_of% fI_8_3) ∧ (type_of% bI_8) ∧ (type_of% tI_9) ∧ (type_of% zI_9) ∧ (type_of% Go.Proofs.Try.underlying9) ∧ (type_of% tI_11) ∧ (type_of% zI_11) ∧ (type_of% Go.Proofs.Try.underlying11) ∧ (type_of% tI_41) ∧ (type_of% zI_41) ∧ (type_of% fI_41_0) ∧ (type_of% fI_41_1) ∧ (type_of% fI_41_2) ∧ (type_of% fI_41_3) ∧ (type_of% bI_41) ∧ (type_of% tI_64) ∧ (type_of% zI_64) ∧ (type_of% fI_64_0) ∧ (type_of% fI_64_1) ∧ (type_of% bI_64) ∧ (type_of% tI_111) ∧ (type_of% zI_111) := ⟨tI_3, zI_3, Go.Proofs.Try.underlying3, tI_4, zI_4, Go.Proofs.Try.underlying4, tI_5, zI_5, Go.Proofs.Try.underlying5, tI_7, zI_7, fI_7_0, fI_7_1, fI_7_2, fI_7_3, bI_7, tI_8, zI_8, fI_8_0, fI_8_1, fI_8_2, fI_8_3, bI_8, tI_9, zI_9, Go.Proofs.Try.underlying9, tI_11, zI_11, Go.Proofs.Try.underlying11, tI_41, zI_41, fI_41_0, fI_41_1, fI_41_2, fI_41_3, bI_41, tI_64, zI_64, fI_64_0, fI_64_1, bI_64, tI_111, zI_111⟩
theorem c_scan_1 (x : Tm) (d c : Int) (b : Nat) (st : Store) (hd : -1000 ≤ d) (hd1 : d ≤ 1000)
    (h : ACalls prog 77 [x.av, .int .i64 (d + 1), .ptr b 0] st (scanned (x.shape (30 - d)) c x.nodes b st)) :
    ACalls prog 131 [x.av, .pptr (.int .i64 d), .pptr (.ptr b 0)] st (fun r st' => ∃ c', r = .bool (!(decide (c + x.nodes ≤ 120) && x.shape (30 - d))) ∧ st' = st.upd b (.cells [.int .i64 c']) ∧ ((decide (c + (x.nodes : Int) ≤ 120) && x.shape (30 - d)) = true → c' = c + x.nodes)) := by
  have hw := wrap64 (n := d + 1) (by omega) (by omega)
  refine acalls_fit [] func131 ntmps131 rfl rfl (by kernel_rfl) (by decide +kernel) (by show 3 ≤ _; decide +kernel) ?_
  intro _
  simp -implicitDefEqProofs only [hw, Tm.av_junk, Tm.av_agg, Tm.av_width, evb0, evb1, evb2, evb3, evb4, evb5, evb6, evb7, evb8, evb9, ↓evZ2, ↓evZ3, ↓Int.cast_ofNat_Int, implies_true, ne_eq, or_false, false_or, or_self, gt_iff_lt, isMut, aFn, List.contains, List.elem, aBox, aField, aLoad, sub, aNil, aPick, aExt, aFld, gd, noJunk, plainOp, aBuildSlice, aBuild, aFill, aParts, seqParts, fitAll, List.range', ↓reduceIte, reduceCtorEq, Nat.reduceEqDiff, Nat.reduceAdd, Nat.reduceLeDiff, Nat.reduceMul, Nat.reduceLT, Nat.reduceBEq, Int.reduceEq, tf_Gs6_131]
  refine h.mono ?_
  rintro _ _ ⟨c', rfl, rfl, hc⟩
  simp -implicitDefEqProofs only [evb0, evb1, evb2, evb3, evb4, evb5, evb6, evb7, evb8, evb9, ↓evZ2, ↓evZ3, ↓Int.cast_ofNat_Int, implies_true, ne_eq, or_false, false_or, or_self, gt_iff_lt, isMut, aFn, List.contains, List.elem, aBox, aField, aLoad, sub, aNil, aPick, aExt, aFld, gd, noJunk, plainOp, aBuildSlice, aBuild, aFill, aParts, seqParts, fitAll, List.range', ↓reduceIte, reduceCtorEq, Nat.reduceEqDiff, Nat.reduceAdd, Nat.reduceLeDiff, Nat.reduceMul, Nat.reduceLT, Nat.reduceBEq, Int.reduceEq, tf_Gs6_131]
  refine ⟨c', ?_⟩
  first | exact hc | exact ⟨rfl, rfl, hc⟩ | exact ⟨rfl, hc⟩ | trace_state

theorem tf_Gs6_169 : (type_of% tI_2) ∧ (type_of% zI_2) ∧ (type_of% Go.Proofs.Try.underlying2) ∧ (type_of% tI_3) ∧ (type_of% zI_3) ∧ (type_of% Go.Proofs.Try.underlying3) ∧ (type_of% tI_4) ∧ (type_of% zI_4) ∧ (type_of% Go.Proofs.Try.underlying4) ∧ (type_of% tI_5) ∧ (type_of% zI_5) ∧ (type_of% Go.Proofs.Try.underlying5) ∧ (type_of% tI_6) ∧ (type_of% zI_6) ∧ (type_of% Go.Proofs.Try.underlying6) ∧ (type_of% tI_7) ∧ (type_of% zI_7) ∧ (type_of% fI_7_0) ∧ (type_of% fI_7_1) ∧ (type_of% fI_7_2) ∧ (type_of% fI_7_3) ∧ (type_of% bI_7) ∧ (type_of% tI_8) ∧ (type_of% zI_8) ∧ (type_of% fI_8_0) ∧ (type_of% fI_8_1) ∧ (type_of% fI_8_2) ∧ (type_of% fI_8_3) ∧ (type_of% bI_8) ∧ (type_of% tI_11) ∧ (type_of% zI_11) ∧ (type_of% Go.Proofs.Try.underlying11) ∧ (type_of% tI_15) ∧ (type_of% zI_15) ∧ (type_of% tI_16) ∧ (type_of% zI_16) ∧ (type_of% tI_18) ∧ (type_of% zI_18) ∧ (type_of% fI_18_0) ∧ (type_of% bI_18) ∧ (type_of% tI_19) ∧ (type_of% zI_19) ∧ (type_of% fI_19_0) ∧ (type_of% bI_19) ∧ (type_of% tI_27) ∧ (type_of% zI_27) ∧ (type_of% eI_27) ∧ (type_of% eB_27) ∧ (type_of% eZ_27) ∧ (type_of% Go.Proofs.Try.underlying27) ∧ (type_of% tI_41) ∧ (type_of% zI_41) ∧ (type_of% fI_41_0) ∧ (type_of% fI_41_1) ∧ (type_of% fI_41_2) ∧ (type_of% fI_41_3) ∧ (type_of% bI_41) ∧ (type_of% tI_64) ∧ (type_of% zI_64) ∧ (type_of% fI_64_0) ∧ (type_of% fI_64_1) ∧ (type_of% bI_64) := ⟨tI_2, zI_2, Go.Proofs.Try.underlying2, tI_3, zI_3, Go.Proofs.Try.underlying3, tI_4, zI_4, Go.Proofs.Try.underlying4, tI_5, zI_5, Go.Proofs.Try.underlying5, tI_6, zI_6, Go.Proofs.Try.underlying6, tI_7, zI_7, fI_7_0, fI_7_1, fI_7_2, fI_7_3, bI_7, tI_8, zI_8, fI_8_0, fI_8_1, fI_8_2, fI_8_3, bI_8, tI_11, zI_11, Go.Proofs.Try.underlying11, tI_15, zI_15, tI_16, zI_16, tI_18, zI_18, fI_18_0, bI_18, tI_19, zI_19, fI_19_0, bI_19, tI_27, zI_27, eI_27, eB_27, eZ_27, Go.Proofs.Try.underlying27, tI_41, zI_41, fI_41_0, fI_41_1, fI_41_2, fI_41_3, bI_41, tI_64, zI_64, fI_64_0, fI_64_1, bI_64⟩
theorem c_IndexScan (l : List Tm) (d c : Int) (b : Nat) (st : Store) (hd : -1000 ≤ d) (hd1 : d ≤ 1000) (hb : st b = some (.cells [.int .i64 c])) (hc0 : 0 ≤ c) (hc1 : c ≤ 120)
    (h : ∀ x ∈ l, ∀ (c : Int) (st : Store), st b = some (.cells [.int .i64 c]) → 0 ≤ c → c ≤ 120 → ACalls prog 77 [x.av, .int .i64 (d + 1), .ptr b 0] st (scanned (x.shape (30 - d)) c x.nodes b st)) :
    ACalls prog 169 [.slice (l.map Tm.av), .func 131 [.pptr (.int .i64 d), .pptr (.ptr b 0)]] st
      (fun r st' => ∃ j c', r = .int .i64 j ∧ decide (0 ≤ j) = (!(decide (c + (sumL Tm.nodes l : Int) ≤ 120) && l.all fun t => t.shape (30 - d))) ∧ st' = st.upd b (.cells [.int .i64 c']) ∧ (decide (0 ≤ j) = false → c' = c + (sumL Tm.nodes l : Int))) := by
  refine acalls_fit [] func169 ntmps169 rfl rfl (by kernel_rfl) (by decide +kernel) (by show 2 ≤ _; decide +kernel) ?_
  simp only [fitsL, AV.fits, and_true, List.length_map]
  intro ⟨hl, _⟩
  simp -implicitDefEqProofs only [List.length_map, evb0, evb1, evb2, evb3, evb4, evb5, evb6, evb7, evb8, evb9, ↓evZ2, ↓evZ3, ↓Int.cast_ofNat_Int, implies_true, ne_eq, or_false, false_or, or_self, gt_iff_lt, isMut, aFn, List.contains, List.elem, aBox, aField, aLoad, sub, aNil, aPick, aExt, aFld, gd, noJunk, plainOp, aBuildSlice, aBuild, aFill, aParts, seqParts, fitAll, List.range', ↓reduceIte, reduceCtorEq, Nat.reduceEqDiff, Nat.reduceAdd, Nat.reduceLeDiff, Nat.reduceMul, Nat.reduceLT, Nat.reduceBEq, Int.reduceEq, tf_Gs6_169]
  refine arun_loopL (α := Nat) [] (fun i => i ≤ l.length ∧ c + (sumL Tm.nodes (l.take i) : Int) ≤ 120 ∧ ∀ (j : Nat) x, j < i → l[j]? = some x → x.shape (30 - d) = true)
    (fun i => [(0, .slice (l.map Tm.av)), (1, .func 131 [.pptr (.int .i64 d), .pptr (.ptr b 0)]), (7, .int .i64 l.length), (8, .int .i64 i)]) (fun i => st.upd b (.cells [.int .i64 (c + (sumL Tm.nodes (l.take i) : Int))])) (fun i => l.length - i) (by decide +kernel)
    ⟨0, ⟨by omega, by simp only [List.take_zero, sumL]; omega, by intro j x h; omega⟩, by
      simp only [List.take_zero, sumL]
      rw [show c + ((0 : Nat) : Int) = c by omega, upd_self hb]
      exact LessL.mk (by simp -implicitDefEqProofs only [evb0, evb1, evb2, evb3, evb4, evb5, evb6, evb7, evb8, evb9, ↓evZ2, ↓evZ3, ↓Int.cast_ofNat_Int, implies_true, ne_eq, or_false, false_or, or_self, gt_iff_lt, isMut, aFn, List.contains, List.elem, aBox, aField, aLoad, sub, aNil, aPick, aExt, aFld, gd, noJunk, plainOp, aBuildSlice, aBuild, aFill, aParts, seqParts, fitAll, List.range', ↓reduceIte, reduceCtorEq, Nat.reduceEqDiff, Nat.reduceAdd, Nat.reduceLeDiff, Nat.reduceMul, Nat.reduceLT, Nat.reduceBEq, Int.reduceEq, tf_Gs6_169])⟩ ?_
  intro i ⟨hi, hsum, hall⟩
  simp -implicitDefEqProofs only [List.length_map, evb0, evb1, evb2, evb3, evb4, evb5, evb6, evb7, evb8, evb9, ↓evZ2, ↓evZ3, ↓Int.cast_ofNat_Int, implies_true, ne_eq, or_false, false_or, or_self, gt_iff_lt, isMut, aFn, List.contains, List.elem, aBox, aField, aLoad, sub, aNil, aPick, aExt, aFld, gd, noJunk, plainOp, aBuildSlice, aBuild, aFill, aParts, seqParts, fitAll, List.range', ↓reduceIte, reduceCtorEq, Nat.reduceEqDiff, Nat.reduceAdd, Nat.reduceLeDiff, Nat.reduceMul, Nat.reduceLT, Nat.reduceBEq, Int.reduceEq, tf_Gs6_169]
  refine ⟨fun h5 => ?_, fun h5 => ?_⟩
  case refine_2 =>
    simp -implicitDefEqProofs only [evb0, evb1, evb2, evb3, evb4, evb5, evb6, evb7, evb8, evb9, ↓evZ2, ↓evZ3, ↓Int.cast_ofNat_Int, implies_true, ne_eq, or_false, false_or, or_self, gt_iff_lt, isMut, aFn, List.contains, List.elem, aBox, aField, aLoad, sub, aNil, aPick, aExt, aFld, gd, noJunk, plainOp, aBuildSlice, aBuild, aFill, aParts, seqParts, fitAll, List.range', ↓reduceIte, reduceCtorEq, Nat.reduceEqDiff, Nat.reduceAdd, Nat.reduceLeDiff, Nat.reduceMul, Nat.reduceLT, Nat.reduceBEq, Int.reduceEq, tf_Gs6_169]
    simp only [decide_eq_false_iff_not, Int.ofNat_lt] at h5
    rw [List.take_of_length_le (by omega)] at hsum ⊢
    have ha : (l.all fun t => t.shape (30 - d)) = true := all_of fun j x hx => hall j x (by have := (List.getElem?_eq_some_iff.1 hx).1; omega) hx
    exact ⟨-1, _, rfl, by rw [ha]; simp <;> omega, rfl, fun _ => rfl⟩
  simp only [decide_eq_true_eq, Int.ofNat_lt] at h5
  obtain ⟨x, hx⟩ : ∃ x, l[i]? = some x := ⟨_, List.getElem?_eq_getElem h5⟩
  have hs := sumL_take Tm.nodes hx
  simp -implicitDefEqProofs only [ev_at (av := Tm.av) eI_27 hx (Tm.av_width x), Tm.av_agg, Tm.av_width, evb0, evb1, evb2, evb3, evb4, evb5, evb6, evb7, evb8, evb9, ↓evZ2, ↓evZ3, ↓Int.cast_ofNat_Int, implies_true, ne_eq, or_false, false_or, or_self, gt_iff_lt, isMut, aFn, List.contains, List.elem, aBox, aField, aLoad, sub, aNil, aPick, aExt, aFld, gd, noJunk, plainOp, aBuildSlice, aBuild, aFill, aParts, seqParts, fitAll, List.range', ↓reduceIte, reduceCtorEq, Nat.reduceEqDiff, Nat.reduceAdd, Nat.reduceLeDiff, Nat.reduceMul, Nat.reduceLT, Nat.reduceBEq, Int.reduceEq, tf_Gs6_169]
  refine (c_scan_1 x d (c + (sumL Tm.nodes (l.take i) : Int)) b _ hd hd1 (h x (List.mem_of_getElem? hx) _ _ (Store.upd_same _ _ _) (by omega) hsum)).mono ?_
  rintro _ _ ⟨c', rfl, rfl, hc'⟩
  simp -implicitDefEqProofs only [Store.upd_upd, evb0, evb1, evb2, evb3, evb4, evb5, evb6, evb7, evb8, evb9, ↓evZ2, ↓evZ3, ↓Int.cast_ofNat_Int, implies_true, ne_eq, or_false, false_or, or_self, gt_iff_lt, isMut, aFn, List.contains, List.elem, aBox, aField, aLoad, sub, aNil, aPick, aExt, aFld, gd, noJunk, plainOp, aBuildSlice, aBuild, aFill, aParts, seqParts, fitAll, List.range', ↓reduceIte, reduceCtorEq, Nat.reduceEqDiff, Nat.reduceAdd, Nat.reduceLeDiff, Nat.reduceMul, Nat.reduceLT, Nat.reduceBEq, Int.reduceEq, tf_Gs6_169]
  refine ⟨fun h6 => ?_, fun h6 => ?_⟩
  · simp -implicitDefEqProofs only [evb0, evb1, evb2, evb3, evb4, evb5, evb6, evb7, evb8, evb9, ↓evZ2, ↓evZ3, ↓Int.cast_ofNat_Int, implies_true, ne_eq, or_false, false_or, or_self, gt_iff_lt, isMut, aFn, List.contains, List.elem, aBox, aField, aLoad, sub, aNil, aPick, aExt, aFld, gd, noJunk, plainOp, aBuildSlice, aBuild, aFill, aParts, seqParts, fitAll, List.range', ↓reduceIte, reduceCtorEq, Nat.reduceEqDiff, Nat.reduceAdd, Nat.reduceLeDiff, Nat.reduceMul, Nat.reduceLT, Nat.reduceBEq, Int.reduceEq, tf_Gs6_169]
    refine ⟨i, c', rfl, ?_, rfl, fun h7 => absurd h7 (by simp)⟩
    simp only [Bool.not_eq_true', Bool.and_eq_false_iff, decide_eq_false_iff_not] at h6
    rcases h6 with h6 | h6
    · rw [show decide (c + (sumL Tm.nodes l : Int) ≤ 120) = false by simp; omega]
      simp
    · rw [all_at hx h6]
      simp
  simp only [Bool.not_eq_false'] at h6
  rw [hc' h6]
  simp only [Bool.and_eq_true, decide_eq_true_eq] at h6
  simp -implicitDefEqProofs only [evb0, evb1, evb2, evb3, evb4, evb5, evb6, evb7, evb8, evb9, ↓evZ2, ↓evZ3, ↓Int.cast_ofNat_Int, implies_true, ne_eq, or_false, false_or, or_self, gt_iff_lt, isMut, aFn, List.contains, List.elem, aBox, aField, aLoad, sub, aNil, aPick, aExt, aFld, gd, noJunk, plainOp, aBuildSlice, aBuild, aFill, aParts, seqParts, fitAll, List.range', ↓reduceIte, reduceCtorEq, Nat.reduceEqDiff, Nat.reduceAdd, Nat.reduceLeDiff, Nat.reduceMul, Nat.reduceLT, Nat.reduceBEq, Int.reduceEq, tf_Gs6_169]
  refine ⟨i + 1, by omega, ⟨by omega, by omega, fun j u hj hu => ?_⟩, ?_⟩
  · rcases Nat.lt_or_ge j i with h8 | h8
    · exact hall j u h8 hu
    · obtain rfl : j = i := by omega
      rw [hx] at hu; cases hu; exact h6.2
  · rw [show c + (sumL Tm.nodes (l.take i) : Int) + (x.nodes : Int) = c + (sumL Tm.nodes (l.take (i + 1)) : Int) by omega]
    have := wrap64 (n := (i : Int) + 1) (by omega) (by omega)
    exact LessL.mk (by simp -implicitDefEqProofs only [this, evb0, evb1, evb2, evb3, evb4, evb5, evb6, evb7, evb8, evb9, ↓evZ2, ↓evZ3, ↓Int.cast_ofNat_Int, implies_true, ne_eq, or_false, false_or, or_self, gt_iff_lt, isMut, aFn, List.contains, List.elem, aBox, aField, aLoad, sub, aNil, aPick, aExt, aFld, gd, noJunk, plainOp, aBuildSlice, aBuild, aFill, aParts, seqParts, fitAll, List.range', ↓reduceIte, reduceCtorEq, Nat.reduceEqDiff, Nat.reduceAdd, Nat.reduceLeDiff, Nat.reduceMul, Nat.reduceLT, Nat.reduceBEq, Int.reduceEq, tf_Gs6_169])

theorem tf_Gs6_118 : (type_of% tI_3) ∧ (type_of% zI_3) ∧ (type_of% Go.Proofs.Try.underlying3) ∧ (type_of% tI_4) ∧ (type_of% zI_4) ∧ (type_of% Go.Proofs.Try.underlying4) ∧ (type_of% tI_5) ∧ (type_of% zI_5) ∧ (type_of% Go.Proofs.Try.underlying5) ∧ (type_of% tI_6) ∧ (type_of% zI_6) ∧ (type_of% Go.Proofs.Try.underlying6) ∧ (type_of% tI_7) ∧ (type_of% zI_7) ∧ (type_of% fI_7_0) ∧ (type_of% fI_7_1) ∧ (type_of% fI_7_2) ∧ (type_of% fI_7_3) ∧ (type_of% bI_7) ∧ (type_of% tI_9) ∧ (type_of% zI_9) ∧ (type_of% Go.Proofs.Try.underlying9) ∧ (type_of% tI_27) ∧ (type_of% zI_27) ∧ (type_of% eI_27) ∧ (type_of% eB_27) ∧ (type_of% eZ_27) ∧ (type_of% Go.Proofs.Try.underlying27) ∧ (type_of% tI_64) ∧ (type_of% zI_64) ∧ (type_of% fI_64_0) ∧ (type_of% fI_64_1) ∧ (type_of% bI_64) ∧ (type_of% tI_125) ∧ (type_of% zI_125) ∧ (type_of% fI_125_0) ∧ (type_of% fI_125_1) ∧ (type_of% bI_125) ∧ (type_of% tI_169) ∧ (type_of% zI_169) ∧ (type_of% fI_169_0) ∧ (type_of% fI_169_1) ∧ (type_of% fI_169_2) ∧ (type_of% fI_169_3) ∧ (type_of% fI_169_4) ∧ (type_of% fI_169_5) ∧ (type_of% bI_169) := ⟨tI_3, zI_3, Go.Proofs.Try.underlying3, tI_4, zI_4, Go.Proofs.Try.underlying4, tI_5, zI_5, Go.Proofs.Try.underlying5, tI_6, zI_6, Go.Proofs.Try.underlying6, tI_7, zI_7, fI_7_0, fI_7_1, fI_7_2, fI_7_3, bI_7, tI_9, zI_9, Go.Proofs.Try.underlying9, tI_27, zI_27, eI_27, eB_27, eZ_27, Go.Proofs.Try.underlying27, tI_64, zI_64, fI_64_0, fI_64_1, bI_64, tI_125, zI_125, fI_125_0, fI_125_1, bI_125, tI_169, zI_169, fI_169_0, fI_169_1, fI_169_2, fI_169_3, fI_169_4, fI_169_5, bI_169⟩
theorem c_ContainsScan (l : List Tm) (d c : Int) (b : Nat) (st : Store) (hd : -1000 ≤ d) (hd1 : d ≤ 1000) (hb : st b = some (.cells [.int .i64 c])) (hc0 : 0 ≤ c) (hc1 : c ≤ 120)
    (h : ∀ x ∈ l, ∀ (c : Int) (st : Store), st b = some (.cells [.int .i64 c]) → 0 ≤ c → c ≤ 120 → ACalls prog 77 [x.av, .int .i64 (d + 1), .ptr b 0] st (scanned (x.shape (30 - d)) c x.nodes b st)) :
    ACalls prog 118 [.slice (l.map Tm.av), .func 131 [.pptr (.int .i64 d), .pptr (.ptr b 0)]] st
      (fun r st' => ∃ c', r = .bool (!(decide (c + (sumL Tm.nodes l : Int) ≤ 120) && l.all fun t => t.shape (30 - d))) ∧ st' = st.upd b (.cells [.int .i64 c']) ∧ ((decide (c + (sumL Tm.nodes l : Int) ≤ 120) && l.all fun t => t.shape (30 - d)) = true → c' = c + (sumL Tm.nodes l : Int))) := by
  have h1 := c_IndexScan l d c b st hd hd1 hb hc0 hc1 h
  refine acalls_fit [] func118 ntmps118 rfl rfl (by kernel_rfl) (by decide +kernel) (by show 2 ≤ _; decide +kernel) ?_
  intro _
  simp -implicitDefEqProofs only [evb0, evb1, evb2, evb3, evb4, evb5, evb6, evb7, evb8, evb9, ↓evZ2, ↓evZ3, ↓Int.cast_ofNat_Int, implies_true, ne_eq, or_false, false_or, or_self, gt_iff_lt, isMut, aFn, List.contains, List.elem, aBox, aField, aLoad, sub, aNil, aPick, aExt, aFld, gd, noJunk, plainOp, aBuildSlice, aBuild, aFill, aParts, seqParts, fitAll, List.range', ↓reduceIte, reduceCtorEq, Nat.reduceEqDiff, Nat.reduceAdd, Nat.reduceLeDiff, Nat.reduceMul, Nat.reduceLT, Nat.reduceBEq, Int.reduceEq, tf_Gs6_118]
  refine h1.mono ?_
  rintro _ _ ⟨j, c', rfl, hj, rfl, hc⟩
  simp -implicitDefEqProofs only [evb0, evb1, evb2, evb3, evb4, evb5, evb6, evb7, evb8, evb9, ↓evZ2, ↓evZ3, ↓Int.cast_ofNat_Int, implies_true, ne_eq, or_false, false_or, or_self, gt_iff_lt, isMut, aFn, List.contains, List.elem, aBox, aField, aLoad, sub, aNil, aPick, aExt, aFld, gd, noJunk, plainOp, aBuildSlice, aBuild, aFill, aParts, seqParts, fitAll, List.range', ↓reduceIte, reduceCtorEq, Nat.reduceEqDiff, Nat.reduceAdd, Nat.reduceLeDiff, Nat.reduceMul, Nat.reduceLT, Nat.reduceBEq, Int.reduceEq, tf_Gs6_118]
  refine ⟨c', by rw [hj], rfl, fun h => hc (by rw [hj, h]; rfl)⟩
end Go.AW
