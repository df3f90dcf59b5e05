
/- Numbers in blocks of their own, marked. -/
import Derived.Test.YtcookjmgjbhkiaaMkD
import Derived.Test.YtcookjmgjbhkiaaTf
namespace Go.AW
open Go.Proofs.Try
set_option linter.unusedSimpArgs false
set_option maxRecDepth 100000

abbrev iv (n : Int) : AV := .int .i64 n
def seqI : Nat → Int → List Int
  | 0, _ => []
  | n + 1, j => j :: seqI n (j + 1)
theorem seqI_length : ∀ (n : Nat) (j : Int), (seqI n j).length = n
  | 0, _ => rfl
  | n + 1, j => by simp [seqI, seqI_length n]
theorem iv_width (n : Int) : (iv n).width = 1 := rfl
theorem iv_agg (n : Int) : (iv n).isAgg = false := rfl

theorem c_markIntS (l : List Int) (j : Int) (o : AV) (bs : List Nat) (st : Store) (hO : Own st (.slice (l.map iv)) o bs) (hnd : bs.Nodup) (hj0 : 0 ≤ j) (hj1 : j + l.length ≤ 1099511627776) :
    ACalls prog 21 [o, .int .i64 j] st (Marked st (.slice ((seqI l.length j).map iv)) o bs (j + l.length)) := by
  obtain ⟨hlen, haL⟩ := hO.len
  rw [List.length_map] at hlen
  have haL := haL prog 41 _ underlying41
  rw [List.length_map] at haL
  refine acalls_fit [] func21 ntmps21 rfl rfl (by kernel_rfl) (by decide +kernel) (by show 2 ≤ _; decide +kernel) ?_
  simp only [fitsL]
  intro ⟨hf, _⟩
  have hl := hlen hf
  clear hf hlen
  simp -implicitDefEqProofs only [evb0, evb1, evb2, evb3, evb4, evb5, evb6, ↓Int.cast_ofNat_Int, implies_true, ne_eq, isMut, aFn, List.contains, List.elem, aBox, aField, aLoad, sub, aNil, aPick, aExt, aFld, gd, noJunk, plainOp, aBuildSlice, aParts, seqParts, fitAll, List.range', ↓reduceIte, reduceCtorEq, Nat.reduceEqDiff, Nat.reduceAdd, Nat.reduceLeDiff, Nat.reduceMul, Nat.reduceLT, Nat.reduceBEq, Int.reduceEq, tI_2, zI_2, underlying2, tI_3, zI_3, underlying3, tI_4, zI_4, underlying4, tI_5, zI_5, underlying5, tI_6, zI_6, underlying6, tI_7, zI_7, fI_7_0, fI_7_1, fI_7_2, fI_7_3, bI_7, tI_8, zI_8, fI_8_0, fI_8_1, fI_8_2, fI_8_3, bI_8, tI_17, zI_17, tI_19, zI_19, fI_19_0, bI_19, tI_41, zI_41, eI_41, eB_41, eZ_41, underlying41]
  refine arun_each (σ := List Int × Int × Store) [] [0, 4] l
    (fun i p => p.1.length = i ∧ p.1 ++ seqI (l.drop i).length p.2.1 = seqI l.length j ∧ p.2.1 = j + i ∧ Own p.2.2 (.slice ((p.1 ++ l.drop i).map iv)) o bs ∧ ∀ q, q ∉ bs → p.2.2 q = st q)
    (fun i p => [(1, .int .i64 p.2.1), (5, .int .i64 i)]) (fun _ p => p.2.2) (by decide +kernel)
    ⟨([], j, st), ⟨rfl, rfl, by simp, hO, fun _ _ => rfl⟩, LessL.mk (by simp -implicitDefEqProofs only [evb0, evb1, evb2, evb3, evb4, evb5, evb6, ↓Int.cast_ofNat_Int, implies_true, ne_eq, isMut, aFn, List.contains, List.elem, aBox, aField, aLoad, sub, aNil, aPick, aExt, aFld, gd, noJunk, plainOp, aBuildSlice, aParts, seqParts, fitAll, List.range', ↓reduceIte, reduceCtorEq, Nat.reduceEqDiff, Nat.reduceAdd, Nat.reduceLeDiff, Nat.reduceMul, Nat.reduceLT, Nat.reduceBEq, Int.reduceEq, tI_2, zI_2, underlying2, tI_3, zI_3, underlying3, tI_4, zI_4, underlying4, tI_5, zI_5, underlying5, tI_6, zI_6, underlying6, tI_7, zI_7, fI_7_0, fI_7_1, fI_7_2, fI_7_3, bI_7, tI_8, zI_8, fI_8_0, fI_8_1, fI_8_2, fI_8_3, bI_8, tI_17, zI_17, tI_19, zI_19, fI_19_0, bI_19, tI_41, zI_41, eI_41, eB_41, eZ_41, underlying41])⟩ (fun i x p hx hlt hlt' hdr hinv => ?_) (fun p hge hinv => ?_)
  case refine_2 =>
    obtain ⟨done, k, s⟩ := p
    obtain ⟨i1, i2, i3, i5, i6⟩ := hinv
    simp only at i1 i2 i3 i5 i6
    subst i3
    simp -implicitDefEqProofs only [haL, hge, evb0, evb1, evb2, evb3, evb4, evb5, evb6, ↓Int.cast_ofNat_Int, implies_true, ne_eq, isMut, aFn, List.contains, List.elem, aBox, aField, aLoad, sub, aNil, aPick, aExt, aFld, gd, noJunk, plainOp, aBuildSlice, aParts, seqParts, fitAll, List.range', ↓reduceIte, reduceCtorEq, Nat.reduceEqDiff, Nat.reduceAdd, Nat.reduceLeDiff, Nat.reduceMul, Nat.reduceLT, Nat.reduceBEq, Int.reduceEq, tI_2, zI_2, underlying2, tI_3, zI_3, underlying3, tI_4, zI_4, underlying4, tI_5, zI_5, underlying5, tI_6, zI_6, underlying6, tI_7, zI_7, fI_7_0, fI_7_1, fI_7_2, fI_7_3, bI_7, tI_8, zI_8, fI_8_0, fI_8_1, fI_8_2, fI_8_3, bI_8, tI_17, zI_17, tI_19, zI_19, fI_19_0, bI_19, tI_41, zI_41, eI_41, eB_41, eZ_41, underlying41]
    simp only [List.drop_length, List.length_nil, seqI, List.append_nil] at i2 i5
    exact ⟨rfl, by rw [← i2]; exact i5, i6⟩
  obtain ⟨done, k, s⟩ := p
  obtain ⟨i1, i2, i3, i5, i6⟩ := hinv
  simp only at i1 i2 i3 i5 i6
  rw [hdr] at i2 i5
  have hget := marked_get (av := iv) (done := done) (x := x) (rest := l.drop (i + 1))
  obtain ⟨b, bs', w, A, oe, bo, B, rfl, hbs, hsb, hA, hoe, hbo, hbn, hsub, hw, hi, hfoc⟩ := i5.focus hnd hget
  rw [iv_width] at hw
  subst hw
  rw [i1] at hA
  obtain ⟨rfl, rfl⟩ := own_int.1 hoe
  have hlen2 : ((done ++ x :: l.drop (i + 1)).map iv).length = l.length := by
    rw [List.length_map, List.length_append, List.length_cons, List.length_drop, i1]; omega
  rw [hlen2] at haL hfoc ⊢
  have hat := held_at (b := b) (len := l.length) (w := 1) (i := i) eI_41 hlt
  have hw1 := wrap64 (n := k + 1) (by omega) (by omega)
  have hw4 := wrap64 (n := (i : Int) + 1) (by omega) (by omega)
  obtain ⟨e1, e2, e3, e4, e5, e6⟩ := midE (B := B) hA
  simp -implicitDefEqProofs only [haL, hlt', hat, hsb, hw1, hw4, e4, e5, e6, List.set_cons_zero, evb0, evb1, evb2, evb3, evb4, evb5, evb6, ↓Int.cast_ofNat_Int, implies_true, ne_eq, isMut, aFn, List.contains, List.elem, aBox, aField, aLoad, sub, aNil, aPick, aExt, aFld, gd, noJunk, plainOp, aBuildSlice, aParts, seqParts, fitAll, List.range', ↓reduceIte, reduceCtorEq, Nat.reduceEqDiff, Nat.reduceAdd, Nat.reduceLeDiff, Nat.reduceMul, Nat.reduceLT, Nat.reduceBEq, Int.reduceEq, tI_2, zI_2, underlying2, tI_3, zI_3, underlying3, tI_4, zI_4, underlying4, tI_5, zI_5, underlying5, tI_6, zI_6, underlying6, tI_7, zI_7, fI_7_0, fI_7_1, fI_7_2, fI_7_3, bI_7, tI_8, zI_8, fI_8_0, fI_8_1, fI_8_2, fI_8_3, bI_8, tI_17, zI_17, tI_19, zI_19, fI_19_0, bI_19, tI_41, zI_41, eI_41, eB_41, eZ_41, underlying41]
  refine ⟨(done ++ [k], k + 1, _), ⟨?_, ?_, ?_, ?_, ?_⟩, LessL.mk (by simp -implicitDefEqProofs only [evb0, evb1, evb2, evb3, evb4, evb5, evb6, ↓Int.cast_ofNat_Int, implies_true, ne_eq, isMut, aFn, List.contains, List.elem, aBox, aField, aLoad, sub, aNil, aPick, aExt, aFld, gd, noJunk, plainOp, aBuildSlice, aParts, seqParts, fitAll, List.range', ↓reduceIte, reduceCtorEq, Nat.reduceEqDiff, Nat.reduceAdd, Nat.reduceLeDiff, Nat.reduceMul, Nat.reduceLT, Nat.reduceBEq, Int.reduceEq, tI_2, zI_2, underlying2, tI_3, zI_3, underlying3, tI_4, zI_4, underlying4, tI_5, zI_5, underlying5, tI_6, zI_6, underlying6, tI_7, zI_7, fI_7_0, fI_7_1, fI_7_2, fI_7_3, bI_7, tI_8, zI_8, fI_8_0, fI_8_1, fI_8_2, fI_8_3, bI_8, tI_17, zI_17, tI_19, zI_19, fI_19_0, bI_19, tI_41, zI_41, eI_41, eB_41, eZ_41, underlying41])⟩
  · simp [i1]
  · simp only [List.length_cons, seqI] at i2
    rw [← i2]
    simp
  · simp only; omega
  · have := hfoc (s.upd b (.cells (A ++ [.int .i64 k] ++ B))) (iv k) (iv k) rfl (fun x hx hxb hxo => Store.upd_ne _ _ hxb) (by rw [Store.upd_same]; rfl) (own_int.2 ⟨rfl, rfl⟩)
    rw [marked_set] at this
    exact this
  · intro x hx
    have hxb : x ≠ b := fun e => hx (by rw [hbs]; simp [e])
    show (s.upd b _) x = st x
    rw [Store.upd_ne _ _ hxb, i6 x hx]

theorem c_heldIntS (n : Nat) (j : Int) (st : Store) (hj0 : 0 ≤ j) (hj1 : j + n ≤ 1099511627776) :
    ACalls prog 22 [.slice ((seqI n j).map iv), .int .i64 j] st (fun r st' => r = .int .i64 (j + n) ∧ st' = st) := by
  refine acalls_fit [] func22 ntmps22 rfl rfl (by kernel_rfl) (by decide +kernel) (by show 2 ≤ _; decide +kernel) ?_
  simp only [fitsL, AV.fits, and_true, List.length_map, seqI_length]
  intro ⟨hl, _⟩
  simp -implicitDefEqProofs only [evb0, evb1, evb2, evb3, evb4, evb5, evb6, ↓Int.cast_ofNat_Int, implies_true, ne_eq, isMut, aFn, List.contains, List.elem, aBox, aField, aLoad, sub, aNil, aPick, aExt, aFld, gd, noJunk, plainOp, aBuildSlice, aParts, seqParts, fitAll, List.range', ↓reduceIte, reduceCtorEq, Nat.reduceEqDiff, Nat.reduceAdd, Nat.reduceLeDiff, Nat.reduceMul, Nat.reduceLT, Nat.reduceBEq, Int.reduceEq, tI_2, zI_2, underlying2, tI_3, zI_3, underlying3, tI_4, zI_4, underlying4, tI_5, zI_5, underlying5, tI_6, zI_6, underlying6, tI_7, zI_7, fI_7_0, fI_7_1, fI_7_2, fI_7_3, bI_7, tI_8, zI_8, fI_8_0, fI_8_1, fI_8_2, fI_8_3, bI_8, tI_19, zI_19, fI_19_0, bI_19, tI_21, zI_21, underlying21, tI_41, zI_41, eI_41, eB_41, eZ_41, underlying41]
  refine arun_each (σ := Int) [] [0] (seqI n j) (fun i k => (seqI n j).drop i = seqI (n - i) k ∧ k = j + i) (fun i k => [(1, .int .i64 k), (5, .int .i64 i)]) (fun _ _ => st) (by decide +kernel)
    ⟨j, ⟨rfl, by simp⟩, LessL.mk (by simp -implicitDefEqProofs only [evb0, evb1, evb2, evb3, evb4, evb5, evb6, ↓Int.cast_ofNat_Int, implies_true, ne_eq, isMut, aFn, List.contains, List.elem, aBox, aField, aLoad, sub, aNil, aPick, aExt, aFld, gd, noJunk, plainOp, aBuildSlice, aParts, seqParts, fitAll, List.range', ↓reduceIte, reduceCtorEq, Nat.reduceEqDiff, Nat.reduceAdd, Nat.reduceLeDiff, Nat.reduceMul, Nat.reduceLT, Nat.reduceBEq, Int.reduceEq, tI_2, zI_2, underlying2, tI_3, zI_3, underlying3, tI_4, zI_4, underlying4, tI_5, zI_5, underlying5, tI_6, zI_6, underlying6, tI_7, zI_7, fI_7_0, fI_7_1, fI_7_2, fI_7_3, bI_7, tI_8, zI_8, fI_8_0, fI_8_1, fI_8_2, fI_8_3, bI_8, tI_19, zI_19, fI_19_0, bI_19, tI_21, zI_21, underlying21, tI_41, zI_41, eI_41, eB_41, eZ_41, underlying41])⟩ (fun i x k hx hlt hlt' hdr hinv => ?_) (fun k hge hinv => ?_)
  case refine_2 =>
    rw [hinv.2]
    rw [seqI_length] at hge ⊢
    simp -implicitDefEqProofs only [List.length_map, seqI_length, hge, evb0, evb1, evb2, evb3, evb4, evb5, evb6, ↓Int.cast_ofNat_Int, implies_true, ne_eq, isMut, aFn, List.contains, List.elem, aBox, aField, aLoad, sub, aNil, aPick, aExt, aFld, gd, noJunk, plainOp, aBuildSlice, aParts, seqParts, fitAll, List.range', ↓reduceIte, reduceCtorEq, Nat.reduceEqDiff, Nat.reduceAdd, Nat.reduceLeDiff, Nat.reduceMul, Nat.reduceLT, Nat.reduceBEq, Int.reduceEq, tI_2, zI_2, underlying2, tI_3, zI_3, underlying3, tI_4, zI_4, underlying4, tI_5, zI_5, underlying5, tI_6, zI_6, underlying6, tI_7, zI_7, fI_7_0, fI_7_1, fI_7_2, fI_7_3, bI_7, tI_8, zI_8, fI_8_0, fI_8_1, fI_8_2, fI_8_3, bI_8, tI_19, zI_19, fI_19_0, bI_19, tI_21, zI_21, underlying21, tI_41, zI_41, eI_41, eB_41, eZ_41, underlying41]
  rw [seqI_length] at hlt hlt'
  obtain ⟨i1, i2⟩ := hinv
  rw [hdr, show n - i = (n - (i + 1)) + 1 by omega, seqI] at i1
  obtain ⟨rfl, i1⟩ := List.cons.inj i1
  have hw1 := wrap64 (n := x + 1) (by omega) (by omega)
  have hw4 := wrap64 (n := (i : Int) + 1) (by omega) (by omega)
  simp -implicitDefEqProofs only [List.length_map, seqI_length, hlt', ev_at (av := iv) eI_41 hx rfl, evb0, evb1, evb2, evb3, evb4, evb5, evb6, ↓Int.cast_ofNat_Int, implies_true, ne_eq, isMut, aFn, List.contains, List.elem, aBox, aField, aLoad, sub, aNil, aPick, aExt, aFld, gd, noJunk, plainOp, aBuildSlice, aParts, seqParts, fitAll, List.range', ↓reduceIte, reduceCtorEq, Nat.reduceEqDiff, Nat.reduceAdd, Nat.reduceLeDiff, Nat.reduceMul, Nat.reduceLT, Nat.reduceBEq, Int.reduceEq, tI_2, zI_2, underlying2, tI_3, zI_3, underlying3, tI_4, zI_4, underlying4, tI_5, zI_5, underlying5, tI_6, zI_6, underlying6, tI_7, zI_7, fI_7_0, fI_7_1, fI_7_2, fI_7_3, bI_7, tI_8, zI_8, fI_8_0, fI_8_1, fI_8_2, fI_8_3, bI_8, tI_19, zI_19, fI_19_0, bI_19, tI_21, zI_21, underlying21, tI_41, zI_41, eI_41, eB_41, eZ_41, underlying41]
  exact ⟨x + 1, ⟨i1, by omega⟩, LessL.mk (by simp -implicitDefEqProofs only [hw1, hw4, evb0, evb1, evb2, evb3, evb4, evb5, evb6, ↓Int.cast_ofNat_Int, implies_true, ne_eq, isMut, aFn, List.contains, List.elem, aBox, aField, aLoad, sub, aNil, aPick, aExt, aFld, gd, noJunk, plainOp, aBuildSlice, aParts, seqParts, fitAll, List.range', ↓reduceIte, reduceCtorEq, Nat.reduceEqDiff, Nat.reduceAdd, Nat.reduceLeDiff, Nat.reduceMul, Nat.reduceLT, Nat.reduceBEq, Int.reduceEq, tI_2, zI_2, underlying2, tI_3, zI_3, underlying3, tI_4, zI_4, underlying4, tI_5, zI_5, underlying5, tI_6, zI_6, underlying6, tI_7, zI_7, fI_7_0, fI_7_1, fI_7_2, fI_7_3, bI_7, tI_8, zI_8, fI_8_0, fI_8_1, fI_8_2, fI_8_3, bI_8, tI_19, zI_19, fI_19_0, bI_19, tI_21, zI_21, underlying21, tI_41, zI_41, eI_41, eB_41, eZ_41, underlying41])⟩

theorem c_eqIntS (l l' : List Int) (st : Store) : ACalls prog 19 [.slice (l.map iv), .slice (l'.map iv)] st (fun r st' => r = .bool (decide (l = l')) ∧ st' = st) := by
  refine acalls_fit [] func19 ntmps19 rfl rfl (by kernel_rfl) (by decide +kernel) (by show 2 ≤ _; decide +kernel) ?_
  simp only [fitsL, AV.fits, and_true, List.length_map]
  intro ⟨⟨hl, _⟩, ⟨hl', _⟩⟩
  simp -implicitDefEqProofs only [List.length_map, evb0, evb1, evb2, evb3, evb4, evb5, evb6, ↓Int.cast_ofNat_Int, implies_true, ne_eq, isMut, aFn, List.contains, List.elem, aBox, aField, aLoad, sub, aNil, aPick, aExt, aFld, gd, noJunk, plainOp, aBuildSlice, aParts, seqParts, fitAll, List.range', ↓reduceIte, reduceCtorEq, Nat.reduceEqDiff, Nat.reduceAdd, Nat.reduceLeDiff, Nat.reduceMul, Nat.reduceLT, Nat.reduceBEq, Int.reduceEq, tI_2, zI_2, underlying2, tI_3, zI_3, underlying3, tI_4, zI_4, underlying4, tI_5, zI_5, underlying5, tI_6, zI_6, underlying6, tI_7, zI_7, fI_7_0, fI_7_1, fI_7_2, fI_7_3, bI_7, tI_8, zI_8, fI_8_0, fI_8_1, fI_8_2, fI_8_3, bI_8, tI_9, zI_9, underlying9, tI_11, zI_11, underlying11, tI_12, zI_12, underlying12, tI_13, zI_13, fI_13_0, fI_13_1, bI_13, tI_25, zI_25, eI_25, eB_25, eZ_25, underlying25, tI_26, zI_26, fI_26_0, fI_26_1, fI_26_2, bI_26, tI_41, zI_41, eI_41, eB_41, eZ_41, underlying41]
  refine cond_split (fun h => ?_) (fun h => ?_)
  · simp -implicitDefEqProofs only [evb0, evb1, evb2, evb3, evb4, evb5, evb6, ↓Int.cast_ofNat_Int, implies_true, ne_eq, isMut, aFn, List.contains, List.elem, aBox, aField, aLoad, sub, aNil, aPick, aExt, aFld, gd, noJunk, plainOp, aBuildSlice, aParts, seqParts, fitAll, List.range', ↓reduceIte, reduceCtorEq, Nat.reduceEqDiff, Nat.reduceAdd, Nat.reduceLeDiff, Nat.reduceMul, Nat.reduceLT, Nat.reduceBEq, Int.reduceEq, tI_2, zI_2, underlying2, tI_3, zI_3, underlying3, tI_4, zI_4, underlying4, tI_5, zI_5, underlying5, tI_6, zI_6, underlying6, tI_7, zI_7, fI_7_0, fI_7_1, fI_7_2, fI_7_3, bI_7, tI_8, zI_8, fI_8_0, fI_8_1, fI_8_2, fI_8_3, bI_8, tI_9, zI_9, underlying9, tI_11, zI_11, underlying11, tI_12, zI_12, underlying12, tI_13, zI_13, fI_13_0, fI_13_1, bI_13, tI_25, zI_25, eI_25, eB_25, eZ_25, underlying25, tI_26, zI_26, fI_26_0, fI_26_1, fI_26_2, bI_26, tI_41, zI_41, eI_41, eB_41, eZ_41, underlying41]
    simp only [Bool.not_eq_true', decide_eq_false_iff_not] at h
    symm
    rw [AV.bool.injEq, decide_eq_false_iff_not]
    rintro rfl
    exact h rfl
  simp only [Bool.not_eq_false', decide_eq_true_eq] at h
  simp -implicitDefEqProofs only [evb0, evb1, evb2, evb3, evb4, evb5, evb6, ↓Int.cast_ofNat_Int, implies_true, ne_eq, isMut, aFn, List.contains, List.elem, aBox, aField, aLoad, sub, aNil, aPick, aExt, aFld, gd, noJunk, plainOp, aBuildSlice, aParts, seqParts, fitAll, List.range', ↓reduceIte, reduceCtorEq, Nat.reduceEqDiff, Nat.reduceAdd, Nat.reduceLeDiff, Nat.reduceMul, Nat.reduceLT, Nat.reduceBEq, Int.reduceEq, tI_2, zI_2, underlying2, tI_3, zI_3, underlying3, tI_4, zI_4, underlying4, tI_5, zI_5, underlying5, tI_6, zI_6, underlying6, tI_7, zI_7, fI_7_0, fI_7_1, fI_7_2, fI_7_3, bI_7, tI_8, zI_8, fI_8_0, fI_8_1, fI_8_2, fI_8_3, bI_8, tI_9, zI_9, underlying9, tI_11, zI_11, underlying11, tI_12, zI_12, underlying12, tI_13, zI_13, fI_13_0, fI_13_1, bI_13, tI_25, zI_25, eI_25, eB_25, eZ_25, underlying25, tI_26, zI_26, fI_26_0, fI_26_1, fI_26_2, bI_26, tI_41, zI_41, eI_41, eB_41, eZ_41, underlying41]
  refine arun_each (σ := Unit) [] [0, 1] l (fun i _ => l = l' ↔ l.drop i = l'.drop i) (fun i _ => [(5, .int .i64 i)]) (fun _ _ => st) (by decide +kernel) ⟨(), by simp, LessL.mk (by simp -implicitDefEqProofs only [evb0, evb1, evb2, evb3, evb4, evb5, evb6, ↓Int.cast_ofNat_Int, implies_true, ne_eq, isMut, aFn, List.contains, List.elem, aBox, aField, aLoad, sub, aNil, aPick, aExt, aFld, gd, noJunk, plainOp, aBuildSlice, aParts, seqParts, fitAll, List.range', ↓reduceIte, reduceCtorEq, Nat.reduceEqDiff, Nat.reduceAdd, Nat.reduceLeDiff, Nat.reduceMul, Nat.reduceLT, Nat.reduceBEq, Int.reduceEq, tI_2, zI_2, underlying2, tI_3, zI_3, underlying3, tI_4, zI_4, underlying4, tI_5, zI_5, underlying5, tI_6, zI_6, underlying6, tI_7, zI_7, fI_7_0, fI_7_1, fI_7_2, fI_7_3, bI_7, tI_8, zI_8, fI_8_0, fI_8_1, fI_8_2, fI_8_3, bI_8, tI_9, zI_9, underlying9, tI_11, zI_11, underlying11, tI_12, zI_12, underlying12, tI_13, zI_13, fI_13_0, fI_13_1, bI_13, tI_25, zI_25, eI_25, eB_25, eZ_25, underlying25, tI_26, zI_26, fI_26_0, fI_26_1, fI_26_2, bI_26, tI_41, zI_41, eI_41, eB_41, eZ_41, underlying41])⟩ (fun i x _ hx hlt hlt' hdr hinv => ?_) (fun _ hge hinv => ?_)
  case refine_2 =>
    simp -implicitDefEqProofs only [List.length_map, hge, evb0, evb1, evb2, evb3, evb4, evb5, evb6, ↓Int.cast_ofNat_Int, implies_true, ne_eq, isMut, aFn, List.contains, List.elem, aBox, aField, aLoad, sub, aNil, aPick, aExt, aFld, gd, noJunk, plainOp, aBuildSlice, aParts, seqParts, fitAll, List.range', ↓reduceIte, reduceCtorEq, Nat.reduceEqDiff, Nat.reduceAdd, Nat.reduceLeDiff, Nat.reduceMul, Nat.reduceLT, Nat.reduceBEq, Int.reduceEq, tI_2, zI_2, underlying2, tI_3, zI_3, underlying3, tI_4, zI_4, underlying4, tI_5, zI_5, underlying5, tI_6, zI_6, underlying6, tI_7, zI_7, fI_7_0, fI_7_1, fI_7_2, fI_7_3, bI_7, tI_8, zI_8, fI_8_0, fI_8_1, fI_8_2, fI_8_3, bI_8, tI_9, zI_9, underlying9, tI_11, zI_11, underlying11, tI_12, zI_12, underlying12, tI_13, zI_13, fI_13_0, fI_13_1, bI_13, tI_25, zI_25, eI_25, eB_25, eZ_25, underlying25, tI_26, zI_26, fI_26_0, fI_26_1, fI_26_2, bI_26, tI_41, zI_41, eI_41, eB_41, eZ_41, underlying41]
    symm
    rw [AV.bool.injEq, decide_eq_true_eq, hinv, List.drop_length, show l.length = l'.length by omega, List.drop_length]
  obtain ⟨y, hy⟩ : ∃ y, l'[i]? = some y := ⟨_, List.getElem?_eq_getElem (by omega)⟩
  simp -implicitDefEqProofs only [List.length_map, hlt', evb0, evb1, evb2, evb3, evb4, evb5, evb6, ↓Int.cast_ofNat_Int, implies_true, ne_eq, isMut, aFn, List.contains, List.elem, aBox, aField, aLoad, sub, aNil, aPick, aExt, aFld, gd, noJunk, plainOp, aBuildSlice, aParts, seqParts, fitAll, List.range', ↓reduceIte, reduceCtorEq, Nat.reduceEqDiff, Nat.reduceAdd, Nat.reduceLeDiff, Nat.reduceMul, Nat.reduceLT, Nat.reduceBEq, Int.reduceEq, tI_2, zI_2, underlying2, tI_3, zI_3, underlying3, tI_4, zI_4, underlying4, tI_5, zI_5, underlying5, tI_6, zI_6, underlying6, tI_7, zI_7, fI_7_0, fI_7_1, fI_7_2, fI_7_3, bI_7, tI_8, zI_8, fI_8_0, fI_8_1, fI_8_2, fI_8_3, bI_8, tI_9, zI_9, underlying9, tI_11, zI_11, underlying11, tI_12, zI_12, underlying12, tI_13, zI_13, fI_13_0, fI_13_1, bI_13, tI_25, zI_25, eI_25, eB_25, eZ_25, underlying25, tI_26, zI_26, fI_26_0, fI_26_1, fI_26_2, bI_26, tI_41, zI_41, eI_41, eB_41, eZ_41, underlying41]
  refine arun_drawA mixed (by decide +kernel) (by decide +kernel) ?_
  simp -implicitDefEqProofs only [ev_at (av := iv) eI_41 hx rfl, ev_at (av := iv) eI_41 hy rfl, evb0, evb1, evb2, evb3, evb4, evb5, evb6, ↓Int.cast_ofNat_Int, implies_true, ne_eq, isMut, aFn, List.contains, List.elem, aBox, aField, aLoad, sub, aNil, aPick, aExt, aFld, gd, noJunk, plainOp, aBuildSlice, aParts, seqParts, fitAll, List.range', ↓reduceIte, reduceCtorEq, Nat.reduceEqDiff, Nat.reduceAdd, Nat.reduceLeDiff, Nat.reduceMul, Nat.reduceLT, Nat.reduceBEq, Int.reduceEq, tI_2, zI_2, underlying2, tI_3, zI_3, underlying3, tI_4, zI_4, underlying4, tI_5, zI_5, underlying5, tI_6, zI_6, underlying6, tI_7, zI_7, fI_7_0, fI_7_1, fI_7_2, fI_7_3, bI_7, tI_8, zI_8, fI_8_0, fI_8_1, fI_8_2, fI_8_3, bI_8, tI_9, zI_9, underlying9, tI_11, zI_11, underlying11, tI_12, zI_12, underlying12, tI_13, zI_13, fI_13_0, fI_13_1, bI_13, tI_25, zI_25, eI_25, eB_25, eZ_25, underlying25, tI_26, zI_26, fI_26_0, fI_26_1, fI_26_2, bI_26, tI_41, zI_41, eI_41, eB_41, eZ_41, underlying41]
  have hdr' : l'.drop i = y :: l'.drop (i + 1) := by
    obtain ⟨h1, h2⟩ := List.getElem?_eq_some_iff.1 hy
    rw [List.drop_eq_getElem_cons h1, h2]
  rw [hdr, hdr', List.cons.injEq] at hinv
  have hw4 := wrap64 (n := (i : Int) + 1) (by omega) (by omega)
  refine cond_split (fun h2 => ?_) (fun h2 => ?_)
  · simp -implicitDefEqProofs only [evb0, evb1, evb2, evb3, evb4, evb5, evb6, ↓Int.cast_ofNat_Int, implies_true, ne_eq, isMut, aFn, List.contains, List.elem, aBox, aField, aLoad, sub, aNil, aPick, aExt, aFld, gd, noJunk, plainOp, aBuildSlice, aParts, seqParts, fitAll, List.range', ↓reduceIte, reduceCtorEq, Nat.reduceEqDiff, Nat.reduceAdd, Nat.reduceLeDiff, Nat.reduceMul, Nat.reduceLT, Nat.reduceBEq, Int.reduceEq, tI_2, zI_2, underlying2, tI_3, zI_3, underlying3, tI_4, zI_4, underlying4, tI_5, zI_5, underlying5, tI_6, zI_6, underlying6, tI_7, zI_7, fI_7_0, fI_7_1, fI_7_2, fI_7_3, bI_7, tI_8, zI_8, fI_8_0, fI_8_1, fI_8_2, fI_8_3, bI_8, tI_9, zI_9, underlying9, tI_11, zI_11, underlying11, tI_12, zI_12, underlying12, tI_13, zI_13, fI_13_0, fI_13_1, bI_13, tI_25, zI_25, eI_25, eB_25, eZ_25, underlying25, tI_26, zI_26, fI_26_0, fI_26_1, fI_26_2, bI_26, tI_41, zI_41, eI_41, eB_41, eZ_41, underlying41]
    simp only [Bool.not_eq_true', decide_eq_false_iff_not] at h2
    symm
    rw [AV.bool.injEq, decide_eq_false_iff_not, hinv]
    exact fun h => h2 h.1
  · simp only [Bool.not_eq_false', decide_eq_true_eq] at h2
    simp -implicitDefEqProofs only [evb0, evb1, evb2, evb3, evb4, evb5, evb6, ↓Int.cast_ofNat_Int, implies_true, ne_eq, isMut, aFn, List.contains, List.elem, aBox, aField, aLoad, sub, aNil, aPick, aExt, aFld, gd, noJunk, plainOp, aBuildSlice, aParts, seqParts, fitAll, List.range', ↓reduceIte, reduceCtorEq, Nat.reduceEqDiff, Nat.reduceAdd, Nat.reduceLeDiff, Nat.reduceMul, Nat.reduceLT, Nat.reduceBEq, Int.reduceEq, tI_2, zI_2, underlying2, tI_3, zI_3, underlying3, tI_4, zI_4, underlying4, tI_5, zI_5, underlying5, tI_6, zI_6, underlying6, tI_7, zI_7, fI_7_0, fI_7_1, fI_7_2, fI_7_3, bI_7, tI_8, zI_8, fI_8_0, fI_8_1, fI_8_2, fI_8_3, bI_8, tI_9, zI_9, underlying9, tI_11, zI_11, underlying11, tI_12, zI_12, underlying12, tI_13, zI_13, fI_13_0, fI_13_1, bI_13, tI_25, zI_25, eI_25, eB_25, eZ_25, underlying25, tI_26, zI_26, fI_26_0, fI_26_1, fI_26_2, bI_26, tI_41, zI_41, eI_41, eB_41, eZ_41, underlying41]
    exact ⟨(), by rw [hinv]; simp [h2], LessL.mk (by simp -implicitDefEqProofs only [hw4, evb0, evb1, evb2, evb3, evb4, evb5, evb6, ↓Int.cast_ofNat_Int, implies_true, ne_eq, isMut, aFn, List.contains, List.elem, aBox, aField, aLoad, sub, aNil, aPick, aExt, aFld, gd, noJunk, plainOp, aBuildSlice, aParts, seqParts, fitAll, List.range', ↓reduceIte, reduceCtorEq, Nat.reduceEqDiff, Nat.reduceAdd, Nat.reduceLeDiff, Nat.reduceMul, Nat.reduceLT, Nat.reduceBEq, Int.reduceEq, tI_2, zI_2, underlying2, tI_3, zI_3, underlying3, tI_4, zI_4, underlying4, tI_5, zI_5, underlying5, tI_6, zI_6, underlying6, tI_7, zI_7, fI_7_0, fI_7_1, fI_7_2, fI_7_3, bI_7, tI_8, zI_8, fI_8_0, fI_8_1, fI_8_2, fI_8_3, bI_8, tI_9, zI_9, underlying9, tI_11, zI_11, underlying11, tI_12, zI_12, underlying12, tI_13, zI_13, fI_13_0, fI_13_1, bI_13, tI_25, zI_25, eI_25, eB_25, eZ_25, underlying25, tI_26, zI_26, fI_26_0, fI_26_1, fI_26_2, bI_26, tI_41, zI_41, eI_41, eB_41, eZ_41, underlying41])⟩
end Go.AW
