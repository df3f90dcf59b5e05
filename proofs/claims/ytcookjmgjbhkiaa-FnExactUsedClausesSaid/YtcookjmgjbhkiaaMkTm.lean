
/- Marks in terms: what the laws' helpers do. -/
import Derived.Test.YtcookjmgjbhkiaaMkD
import Derived.Test.YtcookjmgjbhkiaaTf
namespace Go.AW
open Go.Proofs.Try
set_option linter.unusedSimpArgs false
set_option maxRecDepth 100000

theorem c_markText (k : Int) (st : Store) (h1 : k ≤ 1099511627776) : ACalls prog 60 [.int .i64 k] st (fun r st' => r = .str (mt k) ∧ st' = st) := by
  refine acalls_fit [] func60 ntmps60 rfl rfl (by kernel_rfl) (by decide +kernel) (by show 1 ≤ _; decide +kernel) ?_
  intro _
  simp -implicitDefEqProofs only [evb0, evb1, evb2, evb3, evb4, evb5, evb6, ↓Int.cast_ofNat_Int, implies_true, ne_eq, isMut, aFn, List.contains, List.elem, aBox, aField, aLoad, sub, aNil, aPick, aExt, aFld, gd, noJunk, plainOp, aBuildSlice, aParts, seqParts, fitAll, List.range', ↓reduceIte, reduceCtorEq, Nat.reduceEqDiff, Nat.reduceAdd, Nat.reduceLeDiff, Nat.reduceMul, Nat.reduceLT, Nat.reduceBEq, Int.reduceEq, tI_2, zI_2, underlying2, tI_3, zI_3, underlying3, tI_4, zI_4, underlying4, tI_5, zI_5, underlying5, tI_6, zI_6, underlying6, tI_7, zI_7, fI_7_0, fI_7_1, fI_7_2, fI_7_3, bI_7, tI_9, zI_9, underlying9, tI_10, zI_10, underlying10, tI_17, zI_17, tI_97, zI_97, eI_97, eB_97, eZ_97, underlying97]
  refine cond_split (fun h => ?_) (fun h => ?_)
  · simp -implicitDefEqProofs only [evb0, evb1, evb2, evb3, evb4, evb5, evb6, ↓Int.cast_ofNat_Int, implies_true, ne_eq, isMut, aFn, List.contains, List.elem, aBox, aField, aLoad, sub, aNil, aPick, aExt, aFld, gd, noJunk, plainOp, aBuildSlice, aParts, seqParts, fitAll, List.range', ↓reduceIte, reduceCtorEq, Nat.reduceEqDiff, Nat.reduceAdd, Nat.reduceLeDiff, Nat.reduceMul, Nat.reduceLT, Nat.reduceBEq, Int.reduceEq, tI_2, zI_2, underlying2, tI_3, zI_3, underlying3, tI_4, zI_4, underlying4, tI_5, zI_5, underlying5, tI_6, zI_6, underlying6, tI_7, zI_7, fI_7_0, fI_7_1, fI_7_2, fI_7_3, bI_7, tI_9, zI_9, underlying9, tI_10, zI_10, underlying10, tI_17, zI_17, tI_97, zI_97, eI_97, eB_97, eZ_97, underlying97]
    simp only [decide_eq_true_eq] at h
    simp only [mt, h, if_true]
  simp only [decide_eq_false_iff_not] at h
  obtain ⟨n, rfl⟩ := Int.eq_ofNat_of_zero_le (show 0 ≤ k by omega)
  have hmt : mt (n : Int) = ⟨(109 :: mtDigs n []).toArray⟩ := by simp only [mt, h, if_false, Int.toNat_natCast]
  rw [hmt]
  simp -implicitDefEqProofs only [evb0, evb1, evb2, evb3, evb4, evb5, evb6, ↓Int.cast_ofNat_Int, implies_true, ne_eq, isMut, aFn, List.contains, List.elem, aBox, aField, aLoad, sub, aNil, aPick, aExt, aFld, gd, noJunk, plainOp, aBuildSlice, aParts, seqParts, fitAll, List.range', ↓reduceIte, reduceCtorEq, Nat.reduceEqDiff, Nat.reduceAdd, Nat.reduceLeDiff, Nat.reduceMul, Nat.reduceLT, Nat.reduceBEq, Int.reduceEq, tI_2, zI_2, underlying2, tI_3, zI_3, underlying3, tI_4, zI_4, underlying4, tI_5, zI_5, underlying5, tI_6, zI_6, underlying6, tI_7, zI_7, fI_7_0, fI_7_1, fI_7_2, fI_7_3, bI_7, tI_9, zI_9, underlying9, tI_10, zI_10, underlying10, tI_17, zI_17, tI_97, zI_97, eI_97, eB_97, eZ_97, underlying97]
  refine arun_whileK (σ := Nat × List UInt8) [] [2] (fun p => mtDigs p.1 p.2 = mtDigs n [] ∧ p.2.length + p.1 ≤ 1099511627776) (fun p => [(0, .int .i64 p.1), (3, .str ⟨p.2.toArray⟩)]) (fun _ => st) (fun p => p.1) (by decide +kernel)
    ⟨(n, []), ⟨rfl, by simp; omega⟩, LessL.mk (by simp -implicitDefEqProofs only [evb0, evb1, evb2, evb3, evb4, evb5, evb6, ↓Int.cast_ofNat_Int, implies_true, ne_eq, isMut, aFn, List.contains, List.elem, aBox, aField, aLoad, sub, aNil, aPick, aExt, aFld, gd, noJunk, plainOp, aBuildSlice, aParts, seqParts, fitAll, List.range', ↓reduceIte, reduceCtorEq, Nat.reduceEqDiff, Nat.reduceAdd, Nat.reduceLeDiff, Nat.reduceMul, Nat.reduceLT, Nat.reduceBEq, Int.reduceEq, tI_2, zI_2, underlying2, tI_3, zI_3, underlying3, tI_4, zI_4, underlying4, tI_5, zI_5, underlying5, tI_6, zI_6, underlying6, tI_7, zI_7, fI_7_0, fI_7_1, fI_7_2, fI_7_3, bI_7, tI_9, zI_9, underlying9, tI_10, zI_10, underlying10, tI_17, zI_17, tI_97, zI_97, eI_97, eB_97, eZ_97, underlying97])⟩ ?_
  rintro ⟨k, acc⟩ ⟨hd, hb⟩
  simp only at hd hb
  simp -implicitDefEqProofs only [evb0, evb1, evb2, evb3, evb4, evb5, evb6, ↓Int.cast_ofNat_Int, implies_true, ne_eq, isMut, aFn, List.contains, List.elem, aBox, aField, aLoad, sub, aNil, aPick, aExt, aFld, gd, noJunk, plainOp, aBuildSlice, aParts, seqParts, fitAll, List.range', ↓reduceIte, reduceCtorEq, Nat.reduceEqDiff, Nat.reduceAdd, Nat.reduceLeDiff, Nat.reduceMul, Nat.reduceLT, Nat.reduceBEq, Int.reduceEq, tI_2, zI_2, underlying2, tI_3, zI_3, underlying3, tI_4, zI_4, underlying4, tI_5, zI_5, underlying5, tI_6, zI_6, underlying6, tI_7, zI_7, fI_7_0, fI_7_1, fI_7_2, fI_7_3, bI_7, tI_9, zI_9, underlying9, tI_10, zI_10, underlying10, tI_17, zI_17, tI_97, zI_97, eI_97, eB_97, eZ_97, underlying97]
  refine cond_split (fun h2 => ?_) (fun h2 => ?_)
  case refine_2 =>
    simp only [decide_eq_false_iff_not] at h2
    obtain rfl : k = 0 := by omega
    rw [mtDigs_zero] at hd
    have hsz : (⟨#[109]⟩ : ByteArray).size + (⟨acc.toArray⟩ : ByteArray).size ≤ maxLen := by
      show 1 + acc.toArray.size ≤ maxLen
      unfold maxLen
      simp; omega
    simp -implicitDefEqProofs only [hsz, if_pos, evb0, evb1, evb2, evb3, evb4, evb5, evb6, ↓Int.cast_ofNat_Int, implies_true, ne_eq, isMut, aFn, List.contains, List.elem, aBox, aField, aLoad, sub, aNil, aPick, aExt, aFld, gd, noJunk, plainOp, aBuildSlice, aParts, seqParts, fitAll, List.range', ↓reduceIte, reduceCtorEq, Nat.reduceEqDiff, Nat.reduceAdd, Nat.reduceLeDiff, Nat.reduceMul, Nat.reduceLT, Nat.reduceBEq, Int.reduceEq, tI_2, zI_2, underlying2, tI_3, zI_3, underlying3, tI_4, zI_4, underlying4, tI_5, zI_5, underlying5, tI_6, zI_6, underlying6, tI_7, zI_7, fI_7_0, fI_7_1, fI_7_2, fI_7_3, bI_7, tI_9, zI_9, underlying9, tI_10, zI_10, underlying10, tI_17, zI_17, tI_97, zI_97, eI_97, eB_97, eZ_97, underlying97]
    rw [← hd]
    congr 1
  simp only [decide_eq_true_eq] at h2
  have hr : ((k : Int)).tmod 10 = ((k % 10 : Nat) : Int) := by rw [Int.tmod_eq_emod_of_nonneg (by omega)]; omega
  have hq : ((k : Int)).tdiv 10 = ((k / 10 : Nat) : Int) := by rw [Int.tdiv_eq_ediv_of_nonneg (by omega)]; omega
  have hw := wrap64 (n := 48 + ((k % 10 : Nat) : Int)) (by omega) (by omega)
  have hw8 : IntKind.wrap .u8 (48 + ((k % 10 : Nat) : Int)) = ((48 + k % 10 : Nat) : Int) := by rw [IntKind.wrap_u8]; omega
  have hw2 := wrap64 (n := ((k / 10 : Nat) : Int)) (by omega) (by omega)
  have hby : bytesOf [AV.int .u8 ((48 + k % 10 : Nat) : Int)] = some [UInt8.ofNat (48 + k % 10)] := by
    simp only [bytesOf, Int.toNat_natCast, Option.map_some]
  have hsz : (⟨#[UInt8.ofNat (48 + k % 10)]⟩ : ByteArray).size + (⟨acc.toArray⟩ : ByteArray).size ≤ maxLen := by
    show 1 + acc.toArray.size ≤ maxLen
    unfold maxLen
    simp; omega
  simp -implicitDefEqProofs only [aConvert, hr, hq, hw, hw8, hw2, hby, hsz, if_pos, evb0, evb1, evb2, evb3, evb4, evb5, evb6, ↓Int.cast_ofNat_Int, implies_true, ne_eq, isMut, aFn, List.contains, List.elem, aBox, aField, aLoad, sub, aNil, aPick, aExt, aFld, gd, noJunk, plainOp, aBuildSlice, aParts, seqParts, fitAll, List.range', ↓reduceIte, reduceCtorEq, Nat.reduceEqDiff, Nat.reduceAdd, Nat.reduceLeDiff, Nat.reduceMul, Nat.reduceLT, Nat.reduceBEq, Int.reduceEq, tI_2, zI_2, underlying2, tI_3, zI_3, underlying3, tI_4, zI_4, underlying4, tI_5, zI_5, underlying5, tI_6, zI_6, underlying6, tI_7, zI_7, fI_7_0, fI_7_1, fI_7_2, fI_7_3, bI_7, tI_9, zI_9, underlying9, tI_10, zI_10, underlying10, tI_17, zI_17, tI_97, zI_97, eI_97, eB_97, eZ_97, underlying97]
  refine ⟨(k / 10, UInt8.ofNat (48 + k % 10) :: acc), by omega, ⟨by rw [← mtDigs_pos (by omega)]; exact hd, by simp only [List.length_cons]; omega⟩, LessL.mk (by simp -implicitDefEqProofs only [ba_append, evb0, evb1, evb2, evb3, evb4, evb5, evb6, ↓Int.cast_ofNat_Int, implies_true, ne_eq, isMut, aFn, List.contains, List.elem, aBox, aField, aLoad, sub, aNil, aPick, aExt, aFld, gd, noJunk, plainOp, aBuildSlice, aParts, seqParts, fitAll, List.range', ↓reduceIte, reduceCtorEq, Nat.reduceEqDiff, Nat.reduceAdd, Nat.reduceLeDiff, Nat.reduceMul, Nat.reduceLT, Nat.reduceBEq, Int.reduceEq, tI_2, zI_2, underlying2, tI_3, zI_3, underlying3, tI_4, zI_4, underlying4, tI_5, zI_5, underlying5, tI_6, zI_6, underlying6, tI_7, zI_7, fI_7_0, fI_7_1, fI_7_2, fI_7_3, bI_7, tI_9, zI_9, underlying9, tI_10, zI_10, underlying10, tI_17, zI_17, tI_97, zI_97, eI_97, eB_97, eZ_97, underlying97])⟩

theorem c_markTermS : ∀ (l : List Tm) (j : Int) (o : AV) (bs : List Nat) (st : Store), Own st (.slice (l.map Tm.av)) o bs → bs.Nodup → 0 ≤ j → j + sumL Tm.mks l ≤ 1099511627776 →
    ACalls prog 31 [o, .int .i64 j] st (Marked st (.slice ((markL Tm.mark Tm.mks l j).map Tm.av)) o bs (j + sumL Tm.mks l))
  | l, j, o, bs, st, hO, hnd, hj0, hj1 => by
    have IH := fun (k n : Int) (s : ByteArray) (ts : List Tm) (hm : Tm.mk k n s ts ∈ l) => c_markTermS ts
    obtain ⟨hlen, haL⟩ := hO.len
    rw [List.length_map] at hlen
    have haL := haL prog 30 _ underlying30
    rw [List.length_map] at haL
    refine acalls_fit [] func31 ntmps31 rfl rfl (by kernel_rfl) (by decide +kernel) (by show 2 ≤ _; decide +kernel) ?_
    simp only [fitsL]
    intro ⟨hf, _⟩
    have hl := hlen hf
    clear hf hlen
    simp -implicitDefEqProofs only [evb0, evb1, evb2, evb3, evb4, evb5, evb6, ↓Int.cast_ofNat_Int, implies_true, ne_eq, isMut, aFn, List.contains, List.elem, aBox, aField, aLoad, sub, aNil, aPick, aExt, aFld, gd, noJunk, plainOp, aBuildSlice, aParts, seqParts, fitAll, List.range', ↓reduceIte, reduceCtorEq, Nat.reduceEqDiff, Nat.reduceAdd, Nat.reduceLeDiff, Nat.reduceMul, Nat.reduceLT, Nat.reduceBEq, Int.reduceEq, tI_2, zI_2, underlying2, tI_3, zI_3, underlying3, tI_4, zI_4, underlying4, tI_5, zI_5, underlying5, tI_6, zI_6, underlying6, tI_7, zI_7, fI_7_0, fI_7_1, fI_7_2, fI_7_3, bI_7, tI_8, zI_8, fI_8_0, fI_8_1, fI_8_2, fI_8_3, bI_8, tI_9, zI_9, underlying9, tI_10, zI_10, underlying10, tI_11, zI_11, underlying11, tI_30, zI_30, eI_30, eB_30, eZ_30, underlying30, tI_31, zI_31, fI_31_0, fI_31_1, fI_31_2, fI_31_3, bI_31, tI_32, zI_32, fI_32_0, fI_32_1, fI_32_2, fI_32_3, bI_32]
    refine arun_each (σ := List Tm × Int × Store) [] [0, 4] l
      (fun i p => p.1.length = i ∧ p.1 ++ markL Tm.mark Tm.mks (l.drop i) p.2.1 = markL Tm.mark Tm.mks l j ∧ 0 ≤ p.2.1 ∧ p.2.1 + sumL Tm.mks (l.drop i) = j + sumL Tm.mks l ∧ Own p.2.2 (.slice ((p.1 ++ l.drop i).map Tm.av)) o bs ∧ ∀ q, q ∉ bs → p.2.2 q = st q)
      (fun i p => [(1, .int .i64 p.2.1), (5, .int .i64 i)]) (fun _ p => p.2.2) (by decide +kernel)
      ⟨([], j, st), ⟨rfl, rfl, hj0, rfl, hO, fun _ _ => rfl⟩, LessL.mk (by simp -implicitDefEqProofs only [evb0, evb1, evb2, evb3, evb4, evb5, evb6, ↓Int.cast_ofNat_Int, implies_true, ne_eq, isMut, aFn, List.contains, List.elem, aBox, aField, aLoad, sub, aNil, aPick, aExt, aFld, gd, noJunk, plainOp, aBuildSlice, aParts, seqParts, fitAll, List.range', ↓reduceIte, reduceCtorEq, Nat.reduceEqDiff, Nat.reduceAdd, Nat.reduceLeDiff, Nat.reduceMul, Nat.reduceLT, Nat.reduceBEq, Int.reduceEq, tI_2, zI_2, underlying2, tI_3, zI_3, underlying3, tI_4, zI_4, underlying4, tI_5, zI_5, underlying5, tI_6, zI_6, underlying6, tI_7, zI_7, fI_7_0, fI_7_1, fI_7_2, fI_7_3, bI_7, tI_8, zI_8, fI_8_0, fI_8_1, fI_8_2, fI_8_3, bI_8, tI_9, zI_9, underlying9, tI_10, zI_10, underlying10, tI_11, zI_11, underlying11, tI_30, zI_30, eI_30, eB_30, eZ_30, underlying30, tI_31, zI_31, fI_31_0, fI_31_1, fI_31_2, fI_31_3, bI_31, tI_32, zI_32, fI_32_0, fI_32_1, fI_32_2, fI_32_3, bI_32])⟩ (fun i x p hx hlt hlt' hdr hinv => ?_) (fun p hge hinv => ?_)
    case refine_2 =>
      obtain ⟨done, k, s⟩ := p
      obtain ⟨i1, i2, i3, i4, i5, i6⟩ := hinv
      simp only at i1 i2 i3 i4 i5 i6
      simp -implicitDefEqProofs only [haL, hge, evb0, evb1, evb2, evb3, evb4, evb5, evb6, ↓Int.cast_ofNat_Int, implies_true, ne_eq, isMut, aFn, List.contains, List.elem, aBox, aField, aLoad, sub, aNil, aPick, aExt, aFld, gd, noJunk, plainOp, aBuildSlice, aParts, seqParts, fitAll, List.range', ↓reduceIte, reduceCtorEq, Nat.reduceEqDiff, Nat.reduceAdd, Nat.reduceLeDiff, Nat.reduceMul, Nat.reduceLT, Nat.reduceBEq, Int.reduceEq, tI_2, zI_2, underlying2, tI_3, zI_3, underlying3, tI_4, zI_4, underlying4, tI_5, zI_5, underlying5, tI_6, zI_6, underlying6, tI_7, zI_7, fI_7_0, fI_7_1, fI_7_2, fI_7_3, bI_7, tI_8, zI_8, fI_8_0, fI_8_1, fI_8_2, fI_8_3, bI_8, tI_9, zI_9, underlying9, tI_10, zI_10, underlying10, tI_11, zI_11, underlying11, tI_30, zI_30, eI_30, eB_30, eZ_30, underlying30, tI_31, zI_31, fI_31_0, fI_31_1, fI_31_2, fI_31_3, bI_31, tI_32, zI_32, fI_32_0, fI_32_1, fI_32_2, fI_32_3, bI_32]
      simp only [List.drop_length, markL, List.append_nil, sumL] at i2 i4 i5
      exact ⟨by rw [← i4]; simp, by rw [← i2]; exact i5, i6⟩
    obtain ⟨done, k, s⟩ := p
    obtain ⟨i1, i2, i3, i4, i5, i6⟩ := hinv
    simp only at i1 i2 i3 i4 i5 i6
    rw [hdr] at i2 i4 i5
    obtain ⟨xk, xn, xs, xts⟩ := x
    simp only [sumL, Tm.mks_mk] at i4
    have hget := marked_get (av := Tm.av) (done := done) (x := .mk xk xn xs xts) (rest := l.drop (i + 1))
    obtain ⟨b, bs', w, A, oe, bo, B, rfl, hbs, hsb, hA, hoe, hbo, hbn, hsub, hw, hi, hfoc⟩ := i5.focus hnd hget
    rw [Tm.av_width] at hw
    subst hw
    rw [i1] at hA
    obtain ⟨q, rfl, hq⟩ := own_Tm.1 hoe
    have hlen2 : ((done ++ Tm.mk xk xn xs xts :: l.drop (i + 1)).map Tm.av).length = l.length := by
      rw [List.length_map, List.length_append, List.length_cons, List.length_drop, i1]; omega
    rw [hlen2] at haL hfoc ⊢
    have hat := held_at (b := b) (len := l.length) (w := 4) (i := i) eI_30 hlt
    have hbnd : ∀ (c : Nat), c < 4 → i * 4 + c + 1 ≤ A.length + (4 + B.length) := fun c hc => by rw [hA]; omega
    have hw1 := wrap64 (n := k + 1) (by omega) (by omega)
    have hw2 := wrap64 (n := k + 1 + 1) (by omega) (by omega)
    have hw3 := wrap64 (n := k + 1 + 1 + 1) (by omega) (by omega)
    have hw4 := wrap64 (n := (i : Int) + 1) (by omega) (by omega)
    obtain ⟨e1, e2, e3, e4, e5, e6⟩ := midE (B := B) hA
    simp -implicitDefEqProofs only [haL, hlt', hat, hsb, hw1, hw2, hw3, e1, e2, e3, e4, e5, e6, Nat.add_zero, List.set_cons_zero, List.set_cons_succ, Store.upd_upd, evb0, evb1, evb2, evb3, evb4, evb5, evb6, ↓Int.cast_ofNat_Int, implies_true, ne_eq, isMut, aFn, List.contains, List.elem, aBox, aField, aLoad, sub, aNil, aPick, aExt, aFld, gd, noJunk, plainOp, aBuildSlice, aParts, seqParts, fitAll, List.range', ↓reduceIte, reduceCtorEq, Nat.reduceEqDiff, Nat.reduceAdd, Nat.reduceLeDiff, Nat.reduceMul, Nat.reduceLT, Nat.reduceBEq, Int.reduceEq, tI_2, zI_2, underlying2, tI_3, zI_3, underlying3, tI_4, zI_4, underlying4, tI_5, zI_5, underlying5, tI_6, zI_6, underlying6, tI_7, zI_7, fI_7_0, fI_7_1, fI_7_2, fI_7_3, bI_7, tI_8, zI_8, fI_8_0, fI_8_1, fI_8_2, fI_8_3, bI_8, tI_9, zI_9, underlying9, tI_10, zI_10, underlying10, tI_11, zI_11, underlying11, tI_30, zI_30, eI_30, eB_30, eZ_30, underlying30, tI_31, zI_31, fI_31_0, fI_31_1, fI_31_2, fI_31_3, bI_31, tI_32, zI_32, fI_32_0, fI_32_1, fI_32_2, fI_32_3, bI_32]
    refine (c_markText (k + 1 + 1) _ (by omega)).to ?_
    simp -implicitDefEqProofs only [hat, e1, e2, e3, e4, e5, e6, Nat.add_zero, List.set_cons_zero, List.set_cons_succ, Store.upd_upd, hw1, hw2, hw3, evb0, evb1, evb2, evb3, evb4, evb5, evb6, ↓Int.cast_ofNat_Int, implies_true, ne_eq, isMut, aFn, List.contains, List.elem, aBox, aField, aLoad, sub, aNil, aPick, aExt, aFld, gd, noJunk, plainOp, aBuildSlice, aParts, seqParts, fitAll, List.range', ↓reduceIte, reduceCtorEq, Nat.reduceEqDiff, Nat.reduceAdd, Nat.reduceLeDiff, Nat.reduceMul, Nat.reduceLT, Nat.reduceBEq, Int.reduceEq, tI_2, zI_2, underlying2, tI_3, zI_3, underlying3, tI_4, zI_4, underlying4, tI_5, zI_5, underlying5, tI_6, zI_6, underlying6, tI_7, zI_7, fI_7_0, fI_7_1, fI_7_2, fI_7_3, bI_7, tI_8, zI_8, fI_8_0, fI_8_1, fI_8_2, fI_8_3, bI_8, tI_9, zI_9, underlying9, tI_10, zI_10, underlying10, tI_11, zI_11, underlying11, tI_30, zI_30, eI_30, eB_30, eZ_30, underlying30, tI_31, zI_31, fI_31_0, fI_31_1, fI_31_2, fI_31_3, bI_31, tI_32, zI_32, fI_32_0, fI_32_1, fI_32_2, fI_32_3, bI_32]
    have hqs : ∀ (o : AO), Own (s.upd b o) (.slice (xts.map Tm.av)) q bo := fun o => Own.keep _ _ _ (fun x hx => Store.upd_ne _ _ (fun e => hbn (e ▸ hx))) hq
    have hqa : q.isAgg = false := (Own.shape hq).1
    simp -implicitDefEqProofs only [hqa, evb0, evb1, evb2, evb3, evb4, evb5, evb6, ↓Int.cast_ofNat_Int, implies_true, ne_eq, isMut, aFn, List.contains, List.elem, aBox, aField, aLoad, sub, aNil, aPick, aExt, aFld, gd, noJunk, plainOp, aBuildSlice, aParts, seqParts, fitAll, List.range', ↓reduceIte, reduceCtorEq, Nat.reduceEqDiff, Nat.reduceAdd, Nat.reduceLeDiff, Nat.reduceMul, Nat.reduceLT, Nat.reduceBEq, Int.reduceEq, tI_2, zI_2, underlying2, tI_3, zI_3, underlying3, tI_4, zI_4, underlying4, tI_5, zI_5, underlying5, tI_6, zI_6, underlying6, tI_7, zI_7, fI_7_0, fI_7_1, fI_7_2, fI_7_3, bI_7, tI_8, zI_8, fI_8_0, fI_8_1, fI_8_2, fI_8_3, bI_8, tI_9, zI_9, underlying9, tI_10, zI_10, underlying10, tI_11, zI_11, underlying11, tI_30, zI_30, eI_30, eB_30, eZ_30, underlying30, tI_31, zI_31, fI_31_0, fI_31_1, fI_31_2, fI_31_3, bI_31, tI_32, zI_32, fI_32_0, fI_32_1, fI_32_2, fI_32_3, bI_32]
    refine (IH xk xn xs xts (List.mem_of_getElem? hx) (k + 1 + 1 + 1) q bo _ (hqs _) hbo (by omega) (by omega)).mono ?_
    rintro _ s2 ⟨rfl, hq2, hk2⟩
    simp -implicitDefEqProofs only [hw4, evb0, evb1, evb2, evb3, evb4, evb5, evb6, ↓Int.cast_ofNat_Int, implies_true, ne_eq, isMut, aFn, List.contains, List.elem, aBox, aField, aLoad, sub, aNil, aPick, aExt, aFld, gd, noJunk, plainOp, aBuildSlice, aParts, seqParts, fitAll, List.range', ↓reduceIte, reduceCtorEq, Nat.reduceEqDiff, Nat.reduceAdd, Nat.reduceLeDiff, Nat.reduceMul, Nat.reduceLT, Nat.reduceBEq, Int.reduceEq, tI_2, zI_2, underlying2, tI_3, zI_3, underlying3, tI_4, zI_4, underlying4, tI_5, zI_5, underlying5, tI_6, zI_6, underlying6, tI_7, zI_7, fI_7_0, fI_7_1, fI_7_2, fI_7_3, bI_7, tI_8, zI_8, fI_8_0, fI_8_1, fI_8_2, fI_8_3, bI_8, tI_9, zI_9, underlying9, tI_10, zI_10, underlying10, tI_11, zI_11, underlying11, tI_30, zI_30, eI_30, eB_30, eZ_30, underlying30, tI_31, zI_31, fI_31_0, fI_31_1, fI_31_2, fI_31_3, bI_31, tI_32, zI_32, fI_32_0, fI_32_1, fI_32_2, fI_32_3, bI_32]
    refine ⟨(done ++ [(Tm.mk xk xn xs xts).mark k], k + 1 + 1 + 1 + sumL Tm.mks xts, s2), ⟨?_, ?_, ?_, ?_, ?_, ?_⟩, LessL.mk (by simp -implicitDefEqProofs only [evb0, evb1, evb2, evb3, evb4, evb5, evb6, ↓Int.cast_ofNat_Int, implies_true, ne_eq, isMut, aFn, List.contains, List.elem, aBox, aField, aLoad, sub, aNil, aPick, aExt, aFld, gd, noJunk, plainOp, aBuildSlice, aParts, seqParts, fitAll, List.range', ↓reduceIte, reduceCtorEq, Nat.reduceEqDiff, Nat.reduceAdd, Nat.reduceLeDiff, Nat.reduceMul, Nat.reduceLT, Nat.reduceBEq, Int.reduceEq, tI_2, zI_2, underlying2, tI_3, zI_3, underlying3, tI_4, zI_4, underlying4, tI_5, zI_5, underlying5, tI_6, zI_6, underlying6, tI_7, zI_7, fI_7_0, fI_7_1, fI_7_2, fI_7_3, bI_7, tI_8, zI_8, fI_8_0, fI_8_1, fI_8_2, fI_8_3, bI_8, tI_9, zI_9, underlying9, tI_10, zI_10, underlying10, tI_11, zI_11, underlying11, tI_30, zI_30, eI_30, eB_30, eZ_30, underlying30, tI_31, zI_31, fI_31_0, fI_31_1, fI_31_2, fI_31_3, bI_31, tI_32, zI_32, fI_32_0, fI_32_1, fI_32_2, fI_32_3, bI_32])⟩
    · simp [i1]
    · simp only [markL, Tm.mks_mk] at i2
      rw [← i2, show k + ((3 + sumL Tm.mks xts : Nat) : Int) = k + 1 + 1 + 1 + (sumL Tm.mks xts : Int) by omega]
      simp
    · simp only; omega
    · simp only; omega
    · have := hfoc s2 ((Tm.mk xk xn xs xts).mark k).av (.agg [.int .i64 k, .int .i64 (k + 1), .str (mt (k + 1 + 1)), q]) (Tm.av_width _) (fun x hx hxb hxo => by rw [hk2 x hxo, Store.upd_ne _ _ hxb]) (by rw [hk2 b hbn, Store.upd_same]; rfl) (by rw [Tm.mark_mk]; exact own_Tm.2 ⟨q, rfl, hq2⟩)
      rw [marked_set] at this
      exact this
    · intro x hx
      have hxb : x ≠ b := fun e => hx (by rw [hbs]; simp [e])
      have hxo : x ∉ bo := fun e => hx (hsub x e)
      show s2 x = st x
      rw [hk2 x hxo, Store.upd_ne _ _ hxb, i6 x hx]
termination_by l => SizeOf.sizeOf l
decreasing_by have := List.sizeOf_lt_of_mem hm; simp only [Tm.mk.sizeOf_spec] at this; omega

end Go.AW
