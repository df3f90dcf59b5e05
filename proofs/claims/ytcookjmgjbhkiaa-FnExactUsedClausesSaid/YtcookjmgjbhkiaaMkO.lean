
/- Terms made in blocks of their own. -/
import Derived.Test.YtcookjmgjbhkiaaMkTm
namespace Go.AW
open Go.Proofs.Try
set_option linter.unusedSimpArgs false
set_option maxRecDepth 100000

theorem o_toTermS (l : List Tm) (st : Store) (hb : l.length ≤ 1048576) (hc : ∀ x ∈ l, ∀ (st : Store), ACalls prog 37 [Tm.av x] st (Made st (Tm.av x))) :
    ACalls prog 26 [.slice (l.map Tm.av)] st (Made st (.slice (l.map Tm.av))) := by
  refine acalls_fit [] func26 ntmps26 rfl rfl (by kernel_rfl) (by decide +kernel) (by show 1 ≤ _; decide +kernel) ?_
  intro _
  simp -implicitDefEqProofs only [List.length_map, aMakeSlice, evb0, evb1, evb2, evb3, evb4, evb5, evb6, ↓Int.cast_ofNat_Int, implies_true, ne_eq, isMut, aFn, List.contains, List.elem, aBox, aField, aLoad, sub, aNil, aPick, aExt, aFld, gd, noJunk, plainOp, aBuildSlice, aParts, seqParts, fitAll, List.range', ↓reduceIte, reduceCtorEq, Nat.reduceEqDiff, Nat.reduceAdd, Nat.reduceLeDiff, Nat.reduceMul, Nat.reduceLT, Nat.reduceBEq, Int.reduceEq, tI_2, zI_2, underlying2, tI_3, zI_3, underlying3, tI_4, zI_4, underlying4, tI_5, zI_5, underlying5, tI_6, zI_6, underlying6, tI_8, zI_8, fI_8_0, fI_8_1, fI_8_2, fI_8_3, bI_8, tI_9, zI_9, underlying9, tI_10, zI_10, underlying10, tI_19, zI_19, fI_19_0, bI_19, tI_21, zI_21, underlying21, tI_22, zI_22, eI_22, eB_22, eZ_22, underlying22, tI_23, zI_23, fI_23_0, fI_23_1, fI_23_2, fI_23_3, bI_23, tI_24, zI_24, fI_24_0, fI_24_1, fI_24_2, fI_24_3, bI_24, tI_30, zI_30, eI_30, eB_30, eZ_30, underlying30, tI_32, zI_32, fI_32_0, fI_32_1, fI_32_2, fI_32_3, bI_32]
  refine ⟨by omega, by omega, by omega, ?_⟩
  intro b hn
  rw [Int.toNat_natCast, madeAV_eq _ (by simp)]
  refine arun_each (σ := List AV × List Nat × Store) [] [0, 2, 3] l (fun i p => OwnTo (l.map Tm.av) [.int .i64 0, .int .i64 0, .str ⟨#[]⟩, .fslice []] b st i p) (fun i _ => [(4, .int .i64 i)]) (fun _ p => p.2.2) (by decide +kernel)
    ⟨([], [], _), ?_, LessL.mk (by simp -implicitDefEqProofs only [evb0, evb1, evb2, evb3, evb4, evb5, evb6, ↓Int.cast_ofNat_Int, implies_true, ne_eq, isMut, aFn, List.contains, List.elem, aBox, aField, aLoad, sub, aNil, aPick, aExt, aFld, gd, noJunk, plainOp, aBuildSlice, aParts, seqParts, fitAll, List.range', ↓reduceIte, reduceCtorEq, Nat.reduceEqDiff, Nat.reduceAdd, Nat.reduceLeDiff, Nat.reduceMul, Nat.reduceLT, Nat.reduceBEq, Int.reduceEq, tI_2, zI_2, underlying2, tI_3, zI_3, underlying3, tI_4, zI_4, underlying4, tI_5, zI_5, underlying5, tI_6, zI_6, underlying6, tI_8, zI_8, fI_8_0, fI_8_1, fI_8_2, fI_8_3, bI_8, tI_9, zI_9, underlying9, tI_10, zI_10, underlying10, tI_19, zI_19, fI_19_0, bI_19, tI_21, zI_21, underlying21, tI_22, zI_22, eI_22, eB_22, eZ_22, underlying22, tI_23, zI_23, fI_23_0, fI_23_1, fI_23_2, fI_23_3, bI_23, tI_24, zI_24, fI_24_0, fI_24_1, fI_24_2, fI_24_3, bI_24, tI_30, zI_30, eI_30, eB_30, eZ_30, underlying30, tI_32, zI_32, fI_32_0, fI_32_1, fI_32_2, fI_32_3, bI_32])⟩ (fun i x p hx hlt hlt' hdr hinv => ?_) (fun p hge hinv => ?_)
  · exact OwnTo.start hn (by rw [List.length_map])
  case refine_3 =>
    obtain ⟨os, bs, s⟩ := p
    simp -implicitDefEqProofs only [List.length_map, hge, evb0, evb1, evb2, evb3, evb4, evb5, evb6, ↓Int.cast_ofNat_Int, implies_true, ne_eq, isMut, aFn, List.contains, List.elem, aBox, aField, aLoad, sub, aNil, aPick, aExt, aFld, gd, noJunk, plainOp, aBuildSlice, aParts, seqParts, fitAll, List.range', ↓reduceIte, reduceCtorEq, Nat.reduceEqDiff, Nat.reduceAdd, Nat.reduceLeDiff, Nat.reduceMul, Nat.reduceLT, Nat.reduceBEq, Int.reduceEq, tI_2, zI_2, underlying2, tI_3, zI_3, underlying3, tI_4, zI_4, underlying4, tI_5, zI_5, underlying5, tI_6, zI_6, underlying6, tI_8, zI_8, fI_8_0, fI_8_1, fI_8_2, fI_8_3, bI_8, tI_9, zI_9, underlying9, tI_10, zI_10, underlying10, tI_19, zI_19, fI_19_0, bI_19, tI_21, zI_21, underlying21, tI_22, zI_22, eI_22, eB_22, eZ_22, underlying22, tI_23, zI_23, fI_23_0, fI_23_1, fI_23_2, fI_23_3, bI_23, tI_24, zI_24, fI_24_0, fI_24_1, fI_24_2, fI_24_3, bI_24, tI_30, zI_30, eI_30, eB_30, eZ_30, underlying30, tI_32, zI_32, fI_32_0, fI_32_1, fI_32_2, fI_32_3, bI_32]
    exact hinv.done (List.length_map _) (fun e he => by simp only [List.mem_map] at he; obtain ⟨t, _, rfl⟩ := he; exact Tm.av_width t)
  obtain ⟨os, bs, s⟩ := p
  simp -implicitDefEqProofs only [List.length_map, hlt', ev_at (av := Tm.av) eI_22 hx (Tm.av_width x), Tm.av_agg, Tm.av_width, evb0, evb1, evb2, evb3, evb4, evb5, evb6, ↓Int.cast_ofNat_Int, implies_true, ne_eq, isMut, aFn, List.contains, List.elem, aBox, aField, aLoad, sub, aNil, aPick, aExt, aFld, gd, noJunk, plainOp, aBuildSlice, aParts, seqParts, fitAll, List.range', ↓reduceIte, reduceCtorEq, Nat.reduceEqDiff, Nat.reduceAdd, Nat.reduceLeDiff, Nat.reduceMul, Nat.reduceLT, Nat.reduceBEq, Int.reduceEq, tI_2, zI_2, underlying2, tI_3, zI_3, underlying3, tI_4, zI_4, underlying4, tI_5, zI_5, underlying5, tI_6, zI_6, underlying6, tI_8, zI_8, fI_8_0, fI_8_1, fI_8_2, fI_8_3, bI_8, tI_9, zI_9, underlying9, tI_10, zI_10, underlying10, tI_19, zI_19, fI_19_0, bI_19, tI_21, zI_21, underlying21, tI_22, zI_22, eI_22, eB_22, eZ_22, underlying22, tI_23, zI_23, fI_23_0, fI_23_1, fI_23_2, fI_23_3, bI_23, tI_24, zI_24, fI_24_0, fI_24_1, fI_24_2, fI_24_3, bI_24, tI_30, zI_30, eI_30, eB_30, eZ_30, underlying30, tI_32, zI_32, fI_32_0, fI_32_1, fI_32_2, fI_32_3, bI_32]
  refine (hc x (List.mem_of_getElem? hx) _).mono ?_
  rintro r s2 hmade
  obtain ⟨A, B, hs2, hA, hrw, hrs, hnext⟩ := hinv.step hmade (show (l.map Tm.av)[i]? = some (Tm.av x) by rw [List.getElem?_map, hx]; rfl) (Tm.av_width x) (fun e he => by simp only [List.mem_map] at he; obtain ⟨t, _, rfl⟩ := he; exact Tm.av_width t) rfl (Tm.av_store x) (.inl (Tm.av_agg x))
  have hat := held_at (b := b) (len := l.length) (w := 4) (i := i) eI_30 hlt
  obtain ⟨hp1, hp2⟩ := partE (B := B) (C := [.int .i64 0, .int .i64 0, .str ⟨#[]⟩, .fslice []]) (x := r.cells) hA rfl hrw
  have hw := wrap64 (n := (i : Int) + 1) (by omega) (by omega)
  simp -implicitDefEqProofs only [hat, hs2, hrw, hrs, hp1, hw, evb0, evb1, evb2, evb3, evb4, evb5, evb6, ↓Int.cast_ofNat_Int, implies_true, ne_eq, isMut, aFn, List.contains, List.elem, aBox, aField, aLoad, sub, aNil, aPick, aExt, aFld, gd, noJunk, plainOp, aBuildSlice, aParts, seqParts, fitAll, List.range', ↓reduceIte, reduceCtorEq, Nat.reduceEqDiff, Nat.reduceAdd, Nat.reduceLeDiff, Nat.reduceMul, Nat.reduceLT, Nat.reduceBEq, Int.reduceEq, tI_2, zI_2, underlying2, tI_3, zI_3, underlying3, tI_4, zI_4, underlying4, tI_5, zI_5, underlying5, tI_6, zI_6, underlying6, tI_8, zI_8, fI_8_0, fI_8_1, fI_8_2, fI_8_3, bI_8, tI_9, zI_9, underlying9, tI_10, zI_10, underlying10, tI_19, zI_19, fI_19_0, bI_19, tI_21, zI_21, underlying21, tI_22, zI_22, eI_22, eB_22, eZ_22, underlying22, tI_23, zI_23, fI_23_0, fI_23_1, fI_23_2, fI_23_3, bI_23, tI_24, zI_24, fI_24_0, fI_24_1, fI_24_2, fI_24_3, bI_24, tI_30, zI_30, eI_30, eB_30, eZ_30, underlying30, tI_32, zI_32, fI_32_0, fI_32_1, fI_32_2, fI_32_3, bI_32]
  refine ⟨hp2, ?_⟩
  exact ⟨_, hnext, LessL.mk (by simp -implicitDefEqProofs only [evb0, evb1, evb2, evb3, evb4, evb5, evb6, ↓Int.cast_ofNat_Int, implies_true, ne_eq, isMut, aFn, List.contains, List.elem, aBox, aField, aLoad, sub, aNil, aPick, aExt, aFld, gd, noJunk, plainOp, aBuildSlice, aParts, seqParts, fitAll, List.range', ↓reduceIte, reduceCtorEq, Nat.reduceEqDiff, Nat.reduceAdd, Nat.reduceLeDiff, Nat.reduceMul, Nat.reduceLT, Nat.reduceBEq, Int.reduceEq, tI_2, zI_2, underlying2, tI_3, zI_3, underlying3, tI_4, zI_4, underlying4, tI_5, zI_5, underlying5, tI_6, zI_6, underlying6, tI_8, zI_8, fI_8_0, fI_8_1, fI_8_2, fI_8_3, bI_8, tI_9, zI_9, underlying9, tI_10, zI_10, underlying10, tI_19, zI_19, fI_19_0, bI_19, tI_21, zI_21, underlying21, tI_22, zI_22, eI_22, eB_22, eZ_22, underlying22, tI_23, zI_23, fI_23_0, fI_23_1, fI_23_2, fI_23_3, bI_23, tI_24, zI_24, fI_24_0, fI_24_1, fI_24_2, fI_24_3, bI_24, tI_30, zI_30, eI_30, eB_30, eZ_30, underlying30, tI_32, zI_32, fI_32_0, fI_32_1, fI_32_2, fI_32_3, bI_32])⟩


theorem o_toTerm : ∀ (a : Tm) (st : Store), a.sz ≤ 1048576 → ACalls prog 37 [a.av] st (Made st a.av)
  | .mk k n s ts, st, hb => by
    rw [Tm.sz_mk] at hb
    have hc := fun st => o_toTermS ts st (by omega) fun x hx st => o_toTerm x st (by have := sumL_mem (f := Tm.sz) hx; omega)
    refine ACalls.madeJ ?_
    refine acalls_fit [] func37 ntmps37 rfl rfl (by kernel_rfl) (by decide +kernel) (by show 1 ≤ _; decide +kernel) ?_
    intro _
    simp only [Tm.av_mk]
    simp -implicitDefEqProofs only [evb0, evb1, evb2, evb3, evb4, evb5, evb6, ↓Int.cast_ofNat_Int, implies_true, ne_eq, isMut, aFn, List.contains, List.elem, aBox, aField, aLoad, sub, aNil, aPick, aExt, aFld, gd, noJunk, plainOp, aBuildSlice, aParts, seqParts, fitAll, List.range', ↓reduceIte, reduceCtorEq, Nat.reduceEqDiff, Nat.reduceAdd, Nat.reduceLeDiff, Nat.reduceMul, Nat.reduceLT, Nat.reduceBEq, Int.reduceEq, tI_2, zI_2, underlying2, tI_3, zI_3, underlying3, tI_4, zI_4, underlying4, tI_5, zI_5, underlying5, tI_6, zI_6, underlying6, tI_9, zI_9, underlying9, tI_14, zI_14, fI_14_0, fI_14_1, bI_14, tI_15, zI_15, tI_18, zI_18, fI_18_0, bI_18, tI_22, zI_22, eI_22, eB_22, eZ_22, underlying22, tI_24, zI_24, fI_24_0, fI_24_1, fI_24_2, fI_24_3, bI_24, tI_26, zI_26, fI_26_0, fI_26_1, fI_26_2, bI_26, tI_30, zI_30, eI_30, eB_30, eZ_30, underlying30, tI_32, zI_32, fI_32_0, fI_32_1, fI_32_2, fI_32_3, bI_32]
    intro b hb1 b2 hb2
    have hne : b2 ≠ b := by rintro rfl; rw [Store.upd_same] at hb2; cases hb2
    have hn2 : st b2 = none := by rw [Store.upd_ne st _ hne] at hb2; exact hb2
    simp -implicitDefEqProofs only [su_eq, hne, hne.symm, setCells, Store.upd_upd, evb0, evb1, evb2, evb3, evb4, evb5, evb6, ↓Int.cast_ofNat_Int, implies_true, ne_eq, isMut, aFn, List.contains, List.elem, aBox, aField, aLoad, sub, aNil, aPick, aExt, aFld, gd, noJunk, plainOp, aBuildSlice, aParts, seqParts, fitAll, List.range', ↓reduceIte, reduceCtorEq, Nat.reduceEqDiff, Nat.reduceAdd, Nat.reduceLeDiff, Nat.reduceMul, Nat.reduceLT, Nat.reduceBEq, Int.reduceEq, tI_2, zI_2, underlying2, tI_3, zI_3, underlying3, tI_4, zI_4, underlying4, tI_5, zI_5, underlying5, tI_6, zI_6, underlying6, tI_9, zI_9, underlying9, tI_14, zI_14, fI_14_0, fI_14_1, bI_14, tI_15, zI_15, tI_18, zI_18, fI_18_0, bI_18, tI_22, zI_22, eI_22, eB_22, eZ_22, underlying22, tI_24, zI_24, fI_24_0, fI_24_1, fI_24_2, fI_24_3, bI_24, tI_26, zI_26, fI_26_0, fI_26_1, fI_26_2, bI_26, tI_30, zI_30, eI_30, eB_30, eZ_30, underlying30, tI_32, zI_32, fI_32_0, fI_32_1, fI_32_2, fI_32_3, bI_32]
    refine (hc _).mono ?_
    rintro q s2 ⟨bs, m1, m2, m3, m4⟩
    have hbb : b ∉ bs := fun h => by have := m2 b h; simp [su_eq, hne, hne.symm] at this
    have hbb2 : b2 ∉ bs := fun h => by have := m2 b2 h; simp [su_eq] at this
    have e1 := m4 b hbb
    have e2 := m4 b2 hbb2
    simp only [su_eq, hne, hne.symm, if_true, if_false] at e1 e2
    have hqc : q.cells = [q] := by have := (Own.shape m3).1; cases q <;> first | rfl | simp [AV.isAgg] at this
    have hqs : q.storable = true := by
      have := m3
      simp only [Own] at this
      rcases this with ⟨_, rfl, _⟩ | ⟨_, _, _, _, rfl, _⟩ <;> rfl
    simp -implicitDefEqProofs only [su_eq, hne, hne.symm, e1, e2, hqc, hqs, setCells, Store.upd_upd, evb0, evb1, evb2, evb3, evb4, evb5, evb6, ↓Int.cast_ofNat_Int, implies_true, ne_eq, isMut, aFn, List.contains, List.elem, aBox, aField, aLoad, sub, aNil, aPick, aExt, aFld, gd, noJunk, plainOp, aBuildSlice, aParts, seqParts, fitAll, List.range', ↓reduceIte, reduceCtorEq, Nat.reduceEqDiff, Nat.reduceAdd, Nat.reduceLeDiff, Nat.reduceMul, Nat.reduceLT, Nat.reduceBEq, Int.reduceEq, tI_2, zI_2, underlying2, tI_3, zI_3, underlying3, tI_4, zI_4, underlying4, tI_5, zI_5, underlying5, tI_6, zI_6, underlying6, tI_9, zI_9, underlying9, tI_14, zI_14, fI_14_0, fI_14_1, bI_14, tI_15, zI_15, tI_18, zI_18, fI_18_0, bI_18, tI_22, zI_22, eI_22, eB_22, eZ_22, underlying22, tI_24, zI_24, fI_24_0, fI_24_1, fI_24_2, fI_24_3, bI_24, tI_26, zI_26, fI_26_0, fI_26_1, fI_26_2, bI_26, tI_30, zI_30, eI_30, eB_30, eZ_30, underlying30, tI_32, zI_32, fI_32_0, fI_32_1, fI_32_2, fI_32_3, bI_32]
    refine ⟨[b, b2], bs, m1, fun x hx => ?_, ?_, ?_, ?_⟩
    · have := m2 x hx
      have h1 : x ≠ b := fun e => hbb (e ▸ hx)
      have h2 : x ≠ b2 := fun e => hbb2 (e ▸ hx)
      simpa [su_eq, h1, h2] using this
    · simp [hb1, hn2, hbb, hbb2]
    · rw [← Tm.av_mk]
      refine own_Tm.2 ⟨q, rfl, Own.keep _ _ _ (fun x hx => ?_) m3⟩
      have h1 : x ≠ b := fun e => hbb (e ▸ hx)
      have h2 : x ≠ b2 := fun e => hbb2 (e ▸ hx)
      simp only [su_eq, h1, h2, if_false]
    · intro x hx hd
      simp only [List.mem_cons, List.not_mem_nil, or_false, not_or] at hd
      simp only [su_eq, hd.1, hd.2, if_false]
      rw [m4 x hx]
      simp only [su_eq, hd.1, hd.2, if_false]
termination_by a => SizeOf.sizeOf a
decreasing_by have := List.sizeOf_lt_of_mem hx; simp only [Tm.mk.sizeOf_spec]; omega
end Go.AW
