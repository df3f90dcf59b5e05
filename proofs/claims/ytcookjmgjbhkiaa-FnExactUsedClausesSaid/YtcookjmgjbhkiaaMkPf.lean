
/- Proofs made in blocks of their own, and marked. -/
import Derived.Test.YtcookjmgjbhkiaaMkO
namespace Go.AW
open Go.Proofs.Try
set_option linter.unusedSimpArgs false
set_option maxRecDepth 100000

theorem o_toProofS (l : List Pf) (st : Store) (hb : l.length ≤ 1048576) (hc : ∀ x ∈ l, ∀ (st : Store), ACalls prog 10 [Pf.av x] st (Made st (Pf.av x))) :
    ACalls prog 38 [.slice (l.map Pf.av)] st (Made st (.slice (l.map Pf.av))) := by
  refine acalls_fit [] func38 ntmps38 rfl rfl (by kernel_rfl) (by decide +kernel) (by show 1 ≤ _; decide +kernel) ?_
  intro _
  simp -implicitDefEqProofs only [List.length_map, aMakeSlice, evb0, evb1, evb2, evb3, evb4, evb5, evb6, ↓Int.cast_ofNat_Int, implies_true, ne_eq, isMut, aFn, List.contains, List.elem, aBox, aField, aLoad, sub, aNil, aPick, aExt, aFld, gd, noJunk, plainOp, aBuildSlice, aParts, seqParts, fitAll, List.range', ↓reduceIte, reduceCtorEq, Nat.reduceEqDiff, Nat.reduceAdd, Nat.reduceLeDiff, Nat.reduceMul, Nat.reduceLT, Nat.reduceBEq, Int.reduceEq, tI_2, zI_2, underlying2, tI_3, zI_3, underlying3, tI_4, zI_4, underlying4, tI_5, zI_5, underlying5, tI_6, zI_6, underlying6, tI_8, zI_8, fI_8_0, fI_8_1, fI_8_2, fI_8_3, bI_8, tI_9, zI_9, underlying9, tI_10, zI_10, underlying10, tI_19, zI_19, fI_19_0, bI_19, tI_21, zI_21, underlying21, tI_23, zI_23, fI_23_0, fI_23_1, fI_23_2, fI_23_3, bI_23, tI_25, zI_25, eI_25, eB_25, eZ_25, underlying25, tI_27, zI_27, fI_27_0, fI_27_1, fI_27_2, bI_27, tI_33, zI_33, eI_33, eB_33, eZ_33, underlying33, tI_35, zI_35, fI_35_0, fI_35_1, fI_35_2, bI_35]
  refine ⟨by omega, by omega, by omega, ?_⟩
  intro b hn
  rw [Int.toNat_natCast, madeAV_eq _ (by simp)]
  refine arun_each (σ := List AV × List Nat × Store) [] [0, 2, 3] l (fun i p => OwnTo (l.map Pf.av) [.int .i64 0, .int .i64 0, .str ⟨#[]⟩, .fslice [], .int .i64 0, .fslice []] b st i p) (fun i _ => [(4, .int .i64 i)]) (fun _ p => p.2.2) (by decide +kernel)
    ⟨([], [], _), ?_, LessL.mk (by simp -implicitDefEqProofs only [evb0, evb1, evb2, evb3, evb4, evb5, evb6, ↓Int.cast_ofNat_Int, implies_true, ne_eq, isMut, aFn, List.contains, List.elem, aBox, aField, aLoad, sub, aNil, aPick, aExt, aFld, gd, noJunk, plainOp, aBuildSlice, aParts, seqParts, fitAll, List.range', ↓reduceIte, reduceCtorEq, Nat.reduceEqDiff, Nat.reduceAdd, Nat.reduceLeDiff, Nat.reduceMul, Nat.reduceLT, Nat.reduceBEq, Int.reduceEq, tI_2, zI_2, underlying2, tI_3, zI_3, underlying3, tI_4, zI_4, underlying4, tI_5, zI_5, underlying5, tI_6, zI_6, underlying6, tI_8, zI_8, fI_8_0, fI_8_1, fI_8_2, fI_8_3, bI_8, tI_9, zI_9, underlying9, tI_10, zI_10, underlying10, tI_19, zI_19, fI_19_0, bI_19, tI_21, zI_21, underlying21, tI_23, zI_23, fI_23_0, fI_23_1, fI_23_2, fI_23_3, bI_23, tI_25, zI_25, eI_25, eB_25, eZ_25, underlying25, tI_27, zI_27, fI_27_0, fI_27_1, fI_27_2, bI_27, tI_33, zI_33, eI_33, eB_33, eZ_33, underlying33, tI_35, zI_35, fI_35_0, fI_35_1, fI_35_2, bI_35])⟩ (fun i x p hx hlt hlt' hdr hinv => ?_) (fun p hge hinv => ?_)
  · exact OwnTo.start hn (by rw [List.length_map])
  case refine_3 =>
    obtain ⟨os, bs, s⟩ := p
    simp -implicitDefEqProofs only [List.length_map, hge, evb0, evb1, evb2, evb3, evb4, evb5, evb6, ↓Int.cast_ofNat_Int, implies_true, ne_eq, isMut, aFn, List.contains, List.elem, aBox, aField, aLoad, sub, aNil, aPick, aExt, aFld, gd, noJunk, plainOp, aBuildSlice, aParts, seqParts, fitAll, List.range', ↓reduceIte, reduceCtorEq, Nat.reduceEqDiff, Nat.reduceAdd, Nat.reduceLeDiff, Nat.reduceMul, Nat.reduceLT, Nat.reduceBEq, Int.reduceEq, tI_2, zI_2, underlying2, tI_3, zI_3, underlying3, tI_4, zI_4, underlying4, tI_5, zI_5, underlying5, tI_6, zI_6, underlying6, tI_8, zI_8, fI_8_0, fI_8_1, fI_8_2, fI_8_3, bI_8, tI_9, zI_9, underlying9, tI_10, zI_10, underlying10, tI_19, zI_19, fI_19_0, bI_19, tI_21, zI_21, underlying21, tI_23, zI_23, fI_23_0, fI_23_1, fI_23_2, fI_23_3, bI_23, tI_25, zI_25, eI_25, eB_25, eZ_25, underlying25, tI_27, zI_27, fI_27_0, fI_27_1, fI_27_2, bI_27, tI_33, zI_33, eI_33, eB_33, eZ_33, underlying33, tI_35, zI_35, fI_35_0, fI_35_1, fI_35_2, bI_35]
    exact hinv.done (List.length_map _) (fun e he => by simp only [List.mem_map] at he; obtain ⟨t, _, rfl⟩ := he; exact Pf.av_width t)
  obtain ⟨os, bs, s⟩ := p
  simp -implicitDefEqProofs only [List.length_map, hlt', ev_at (av := Pf.av) eI_25 hx (Pf.av_width x), Pf.av_agg, Pf.av_width, evb0, evb1, evb2, evb3, evb4, evb5, evb6, ↓Int.cast_ofNat_Int, implies_true, ne_eq, isMut, aFn, List.contains, List.elem, aBox, aField, aLoad, sub, aNil, aPick, aExt, aFld, gd, noJunk, plainOp, aBuildSlice, aParts, seqParts, fitAll, List.range', ↓reduceIte, reduceCtorEq, Nat.reduceEqDiff, Nat.reduceAdd, Nat.reduceLeDiff, Nat.reduceMul, Nat.reduceLT, Nat.reduceBEq, Int.reduceEq, tI_2, zI_2, underlying2, tI_3, zI_3, underlying3, tI_4, zI_4, underlying4, tI_5, zI_5, underlying5, tI_6, zI_6, underlying6, tI_8, zI_8, fI_8_0, fI_8_1, fI_8_2, fI_8_3, bI_8, tI_9, zI_9, underlying9, tI_10, zI_10, underlying10, tI_19, zI_19, fI_19_0, bI_19, tI_21, zI_21, underlying21, tI_23, zI_23, fI_23_0, fI_23_1, fI_23_2, fI_23_3, bI_23, tI_25, zI_25, eI_25, eB_25, eZ_25, underlying25, tI_27, zI_27, fI_27_0, fI_27_1, fI_27_2, bI_27, tI_33, zI_33, eI_33, eB_33, eZ_33, underlying33, tI_35, zI_35, fI_35_0, fI_35_1, fI_35_2, bI_35]
  refine (hc x (List.mem_of_getElem? hx) _).mono ?_
  rintro r s2 hmade
  obtain ⟨A, B, hs2, hA, hrw, hrs, hnext⟩ := hinv.step hmade (show (l.map Pf.av)[i]? = some (Pf.av x) by rw [List.getElem?_map, hx]; rfl) (Pf.av_width x) (fun e he => by simp only [List.mem_map] at he; obtain ⟨t, _, rfl⟩ := he; exact Pf.av_width t) rfl (Pf.av_store x) (.inl (Pf.av_agg x))
  have hat := held_at (b := b) (len := l.length) (w := 6) (i := i) eI_33 hlt
  obtain ⟨hp1, hp2⟩ := partE (B := B) (C := [.int .i64 0, .int .i64 0, .str ⟨#[]⟩, .fslice [], .int .i64 0, .fslice []]) (x := r.cells) hA rfl hrw
  have hw := wrap64 (n := (i : Int) + 1) (by omega) (by omega)
  simp -implicitDefEqProofs only [hat, hs2, hrw, hrs, hp1, hw, evb0, evb1, evb2, evb3, evb4, evb5, evb6, ↓Int.cast_ofNat_Int, implies_true, ne_eq, isMut, aFn, List.contains, List.elem, aBox, aField, aLoad, sub, aNil, aPick, aExt, aFld, gd, noJunk, plainOp, aBuildSlice, aParts, seqParts, fitAll, List.range', ↓reduceIte, reduceCtorEq, Nat.reduceEqDiff, Nat.reduceAdd, Nat.reduceLeDiff, Nat.reduceMul, Nat.reduceLT, Nat.reduceBEq, Int.reduceEq, tI_2, zI_2, underlying2, tI_3, zI_3, underlying3, tI_4, zI_4, underlying4, tI_5, zI_5, underlying5, tI_6, zI_6, underlying6, tI_8, zI_8, fI_8_0, fI_8_1, fI_8_2, fI_8_3, bI_8, tI_9, zI_9, underlying9, tI_10, zI_10, underlying10, tI_19, zI_19, fI_19_0, bI_19, tI_21, zI_21, underlying21, tI_23, zI_23, fI_23_0, fI_23_1, fI_23_2, fI_23_3, bI_23, tI_25, zI_25, eI_25, eB_25, eZ_25, underlying25, tI_27, zI_27, fI_27_0, fI_27_1, fI_27_2, bI_27, tI_33, zI_33, eI_33, eB_33, eZ_33, underlying33, tI_35, zI_35, fI_35_0, fI_35_1, fI_35_2, bI_35]
  refine ⟨hp2, ?_⟩
  exact ⟨_, hnext, LessL.mk (by simp -implicitDefEqProofs only [evb0, evb1, evb2, evb3, evb4, evb5, evb6, ↓Int.cast_ofNat_Int, implies_true, ne_eq, isMut, aFn, List.contains, List.elem, aBox, aField, aLoad, sub, aNil, aPick, aExt, aFld, gd, noJunk, plainOp, aBuildSlice, aParts, seqParts, fitAll, List.range', ↓reduceIte, reduceCtorEq, Nat.reduceEqDiff, Nat.reduceAdd, Nat.reduceLeDiff, Nat.reduceMul, Nat.reduceLT, Nat.reduceBEq, Int.reduceEq, tI_2, zI_2, underlying2, tI_3, zI_3, underlying3, tI_4, zI_4, underlying4, tI_5, zI_5, underlying5, tI_6, zI_6, underlying6, tI_8, zI_8, fI_8_0, fI_8_1, fI_8_2, fI_8_3, bI_8, tI_9, zI_9, underlying9, tI_10, zI_10, underlying10, tI_19, zI_19, fI_19_0, bI_19, tI_21, zI_21, underlying21, tI_23, zI_23, fI_23_0, fI_23_1, fI_23_2, fI_23_3, bI_23, tI_25, zI_25, eI_25, eB_25, eZ_25, underlying25, tI_27, zI_27, fI_27_0, fI_27_1, fI_27_2, bI_27, tI_33, zI_33, eI_33, eB_33, eZ_33, underlying33, tI_35, zI_35, fI_35_0, fI_35_1, fI_35_2, bI_35])⟩


theorem o_toProof : ∀ (a : Pf) (st : Store), a.sz ≤ 1048576 → ACalls prog 10 [a.av] st (Made st a.av)
  | .mk (.mk k n s ts) c ps, st, hb => by
    rw [Pf.sz_mk] at hb
    have hc := fun st => o_toProofS ps st (by omega) fun x hx st => o_toProof x st (by have := sumL_mem (f := Pf.sz) hx; omega)
    have hg := fun st => o_toTerm (.mk k n s ts) st (by omega)
    simp only [Tm.av_mk] at hg
    refine ACalls.madeJ ?_
    refine acalls_fit [] func10 ntmps10 rfl rfl (by kernel_rfl) (by decide +kernel) (by show 1 ≤ _; decide +kernel) ?_
    intro _
    simp only [Pf.av_mk]
    simp -implicitDefEqProofs only [evb0, evb1, evb2, evb3, evb4, evb5, evb6, ↓Int.cast_ofNat_Int, implies_true, ne_eq, isMut, aFn, List.contains, List.elem, aBox, aField, aLoad, sub, aNil, aPick, aExt, aFld, gd, noJunk, plainOp, aBuildSlice, aParts, seqParts, fitAll, List.range', ↓reduceIte, reduceCtorEq, Nat.reduceEqDiff, Nat.reduceAdd, Nat.reduceLeDiff, Nat.reduceMul, Nat.reduceLT, Nat.reduceBEq, Int.reduceEq, tI_2, zI_2, underlying2, tI_3, zI_3, underlying3, tI_4, zI_4, underlying4, tI_5, zI_5, underlying5, tI_6, zI_6, underlying6, tI_12, zI_12, underlying12, tI_13, zI_13, fI_13_0, fI_13_1, bI_13, tI_16, zI_16, tI_24, zI_24, fI_24_0, fI_24_1, fI_24_2, fI_24_3, bI_24, tI_25, zI_25, eI_25, eB_25, eZ_25, underlying25, tI_27, zI_27, fI_27_0, fI_27_1, fI_27_2, bI_27, tI_32, zI_32, fI_32_0, fI_32_1, fI_32_2, fI_32_3, bI_32, tI_33, zI_33, eI_33, eB_33, eZ_33, underlying33, tI_35, zI_35, fI_35_0, fI_35_1, fI_35_2, bI_35]
    intro b hb1 b2 hb2
    have hne : b2 ≠ b := by rintro rfl; rw [Store.upd_same] at hb2; cases hb2
    have hn2 : st b2 = none := by rw [Store.upd_ne st _ hne] at hb2; exact hb2
    refine (hg _).mono ?_
    rintro q0 s2 ⟨bs, m1, m2, m3, m4⟩
    rw [← Tm.av_mk] at m3
    obtain ⟨q, rfl, m3'⟩ := own_Tm.1 m3
    have hbb : b ∉ bs := fun h => by have := m2 b h; simp [su_eq, hne, hne.symm] at this
    have hbb2 : b2 ∉ bs := fun h => by have := m2 b2 h; simp [su_eq] at this
    have e1 := m4 b hbb
    have e2 := m4 b2 hbb2
    simp only [su_eq, hne, hne.symm, if_true, if_false] at e1 e2
    have hqc : q.cells = [q] := by have := (Own.shape m3').1; cases q <;> first | rfl | simp [AV.isAgg] at this
    have hqs : q.storable = true := by
      have := m3'
      simp only [Own] at this
      rcases this with ⟨_, rfl, _⟩ | ⟨_, _, _, _, rfl, _⟩ <;> rfl
    simp -implicitDefEqProofs only [su_eq, hne, hne.symm, e1, e2, hqc, hqs, setCells, Store.upd_upd, evb0, evb1, evb2, evb3, evb4, evb5, evb6, ↓Int.cast_ofNat_Int, implies_true, ne_eq, isMut, aFn, List.contains, List.elem, aBox, aField, aLoad, sub, aNil, aPick, aExt, aFld, gd, noJunk, plainOp, aBuildSlice, aParts, seqParts, fitAll, List.range', ↓reduceIte, reduceCtorEq, Nat.reduceEqDiff, Nat.reduceAdd, Nat.reduceLeDiff, Nat.reduceMul, Nat.reduceLT, Nat.reduceBEq, Int.reduceEq, tI_2, zI_2, underlying2, tI_3, zI_3, underlying3, tI_4, zI_4, underlying4, tI_5, zI_5, underlying5, tI_6, zI_6, underlying6, tI_12, zI_12, underlying12, tI_13, zI_13, fI_13_0, fI_13_1, bI_13, tI_16, zI_16, tI_24, zI_24, fI_24_0, fI_24_1, fI_24_2, fI_24_3, bI_24, tI_25, zI_25, eI_25, eB_25, eZ_25, underlying25, tI_27, zI_27, fI_27_0, fI_27_1, fI_27_2, bI_27, tI_32, zI_32, fI_32_0, fI_32_1, fI_32_2, fI_32_3, bI_32, tI_33, zI_33, eI_33, eB_33, eZ_33, underlying33, tI_35, zI_35, fI_35_0, fI_35_1, fI_35_2, bI_35]
    refine (hc _).mono ?_
    rintro r s3 ⟨cs, n1, n2, n3, n4⟩
    have hcb2 : b2 ∉ cs := fun h => by have := n2 b2 h; simp [su_eq] at this
    have hcb : b ∉ cs := fun h => by have := n2 b h; simp [su_eq, hne, hne.symm, e1] at this
    have f1 := n4 b hcb
    have f2 := n4 b2 hcb2
    simp only [su_eq, hne, hne.symm, if_true, if_false, e1] at f1 f2
    have hrc : r.cells = [r] := by have := (Own.shape n3).1; cases r <;> first | rfl | simp [AV.isAgg] at this
    have hrs : r.storable = true := by
      have := n3
      simp only [Own] at this
      rcases this with ⟨_, rfl, _⟩ | ⟨_, _, _, _, rfl, _⟩ <;> rfl
    simp -implicitDefEqProofs only [su_eq, hne, hne.symm, f1, f2, hqc, hqs, hrc, hrs, setCells, Store.upd_upd, evb0, evb1, evb2, evb3, evb4, evb5, evb6, ↓Int.cast_ofNat_Int, implies_true, ne_eq, isMut, aFn, List.contains, List.elem, aBox, aField, aLoad, sub, aNil, aPick, aExt, aFld, gd, noJunk, plainOp, aBuildSlice, aParts, seqParts, fitAll, List.range', ↓reduceIte, reduceCtorEq, Nat.reduceEqDiff, Nat.reduceAdd, Nat.reduceLeDiff, Nat.reduceMul, Nat.reduceLT, Nat.reduceBEq, Int.reduceEq, tI_2, zI_2, underlying2, tI_3, zI_3, underlying3, tI_4, zI_4, underlying4, tI_5, zI_5, underlying5, tI_6, zI_6, underlying6, tI_12, zI_12, underlying12, tI_13, zI_13, fI_13_0, fI_13_1, bI_13, tI_16, zI_16, tI_24, zI_24, fI_24_0, fI_24_1, fI_24_2, fI_24_3, bI_24, tI_25, zI_25, eI_25, eB_25, eZ_25, underlying25, tI_27, zI_27, fI_27_0, fI_27_1, fI_27_2, bI_27, tI_32, zI_32, fI_32_0, fI_32_1, fI_32_2, fI_32_3, bI_32, tI_33, zI_33, eI_33, eB_33, eZ_33, underlying33, tI_35, zI_35, fI_35_0, fI_35_1, fI_35_2, bI_35]
    have hsome := (Own.solid _ _ _ m3').2.2
    have hdis : ∀ x ∈ bs, x ∉ cs := fun x hx hx' => by
      obtain ⟨u, e, _⟩ := hsome x hx
      have := n2 x hx'
      have h2 : x ≠ b2 := fun e => hbb2 (e ▸ hx)
      simp only [su_eq, h2, if_false] at this
      rw [e] at this; cases this
    have hcs : ∀ x ∈ cs, x ≠ b ∧ x ≠ b2 := fun x hx => ⟨fun e => hcb (e ▸ hx), fun e => hcb2 (e ▸ hx)⟩
    have hbs : ∀ x ∈ bs, x ≠ b ∧ x ≠ b2 := fun x hx => ⟨fun e => hbb (e ▸ hx), fun e => hbb2 (e ▸ hx)⟩
    refine ⟨[b, b2], bs ++ cs, List.nodup_append.2 ⟨m1, n1, fun x hx y hy e => hdis x hx (e ▸ hy)⟩, fun x hx => ?_, ?_, ?_, ?_⟩
    · rcases List.mem_append.1 hx with hx | hx
      · have := m2 x hx
        simpa [su_eq, hbs x hx] using this
      · have := n2 x hx
        simp only [su_eq, (hcs x hx).2, if_false] at this
        by_cases hxb : x ∈ bs
        · exact absurd hx (hdis x hxb)
        · rw [m4 x hxb] at this
          simpa [su_eq, hcs x hx] using this
    · simp [hb1, hn2, hbb, hbb2, hcb, hcb2]
    · rw [← Pf.av_mk]
      refine own_Pf.2 ⟨q, bs, r, cs, rfl, rfl, Own.keep _ _ _ (fun x hx => ?_) m3', Own.keep _ _ _ (fun x hx => ?_) n3⟩
      · simp only [su_eq, (hbs x hx).1, (hbs x hx).2, if_false]
        rw [n4 x (hdis x hx)]
        simp only [su_eq, (hbs x hx).2, if_false]
      · simp only [su_eq, (hcs x hx).1, (hcs x hx).2, if_false]
    · intro x hx hd
      simp only [List.mem_cons, List.not_mem_nil, or_false, not_or] at hd
      simp only [List.mem_append, not_or] at hx
      simp only [su_eq, hd.1, hd.2, if_false]
      rw [n4 x hx.2]
      simp only [su_eq, hd.2, if_false]
      rw [m4 x hx.1]
      simp only [su_eq, hd.1, hd.2, if_false]
termination_by a => SizeOf.sizeOf a
decreasing_by have := List.sizeOf_lt_of_mem hx; simp only [Pf.mk.sizeOf_spec]; omega

theorem c_markProofS : ∀ (l : List Pf) (j : Int) (o : AV) (bs : List Nat) (st : Store), Own st (.slice (l.map Pf.av)) o bs → bs.Nodup → 0 ≤ j → j + sumL Pf.mks l ≤ 1099511627776 →
    ACalls prog 49 [o, .int .i64 j] st (Marked st (.slice ((markL Pf.mark Pf.mks l j).map Pf.av)) o bs (j + sumL Pf.mks l))
  | l, j, o, bs, st, hO, hnd, hj0, hj1 => by
    have IH := fun (g : Tm) (c : Int) (ps : List Pf) (hm : Pf.mk g c ps ∈ l) => c_markProofS ps
    obtain ⟨hlen, haL⟩ := hO.len
    rw [List.length_map] at hlen
    have haL := haL prog 33 _ underlying33
    rw [List.length_map] at haL
    refine acalls_fit [] func49 ntmps49 rfl rfl (by kernel_rfl) (by decide +kernel) (by show 2 ≤ _; decide +kernel) ?_
    simp only [fitsL]
    intro ⟨hf, _⟩
    have hl := hlen hf
    clear hf hlen
    simp -implicitDefEqProofs only [evb0, evb1, evb2, evb3, evb4, evb5, evb6, ↓Int.cast_ofNat_Int, implies_true, ne_eq, isMut, aFn, List.contains, List.elem, aBox, aField, aLoad, sub, aNil, aPick, aExt, aFld, gd, noJunk, plainOp, aBuildSlice, aParts, seqParts, fitAll, List.range', ↓reduceIte, reduceCtorEq, Nat.reduceEqDiff, Nat.reduceAdd, Nat.reduceLeDiff, Nat.reduceMul, Nat.reduceLT, Nat.reduceBEq, Int.reduceEq, tI_2, zI_2, underlying2, tI_3, zI_3, underlying3, tI_4, zI_4, underlying4, tI_5, zI_5, underlying5, tI_6, zI_6, underlying6, tI_7, zI_7, fI_7_0, fI_7_1, fI_7_2, fI_7_3, bI_7, tI_8, zI_8, fI_8_0, fI_8_1, fI_8_2, fI_8_3, bI_8, tI_9, zI_9, underlying9, tI_10, zI_10, underlying10, tI_11, zI_11, underlying11, tI_12, zI_12, underlying12, tI_13, zI_13, fI_13_0, fI_13_1, bI_13, tI_14, zI_14, fI_14_0, fI_14_1, bI_14, tI_30, zI_30, eI_30, eB_30, eZ_30, underlying30, tI_31, zI_31, fI_31_0, fI_31_1, fI_31_2, fI_31_3, bI_31, tI_32, zI_32, fI_32_0, fI_32_1, fI_32_2, fI_32_3, bI_32, tI_33, zI_33, eI_33, eB_33, eZ_33, underlying33, tI_35, zI_35, fI_35_0, fI_35_1, fI_35_2, bI_35]
    refine arun_each (σ := List Pf × Int × Store) [] [0, 4] l
      (fun i p => p.1.length = i ∧ p.1 ++ markL Pf.mark Pf.mks (l.drop i) p.2.1 = markL Pf.mark Pf.mks l j ∧ 0 ≤ p.2.1 ∧ p.2.1 + sumL Pf.mks (l.drop i) = j + sumL Pf.mks l ∧ Own p.2.2 (.slice ((p.1 ++ l.drop i).map Pf.av)) o bs ∧ ∀ q, q ∉ bs → p.2.2 q = st q)
      (fun i p => [(1, .int .i64 p.2.1), (5, .int .i64 i)]) (fun _ p => p.2.2) (by decide +kernel)
      ⟨([], j, st), ⟨rfl, rfl, hj0, rfl, hO, fun _ _ => rfl⟩, LessL.mk (by simp -implicitDefEqProofs only [evb0, evb1, evb2, evb3, evb4, evb5, evb6, ↓Int.cast_ofNat_Int, implies_true, ne_eq, isMut, aFn, List.contains, List.elem, aBox, aField, aLoad, sub, aNil, aPick, aExt, aFld, gd, noJunk, plainOp, aBuildSlice, aParts, seqParts, fitAll, List.range', ↓reduceIte, reduceCtorEq, Nat.reduceEqDiff, Nat.reduceAdd, Nat.reduceLeDiff, Nat.reduceMul, Nat.reduceLT, Nat.reduceBEq, Int.reduceEq, tI_2, zI_2, underlying2, tI_3, zI_3, underlying3, tI_4, zI_4, underlying4, tI_5, zI_5, underlying5, tI_6, zI_6, underlying6, tI_7, zI_7, fI_7_0, fI_7_1, fI_7_2, fI_7_3, bI_7, tI_8, zI_8, fI_8_0, fI_8_1, fI_8_2, fI_8_3, bI_8, tI_9, zI_9, underlying9, tI_10, zI_10, underlying10, tI_11, zI_11, underlying11, tI_12, zI_12, underlying12, tI_13, zI_13, fI_13_0, fI_13_1, bI_13, tI_14, zI_14, fI_14_0, fI_14_1, bI_14, tI_30, zI_30, eI_30, eB_30, eZ_30, underlying30, tI_31, zI_31, fI_31_0, fI_31_1, fI_31_2, fI_31_3, bI_31, tI_32, zI_32, fI_32_0, fI_32_1, fI_32_2, fI_32_3, bI_32, tI_33, zI_33, eI_33, eB_33, eZ_33, underlying33, tI_35, zI_35, fI_35_0, fI_35_1, fI_35_2, bI_35])⟩ (fun i x p hx hlt hlt' hdr hinv => ?_) (fun p hge hinv => ?_)
    case refine_2 =>
      obtain ⟨done, k, s⟩ := p
      obtain ⟨i1, i2, i3, i4, i5, i6⟩ := hinv
      simp only at i1 i2 i3 i4 i5 i6
      simp -implicitDefEqProofs only [haL, hge, evb0, evb1, evb2, evb3, evb4, evb5, evb6, ↓Int.cast_ofNat_Int, implies_true, ne_eq, isMut, aFn, List.contains, List.elem, aBox, aField, aLoad, sub, aNil, aPick, aExt, aFld, gd, noJunk, plainOp, aBuildSlice, aParts, seqParts, fitAll, List.range', ↓reduceIte, reduceCtorEq, Nat.reduceEqDiff, Nat.reduceAdd, Nat.reduceLeDiff, Nat.reduceMul, Nat.reduceLT, Nat.reduceBEq, Int.reduceEq, tI_2, zI_2, underlying2, tI_3, zI_3, underlying3, tI_4, zI_4, underlying4, tI_5, zI_5, underlying5, tI_6, zI_6, underlying6, tI_7, zI_7, fI_7_0, fI_7_1, fI_7_2, fI_7_3, bI_7, tI_8, zI_8, fI_8_0, fI_8_1, fI_8_2, fI_8_3, bI_8, tI_9, zI_9, underlying9, tI_10, zI_10, underlying10, tI_11, zI_11, underlying11, tI_12, zI_12, underlying12, tI_13, zI_13, fI_13_0, fI_13_1, bI_13, tI_14, zI_14, fI_14_0, fI_14_1, bI_14, tI_30, zI_30, eI_30, eB_30, eZ_30, underlying30, tI_31, zI_31, fI_31_0, fI_31_1, fI_31_2, fI_31_3, bI_31, tI_32, zI_32, fI_32_0, fI_32_1, fI_32_2, fI_32_3, bI_32, tI_33, zI_33, eI_33, eB_33, eZ_33, underlying33, tI_35, zI_35, fI_35_0, fI_35_1, fI_35_2, bI_35]
      simp only [List.drop_length, markL, List.append_nil, sumL] at i2 i4 i5
      exact ⟨by rw [← i4]; simp, by rw [← i2]; exact i5, i6⟩
    obtain ⟨done, k, s⟩ := p
    obtain ⟨i1, i2, i3, i4, i5, i6⟩ := hinv
    simp only at i1 i2 i3 i4 i5 i6
    rw [hdr] at i2 i4 i5
    obtain ⟨⟨xk, xn, xs, xts⟩, xc, xps⟩ := x
    simp only [sumL, Pf.mks_mk, Tm.mks_mk] at i4
    have hget := marked_get (av := Pf.av) (done := done) (x := .mk (.mk xk xn xs xts) xc xps) (rest := l.drop (i + 1))
    obtain ⟨b, bs', w, A, oe, bo, B, rfl, hbs, hsb, hA, hoe, hbo, hbn, hsub, hw, hi, hfoc⟩ := i5.focus hnd hget
    rw [Pf.av_width] at hw
    subst hw
    rw [i1] at hA
    obtain ⟨q, b1, q', b2, rfl, rfl, hq, hq'⟩ := own_Pf.1 hoe
    rw [List.nodup_append] at hbo
    obtain ⟨hb1n, hb2n, hdis⟩ := hbo
    simp only [List.mem_append, not_or] at hbn
    have hlen2 : ((done ++ Pf.mk (.mk xk xn xs xts) xc xps :: l.drop (i + 1)).map Pf.av).length = l.length := by
      rw [List.length_map, List.length_append, List.length_cons, List.length_drop, i1]; omega
    rw [hlen2] at haL hfoc ⊢
    have hat := held_at (b := b) (len := l.length) (w := 6) (i := i) eI_33 hlt
    have hw1 := wrap64 (n := k + 1) (by omega) (by omega)
    have hw2 := wrap64 (n := k + 1 + 1) (by omega) (by omega)
    have hw3 := wrap64 (n := k + 1 + 1 + 1) (by omega) (by omega)
    have hw5 := wrap64 (n := k + 1 + 1 + 1 + (sumL Tm.mks xts : Int) + 1) (by omega) (by omega)
    have hw4 := wrap64 (n := (i : Int) + 1) (by omega) (by omega)
    obtain ⟨e1, e2, e3, e4, e5, e6⟩ := midE (B := B) hA
    simp -implicitDefEqProofs only [haL, hlt', hat, hsb, hw1, hw2, hw3, e1, e2, e3, e4, e5, e6, Nat.add_zero, List.set_cons_zero, List.set_cons_succ, Store.upd_upd, evb0, evb1, evb2, evb3, evb4, evb5, evb6, ↓Int.cast_ofNat_Int, implies_true, ne_eq, isMut, aFn, List.contains, List.elem, aBox, aField, aLoad, sub, aNil, aPick, aExt, aFld, gd, noJunk, plainOp, aBuildSlice, aParts, seqParts, fitAll, List.range', ↓reduceIte, reduceCtorEq, Nat.reduceEqDiff, Nat.reduceAdd, Nat.reduceLeDiff, Nat.reduceMul, Nat.reduceLT, Nat.reduceBEq, Int.reduceEq, tI_2, zI_2, underlying2, tI_3, zI_3, underlying3, tI_4, zI_4, underlying4, tI_5, zI_5, underlying5, tI_6, zI_6, underlying6, tI_7, zI_7, fI_7_0, fI_7_1, fI_7_2, fI_7_3, bI_7, tI_8, zI_8, fI_8_0, fI_8_1, fI_8_2, fI_8_3, bI_8, tI_9, zI_9, underlying9, tI_10, zI_10, underlying10, tI_11, zI_11, underlying11, tI_12, zI_12, underlying12, tI_13, zI_13, fI_13_0, fI_13_1, bI_13, tI_14, zI_14, fI_14_0, fI_14_1, bI_14, tI_30, zI_30, eI_30, eB_30, eZ_30, underlying30, tI_31, zI_31, fI_31_0, fI_31_1, fI_31_2, fI_31_3, bI_31, tI_32, zI_32, fI_32_0, fI_32_1, fI_32_2, fI_32_3, bI_32, tI_33, zI_33, eI_33, eB_33, eZ_33, underlying33, tI_35, zI_35, fI_35_0, fI_35_1, fI_35_2, bI_35]
    refine (c_markText (k + 1 + 1) _ (by omega)).to ?_
    simp -implicitDefEqProofs only [hat, e1, e2, e3, e4, e5, e6, Nat.add_zero, List.set_cons_zero, List.set_cons_succ, Store.upd_upd, hw1, hw2, hw3, evb0, evb1, evb2, evb3, evb4, evb5, evb6, ↓Int.cast_ofNat_Int, implies_true, ne_eq, isMut, aFn, List.contains, List.elem, aBox, aField, aLoad, sub, aNil, aPick, aExt, aFld, gd, noJunk, plainOp, aBuildSlice, aParts, seqParts, fitAll, List.range', ↓reduceIte, reduceCtorEq, Nat.reduceEqDiff, Nat.reduceAdd, Nat.reduceLeDiff, Nat.reduceMul, Nat.reduceLT, Nat.reduceBEq, Int.reduceEq, tI_2, zI_2, underlying2, tI_3, zI_3, underlying3, tI_4, zI_4, underlying4, tI_5, zI_5, underlying5, tI_6, zI_6, underlying6, tI_7, zI_7, fI_7_0, fI_7_1, fI_7_2, fI_7_3, bI_7, tI_8, zI_8, fI_8_0, fI_8_1, fI_8_2, fI_8_3, bI_8, tI_9, zI_9, underlying9, tI_10, zI_10, underlying10, tI_11, zI_11, underlying11, tI_12, zI_12, underlying12, tI_13, zI_13, fI_13_0, fI_13_1, bI_13, tI_14, zI_14, fI_14_0, fI_14_1, bI_14, tI_30, zI_30, eI_30, eB_30, eZ_30, underlying30, tI_31, zI_31, fI_31_0, fI_31_1, fI_31_2, fI_31_3, bI_31, tI_32, zI_32, fI_32_0, fI_32_1, fI_32_2, fI_32_3, bI_32, tI_33, zI_33, eI_33, eB_33, eZ_33, underlying33, tI_35, zI_35, fI_35_0, fI_35_1, fI_35_2, bI_35]
    have hqs : ∀ (o : AO), Own (s.upd b o) (.slice (xts.map Tm.av)) q b1 := fun o => Own.keep _ _ _ (fun x hx => Store.upd_ne _ _ (fun e => hbn.1 (e ▸ hx))) hq
    have hqa : q.isAgg = false := (Own.shape hq).1
    have hqa' : q'.isAgg = false := (Own.shape hq').1
    simp -implicitDefEqProofs only [hqa, evb0, evb1, evb2, evb3, evb4, evb5, evb6, ↓Int.cast_ofNat_Int, implies_true, ne_eq, isMut, aFn, List.contains, List.elem, aBox, aField, aLoad, sub, aNil, aPick, aExt, aFld, gd, noJunk, plainOp, aBuildSlice, aParts, seqParts, fitAll, List.range', ↓reduceIte, reduceCtorEq, Nat.reduceEqDiff, Nat.reduceAdd, Nat.reduceLeDiff, Nat.reduceMul, Nat.reduceLT, Nat.reduceBEq, Int.reduceEq, tI_2, zI_2, underlying2, tI_3, zI_3, underlying3, tI_4, zI_4, underlying4, tI_5, zI_5, underlying5, tI_6, zI_6, underlying6, tI_7, zI_7, fI_7_0, fI_7_1, fI_7_2, fI_7_3, bI_7, tI_8, zI_8, fI_8_0, fI_8_1, fI_8_2, fI_8_3, bI_8, tI_9, zI_9, underlying9, tI_10, zI_10, underlying10, tI_11, zI_11, underlying11, tI_12, zI_12, underlying12, tI_13, zI_13, fI_13_0, fI_13_1, bI_13, tI_14, zI_14, fI_14_0, fI_14_1, bI_14, tI_30, zI_30, eI_30, eB_30, eZ_30, underlying30, tI_31, zI_31, fI_31_0, fI_31_1, fI_31_2, fI_31_3, bI_31, tI_32, zI_32, fI_32_0, fI_32_1, fI_32_2, fI_32_3, bI_32, tI_33, zI_33, eI_33, eB_33, eZ_33, underlying33, tI_35, zI_35, fI_35_0, fI_35_1, fI_35_2, bI_35]
    refine (c_markTermS xts (k + 1 + 1 + 1) q b1 _ (hqs _) hb1n (by omega) (by omega)).mono ?_
    rintro _ s2 ⟨rfl, hq2, hk2⟩
    have f1 := hk2 b hbn.1
    rw [Store.upd_same] at f1
    simp -implicitDefEqProofs only [hat, f1, e1, e2, e3, e4, e5, e6, Nat.add_zero, List.set_cons_zero, List.set_cons_succ, Store.upd_upd, hw5, hqa', evb0, evb1, evb2, evb3, evb4, evb5, evb6, ↓Int.cast_ofNat_Int, implies_true, ne_eq, isMut, aFn, List.contains, List.elem, aBox, aField, aLoad, sub, aNil, aPick, aExt, aFld, gd, noJunk, plainOp, aBuildSlice, aParts, seqParts, fitAll, List.range', ↓reduceIte, reduceCtorEq, Nat.reduceEqDiff, Nat.reduceAdd, Nat.reduceLeDiff, Nat.reduceMul, Nat.reduceLT, Nat.reduceBEq, Int.reduceEq, tI_2, zI_2, underlying2, tI_3, zI_3, underlying3, tI_4, zI_4, underlying4, tI_5, zI_5, underlying5, tI_6, zI_6, underlying6, tI_7, zI_7, fI_7_0, fI_7_1, fI_7_2, fI_7_3, bI_7, tI_8, zI_8, fI_8_0, fI_8_1, fI_8_2, fI_8_3, bI_8, tI_9, zI_9, underlying9, tI_10, zI_10, underlying10, tI_11, zI_11, underlying11, tI_12, zI_12, underlying12, tI_13, zI_13, fI_13_0, fI_13_1, bI_13, tI_14, zI_14, fI_14_0, fI_14_1, bI_14, tI_30, zI_30, eI_30, eB_30, eZ_30, underlying30, tI_31, zI_31, fI_31_0, fI_31_1, fI_31_2, fI_31_3, bI_31, tI_32, zI_32, fI_32_0, fI_32_1, fI_32_2, fI_32_3, bI_32, tI_33, zI_33, eI_33, eB_33, eZ_33, underlying33, tI_35, zI_35, fI_35_0, fI_35_1, fI_35_2, bI_35]
    have hqs' : ∀ (o : AO), Own (s2.upd b o) (.slice (xps.map Pf.av)) q' b2 := fun o => Own.keep _ _ _ (fun x hx => by
      have hxb : x ≠ b := fun e => hbn.2 (e ▸ hx)
      rw [Store.upd_ne _ _ hxb, hk2 x (fun h => hdis x h x hx rfl), Store.upd_ne _ _ hxb]) hq'
    refine (IH _ xc xps (List.mem_of_getElem? hx) _ q' b2 _ (hqs' _) hb2n (by omega) (by omega)).mono ?_
    rintro _ s3 ⟨rfl, hq3, hk3⟩
    have hm : k + ((3 + sumL Tm.mks xts + 1 + sumL Pf.mks xps : Nat) : Int) = k + 1 + 1 + 1 + (sumL Tm.mks xts : Int) + 1 + (sumL Pf.mks xps : Int) := by omega
    simp -implicitDefEqProofs only [hw4, evb0, evb1, evb2, evb3, evb4, evb5, evb6, ↓Int.cast_ofNat_Int, implies_true, ne_eq, isMut, aFn, List.contains, List.elem, aBox, aField, aLoad, sub, aNil, aPick, aExt, aFld, gd, noJunk, plainOp, aBuildSlice, aParts, seqParts, fitAll, List.range', ↓reduceIte, reduceCtorEq, Nat.reduceEqDiff, Nat.reduceAdd, Nat.reduceLeDiff, Nat.reduceMul, Nat.reduceLT, Nat.reduceBEq, Int.reduceEq, tI_2, zI_2, underlying2, tI_3, zI_3, underlying3, tI_4, zI_4, underlying4, tI_5, zI_5, underlying5, tI_6, zI_6, underlying6, tI_7, zI_7, fI_7_0, fI_7_1, fI_7_2, fI_7_3, bI_7, tI_8, zI_8, fI_8_0, fI_8_1, fI_8_2, fI_8_3, bI_8, tI_9, zI_9, underlying9, tI_10, zI_10, underlying10, tI_11, zI_11, underlying11, tI_12, zI_12, underlying12, tI_13, zI_13, fI_13_0, fI_13_1, bI_13, tI_14, zI_14, fI_14_0, fI_14_1, bI_14, tI_30, zI_30, eI_30, eB_30, eZ_30, underlying30, tI_31, zI_31, fI_31_0, fI_31_1, fI_31_2, fI_31_3, bI_31, tI_32, zI_32, fI_32_0, fI_32_1, fI_32_2, fI_32_3, bI_32, tI_33, zI_33, eI_33, eB_33, eZ_33, underlying33, tI_35, zI_35, fI_35_0, fI_35_1, fI_35_2, bI_35]
    refine ⟨(done ++ [(Pf.mk (.mk xk xn xs xts) xc xps).mark k], k + 1 + 1 + 1 + (sumL Tm.mks xts : Int) + 1 + (sumL Pf.mks xps : Int), s3), ⟨?_, ?_, ?_, ?_, ?_, ?_⟩, LessL.mk (by simp -implicitDefEqProofs only [evb0, evb1, evb2, evb3, evb4, evb5, evb6, ↓Int.cast_ofNat_Int, implies_true, ne_eq, isMut, aFn, List.contains, List.elem, aBox, aField, aLoad, sub, aNil, aPick, aExt, aFld, gd, noJunk, plainOp, aBuildSlice, aParts, seqParts, fitAll, List.range', ↓reduceIte, reduceCtorEq, Nat.reduceEqDiff, Nat.reduceAdd, Nat.reduceLeDiff, Nat.reduceMul, Nat.reduceLT, Nat.reduceBEq, Int.reduceEq, tI_2, zI_2, underlying2, tI_3, zI_3, underlying3, tI_4, zI_4, underlying4, tI_5, zI_5, underlying5, tI_6, zI_6, underlying6, tI_7, zI_7, fI_7_0, fI_7_1, fI_7_2, fI_7_3, bI_7, tI_8, zI_8, fI_8_0, fI_8_1, fI_8_2, fI_8_3, bI_8, tI_9, zI_9, underlying9, tI_10, zI_10, underlying10, tI_11, zI_11, underlying11, tI_12, zI_12, underlying12, tI_13, zI_13, fI_13_0, fI_13_1, bI_13, tI_14, zI_14, fI_14_0, fI_14_1, bI_14, tI_30, zI_30, eI_30, eB_30, eZ_30, underlying30, tI_31, zI_31, fI_31_0, fI_31_1, fI_31_2, fI_31_3, bI_31, tI_32, zI_32, fI_32_0, fI_32_1, fI_32_2, fI_32_3, bI_32, tI_33, zI_33, eI_33, eB_33, eZ_33, underlying33, tI_35, zI_35, fI_35_0, fI_35_1, fI_35_2, bI_35])⟩
    · simp [i1]
    · simp only [markL, Pf.mks_mk, Tm.mks_mk] at i2
      rw [hm] at i2
      rw [← i2]
      simp
    · simp only; omega
    · simp only; omega
    · have hmk : (Pf.mk (.mk xk xn xs xts) xc xps).mark k = .mk (.mk k (k + 1) (mt (k + 1 + 1)) (markL Tm.mark Tm.mks xts (k + 1 + 1 + 1))) (k + 1 + 1 + 1 + (sumL Tm.mks xts : Int)) (markL Pf.mark Pf.mks xps (k + 1 + 1 + 1 + (sumL Tm.mks xts : Int) + 1)) := by
        rw [Pf.mark_mk, Tm.mark_mk, Tm.mks_mk, show k + ((3 + sumL Tm.mks xts : Nat) : Int) = k + 1 + 1 + 1 + (sumL Tm.mks xts : Int) by omega]
      have := hfoc s3 ((Pf.mk (.mk xk xn xs xts) xc xps).mark k).av (.agg [.int .i64 k, .int .i64 (k + 1), .str (mt (k + 1 + 1)), q, .int .i64 (k + 1 + 1 + 1 + (sumL Tm.mks xts : Int)), q']) (Pf.av_width _)
        (fun x hx hxb hxo => by
          simp only [List.mem_append, not_or] at hxo
          rw [hk3 x hxo.2, Store.upd_ne _ _ hxb, hk2 x hxo.1, Store.upd_ne _ _ hxb])
        (by rw [hk3 b hbn.2, Store.upd_same]; rfl)
        (by
          rw [hmk]
          exact own_Pf.2 ⟨q, b1, q', b2, rfl, rfl, Own.keep _ _ _ (fun x hx => by
            have hxb : x ≠ b := fun e => hbn.1 (e ▸ hx)
            rw [hk3 x (fun h => hdis x hx x h rfl), Store.upd_ne _ _ hxb]) hq2, hq3⟩)
      rw [marked_set] at this
      exact this
    · intro x hx
      have hxb : x ≠ b := fun e => hx (by rw [hbs]; simp [e])
      have hx1 : x ∉ b1 := fun e => hx (hsub x (by simp [e]))
      have hx2 : x ∉ b2 := fun e => hx (hsub x (by simp [e]))
      show s3 x = st x
      rw [hk3 x hx2, Store.upd_ne _ _ hxb, hk2 x hx1, Store.upd_ne _ _ hxb, i6 x hx]
termination_by l => SizeOf.sizeOf l
decreasing_by have := List.sizeOf_lt_of_mem hm; simp only [Pf.mk.sizeOf_spec] at this; omega

theorem c_markTerm (k n : Int) (s : ByteArray) (ts : List Tm) (j : Int) (q : AV) (bs : List Nat) (st : Store) (hO : Own st (.slice (ts.map Tm.av)) q bs) (hnd : bs.Nodup) (h0 : 0 ≤ j) (h1 : j + sumL Tm.mks ts ≤ 1099511627776) :
    ACalls prog 48 [.agg [.int .i64 k, .int .i64 n, .str s, q], .int .i64 j] st (Marked st (.slice ((markL Tm.mark Tm.mks ts j).map Tm.av)) q bs (j + sumL Tm.mks ts)) := by
  have hqa : q.isAgg = false := (Own.shape hO).1
  have hqw : q.width = 1 := (Own.shape hO).2.1
  refine acalls_fit [] func48 ntmps48 rfl rfl (by kernel_rfl) (by decide +kernel) (by show 2 ≤ _; decide +kernel) ?_
  intro _
  simp -implicitDefEqProofs only [hqa, hqw, evb0, evb1, evb2, evb3, evb4, evb5, evb6, ↓Int.cast_ofNat_Int, implies_true, ne_eq, isMut, aFn, List.contains, List.elem, aBox, aField, aLoad, sub, aNil, aPick, aExt, aFld, gd, noJunk, plainOp, aBuildSlice, aParts, seqParts, fitAll, List.range', ↓reduceIte, reduceCtorEq, Nat.reduceEqDiff, Nat.reduceAdd, Nat.reduceLeDiff, Nat.reduceMul, Nat.reduceLT, Nat.reduceBEq, Int.reduceEq, tI_2, zI_2, underlying2, tI_3, zI_3, underlying3, tI_6, zI_6, underlying6, tI_7, zI_7, fI_7_0, fI_7_1, fI_7_2, fI_7_3, bI_7, tI_8, zI_8, fI_8_0, fI_8_1, fI_8_2, fI_8_3, bI_8, tI_10, zI_10, underlying10, tI_30, zI_30, eI_30, eB_30, eZ_30, underlying30, tI_31, zI_31, fI_31_0, fI_31_1, fI_31_2, fI_31_3, bI_31, tI_32, zI_32, fI_32_0, fI_32_1, fI_32_2, fI_32_3, bI_32]
  refine (c_markTermS ts j q bs st hO hnd h0 h1).mono ?_
  rintro _ s2 ⟨rfl, a, b⟩
  simp -implicitDefEqProofs only [evb0, evb1, evb2, evb3, evb4, evb5, evb6, ↓Int.cast_ofNat_Int, implies_true, ne_eq, isMut, aFn, List.contains, List.elem, aBox, aField, aLoad, sub, aNil, aPick, aExt, aFld, gd, noJunk, plainOp, aBuildSlice, aParts, seqParts, fitAll, List.range', ↓reduceIte, reduceCtorEq, Nat.reduceEqDiff, Nat.reduceAdd, Nat.reduceLeDiff, Nat.reduceMul, Nat.reduceLT, Nat.reduceBEq, Int.reduceEq, tI_2, zI_2, underlying2, tI_3, zI_3, underlying3, tI_6, zI_6, underlying6, tI_7, zI_7, fI_7_0, fI_7_1, fI_7_2, fI_7_3, bI_7, tI_8, zI_8, fI_8_0, fI_8_1, fI_8_2, fI_8_3, bI_8, tI_10, zI_10, underlying10, tI_30, zI_30, eI_30, eB_30, eZ_30, underlying30, tI_31, zI_31, fI_31_0, fI_31_1, fI_31_2, fI_31_3, bI_31, tI_32, zI_32, fI_32_0, fI_32_1, fI_32_2, fI_32_3, bI_32]
  exact ⟨rfl, a, b⟩

theorem c_markProof (p : Pf) (j : Int) (o : AV) (bs : List Nat) (st : Store) (hO : Own st p.av o bs) (hnd : bs.Nodup) (h0 : 0 ≤ j) (h1 : j + p.mks ≤ 1099511627776) :
    ACalls prog 20 [o, .int .i64 j] st (fun r st' => ∃ k : Int, r = .int .i64 k ∧ 0 ≤ k ∧ ∀ q, q ∉ bs → st' q = st q) := by
  obtain ⟨⟨k, n, s, ts⟩, c, ps⟩ := p
  simp only [Pf.mks_mk, Tm.mks_mk] at h1
  obtain ⟨q, b1, q', b2, rfl, rfl, hq, hq'⟩ := own_Pf.1 hO
  rw [List.nodup_append] at hnd
  obtain ⟨hb1n, hb2n, hdis⟩ := hnd
  have hqa : q.isAgg = false := (Own.shape hq).1
  have hqa' : q'.isAgg = false := (Own.shape hq').1
  have hqw : q.width = 1 := (Own.shape hq).2.1
  have hqw' : q'.width = 1 := (Own.shape hq').2.1
  refine acalls_fit [] func20 ntmps20 rfl rfl (by kernel_rfl) (by decide +kernel) (by show 2 ≤ _; decide +kernel) ?_
  intro _
  simp -implicitDefEqProofs only [hqa, hqw, evb0, evb1, evb2, evb3, evb4, evb5, evb6, ↓Int.cast_ofNat_Int, implies_true, ne_eq, isMut, aFn, List.contains, List.elem, aBox, aField, aLoad, sub, aNil, aPick, aExt, aFld, gd, noJunk, plainOp, aBuildSlice, aParts, seqParts, fitAll, List.range', ↓reduceIte, reduceCtorEq, Nat.reduceEqDiff, Nat.reduceAdd, Nat.reduceLeDiff, Nat.reduceMul, Nat.reduceLT, Nat.reduceBEq, Int.reduceEq, tI_2, zI_2, underlying2, tI_3, zI_3, underlying3, tI_6, zI_6, underlying6, tI_7, zI_7, fI_7_0, fI_7_1, fI_7_2, fI_7_3, bI_7, tI_8, zI_8, fI_8_0, fI_8_1, fI_8_2, fI_8_3, bI_8, tI_10, zI_10, underlying10, tI_11, zI_11, underlying11, tI_12, zI_12, underlying12, tI_14, zI_14, fI_14_0, fI_14_1, bI_14, tI_32, zI_32, fI_32_0, fI_32_1, fI_32_2, fI_32_3, bI_32, tI_33, zI_33, eI_33, eB_33, eZ_33, underlying33, tI_35, zI_35, fI_35_0, fI_35_1, fI_35_2, bI_35]
  refine (c_markTerm k n s ts j q b1 st hq hb1n h0 (by omega)).mono ?_
  rintro _ s2 ⟨rfl, _, hk2⟩
  simp -implicitDefEqProofs only [hqa', hqw', evb0, evb1, evb2, evb3, evb4, evb5, evb6, ↓Int.cast_ofNat_Int, implies_true, ne_eq, isMut, aFn, List.contains, List.elem, aBox, aField, aLoad, sub, aNil, aPick, aExt, aFld, gd, noJunk, plainOp, aBuildSlice, aParts, seqParts, fitAll, List.range', ↓reduceIte, reduceCtorEq, Nat.reduceEqDiff, Nat.reduceAdd, Nat.reduceLeDiff, Nat.reduceMul, Nat.reduceLT, Nat.reduceBEq, Int.reduceEq, tI_2, zI_2, underlying2, tI_3, zI_3, underlying3, tI_6, zI_6, underlying6, tI_7, zI_7, fI_7_0, fI_7_1, fI_7_2, fI_7_3, bI_7, tI_8, zI_8, fI_8_0, fI_8_1, fI_8_2, fI_8_3, bI_8, tI_10, zI_10, underlying10, tI_11, zI_11, underlying11, tI_12, zI_12, underlying12, tI_14, zI_14, fI_14_0, fI_14_1, bI_14, tI_32, zI_32, fI_32_0, fI_32_1, fI_32_2, fI_32_3, bI_32, tI_33, zI_33, eI_33, eB_33, eZ_33, underlying33, tI_35, zI_35, fI_35_0, fI_35_1, fI_35_2, bI_35]
  refine (c_markProofS ps _ q' b2 s2 (Own.keep _ _ _ (fun x hx => hk2 x (fun h => hdis x h x hx rfl)) hq') hb2n (by omega) (by omega)).mono ?_
  rintro _ s3 ⟨rfl, _, hk3⟩
  simp -implicitDefEqProofs only [evb0, evb1, evb2, evb3, evb4, evb5, evb6, ↓Int.cast_ofNat_Int, implies_true, ne_eq, isMut, aFn, List.contains, List.elem, aBox, aField, aLoad, sub, aNil, aPick, aExt, aFld, gd, noJunk, plainOp, aBuildSlice, aParts, seqParts, fitAll, List.range', ↓reduceIte, reduceCtorEq, Nat.reduceEqDiff, Nat.reduceAdd, Nat.reduceLeDiff, Nat.reduceMul, Nat.reduceLT, Nat.reduceBEq, Int.reduceEq, tI_2, zI_2, underlying2, tI_3, zI_3, underlying3, tI_6, zI_6, underlying6, tI_7, zI_7, fI_7_0, fI_7_1, fI_7_2, fI_7_3, bI_7, tI_8, zI_8, fI_8_0, fI_8_1, fI_8_2, fI_8_3, bI_8, tI_10, zI_10, underlying10, tI_11, zI_11, underlying11, tI_12, zI_12, underlying12, tI_14, zI_14, fI_14_0, fI_14_1, bI_14, tI_32, zI_32, fI_32_0, fI_32_1, fI_32_2, fI_32_3, bI_32, tI_33, zI_33, eI_33, eB_33, eZ_33, underlying33, tI_35, zI_35, fI_35_0, fI_35_1, fI_35_2, bI_35]
  refine ⟨_, rfl, by omega, fun x hx => ?_⟩
  simp only [List.mem_append, not_or] at hx
  rw [hk3 x hx.2, hk2 x hx.1]
end Go.AW
