import Derived.Test.YtccofeljgfmplaaOsFink
import Derived.Test.YtccofeljgfmplaaOsFinl
import Derived.Test.YtccofeljgfmplaaOsFinf
import Derived.Test.YtccofeljgfmplaaOsFini
import Derived.Test.YtccofeljgfmplaaOsFing

/- Sessions: the reference's copies. -/
namespace Go.AW
open Go.Proofs.Try
set_option linter.unusedSimpArgs false
set_option maxRecDepth 100000

/-! ### A struct's list that grows, wherever it lies in the struct -/
def midS (S : Store) (c b w : Nat) (hd tl : List AV) (l : List AV) : Store := accS (S.upd c (.cells (hd ++ accV w b l :: tl))) b l
section
variable {S : Store} {c b w : Nat} {hd tl l : List AV}
theorem midS_c (hb : l ≠ [] → (S.upd c (.cells (hd ++ accV w b l :: tl))) b = none) : midS S c b w hd tl l c = some (.cells (hd ++ accV w b l :: tl)) := by
  unfold midS
  by_cases h : l = []
  · rw [h, accS_nil, Store.upd_same]
  · have h0 := hb h
    have hne : c ≠ b := fun e => by rw [← e, Store.upd_same] at h0; cases h0
    rw [accS_ne hne, Store.upd_same]
theorem midS_set {b' : Nat} {l' : List AV} (hb : l' ≠ [] → (S.upd c (.cells (hd ++ accV w b l :: tl))) b' = none) :
    (accS (S.upd c (.cells (hd ++ accV w b l :: tl))) b' l').upd c (.cells (hd ++ accV w b' l' :: tl)) = midS S c b' w hd tl l' ∧ (l' ≠ [] → (S.upd c (.cells (hd ++ accV w b' l' :: tl))) b' = none) ∧ accS (S.upd c (.cells (hd ++ accV w b l :: tl))) b' l' c = some (.cells (hd ++ accV w b l :: tl)) := by
  have hne : l' ≠ [] → c ≠ b' := fun h e => by have := hb h; rw [← e, Store.upd_same] at this; cases this
  refine ⟨?_, fun h => ?_, ?_⟩
  · rw [accS_upd hne, Store.upd_upd]; rfl
  · have := hb h
    rw [Store.upd_ne _ _ (Ne.symm (hne h))] at this ⊢
    exact this
  · by_cases h : l' = []
    · rw [h, accS_nil, Store.upd_same]
    · rw [accS_ne (hne h), Store.upd_same]
theorem midS_ne {x : Nat} (hb : l ≠ [] → (S.upd c (.cells (hd ++ accV w b l :: tl))) b = none) (hx : S x ≠ none) (hxc : x ≠ c) : midS S c b w hd tl l x = S x := by
  unfold midS
  by_cases h : l = []
  · rw [h, accS_nil, Store.upd_ne _ _ hxc]
  · have h0 := hb h
    have hne : x ≠ b := fun e => by rw [← e, Store.upd_ne _ _ hxc] at h0; exact hx h0
    rw [accS_ne hne, Store.upd_ne _ _ hxc]
theorem VCs_at {h : Heap} {st : Store} {a a' : AV} (hv : ∀ v, VC h st a [v] → VC h st a' [v]) : ∀ (hd : List AV) {tl : List AV} {vs : List Value}, VCs h st (hd ++ a :: tl) vs → VCs h st (hd ++ a' :: tl) vs
  | [], tl, vs, x => by
    simp only [List.nil_append, VCs] at x ⊢
    obtain ⟨c, r, e, x1, x2⟩ := x
    exact ⟨c, r, e, hv c x1, x2⟩
  | y :: hd, tl, vs, x => by
    simp only [List.cons_append, VCs] at x ⊢
    obtain ⟨c, r, e, x1, x2⟩ := x
    exact ⟨c, r, e, x1, VCs_at hv hd x2⟩
theorem Less.softAt {φ : AF} {st : Store} {c : Nat} {hd tl : List AV} {a : AV} (hc : st c = some (.cells (hd ++ a :: tl))) : Less φ st φ (st.upd c (.cells (hd ++ a.soft :: tl))) := fun h tmps S F => by
  have T : StepH h st h (st.upd c (.cells (hd ++ a.soft :: tl))) := StepH.of fun x hx => by
    have : x ≠ c := by rintro rfl; rw [hc] at hx; cases hx
    rw [Store.upd_ne _ _ this]; exact hx
  refine ⟨fun x o hx => ?_, T, fun d => (F d).mono T⟩
  by_cases e : x = c
  · subst e
    rw [Store.upd_same] at hx
    cases hx
    obtain ⟨hl, c0, t, e1, e2, vs, e3, e4⟩ := S x _ hc
    refine ⟨hl, c0, t, e1, ?_, vs, e3, VCs.mono T _ _ (VCs_at (fun v hv => VC.soft a [v] hv) hd e4)⟩
    simpa using e2
  · rw [Store.upd_ne _ _ e] at hx
    obtain ⟨hl, y⟩ := S x o hx
    exact ⟨hl, ORel.mono T rfl y⟩
theorem fzL_id {es : List AV} : ∀ {l : List AV}, (∀ a ∈ l, a.fz b es = a) → fzL b es l = l
  | [], _ => rfl
  | a :: l, h => by rw [fzL, h a (by simp), fzL_id fun x hx => h x (by simp [hx])]
/-- The list is never written again. -/
theorem less_mid {φ : AF} (hb : l ≠ [] → (S.upd c (.cells (hd ++ accV w b l :: tl))) b = none) (hj : ∀ e ∈ l, e.isJunk = false) (hE : Even l)
    (hh : ∀ a ∈ hd ++ tl, ∀ b es, a.fz b es = a) :
    Less φ (midS S c b w hd tl l) φ (S.upd c (.cells (hd ++ .slice l :: tl))) := by
  have hcc := midS_c hb
  cases l with
  | nil =>
    have := Less.softAt (φ := φ) hcc
    unfold midS at this ⊢
    simp only [accS_nil, Store.upd_upd] at this
    exact this
  | cons y l =>
    have h0 := hb (by simp)
    have hne : b ≠ c := by rintro rfl; rw [Store.upd_same] at h0; cases h0
    have h1 : midS S c b w hd tl (y :: l) b = some (.cells ((y :: l).flatMap AV.cells)) := by unfold midS; simp only [accS]; exact Store.upd_same _ _ _
    have := Less.freezeIn (φ := φ) hne h1 hj hE hcc
    have e : (midS S c b w hd tl (y :: l)).erase b = S.upd c (.cells (hd ++ accV w b (y :: l) :: tl)) := by unfold midS; simp only [accS]; exact Store.erase_upd _ _ _ h0
    have f1 : fzL b (y :: l) hd = hd := fzL_id fun a ha => hh a (by simp [ha]) _ _
    have f2 : fzL b (y :: l) tl = tl := fzL_id fun a ha => hh a (by simp [ha]) _ _
    have f3 : (accV w b (y :: l)).fz b (y :: l) = .slice (y :: l) := by simp [accV, AV.fz]
    rw [e, Store.upd_upd, fzL_map, List.map_append, List.map_cons, ← fzL_map, ← fzL_map, f1, f2, f3] at this
    exact this
end

theorem tf_C5_137 : (type_of% tI_2) ∧ (type_of% zI_2) ∧ (type_of% Go.Proofs.Try.underlying2) ∧ (type_of% tI_3) ∧ (type_of% zI_3) ∧ (type_of% Go.Proofs.Try.underlying3) ∧ (type_of% tI_4) ∧ (type_of% zI_4) ∧ (type_of% Go.Proofs.Try.underlying4) ∧ (type_of% tI_5) ∧ (type_of% zI_5) ∧ (type_of% Go.Proofs.Try.underlying5) ∧ (type_of% tI_6) ∧ (type_of% zI_6) ∧ (type_of% Go.Proofs.Try.underlying6) ∧ (type_of% tI_7) ∧ (type_of% zI_7) ∧ (type_of% fI_7_0) ∧ (type_of% fI_7_1) ∧ (type_of% fI_7_2) ∧ (type_of% fI_7_3) ∧ (type_of% bI_7) ∧ (type_of% tI_9) ∧ (type_of% zI_9) ∧ (type_of% Go.Proofs.Try.underlying9) ∧ (type_of% tI_11) ∧ (type_of% zI_11) ∧ (type_of% Go.Proofs.Try.underlying11) ∧ (type_of% tI_12) ∧ (type_of% zI_12) ∧ (type_of% Go.Proofs.Try.underlying12) ∧ (type_of% tI_17) ∧ (type_of% zI_17) ∧ (type_of% tI_22) ∧ (type_of% zI_22) ∧ (type_of% eI_22) ∧ (type_of% eB_22) ∧ (type_of% eZ_22) ∧ (type_of% Go.Proofs.Try.underlying22) ∧ (type_of% tI_23) ∧ (type_of% zI_23) ∧ (type_of% fI_23_0) ∧ (type_of% bI_23) ∧ (type_of% tI_24) ∧ (type_of% zI_24) ∧ (type_of% fI_24_0) ∧ (type_of% bI_24) ∧ (type_of% tI_27) ∧ (type_of% zI_27) ∧ (type_of% eI_27) ∧ (type_of% eB_27) ∧ (type_of% eZ_27) ∧ (type_of% Go.Proofs.Try.underlying27) ∧ (type_of% tI_41) ∧ (type_of% zI_41) ∧ (type_of% fI_41_0) ∧ (type_of% fI_41_1) ∧ (type_of% fI_41_2) ∧ (type_of% fI_41_3) ∧ (type_of% bI_41) ∧ (type_of% tI_64) ∧ (type_of% zI_64) ∧ (type_of% fI_64_0) ∧ (type_of% fI_64_1) ∧ (type_of% bI_64) ∧ (type_of% tI_121) ∧ (type_of% zI_121) ∧ (type_of% fI_121_0) ∧ (type_of% fI_121_1) ∧ (type_of% fI_121_2) ∧ (type_of% fI_121_3) ∧ (type_of% fI_121_4) ∧ (type_of% fI_121_5) ∧ (type_of% fI_121_6) ∧ (type_of% bI_121) ∧ (type_of% tI_136) ∧ (type_of% zI_136) ∧ (type_of% fI_136_0) ∧ (type_of% fI_136_1) ∧ (type_of% bI_136) := ⟨tI_2, zI_2, Go.Proofs.Try.underlying2, tI_3, zI_3, Go.Proofs.Try.underlying3, tI_4, zI_4, Go.Proofs.Try.underlying4, tI_5, zI_5, Go.Proofs.Try.underlying5, tI_6, zI_6, Go.Proofs.Try.underlying6, tI_7, zI_7, fI_7_0, fI_7_1, fI_7_2, fI_7_3, bI_7, tI_9, zI_9, Go.Proofs.Try.underlying9, tI_11, zI_11, Go.Proofs.Try.underlying11, tI_12, zI_12, Go.Proofs.Try.underlying12, tI_17, zI_17, tI_22, zI_22, eI_22, eB_22, eZ_22, Go.Proofs.Try.underlying22, tI_23, zI_23, fI_23_0, bI_23, tI_24, zI_24, fI_24_0, bI_24, tI_27, zI_27, eI_27, eB_27, eZ_27, Go.Proofs.Try.underlying27, tI_41, zI_41, fI_41_0, fI_41_1, fI_41_2, fI_41_3, bI_41, tI_64, zI_64, fI_64_0, fI_64_1, bI_64, tI_121, zI_121, fI_121_0, fI_121_1, fI_121_2, fI_121_3, fI_121_4, fI_121_5, fI_121_6, bI_121, tI_136, zI_136, fI_136_0, fI_136_1, bI_136⟩
theorem c_l4Copy (cl : Cl) (h1 : cl.1.small = true) (h2 : cl.2.length ≤ 1048576) (h3 : ∀ x ∈ cl.2, x.small = true) (st : Store) : ACalls prog 137 [clAv cl] st (fun r st' => r = clAv cl ∧ st' = st) := by
  obtain ⟨⟨k, n, s, ks⟩, ts⟩ := cl
  have hhd := fun st => c_l1Copy (.mk k n s ks) st h1
  simp only [Tm.av_mk] at hhd
  have IH := fun (x : Tm) (hx : x ∈ ts) st => c_l1Copy x st (h3 x hx)
  have hlen : ts.length ≤ 1048576 := h2
  refine ACalls.drop2 (ACalls.fin ?_)
  simp only [clAv_mk]
  refine acalls_fit [] func137 ntmps137 rfl rfl (by kernel_rfl) (by decide +kernel) (by show 1 ≤ _; decide +kernel) ?_
  simp only [fitsL, AV.fits, and_true, List.length_map]
  intro ⟨_, _, _, _, hl, _⟩
  simp -implicitDefEqProofs only [setCells, evb0, evb1, evb2, evb3, evb4, evb5, evb6, evb7, evb8, evb9, ↓evZ2, ↓evZ3, ↓Int.cast_ofNat_Int, implies_true, ne_eq, or_false, false_or, or_self, gt_iff_lt, isMut, aFn, List.contains, List.elem, aBox, aField, aLoad, sub, aNil, aPick, aExt, aFld, gd, noJunk, plainOp, aBuildSlice, aBuild, aFill, aParts, seqParts, fitAll, List.range', ↓reduceIte, reduceCtorEq, Nat.reduceEqDiff, Nat.reduceAdd, Nat.reduceLeDiff, Nat.reduceMul, Nat.reduceLT, Nat.reduceBEq, Int.reduceEq, tf_C5_137]
  intro b2 hb2
  refine (hhd _).to ?_
  simp -implicitDefEqProofs only [setCells, evb0, evb1, evb2, evb3, evb4, evb5, evb6, evb7, evb8, evb9, ↓evZ2, ↓evZ3, ↓Int.cast_ofNat_Int, implies_true, ne_eq, or_false, false_or, or_self, gt_iff_lt, isMut, aFn, List.contains, List.elem, aBox, aField, aLoad, sub, aNil, aPick, aExt, aFld, gd, noJunk, plainOp, aBuildSlice, aBuild, aFill, aParts, seqParts, fitAll, List.range', ↓reduceIte, reduceCtorEq, Nat.reduceEqDiff, Nat.reduceAdd, Nat.reduceLeDiff, Nat.reduceMul, Nat.reduceLT, Nat.reduceBEq, Int.reduceEq, tf_C5_137]
  intro c hc
  have hne : c ≠ b2 := by rintro rfl; rw [Store.upd_same] at hc; cases hc
  have hn2 : st c = none := by rw [Store.upd_ne st _ hne] at hc; exact hc
  have hb2c : b2 ≠ c := Ne.symm hne
  refine arun_each (σ := Nat) [] [1, 2, 3] ts (fun i b => (((ts.take i).map (fun y => y)).map Tm.av ≠ [] → (Store.upd (st.upd b2 (.cells [AV.int .i64 0, AV.int .i64 0, AV.str ⟨#[]⟩, AV.fslice [], AV.fslice []])) c (.cells ([AV.int .i64 k, AV.int .i64 n, AV.str s, AV.slice (ks.map Tm.av)] ++ [accV 4 b (((ts.take i).map (fun y => y)).map Tm.av)]))) b = none)) (fun i b => [(4, .int .i64 i)]) (fun i b => kidS (st.upd b2 (.cells [AV.int .i64 0, AV.int .i64 0, AV.str ⟨#[]⟩, AV.fslice [], AV.fslice []])) c b [AV.int .i64 k, AV.int .i64 n, AV.str s, AV.slice (ks.map Tm.av)] (((ts.take i).map (fun y => y)).map Tm.av)) (by decide +kernel)
    ⟨0, fun h => absurd rfl h, LessL.mk (by simp -implicitDefEqProofs only [List.length_map, setCells, evb0, evb1, evb2, evb3, evb4, evb5, evb6, evb7, evb8, evb9, ↓evZ2, ↓evZ3, ↓Int.cast_ofNat_Int, implies_true, ne_eq, or_false, false_or, or_self, gt_iff_lt, isMut, aFn, List.contains, List.elem, aBox, aField, aLoad, sub, aNil, aPick, aExt, aFld, gd, noJunk, plainOp, aBuildSlice, aBuild, aFill, aParts, seqParts, fitAll, List.range', ↓reduceIte, reduceCtorEq, Nat.reduceEqDiff, Nat.reduceAdd, Nat.reduceLeDiff, Nat.reduceMul, Nat.reduceLT, Nat.reduceBEq, Int.reduceEq, tf_C5_137])⟩ (fun i x b hx hlt hlt' hdr hinv => ?_) (fun b hge hinv => ?_)
  case refine_1 =>
    have hw := wrap64 (n := (i : Int) + 1) (by omega) (by omega)
    have hlen' : (((ts.take i).map (fun y => y)).map Tm.av).length = i := by simp only [List.length_map, List.length_take]; omega
    have htk : (ts.take (i + 1)).map (fun y => y) = (ts.take i).map (fun y => y) ++ [(fun y => y) x] := by rw [List.take_add_one, hx]; simp
    have hbo := kidS_c hinv
    simp -implicitDefEqProofs only [List.length_map, hlt', Nat.zero_add, setCells, evb0, evb1, evb2, evb3, evb4, evb5, evb6, evb7, evb8, evb9, ↓evZ2, ↓evZ3, ↓Int.cast_ofNat_Int, implies_true, ne_eq, or_false, false_or, or_self, gt_iff_lt, isMut, aFn, List.contains, List.elem, aBox, aField, aLoad, sub, aNil, aPick, aExt, aFld, gd, noJunk, plainOp, aBuildSlice, aBuild, aFill, aParts, seqParts, fitAll, List.range', ↓reduceIte, reduceCtorEq, Nat.reduceEqDiff, Nat.reduceAdd, Nat.reduceLeDiff, Nat.reduceMul, Nat.reduceLT, Nat.reduceBEq, Int.reduceEq, tf_C5_137]
    refine arun_plan [(0, 1), (2, 1), (4, 1), (1, 2), (3, 2), (5, 1), (6, 2), (7, 2), (8, 1), (9, 0), (10, 1), (11, 0)] [0, 2, 4, 1, 3, 5, 6, 7, 8, 10] mixed (by decide +kernel) (by decide +kernel) (by decide +kernel) ?_
    simp -implicitDefEqProofs only [ev_at (av := Tm.av) eI_27 hx (Tm.av_width x), Tm.av_agg, Tm.av_width, hbo, accV_agg, accV_width, Nat.zero_add, setCells, evb0, evb1, evb2, evb3, evb4, evb5, evb6, evb7, evb8, evb9, ↓evZ2, ↓evZ3, ↓Int.cast_ofNat_Int, implies_true, ne_eq, or_false, false_or, or_self, gt_iff_lt, isMut, aFn, List.contains, List.elem, aBox, aField, aLoad, sub, aNil, aPick, aExt, aFld, gd, noJunk, plainOp, aBuildSlice, aBuild, aFill, aParts, seqParts, fitAll, List.range', ↓reduceIte, reduceCtorEq, Nat.reduceEqDiff, Nat.reduceAdd, Nat.reduceLeDiff, Nat.reduceMul, Nat.reduceLT, Nat.reduceBEq, Int.reduceEq, tf_C5_137]
    refine callH_mk (IH x (List.mem_of_getElem? hx) _) ?_
    simp -implicitDefEqProofs only [Tm.av_agg, Tm.av_width, Tm.av_junk, hbo, accV_agg, accV_width, Nat.zero_add, setCells, evb0, evb1, evb2, evb3, evb4, evb5, evb6, evb7, evb8, evb9, ↓evZ2, ↓evZ3, ↓Int.cast_ofNat_Int, implies_true, ne_eq, or_false, false_or, or_self, gt_iff_lt, isMut, aFn, List.contains, List.elem, aBox, aField, aLoad, sub, aNil, aPick, aExt, aFld, gd, noJunk, plainOp, aBuildSlice, aBuild, aFill, aParts, seqParts, fitAll, List.range', ↓reduceIte, reduceCtorEq, Nat.reduceEqDiff, Nat.reduceAdd, Nat.reduceLeDiff, Nat.reduceMul, Nat.reduceLT, Nat.reduceBEq, Int.reduceEq, tf_C5_137]
    refine acc_append eI_27 eB_27 eZ_27 rfl rfl (by intro e he; simp only [List.mem_cons, List.not_mem_nil, or_false] at he; subst he; exact ⟨Tm.av_width _, Tm.av_store _⟩) (tm_widths _) hinv (by simp only [hlen', List.length_cons, List.length_nil]; omega) (by simp only [hlen', List.length_cons, List.length_nil]; omega) (fun b' hb' => ?_)
    rw [show (((ts.take i).map (fun y => y)).map Tm.av) ++ [((fun y => y) x).av] = ((ts.take (i + 1)).map (fun y => y)).map Tm.av by rw [htk]; simp] at hb' ⊢
    obtain ⟨g1, g2, g3⟩ := kidS_set hb'
    simp only [List.cons_append, List.nil_append] at g1 g3
    simp -implicitDefEqProofs only [g3, accV_cells, accV_store, setCells, Nat.le_refl, g1, hw, setCells, evb0, evb1, evb2, evb3, evb4, evb5, evb6, evb7, evb8, evb9, ↓evZ2, ↓evZ3, ↓Int.cast_ofNat_Int, implies_true, ne_eq, or_false, false_or, or_self, gt_iff_lt, isMut, aFn, List.contains, List.elem, aBox, aField, aLoad, sub, aNil, aPick, aExt, aFld, gd, noJunk, plainOp, aBuildSlice, aBuild, aFill, aParts, seqParts, fitAll, List.range', ↓reduceIte, reduceCtorEq, Nat.reduceEqDiff, Nat.reduceAdd, Nat.reduceLeDiff, Nat.reduceMul, Nat.reduceLT, Nat.reduceBEq, Int.reduceEq, tf_C5_137]
    exact ⟨b', g2, LessL.mk (by simp -implicitDefEqProofs only [setCells, evb0, evb1, evb2, evb3, evb4, evb5, evb6, evb7, evb8, evb9, ↓evZ2, ↓evZ3, ↓Int.cast_ofNat_Int, implies_true, ne_eq, or_false, false_or, or_self, gt_iff_lt, isMut, aFn, List.contains, List.elem, aBox, aField, aLoad, sub, aNil, aPick, aExt, aFld, gd, noJunk, plainOp, aBuildSlice, aBuild, aFill, aParts, seqParts, fitAll, List.range', ↓reduceIte, reduceCtorEq, Nat.reduceEqDiff, Nat.reduceAdd, Nat.reduceLeDiff, Nat.reduceMul, Nat.reduceLT, Nat.reduceBEq, Int.reduceEq, tf_C5_137])⟩
  have hbo := kidS_c hinv
  rw [List.take_length] at hinv hbo ⊢
  simp -implicitDefEqProofs only [List.length_map, hge, setCells, evb0, evb1, evb2, evb3, evb4, evb5, evb6, evb7, evb8, evb9, ↓evZ2, ↓evZ3, ↓Int.cast_ofNat_Int, implies_true, ne_eq, or_false, false_or, or_self, gt_iff_lt, isMut, aFn, List.contains, List.elem, aBox, aField, aLoad, sub, aNil, aPick, aExt, aFld, gd, noJunk, plainOp, aBuildSlice, aBuild, aFill, aParts, seqParts, fitAll, List.range', ↓reduceIte, reduceCtorEq, Nat.reduceEqDiff, Nat.reduceAdd, Nat.reduceLeDiff, Nat.reduceMul, Nat.reduceLT, Nat.reduceBEq, Int.reduceEq, tf_C5_137]
  simp -implicitDefEqProofs only [hbo, setCells, evb0, evb1, evb2, evb3, evb4, evb5, evb6, evb7, evb8, evb9, ↓evZ2, ↓evZ3, ↓Int.cast_ofNat_Int, implies_true, ne_eq, or_false, false_or, or_self, gt_iff_lt, isMut, aFn, List.contains, List.elem, aBox, aField, aLoad, sub, aNil, aPick, aExt, aFld, gd, noJunk, plainOp, aBuildSlice, aBuild, aFill, aParts, seqParts, fitAll, List.range', ↓reduceIte, reduceCtorEq, Nat.reduceEqDiff, Nat.reduceAdd, Nat.reduceLeDiff, Nat.reduceMul, Nat.reduceLT, Nat.reduceBEq, Int.reduceEq, tf_C5_137]
  have hS : (st.upd b2 (.cells [AV.int .i64 0, AV.int .i64 0, AV.str ⟨#[]⟩, AV.fslice [], AV.fslice []])) b2 ≠ none := by rw [Store.upd_same]; simp
  have h1 := kidS_ne hinv hS hb2c
  rw [Store.upd_same] at h1
  simp -implicitDefEqProofs only [h1, accV_store, accV_cells, setCells, Nat.le_refl, setCells, evb0, evb1, evb2, evb3, evb4, evb5, evb6, evb7, evb8, evb9, ↓evZ2, ↓evZ3, ↓Int.cast_ofNat_Int, implies_true, ne_eq, or_false, false_or, or_self, gt_iff_lt, isMut, aFn, List.contains, List.elem, aBox, aField, aLoad, sub, aNil, aPick, aExt, aFld, gd, noJunk, plainOp, aBuildSlice, aBuild, aFill, aParts, seqParts, fitAll, List.range', ↓reduceIte, reduceCtorEq, Nat.reduceEqDiff, Nat.reduceAdd, Nat.reduceLeDiff, Nat.reduceMul, Nat.reduceLT, Nat.reduceBEq, Int.reduceEq, tf_C5_137]
  obtain ⟨h2, h3⟩ := kidS_upd (o := .cells [AV.int .i64 k, AV.int .i64 n, AV.str s, AV.slice (ks.map Tm.av), accV 4 b ((ts.map fun y => y).map Tm.av)]) hinv hS hb2c
  refine ⟨b, _, _, h2, h3, tm_junk _, ⟨4, tm_widths _⟩, ?_, ?_⟩
  · simp only [fin_agg, List.map_cons, List.map_nil, fin_int, fin_str, fin_slice, accV_fin, List.map_id']
  · exact (((Drops.refl _).upd hb2).upd hn2).upd hb2

/-- A session. -/
structure Ss where
  p : List Cl
  q : List Tm
  quota : Int
  used : Int
  sent : Int
  fin : Int
def ssAv (s : Ss) : AV := .agg [.slice (s.p.map clAv), .slice (s.q.map Tm.av), .int .i64 s.quota, .int .i64 s.used, .int .i64 s.sent, .int .i64 s.fin]
abbrev clSmall' (c : Cl) : Prop := c.1.small = true ∧ c.2.length ≤ 1048576 ∧ ∀ x ∈ c.2, x.small = true
theorem cl_widths (l : List Cl) : ∀ e ∈ l.map clAv, e.width = 5 := by intro e h; simp only [List.mem_map] at h; obtain ⟨t, _, rfl⟩ := h; exact clAv_width t
theorem cl_junk (l : List Cl) : ∀ e ∈ l.map clAv, e.isJunk = false := by intro e h; simp only [List.mem_map] at h; obtain ⟨t, _, rfl⟩ := h; exact clAv_junk t

theorem tf_C5_95 : (type_of% tI_2) ∧ (type_of% zI_2) ∧ (type_of% Go.Proofs.Try.underlying2) ∧ (type_of% tI_3) ∧ (type_of% zI_3) ∧ (type_of% Go.Proofs.Try.underlying3) ∧ (type_of% tI_4) ∧ (type_of% zI_4) ∧ (type_of% Go.Proofs.Try.underlying4) ∧ (type_of% tI_5) ∧ (type_of% zI_5) ∧ (type_of% Go.Proofs.Try.underlying5) ∧ (type_of% tI_6) ∧ (type_of% zI_6) ∧ (type_of% Go.Proofs.Try.underlying6) ∧ (type_of% tI_7) ∧ (type_of% zI_7) ∧ (type_of% fI_7_0) ∧ (type_of% fI_7_1) ∧ (type_of% fI_7_2) ∧ (type_of% fI_7_3) ∧ (type_of% bI_7) ∧ (type_of% tI_8) ∧ (type_of% zI_8) ∧ (type_of% fI_8_0) ∧ (type_of% fI_8_1) ∧ (type_of% fI_8_2) ∧ (type_of% fI_8_3) ∧ (type_of% bI_8) ∧ (type_of% tI_9) ∧ (type_of% zI_9) ∧ (type_of% Go.Proofs.Try.underlying9) ∧ (type_of% tI_10) ∧ (type_of% zI_10) ∧ (type_of% Go.Proofs.Try.underlying10) ∧ (type_of% tI_12) ∧ (type_of% zI_12) ∧ (type_of% Go.Proofs.Try.underlying12) ∧ (type_of% tI_15) ∧ (type_of% zI_15) ∧ (type_of% tI_17) ∧ (type_of% zI_17) ∧ (type_of% tI_18) ∧ (type_of% zI_18) ∧ (type_of% fI_18_0) ∧ (type_of% bI_18) ∧ (type_of% tI_21) ∧ (type_of% zI_21) ∧ (type_of% Go.Proofs.Try.underlying21) ∧ (type_of% tI_23) ∧ (type_of% zI_23) ∧ (type_of% fI_23_0) ∧ (type_of% bI_23) ∧ (type_of% tI_27) ∧ (type_of% zI_27) ∧ (type_of% eI_27) ∧ (type_of% eB_27) ∧ (type_of% eZ_27) ∧ (type_of% Go.Proofs.Try.underlying27) ∧ (type_of% tI_31) ∧ (type_of% zI_31) ∧ (type_of% fI_31_0) ∧ (type_of% bI_31) ∧ (type_of% tI_32) ∧ (type_of% zI_32) ∧ (type_of% fI_32_0) ∧ (type_of% bI_32) ∧ (type_of% tI_41) ∧ (type_of% zI_41) ∧ (type_of% fI_41_0) ∧ (type_of% fI_41_1) ∧ (type_of% fI_41_2) ∧ (type_of% fI_41_3) ∧ (type_of% bI_41) ∧ (type_of% tI_64) ∧ (type_of% zI_64) ∧ (type_of% fI_64_0) ∧ (type_of% fI_64_1) ∧ (type_of% bI_64) ∧ (type_of% tI_73) ∧ (type_of% zI_73) ∧ (type_of% eI_73) ∧ (type_of% eB_73) ∧ (type_of% eZ_73) ∧ (type_of% Go.Proofs.Try.underlying73) ∧ (type_of% tI_75) ∧ (type_of% zI_75) ∧ (type_of% fI_75_0) ∧ (type_of% fI_75_1) ∧ (type_of% fI_75_2) ∧ (type_of% fI_75_3) ∧ (type_of% fI_75_4) ∧ (type_of% fI_75_5) ∧ (type_of% bI_75) ∧ (type_of% tI_136) ∧ (type_of% zI_136) ∧ (type_of% fI_136_0) ∧ (type_of% fI_136_1) ∧ (type_of% bI_136) := ⟨tI_2, zI_2, Go.Proofs.Try.underlying2, tI_3, zI_3, Go.Proofs.Try.underlying3, tI_4, zI_4, Go.Proofs.Try.underlying4, tI_5, zI_5, Go.Proofs.Try.underlying5, tI_6, zI_6, Go.Proofs.Try.underlying6, tI_7, zI_7, fI_7_0, fI_7_1, fI_7_2, fI_7_3, bI_7, tI_8, zI_8, fI_8_0, fI_8_1, fI_8_2, fI_8_3, bI_8, tI_9, zI_9, Go.Proofs.Try.underlying9, tI_10, zI_10, Go.Proofs.Try.underlying10, tI_12, zI_12, Go.Proofs.Try.underlying12, tI_15, zI_15, tI_17, zI_17, tI_18, zI_18, fI_18_0, bI_18, tI_21, zI_21, Go.Proofs.Try.underlying21, tI_23, zI_23, fI_23_0, bI_23, tI_27, zI_27, eI_27, eB_27, eZ_27, Go.Proofs.Try.underlying27, tI_31, zI_31, fI_31_0, bI_31, tI_32, zI_32, fI_32_0, bI_32, tI_41, zI_41, fI_41_0, fI_41_1, fI_41_2, fI_41_3, bI_41, tI_64, zI_64, fI_64_0, fI_64_1, bI_64, tI_73, zI_73, eI_73, eB_73, eZ_73, Go.Proofs.Try.underlying73, tI_75, zI_75, fI_75_0, fI_75_1, fI_75_2, fI_75_3, fI_75_4, fI_75_5, bI_75, tI_136, zI_136, fI_136_0, fI_136_1, bI_136⟩
theorem c_l10Copy (s : Ss) (hp : s.p.length ≤ 1048576) (hps : ∀ c ∈ s.p, clSmall' c) (hq : s.q.length ≤ 1048576) (hqs : ∀ t ∈ s.q, t.small = true) (st : Store) : ACalls prog 95 [ssAv s] st (fun r st' => r = ssAv s ∧ st' = st) := by
  obtain ⟨ps, qs, i0, i1, i2, i3⟩ := s
  simp only at hp hps hq hqs
  refine ACalls.drop2 (ACalls.fin ?_)
  simp only [ssAv]
  refine acalls_fit [1000000, 3] func95 ntmps95 rfl rfl (by kernel_rfl) (by decide +kernel) (by show 1 ≤ _; decide +kernel) ?_
  intro _
  simp -implicitDefEqProofs only [setCells, evb0, evb1, evb2, evb3, evb4, evb5, evb6, evb7, evb8, evb9, ↓evZ2, ↓evZ3, ↓Int.cast_ofNat_Int, implies_true, ne_eq, or_false, false_or, or_self, gt_iff_lt, isMut, aFn, List.contains, List.elem, aBox, aField, aLoad, sub, aNil, aPick, aExt, aFld, gd, noJunk, plainOp, aBuildSlice, aBuild, aFill, aParts, seqParts, fitAll, List.range', ↓reduceIte, reduceCtorEq, Nat.reduceEqDiff, Nat.reduceAdd, Nat.reduceLeDiff, Nat.reduceMul, Nat.reduceLT, Nat.reduceBEq, Int.reduceEq, tf_C5_95]
  intro b2 hb2 c hc
  have hne : c ≠ b2 := by rintro rfl; rw [Store.upd_same] at hc; cases hc
  have hn2 : st c = none := by rw [Store.upd_ne st _ hne] at hc; exact hc
  have hb2c : b2 ≠ c := Ne.symm hne
  refine arun_each (σ := Nat) [1000000, 3] [1, 2, 3] ps
    (fun i b => ((ps.take i).map clAv ≠ [] → ((st.upd b2 (.cells [.fslice [], .fslice [], .int .i64 0, .int .i64 0, .int .i64 0, .int .i64 0])).upd c (.cells ([] ++ accV 5 b ((ps.take i).map clAv) :: [.fslice [], .int .i64 i0, .int .i64 i1, .int .i64 i2, .int .i64 i3]))) b = none))
    (fun i _ => [(4, .int .i64 i)]) (fun i b => midS (st.upd b2 (.cells [.fslice [], .fslice [], .int .i64 0, .int .i64 0, .int .i64 0, .int .i64 0])) c b 5 [] [.fslice [], .int .i64 i0, .int .i64 i1, .int .i64 i2, .int .i64 i3] ((ps.take i).map clAv)) (by decide +kernel)
    ⟨0, fun h => absurd rfl h, LessL.mk (by simp -implicitDefEqProofs only [List.length_map, evb0, evb1, evb2, evb3, evb4, evb5, evb6, evb7, evb8, evb9, ↓evZ2, ↓evZ3, ↓Int.cast_ofNat_Int, implies_true, ne_eq, or_false, false_or, or_self, gt_iff_lt, isMut, aFn, List.contains, List.elem, aBox, aField, aLoad, sub, aNil, aPick, aExt, aFld, gd, noJunk, plainOp, aBuildSlice, aBuild, aFill, aParts, seqParts, fitAll, List.range', ↓reduceIte, reduceCtorEq, Nat.reduceEqDiff, Nat.reduceAdd, Nat.reduceLeDiff, Nat.reduceMul, Nat.reduceLT, Nat.reduceBEq, Int.reduceEq, tf_C5_95])⟩ (fun i x b hx hlt hlt' hdr hinv => ?_) (fun b hge hinv => ?_)
  · have hw := wrap64 (n := (i : Int) + 1) (by omega) (by omega)
    have hlen' : ((ps.take i).map clAv).length = i := by simp only [List.length_map, List.length_take]; omega
    have htk : (ps.take (i + 1)).map clAv = (ps.take i).map clAv ++ [clAv x] := by rw [List.take_add_one, hx]; simp
    have hbo := midS_c hinv
    simp only [List.nil_append] at hbo
    have hmem := List.mem_of_getElem? hx
    obtain ⟨s1, s2, s3⟩ := hps x hmem
    have hat := ev_at (av := clAv) eI_73 hx (clAv_width x)
    simp -implicitDefEqProofs only [hlt', List.length_map, hat, clAv_agg, clAv_width, clAv_junk, hbo, accV_agg, accV_width, setCells, evb0, evb1, evb2, evb3, evb4, evb5, evb6, evb7, evb8, evb9, ↓evZ2, ↓evZ3, ↓Int.cast_ofNat_Int, implies_true, ne_eq, or_false, false_or, or_self, gt_iff_lt, isMut, aFn, List.contains, List.elem, aBox, aField, aLoad, sub, aNil, aPick, aExt, aFld, gd, noJunk, plainOp, aBuildSlice, aBuild, aFill, aParts, seqParts, fitAll, List.range', ↓reduceIte, reduceCtorEq, Nat.reduceEqDiff, Nat.reduceAdd, Nat.reduceLeDiff, Nat.reduceMul, Nat.reduceLT, Nat.reduceBEq, Int.reduceEq, tf_C5_95]
    refine arun_plan [(0, 1), (2, 1), (4, 1), (1, 2), (3, 2), (5, 1), (6, 2), (7, 2), (8, 1), (9, 0), (10, 1), (11, 0)] [0, 2, 4, 1, 3, 5, 6, 7, 8, 10] mixed (by decide +kernel) (by decide +kernel) (by decide +kernel) ?_
    simp -implicitDefEqProofs only [List.length_map, hat, clAv_agg, clAv_width, clAv_junk, hbo, accV_agg, accV_width, setCells, evb0, evb1, evb2, evb3, evb4, evb5, evb6, evb7, evb8, evb9, ↓evZ2, ↓evZ3, ↓Int.cast_ofNat_Int, implies_true, ne_eq, or_false, false_or, or_self, gt_iff_lt, isMut, aFn, List.contains, List.elem, aBox, aField, aLoad, sub, aNil, aPick, aExt, aFld, gd, noJunk, plainOp, aBuildSlice, aBuild, aFill, aParts, seqParts, fitAll, List.range', ↓reduceIte, reduceCtorEq, Nat.reduceEqDiff, Nat.reduceAdd, Nat.reduceLeDiff, Nat.reduceMul, Nat.reduceLT, Nat.reduceBEq, Int.reduceEq, tf_C5_95]
    refine callH_mk (c_l4Copy x s1 s2 s3 _) ?_
    simp -implicitDefEqProofs only [List.length_map, hat, clAv_agg, clAv_width, clAv_junk, hbo, accV_agg, accV_width, setCells, evb0, evb1, evb2, evb3, evb4, evb5, evb6, evb7, evb8, evb9, ↓evZ2, ↓evZ3, ↓Int.cast_ofNat_Int, implies_true, ne_eq, or_false, false_or, or_self, gt_iff_lt, isMut, aFn, List.contains, List.elem, aBox, aField, aLoad, sub, aNil, aPick, aExt, aFld, gd, noJunk, plainOp, aBuildSlice, aBuild, aFill, aParts, seqParts, fitAll, List.range', ↓reduceIte, reduceCtorEq, Nat.reduceEqDiff, Nat.reduceAdd, Nat.reduceLeDiff, Nat.reduceMul, Nat.reduceLT, Nat.reduceBEq, Int.reduceEq, tf_C5_95]
    refine acc_append eI_73 eB_73 eZ_73 rfl rfl (by intro e he; simp only [List.mem_cons, List.not_mem_nil, or_false] at he; subst he; exact ⟨clAv_width _, clAv_store _⟩) (cl_widths _) hinv (by simp only [hlen', List.length_cons, List.length_nil]; omega) (by simp only [hlen', List.length_cons, List.length_nil]; omega) (fun b' hb' => ?_)
    rw [← htk] at hb' ⊢
    obtain ⟨g1, g2, g3⟩ := midS_set hb'
    simp only [List.nil_append] at g1 g3
    simp -implicitDefEqProofs only [g3, accV_cells, accV_store, Nat.le_refl, g1, hw, List.length_map, hat, clAv_agg, clAv_width, clAv_junk, hbo, accV_agg, accV_width, setCells, evb0, evb1, evb2, evb3, evb4, evb5, evb6, evb7, evb8, evb9, ↓evZ2, ↓evZ3, ↓Int.cast_ofNat_Int, implies_true, ne_eq, or_false, false_or, or_self, gt_iff_lt, isMut, aFn, List.contains, List.elem, aBox, aField, aLoad, sub, aNil, aPick, aExt, aFld, gd, noJunk, plainOp, aBuildSlice, aBuild, aFill, aParts, seqParts, fitAll, List.range', ↓reduceIte, reduceCtorEq, Nat.reduceEqDiff, Nat.reduceAdd, Nat.reduceLeDiff, Nat.reduceMul, Nat.reduceLT, Nat.reduceBEq, Int.reduceEq, tf_C5_95]
    exact ⟨b', g2, LessL.mk (by simp -implicitDefEqProofs only [List.length_map, hat, clAv_agg, clAv_width, clAv_junk, hbo, accV_agg, accV_width, setCells, evb0, evb1, evb2, evb3, evb4, evb5, evb6, evb7, evb8, evb9, ↓evZ2, ↓evZ3, ↓Int.cast_ofNat_Int, implies_true, ne_eq, or_false, false_or, or_self, gt_iff_lt, isMut, aFn, List.contains, List.elem, aBox, aField, aLoad, sub, aNil, aPick, aExt, aFld, gd, noJunk, plainOp, aBuildSlice, aBuild, aFill, aParts, seqParts, fitAll, List.range', ↓reduceIte, reduceCtorEq, Nat.reduceEqDiff, Nat.reduceAdd, Nat.reduceLeDiff, Nat.reduceMul, Nat.reduceLT, Nat.reduceBEq, Int.reduceEq, tf_C5_95])⟩
  · rw [List.take_length] at hinv ⊢
    have hbo := midS_c hinv
    simp only [List.nil_append] at hbo
    simp -implicitDefEqProofs only [hge, List.length_map, hbo, accV_agg, accV_width, setCells, evb0, evb1, evb2, evb3, evb4, evb5, evb6, evb7, evb8, evb9, ↓evZ2, ↓evZ3, ↓Int.cast_ofNat_Int, implies_true, ne_eq, or_false, false_or, or_self, gt_iff_lt, isMut, aFn, List.contains, List.elem, aBox, aField, aLoad, sub, aNil, aPick, aExt, aFld, gd, noJunk, plainOp, aBuildSlice, aBuild, aFill, aParts, seqParts, fitAll, List.range', ↓reduceIte, reduceCtorEq, Nat.reduceEqDiff, Nat.reduceAdd, Nat.reduceLeDiff, Nat.reduceMul, Nat.reduceLT, Nat.reduceBEq, Int.reduceEq, tf_C5_95]
    refine arun_each (σ := Nat) [1000000, 3] [1, 2, 3] qs
      (fun i b => ((qs.take i).map Tm.av ≠ [] → ((st.upd b2 (.cells [.fslice [], .fslice [], .int .i64 0, .int .i64 0, .int .i64 0, .int .i64 0])).upd c (.cells ([.slice (ps.map clAv)] ++ accV 4 b ((qs.take i).map Tm.av) :: [.int .i64 i0, .int .i64 i1, .int .i64 i2, .int .i64 i3]))) b = none))
      (fun i _ => [(5, .int .i64 i)]) (fun i b => midS (st.upd b2 (.cells [.fslice [], .fslice [], .int .i64 0, .int .i64 0, .int .i64 0, .int .i64 0])) c b 4 [.slice (ps.map clAv)] [.int .i64 i0, .int .i64 i1, .int .i64 i2, .int .i64 i3] ((qs.take i).map Tm.av)) (by decide +kernel)
      ⟨0, fun h => absurd rfl h, ?_⟩ (fun i x b hx hlt hlt' hdr hinv => ?_) (fun b hge hinv => ?_)
    · exact (less_mid hinv (cl_junk _) ⟨5, cl_widths _⟩ (by intro a ha; simp only [List.nil_append, List.mem_cons, List.not_mem_nil, or_false] at ha; rcases ha with rfl | rfl | rfl | rfl | rfl <;> intro _ _ <;> rfl)).trans (Less.frL (by simp -implicitDefEqProofs only [List.length_map, hbo, accV_agg, accV_width, setCells, evb0, evb1, evb2, evb3, evb4, evb5, evb6, evb7, evb8, evb9, ↓evZ2, ↓evZ3, ↓Int.cast_ofNat_Int, implies_true, ne_eq, or_false, false_or, or_self, gt_iff_lt, isMut, aFn, List.contains, List.elem, aBox, aField, aLoad, sub, aNil, aPick, aExt, aFld, gd, noJunk, plainOp, aBuildSlice, aBuild, aFill, aParts, seqParts, fitAll, List.range', ↓reduceIte, reduceCtorEq, Nat.reduceEqDiff, Nat.reduceAdd, Nat.reduceLeDiff, Nat.reduceMul, Nat.reduceLT, Nat.reduceBEq, Int.reduceEq, tf_C5_95]))
    · have hw := wrap64 (n := (i : Int) + 1) (by omega) (by omega)
      have hlen' : ((qs.take i).map Tm.av).length = i := by simp only [List.length_map, List.length_take]; omega
      have htk : (qs.take (i + 1)).map Tm.av = (qs.take i).map Tm.av ++ [x.av] := by rw [List.take_add_one, hx]; simp
      have hbo := midS_c hinv
      simp only [List.cons_append, List.nil_append] at hbo
      have hat := ev_at (av := Tm.av) eI_27 hx (Tm.av_width x)
      simp -implicitDefEqProofs only [hlt', List.length_map, hat, Tm.av_agg, Tm.av_width, Tm.av_junk, hbo, accV_agg, accV_width, setCells, evb0, evb1, evb2, evb3, evb4, evb5, evb6, evb7, evb8, evb9, ↓evZ2, ↓evZ3, ↓Int.cast_ofNat_Int, implies_true, ne_eq, or_false, false_or, or_self, gt_iff_lt, isMut, aFn, List.contains, List.elem, aBox, aField, aLoad, sub, aNil, aPick, aExt, aFld, gd, noJunk, plainOp, aBuildSlice, aBuild, aFill, aParts, seqParts, fitAll, List.range', ↓reduceIte, reduceCtorEq, Nat.reduceEqDiff, Nat.reduceAdd, Nat.reduceLeDiff, Nat.reduceMul, Nat.reduceLT, Nat.reduceBEq, Int.reduceEq, tf_C5_95]
      refine arun_plan [(0, 1), (2, 1), (4, 1), (1, 2), (3, 2), (5, 1), (6, 2), (7, 2), (8, 1), (9, 0), (10, 1), (11, 0)] [0, 2, 4, 1, 3, 5, 6, 7, 8, 10] mixed (by decide +kernel) (by decide +kernel) (by decide +kernel) ?_
      simp -implicitDefEqProofs only [List.length_map, hat, Tm.av_agg, Tm.av_width, Tm.av_junk, hbo, accV_agg, accV_width, setCells, evb0, evb1, evb2, evb3, evb4, evb5, evb6, evb7, evb8, evb9, ↓evZ2, ↓evZ3, ↓Int.cast_ofNat_Int, implies_true, ne_eq, or_false, false_or, or_self, gt_iff_lt, isMut, aFn, List.contains, List.elem, aBox, aField, aLoad, sub, aNil, aPick, aExt, aFld, gd, noJunk, plainOp, aBuildSlice, aBuild, aFill, aParts, seqParts, fitAll, List.range', ↓reduceIte, reduceCtorEq, Nat.reduceEqDiff, Nat.reduceAdd, Nat.reduceLeDiff, Nat.reduceMul, Nat.reduceLT, Nat.reduceBEq, Int.reduceEq, tf_C5_95]
      refine callH_mk (c_l1Copy x _ (hqs x (List.mem_of_getElem? hx))) ?_
      simp -implicitDefEqProofs only [List.length_map, hat, Tm.av_agg, Tm.av_width, Tm.av_junk, hbo, accV_agg, accV_width, setCells, evb0, evb1, evb2, evb3, evb4, evb5, evb6, evb7, evb8, evb9, ↓evZ2, ↓evZ3, ↓Int.cast_ofNat_Int, implies_true, ne_eq, or_false, false_or, or_self, gt_iff_lt, isMut, aFn, List.contains, List.elem, aBox, aField, aLoad, sub, aNil, aPick, aExt, aFld, gd, noJunk, plainOp, aBuildSlice, aBuild, aFill, aParts, seqParts, fitAll, List.range', ↓reduceIte, reduceCtorEq, Nat.reduceEqDiff, Nat.reduceAdd, Nat.reduceLeDiff, Nat.reduceMul, Nat.reduceLT, Nat.reduceBEq, Int.reduceEq, tf_C5_95]
      refine acc_append eI_27 eB_27 eZ_27 rfl rfl (by intro e he; simp only [List.mem_cons, List.not_mem_nil, or_false] at he; subst he; exact ⟨Tm.av_width _, Tm.av_store _⟩) (tm_widths _) hinv (by simp only [hlen', List.length_cons, List.length_nil]; omega) (by simp only [hlen', List.length_cons, List.length_nil]; omega) (fun b' hb' => ?_)
      rw [← htk] at hb' ⊢
      obtain ⟨g1, g2, g3⟩ := midS_set hb'
      simp only [List.cons_append, List.nil_append] at g1 g3
      simp -implicitDefEqProofs only [g3, accV_cells, accV_store, Nat.le_refl, g1, hw, List.length_map, hat, Tm.av_agg, Tm.av_width, Tm.av_junk, hbo, accV_agg, accV_width, setCells, evb0, evb1, evb2, evb3, evb4, evb5, evb6, evb7, evb8, evb9, ↓evZ2, ↓evZ3, ↓Int.cast_ofNat_Int, implies_true, ne_eq, or_false, false_or, or_self, gt_iff_lt, isMut, aFn, List.contains, List.elem, aBox, aField, aLoad, sub, aNil, aPick, aExt, aFld, gd, noJunk, plainOp, aBuildSlice, aBuild, aFill, aParts, seqParts, fitAll, List.range', ↓reduceIte, reduceCtorEq, Nat.reduceEqDiff, Nat.reduceAdd, Nat.reduceLeDiff, Nat.reduceMul, Nat.reduceLT, Nat.reduceBEq, Int.reduceEq, tf_C5_95]
      exact ⟨b', g2, LessL.mk (by simp -implicitDefEqProofs only [List.length_map, hat, Tm.av_agg, Tm.av_width, Tm.av_junk, hbo, accV_agg, accV_width, setCells, evb0, evb1, evb2, evb3, evb4, evb5, evb6, evb7, evb8, evb9, ↓evZ2, ↓evZ3, ↓Int.cast_ofNat_Int, implies_true, ne_eq, or_false, false_or, or_self, gt_iff_lt, isMut, aFn, List.contains, List.elem, aBox, aField, aLoad, sub, aNil, aPick, aExt, aFld, gd, noJunk, plainOp, aBuildSlice, aBuild, aFill, aParts, seqParts, fitAll, List.range', ↓reduceIte, reduceCtorEq, Nat.reduceEqDiff, Nat.reduceAdd, Nat.reduceLeDiff, Nat.reduceMul, Nat.reduceLT, Nat.reduceBEq, Int.reduceEq, tf_C5_95])⟩
    · rw [List.take_length] at hinv ⊢
      have hbo := midS_c hinv
      simp only [List.cons_append, List.nil_append] at hbo
      have h2o := midS_ne (x := b2) hinv (by rw [Store.upd_same]; simp) hb2c
      rw [Store.upd_same] at h2o
      simp -implicitDefEqProofs only [hge, List.length_map, hbo, h2o, accV_agg, accV_width, accV_store, setCells, evb0, evb1, evb2, evb3, evb4, evb5, evb6, evb7, evb8, evb9, ↓evZ2, ↓evZ3, ↓Int.cast_ofNat_Int, implies_true, ne_eq, or_false, false_or, or_self, gt_iff_lt, isMut, aFn, List.contains, List.elem, aBox, aField, aLoad, sub, aNil, aPick, aExt, aFld, gd, noJunk, plainOp, aBuildSlice, aBuild, aFill, aParts, seqParts, fitAll, List.range', ↓reduceIte, reduceCtorEq, Nat.reduceEqDiff, Nat.reduceAdd, Nat.reduceLeDiff, Nat.reduceMul, Nat.reduceLT, Nat.reduceBEq, Int.reduceEq, tf_C5_95]
      have hb2b : qs.map Tm.av ≠ [] → b2 ≠ b := fun h e => by
        have := hinv h
        rw [← e, Store.upd_ne _ _ hb2c, Store.upd_same] at this
        cases this
      refine ⟨b, qs.map Tm.av, _, by unfold midS; rw [accS_upd hb2b], fun h => by rw [Store.upd_ne _ _ (Ne.symm (hb2b h))]; exact hinv h, tm_junk _, ⟨4, tm_widths _⟩, by simp only [fin_agg, List.map_cons, List.map_nil, fin_int, fin_slice, accV_fin], ?_⟩
      exact (((Drops.refl _).upd hb2).upd hn2).upd hb2
end Go.AW

/- Substitutions, variables that are walked, unification: plain data. -/
namespace Go.AW
set_option linter.unusedSimpArgs false
set_option linter.unusedVariables false

def Tm.k : Tm → Int | .mk k _ _ _ => k
def Tm.n : Tm → Int | .mk _ n _ _ => n
def Tm.s : Tm → ByteArray | .mk _ _ s _ => s
def Tm.ts : Tm → List Tm | .mk _ _ _ ts => ts
theorem Tm.eta (t : Tm) : t = .mk t.k t.n t.s t.ts := by cases t; rfl

/-- A variable. -/
def vr (n : Int) : Tm := .mk 1 n ⟨#[]⟩ []

mutual
/-- Every variable replaced. -/
def Tm.mapv (f : Int → Tm) : Tm → Tm
  | .mk k n s ts => if k = 1 then f n else .mk k n s (tmsMapv f ts)
def tmsMapv (f : Int → Tm) : List Tm → List Tm
  | [] => []
  | t :: ts => t.mapv f :: tmsMapv f ts
end
theorem tmsMapv_map (f : Int → Tm) : ∀ ts : List Tm, tmsMapv f ts = ts.map (Tm.mapv f)
  | [] => rfl
  | t :: ts => by simp only [tmsMapv, List.map_cons, tmsMapv_map f ts]
theorem Tm.mapv_var (f : Int → Tm) {k n : Int} {s : ByteArray} {ts : List Tm} (h : k = 1) : (Tm.mk k n s ts).mapv f = f n := by simp only [Tm.mapv, h, if_true]
theorem Tm.mapv_mk (f : Int → Tm) {k n : Int} {s : ByteArray} {ts : List Tm} (h : k ≠ 1) : (Tm.mk k n s ts).mapv f = .mk k n s (ts.map (Tm.mapv f)) := by simp only [Tm.mapv, h, if_false, tmsMapv_map]
theorem mapv_vr (f : Int → Tm) (n : Int) : (vr n).mapv f = f n := Tm.mapv_var f rfl

mutual
/-- The variables. -/
def Tm.vl : Tm → List Int
  | .mk k n _ ts => if k = 1 then [n] else tmsVl ts
def tmsVl : List Tm → List Int
  | [] => []
  | t :: ts => t.vl ++ tmsVl ts
end
theorem tmsVl_mem {v : Int} : ∀ {ts : List Tm}, v ∈ tmsVl ts ↔ ∃ t ∈ ts, v ∈ t.vl
  | [] => by simp [tmsVl]
  | t :: ts => by simp [tmsVl, tmsVl_mem (ts := ts)]
theorem Tm.vl_var {k n : Int} {s : ByteArray} {ts : List Tm} (h : k = 1) : (Tm.mk k n s ts).vl = [n] := by simp only [Tm.vl, h, if_true]
theorem Tm.vl_mk {k n v : Int} {s : ByteArray} {ts : List Tm} (h : k ≠ 1) : v ∈ (Tm.mk k n s ts).vl ↔ ∃ t ∈ ts, v ∈ t.vl := by simp only [Tm.vl, h, if_false, tmsVl_mem]
theorem vl_vr (n : Int) : (vr n).vl = [n] := Tm.vl_var rfl

theorem Tm.ind {p : Tm → Prop} (h : ∀ k n s ts, (∀ t ∈ ts, p t) → p (.mk k n s ts)) : ∀ t, p t
  | .mk k n s ts => h k n s ts fun t ht => Tm.ind h t
termination_by t => SizeOf.sizeOf t
decreasing_by have := List.sizeOf_lt_of_mem ht; simp only [Tm.mk.sizeOf_spec]; omega

theorem mapv_congr {f g : Int → Tm} : ∀ (t : Tm), (∀ v ∈ t.vl, f v = g v) → t.mapv f = t.mapv g := by
  intro t
  induction t using Tm.ind with
  | h k n s ts ih =>
    intro h
    by_cases hk : k = 1
    · rw [Tm.mapv_var f hk, Tm.mapv_var g hk]; exact h n (by rw [Tm.vl_var hk]; simp)
    · rw [Tm.mapv_mk f hk, Tm.mapv_mk g hk]
      congr 1
      exact List.map_congr_left fun x hx => ih x hx fun v hv => h v ((Tm.vl_mk hk).2 ⟨x, hx, hv⟩)
theorem mapv_mapv (f g : Int → Tm) (t : Tm) : (t.mapv f).mapv g = t.mapv fun v => (f v).mapv g := by
  induction t using Tm.ind with
  | h k n s ts ih =>
    by_cases hk : k = 1
    · rw [Tm.mapv_var f hk, Tm.mapv_var _ hk]
    · rw [Tm.mapv_mk f hk, Tm.mapv_mk g hk, Tm.mapv_mk _ hk, List.map_map]
      congr 1
      exact List.map_congr_left fun x hx => ih x hx
theorem vl_mapv {f : Int → Tm} {w : Int} (t : Tm) : w ∈ (t.mapv f).vl ↔ ∃ v ∈ t.vl, w ∈ (f v).vl := by
  induction t using Tm.ind with
  | h k n s ts ih =>
    by_cases hk : k = 1
    · rw [Tm.mapv_var f hk, Tm.vl_var hk]; simp
    · rw [Tm.mapv_mk f hk, Tm.vl_mk hk]
      constructor
      · rintro ⟨x, hx, hw⟩
        obtain ⟨y, hy, rfl⟩ := List.mem_map.1 hx
        obtain ⟨v, hv, hvw⟩ := (ih y hy).1 hw
        exact ⟨v, (Tm.vl_mk hk).2 ⟨y, hy, hv⟩, hvw⟩
      · rintro ⟨v, hv, hw⟩
        obtain ⟨y, hy, hvy⟩ := (Tm.vl_mk hk).1 hv
        exact ⟨_, List.mem_map.2 ⟨y, hy, rfl⟩, (ih y hy).2 ⟨v, hvy, hw⟩⟩
/-! ### Bindings -/
abbrev Sub := Int → Option Tm
def Sub.set (σ : Sub) (n : Int) (t : Tm) : Sub := fun m => if m = n then some t else σ m
def Sub.none : Sub := fun _ => Option.none
/-- What each variable stands for in the end; a rank that falls along the bindings. -/
structure Good (σ : Sub) (R : Int → Tm) (rk : Int → Nat) (B : Nat) : Prop where
  sol : ∀ n, R n = match σ n with | some u => u.mapv R | .none => vr n
  rank : ∀ n u, σ n = some u → ∀ w ∈ u.vl, rk w < rk n
  bd : ∀ n, rk n < B
/-- θ solves the bindings. -/
def Sol (θ : Int → Tm) (σ : Sub) : Prop := ∀ n u, σ n = some u → θ n = u.mapv θ

section
variable {σ : Sub} {R R' : Int → Tm} {rk rk' : Int → Nat} {B B' : Nat}
theorem Good.none : Good Sub.none vr (fun _ => 0) 1 := ⟨fun n => rfl, fun n u h => (by cases h), fun n => Nat.zero_lt_one⟩
theorem Good.free (G : Good σ R rk B) {n : Int} (h : σ n = .none) : R n = vr n := by rw [G.sol n, h]
theorem Good.bound (G : Good σ R rk B) {n : Int} {u : Tm} (h : σ n = some u) : R n = u.mapv R := by rw [G.sol n, h]
theorem Good.ind (G : Good σ R rk B) {p : Int → Prop} (h0 : ∀ n, σ n = .none → p n) (h1 : ∀ n u, σ n = some u → (∀ w ∈ u.vl, p w) → p n) : ∀ n, p n := by
  intro n
  generalize hk : rk n = k
  induction k using Nat.strongRecOn generalizing n with
  | _ k ih =>
    cases h : σ n with
    | none => exact h0 n h
    | some u => exact h1 n u h fun w hw => ih (rk w) (hk ▸ G.rank n u h w hw) w rfl
theorem Good.uniq (G : Good σ R rk B) (G' : Good σ R' rk' B') : R = R' := by
  funext n
  refine G.ind (p := fun n => R n = R' n) (fun n h => ?_) (fun n u h ih => ?_) n
  · rw [G.free h, G'.free h]
  · rw [G.bound h, G'.bound h]; exact mapv_congr u ih
theorem Good.canon (G : Good σ R rk B) (n : Int) : (R n).mapv vr = R n := by
  refine G.ind (p := fun n => (R n).mapv vr = R n) (fun n h => ?_) (fun n u h ih => ?_) n
  · rw [G.free h, mapv_vr]
  · rw [G.bound h, mapv_mapv]; exact mapv_congr u ih
theorem Good.canonT (G : Good σ R rk B) (t : Tm) : (t.mapv R).mapv vr = t.mapv R := by
  rw [mapv_mapv]; exact mapv_congr t fun v _ => G.canon v
/-- One binding more. -/
theorem Good.bind (G : Good σ R rk B) {n : Int} {t : Tm} (hn : σ n = .none) (ho : n ∉ (t.mapv R).vl) :
    ∃ rk' B', Good (σ.set n t) (fun m => (R m).mapv fun v => if v = n then t.mapv R else vr v) rk' B' := by
  have key : (t.mapv R).mapv (fun v => if v = n then t.mapv R else vr v) = t.mapv R := by
    rw [mapv_congr (g := vr) (t.mapv R) (fun v hv => if_neg fun e => ho (by rw [← e]; exact hv)), G.canonT]
  refine ⟨fun v => if n ∈ (R v).vl then rk v + B else rk v, B + B, fun m => ?_, fun m u h w hw => ?_, fun m => ?_⟩
  · by_cases hm : m = n
    · subst hm
      simp only [Sub.set, if_true]
      rw [G.free hn, mapv_vr, if_pos rfl]
      rw [← mapv_mapv, key]
    · simp only [Sub.set, hm, if_false]
      cases h : σ m with
      | none => rw [G.free h, mapv_vr, if_neg hm]
      | some u => rw [G.bound h, mapv_mapv]
  · by_cases hm : m = n
    · subst hm
      simp only [Sub.set, if_true, Option.some.injEq] at h
      subst h
      have hw' : m ∉ (R w).vl := fun h => ho ((vl_mapv t).2 ⟨w, hw, h⟩)
      have : m ∈ (R m).vl := by rw [G.free hn, vl_vr]; simp
      have := G.bd w
      simp only [hw', if_false]
      rw [if_pos (by assumption)]
      omega
    · simp only [Sub.set, hm, if_false] at h
      have h1 := G.rank m u h w hw
      by_cases hw' : n ∈ (R w).vl
      · have : n ∈ (R m).vl := by rw [G.bound h]; exact (vl_mapv u).2 ⟨w, hw, hw'⟩
        simp only [hw', this, if_true]; omega
      · simp only [hw', if_false]; split <;> omega
  · have := G.bd m
    split <;> omega
end

open Classical in
/-- What each variable stands for in the end. -/
noncomputable def rs (σ : Sub) : Int → Tm := if h : ∃ R rk B, Good σ R rk B then h.choose else vr
theorem Good.rs {σ : Sub} {R : Int → Tm} {rk : Int → Nat} {B : Nat} (G : Good σ R rk B) : rs σ = R := by
  unfold AW.rs
  have h : ∃ R rk B, Good σ R rk B := ⟨R, rk, B, G⟩
  rw [dif_pos h]
  obtain ⟨rk', B', G'⟩ := h.choose_spec
  exact G'.uniq G

/-! ### Walking -/
inductive WkN (σ : Sub) : Nat → Tm → Tm → Prop
  | stop {t : Tm} (h : t.k = 1 → σ t.n = none) : WkN σ 0 t t
  | go {f : Nat} {t u v : Tm} (h1 : t.k = 1) (h2 : σ t.n = some u) (h3 : WkN σ f u v) : WkN σ (f + 1) t v
theorem WkN.det {σ : Sub} {f g : Nat} {t u v : Tm} (h : WkN σ f t u) : WkN σ g t v → u = v := by
  induction h generalizing g v with
  | stop h =>
    intro h'
    cases h' with
    | stop => rfl
    | go h1 h2 h3 => rw [h h1] at h2; cases h2
  | go h1 h2 h3 ih =>
    intro h'
    cases h' with
    | stop h => rw [h h1] at h2; cases h2
    | go h1' h2' h3' => rw [h2] at h2'; cases h2'; exact ih h3'
theorem WkN.total {σ : Sub} {R : Int → Tm} {rk : Int → Nat} {B : Nat} (G : Good σ R rk B) (t : Tm) : ∃ f u, WkN σ f t u := by
  have key : ∀ n, ∀ t : Tm, t.k = 1 → t.n = n → ∃ f u, WkN σ f t u := by
    intro n
    refine G.ind (p := fun n => ∀ t : Tm, t.k = 1 → t.n = n → ∃ f u, WkN σ f t u) (fun n h t hk hn => ?_) (fun n u h ih t hk hn => ?_) n
    · exact ⟨0, t, .stop fun _ => by rw [hn, h]⟩
    · by_cases hu : u.k = 1
      · have : u.n ∈ u.vl := by rw [Tm.eta u, Tm.vl_var hu]; simp [Tm.n]
        obtain ⟨f, v, hv⟩ := ih u.n this u hu rfl
        exact ⟨f + 1, v, .go hk (by rw [hn, h]) hv⟩
      · exact ⟨1, u, .go hk (by rw [hn, h]) (.stop fun h => absurd h hu)⟩
  by_cases hk : t.k = 1
  · exact key t.n t hk rfl
  · exact ⟨0, t, .stop fun h => absurd h hk⟩
theorem Tm.vl_k1 {t : Tm} (h : t.k = 1) : t.vl = [t.n] := by cases t; exact Tm.vl_var h
theorem Tm.mapv_k1 {t : Tm} (f : Int → Tm) (h : t.k = 1) : t.mapv f = f t.n := by cases t; exact Tm.mapv_var f h
theorem WkN.end {σ : Sub} {f : Nat} {t u : Tm} (h : WkN σ f t u) : u.k = 1 → σ u.n = none := by induction h with | stop h => exact h | go _ _ _ ih => exact ih
theorem WkN.mapv {σ : Sub} {θ : Int → Tm} (S : Sol θ σ) {f : Nat} {t u : Tm} (h : WkN σ f t u) : u.mapv θ = t.mapv θ := by
  induction h with
  | stop => rfl
  | go h1 h2 _ ih => rw [ih, Tm.mapv_k1 θ h1, S _ _ h2]
theorem WkN.rank {σ : Sub} {R : Int → Tm} {rk : Int → Nat} {B : Nat} (G : Good σ R rk B) {f : Nat} {t u : Tm} (h : WkN σ f t u) : ∀ w ∈ u.vl, ∃ v ∈ t.vl, rk w ≤ rk v ∧ (f ≠ 0 → rk w < rk v) := by
  induction h with
  | stop h => exact fun w hw => ⟨w, hw, Nat.le_refl _, fun h => absurd rfl h⟩
  | @go f t u v h1 h2 _ ih =>
    intro w hw
    obtain ⟨x, hx, hle, _⟩ := ih w hw
    have := G.rank _ _ h2 x hx
    exact ⟨t.n, by rw [Tm.vl_k1 h1]; simp, by omega, fun _ => by omega⟩
/-- What holds of a term and of all that is bound. -/
theorem WkN.all {σ : Sub} {p : Tm → Prop} (hp : ∀ n u, σ n = some u → p u) {f : Nat} {t u : Tm} (h : WkN σ f t u) (ht : p t) : p u := by
  induction h with
  | stop => exact ht
  | go _ h2 _ ih => exact ih (hp _ _ h2)
open Classical in
noncomputable def wk (σ : Sub) (t : Tm) : Tm := if h : ∃ u f, WkN σ f t u then h.choose else t
theorem WkN.wk {σ : Sub} {f : Nat} {t u : Tm} (h : WkN σ f t u) : wk σ t = u := by
  unfold AW.wk
  have h' : ∃ u f, WkN σ f t u := ⟨u, f, h⟩
  rw [dif_pos h']
  obtain ⟨g, hg⟩ := h'.choose_spec
  exact hg.det h
theorem Good.wk {σ : Sub} {R : Int → Tm} {rk : Int → Nat} {B : Nat} (G : Good σ R rk B) (t : Tm) : ∃ f, WkN σ f t (wk σ t) := by
  obtain ⟨f, u, h⟩ := WkN.total G t
  exact ⟨f, by rw [h.wk]; exact h⟩

/-! ### Unification -/
open Classical in
noncomputable def bnd (σ : Sub) (n : Int) (t : Tm) : Bool × Sub × List Int := if n ∈ (t.mapv (rs σ)).vl then (false, σ, []) else (true, σ.set n t, [n])
open Classical in
/-- The same apart from the arguments. -/
def headEq (a b : Tm) : Bool := decide (a.k = b.k) && decide (a.n = b.n) && decide (a.s = b.s) && decide (a.ts.length = b.ts.length)
mutual
noncomputable def uniF : Nat → Sub → Tm → Tm → Option (Bool × Sub × List Int)
  | 0, _, _, _ => none
  | g + 1, σ, a, b =>
    if (wk σ a).k = 1 ∧ (wk σ b).k = 1 ∧ (wk σ a).n = (wk σ b).n then some (true, σ, [])
    else if (wk σ a).k = 1 then some (bnd σ (wk σ a).n (wk σ b))
    else if (wk σ b).k = 1 then some (bnd σ (wk σ b).n (wk σ a))
    else if headEq (wk σ a) (wk σ b) = true then unisF g σ (wk σ a).ts (wk σ b).ts
    else some (false, σ, [])
termination_by g => (g, 0)
noncomputable def unisF : Nat → Sub → List Tm → List Tm → Option (Bool × Sub × List Int)
  | g, σ, a :: xs, b :: ys => match uniF g σ a b with
    | none => none
    | some (false, σ', tr) => some (false, σ', tr)
    | some (true, σ', tr) => match unisF g σ' xs ys with
      | none => none
      | some (r, σ'', tr') => some (r, σ'', tr ++ tr')
  | _, σ, _, _ => some (true, σ, [])
termination_by g _ xs => (g, xs.length + 1)
end
end Go.AW

/- Bindings as data; replaced variables. -/
namespace Go.AW
set_option linter.unusedSimpArgs false
set_option linter.unusedVariables false

theorem Tm.soft (t : Tm) : t.av.soft = t.av := by cases t; simp [Tm.av_mk, AV.soft, softL]
/-- A binding. -/
abbrev Bd := Int × Tm
def bdAv (b : Bd) : AV := .agg (.int .i64 b.1 :: b.2.av.cells)
def findB : List Bd → Int → Option Tm
  | [], _ => none
  | (m, x) :: r, n => if m = n then some x else findB r n
/-- The variable replaced by what it stands for. -/
def subB (bs : List Bd) (n : Int) : Tm := (findB bs n).getD (vr n)
def Tm.zero : Tm := .mk 0 0 ⟨#[]⟩ []
mutual
/-- Variables have neither name nor arguments. -/
def Tm.cv : Tm → Bool
  | .mk k _ s ts => (!decide (k = 1) || (decide (s = ⟨#[]⟩) && ts.isEmpty)) && tmsCv ts
def tmsCv : List Tm → Bool
  | [] => true
  | t :: ts => t.cv && tmsCv ts
end
theorem Tm.shape_small : ∀ (t : Tm) (d : Int), t.shape d = true → t.small = true := by
  intro t
  induction t using Tm.ind with
  | h k n s ts ih =>
    intro d h
    rw [Tm.shape_mk] at h
    simp only [Bool.and_eq_true, List.all_eq_true] at h
    obtain ⟨⟨_, h1⟩, h2⟩ := h
    simp only [Tm.small, tmsSmall_all, Bool.and_eq_true, decide_eq_true_eq, List.all_eq_true]
    refine ⟨?_, fun x hx => ih x hx _ (h2 x hx)⟩
    unfold ownOk at h1
    cases h3 : decide (k = 1) <;> rw [h3] at h1
    · cases h4 : decide (k = 2) <;> rw [h4] at h1
      · cases h5 : decide (k = 3) <;> rw [h5] at h1 <;> simp at h1; omega
      · simp at h1; rw [h1.2]; simp
    · simp at h1; rw [h1.2]; simp
theorem Tm.valid_small {t : Tm} (h : t.valid = true) : t.small = true := by simp only [Tm.valid, Bool.and_eq_true] at h; exact Tm.shape_small t 30 h.1
/-! ### The first place -/
def idxP {α : Type} (p : α → Bool) : List α → Int → Int
  | [], _ => -1
  | x :: xs, i => if p x = true then i else idxP p xs (i + 1)
end Go.AW


/- Sessions are opened: what the program's and the reference's functions return. -/
namespace Go.AW
open Go.Proofs.Try
set_option linter.unusedSimpArgs false
set_option maxRecDepth 100000

def opens (p : List Cl) (q : List Tm) (k : Int) : Bool := progOk p && queryOk q && (decide (0 ≤ k) && decide (k ≤ 300))
def sess (p : List Cl) (q : List Tm) (k : Int) : Ss := if opens p q k = true then ⟨p, q, k, 0, 0, -1⟩ else ⟨[], [], 0, 0, 0, 0⟩
theorem progOk_small {p : List Cl} (h : progOk p = true) : p.length ≤ 20 ∧ ∀ c ∈ p, clSmall c := by
  simp only [progOk, Bool.and_eq_true, decide_eq_true_eq, List.all_eq_true] at h
  refine ⟨h.1, fun c hc => ?_⟩
  have := h.2 c hc
  simp only [clOk, Bool.and_eq_true, decide_eq_true_eq, List.all_eq_true] at this
  refine ⟨Tm.valid_small this.1.1, by omega, fun x hx => ?_⟩
  have hg := this.2.2 x hx
  cases x
  simp only [Tm.goal, Bool.and_eq_true] at hg
  exact Tm.valid_small hg.1
theorem queryOk_small {q : List Tm} (h : queryOk q = true) : q.length ≤ 6 ∧ ∀ t ∈ q, t.small = true := by
  simp only [queryOk, Bool.and_eq_true, decide_eq_true_eq, List.all_eq_true] at h
  refine ⟨h.1, fun x hx => ?_⟩
  have hg := h.2 x hx
  cases x
  simp only [Tm.goal, Bool.and_eq_true] at hg
  exact Tm.valid_small hg.1

theorem tf_C6_40 : (type_of% tI_2) ∧ (type_of% zI_2) ∧ (type_of% Go.Proofs.Try.underlying2) ∧ (type_of% tI_3) ∧ (type_of% zI_3) ∧ (type_of% Go.Proofs.Try.underlying3) ∧ (type_of% tI_4) ∧ (type_of% zI_4) ∧ (type_of% Go.Proofs.Try.underlying4) ∧ (type_of% tI_5) ∧ (type_of% zI_5) ∧ (type_of% Go.Proofs.Try.underlying5) ∧ (type_of% tI_6) ∧ (type_of% zI_6) ∧ (type_of% Go.Proofs.Try.underlying6) ∧ (type_of% tI_8) ∧ (type_of% zI_8) ∧ (type_of% fI_8_0) ∧ (type_of% fI_8_1) ∧ (type_of% fI_8_2) ∧ (type_of% fI_8_3) ∧ (type_of% bI_8) ∧ (type_of% tI_9) ∧ (type_of% zI_9) ∧ (type_of% Go.Proofs.Try.underlying9) ∧ (type_of% tI_10) ∧ (type_of% zI_10) ∧ (type_of% Go.Proofs.Try.underlying10) ∧ (type_of% tI_12) ∧ (type_of% zI_12) ∧ (type_of% Go.Proofs.Try.underlying12) ∧ (type_of% tI_13) ∧ (type_of% zI_13) ∧ (type_of% fI_13_0) ∧ (type_of% fI_13_1) ∧ (type_of% bI_13) ∧ (type_of% tI_27) ∧ (type_of% zI_27) ∧ (type_of% eI_27) ∧ (type_of% eB_27) ∧ (type_of% eZ_27) ∧ (type_of% Go.Proofs.Try.underlying27) ∧ (type_of% tI_31) ∧ (type_of% zI_31) ∧ (type_of% fI_31_0) ∧ (type_of% bI_31) ∧ (type_of% tI_56) ∧ (type_of% zI_56) ∧ (type_of% eI_56) ∧ (type_of% eB_56) ∧ (type_of% eZ_56) ∧ (type_of% Go.Proofs.Try.underlying56) ∧ (type_of% tI_64) ∧ (type_of% zI_64) ∧ (type_of% fI_64_0) ∧ (type_of% fI_64_1) ∧ (type_of% bI_64) ∧ (type_of% tI_73) ∧ (type_of% zI_73) ∧ (type_of% eI_73) ∧ (type_of% eB_73) ∧ (type_of% eZ_73) ∧ (type_of% Go.Proofs.Try.underlying73) ∧ (type_of% tI_75) ∧ (type_of% zI_75) ∧ (type_of% fI_75_0) ∧ (type_of% fI_75_1) ∧ (type_of% fI_75_2) ∧ (type_of% fI_75_3) ∧ (type_of% fI_75_4) ∧ (type_of% fI_75_5) ∧ (type_of% bI_75) := ⟨tI_2, zI_2, Go.Proofs.Try.underlying2, tI_3, zI_3, Go.Proofs.Try.underlying3, tI_4, zI_4, Go.Proofs.Try.underlying4, tI_5, zI_5, Go.Proofs.Try.underlying5, tI_6, zI_6, Go.Proofs.Try.underlying6, tI_8, zI_8, fI_8_0, fI_8_1, fI_8_2, fI_8_3, bI_8, tI_9, zI_9, Go.Proofs.Try.underlying9, tI_10, zI_10, Go.Proofs.Try.underlying10, tI_12, zI_12, Go.Proofs.Try.underlying12, tI_13, zI_13, fI_13_0, fI_13_1, bI_13, tI_27, zI_27, eI_27, eB_27, eZ_27, Go.Proofs.Try.underlying27, tI_31, zI_31, fI_31_0, bI_31, tI_56, zI_56, eI_56, eB_56, eZ_56, Go.Proofs.Try.underlying56, tI_64, zI_64, fI_64_0, fI_64_1, bI_64, tI_73, zI_73, eI_73, eB_73, eZ_73, Go.Proofs.Try.underlying73, tI_75, zI_75, fI_75_0, fI_75_1, fI_75_2, fI_75_3, fI_75_4, fI_75_5, bI_75⟩
theorem c_spec_OpenSession (p : List Cl) (q : List Tm) (k : Int) (st : Store) : ACalls prog 40 [.slice (p.map clAv), .slice (q.map Tm.av), .int .i64 k] st (fun r st' => r = .tup [ssAv (sess p q k), .bool (opens p q k)] ∧ st' = st) := by
  refine ACalls.done ?_
  refine acalls_fit [1000000] func40 ntmps40 rfl rfl (by kernel_rfl) (by decide +kernel) (by show 3 ≤ _; decide +kernel) ?_
  intro _
  simp -implicitDefEqProofs only [setCells, evb0, evb1, evb2, evb3, evb4, evb5, evb6, evb7, evb8, evb9, ↓evZ2, ↓evZ3, ↓Int.cast_ofNat_Int, implies_true, ne_eq, or_false, false_or, or_self, gt_iff_lt, isMut, aFn, List.contains, List.elem, aBox, aField, aLoad, sub, aNil, aPick, aExt, aFld, gd, noJunk, plainOp, aBuildSlice, aBuild, aFill, aParts, seqParts, fitAll, List.range', ↓reduceIte, reduceCtorEq, Nat.reduceEqDiff, Nat.reduceAdd, Nat.reduceLeDiff, Nat.reduceMul, Nat.reduceLT, Nat.reduceBEq, Int.reduceEq, tf_C6_40]
  intro b hb
  have hbad : opens p q k = false → ∀ o, (AV.tup [.agg [.fslice [], .fslice [], .int .i64 0, .int .i64 0, .int .i64 0, .int .i64 0], .bool false]).soft = .tup [ssAv (sess p q k), .bool (opens p q k)] ∧ Drops (st.upd b o) st := fun h o => by
    refine ⟨?_, (Drops.refl _).upd hb⟩
    unfold sess
    rw [h]
    simp only [ssAv, soft_agg, soft_tup, soft_int, soft_bool, soft_str, soft_slice, soft_fslice, soft_ptr, soft_pptr, soft_map, soft_mslice, Tm.soft, List.map_cons, List.map_nil, Bool.false_eq_true, if_false]
  refine (c_spec_ProgramValid p _).to ?_
  simp -implicitDefEqProofs only [setCells, evb0, evb1, evb2, evb3, evb4, evb5, evb6, evb7, evb8, evb9, ↓evZ2, ↓evZ3, ↓Int.cast_ofNat_Int, implies_true, ne_eq, or_false, false_or, or_self, gt_iff_lt, isMut, aFn, List.contains, List.elem, aBox, aField, aLoad, sub, aNil, aPick, aExt, aFld, gd, noJunk, plainOp, aBuildSlice, aBuild, aFill, aParts, seqParts, fitAll, List.range', ↓reduceIte, reduceCtorEq, Nat.reduceEqDiff, Nat.reduceAdd, Nat.reduceLeDiff, Nat.reduceMul, Nat.reduceLT, Nat.reduceBEq, Int.reduceEq, tf_C6_40]
  refine opsG_split (fun h => ?_) (fun h => ?_)
  case refine_2 =>
    simp -implicitDefEqProofs only [h, setCells, evb0, evb1, evb2, evb3, evb4, evb5, evb6, evb7, evb8, evb9, ↓evZ2, ↓evZ3, ↓Int.cast_ofNat_Int, implies_true, ne_eq, or_false, false_or, or_self, gt_iff_lt, isMut, aFn, List.contains, List.elem, aBox, aField, aLoad, sub, aNil, aPick, aExt, aFld, gd, noJunk, plainOp, aBuildSlice, aBuild, aFill, aParts, seqParts, fitAll, List.range', ↓reduceIte, reduceCtorEq, Nat.reduceEqDiff, Nat.reduceAdd, Nat.reduceLeDiff, Nat.reduceMul, Nat.reduceLT, Nat.reduceBEq, Int.reduceEq, tf_C6_40]
    exact hbad (by simp at h; simp [opens, h]) _
  simp only [Bool.not_eq_false'] at h
  simp -implicitDefEqProofs only [h, setCells, evb0, evb1, evb2, evb3, evb4, evb5, evb6, evb7, evb8, evb9, ↓evZ2, ↓evZ3, ↓Int.cast_ofNat_Int, implies_true, ne_eq, or_false, false_or, or_self, gt_iff_lt, isMut, aFn, List.contains, List.elem, aBox, aField, aLoad, sub, aNil, aPick, aExt, aFld, gd, noJunk, plainOp, aBuildSlice, aBuild, aFill, aParts, seqParts, fitAll, List.range', ↓reduceIte, reduceCtorEq, Nat.reduceEqDiff, Nat.reduceAdd, Nat.reduceLeDiff, Nat.reduceMul, Nat.reduceLT, Nat.reduceBEq, Int.reduceEq, tf_C6_40]
  refine (c_spec_QueryValid q _).to ?_
  simp -implicitDefEqProofs only [h, setCells, evb0, evb1, evb2, evb3, evb4, evb5, evb6, evb7, evb8, evb9, ↓evZ2, ↓evZ3, ↓Int.cast_ofNat_Int, implies_true, ne_eq, or_false, false_or, or_self, gt_iff_lt, isMut, aFn, List.contains, List.elem, aBox, aField, aLoad, sub, aNil, aPick, aExt, aFld, gd, noJunk, plainOp, aBuildSlice, aBuild, aFill, aParts, seqParts, fitAll, List.range', ↓reduceIte, reduceCtorEq, Nat.reduceEqDiff, Nat.reduceAdd, Nat.reduceLeDiff, Nat.reduceMul, Nat.reduceLT, Nat.reduceBEq, Int.reduceEq, tf_C6_40]
  refine opsG_split (fun h2 => ?_) (fun h2 => ?_)
  case refine_2 =>
    simp -implicitDefEqProofs only [h2, setCells, evb0, evb1, evb2, evb3, evb4, evb5, evb6, evb7, evb8, evb9, ↓evZ2, ↓evZ3, ↓Int.cast_ofNat_Int, implies_true, ne_eq, or_false, false_or, or_self, gt_iff_lt, isMut, aFn, List.contains, List.elem, aBox, aField, aLoad, sub, aNil, aPick, aExt, aFld, gd, noJunk, plainOp, aBuildSlice, aBuild, aFill, aParts, seqParts, fitAll, List.range', ↓reduceIte, reduceCtorEq, Nat.reduceEqDiff, Nat.reduceAdd, Nat.reduceLeDiff, Nat.reduceMul, Nat.reduceLT, Nat.reduceBEq, Int.reduceEq, tf_C6_40]
    exact hbad (by simp at h2; simp [opens, h2]) _
  have hq : queryOk q = true := by simpa using h2
  simp -implicitDefEqProofs only [h2, setCells, evb0, evb1, evb2, evb3, evb4, evb5, evb6, evb7, evb8, evb9, ↓evZ2, ↓evZ3, ↓Int.cast_ofNat_Int, implies_true, ne_eq, or_false, false_or, or_self, gt_iff_lt, isMut, aFn, List.contains, List.elem, aBox, aField, aLoad, sub, aNil, aPick, aExt, aFld, gd, noJunk, plainOp, aBuildSlice, aBuild, aFill, aParts, seqParts, fitAll, List.range', ↓reduceIte, reduceCtorEq, Nat.reduceEqDiff, Nat.reduceAdd, Nat.reduceLeDiff, Nat.reduceMul, Nat.reduceLT, Nat.reduceBEq, Int.reduceEq, tf_C6_40]
  refine opsG_split (fun h3 => ?_) (fun h3 => ?_)
  case refine_2 =>
    simp -implicitDefEqProofs only [h3, setCells, evb0, evb1, evb2, evb3, evb4, evb5, evb6, evb7, evb8, evb9, ↓evZ2, ↓evZ3, ↓Int.cast_ofNat_Int, implies_true, ne_eq, or_false, false_or, or_self, gt_iff_lt, isMut, aFn, List.contains, List.elem, aBox, aField, aLoad, sub, aNil, aPick, aExt, aFld, gd, noJunk, plainOp, aBuildSlice, aBuild, aFill, aParts, seqParts, fitAll, List.range', ↓reduceIte, reduceCtorEq, Nat.reduceEqDiff, Nat.reduceAdd, Nat.reduceLeDiff, Nat.reduceMul, Nat.reduceLT, Nat.reduceBEq, Int.reduceEq, tf_C6_40]
    exact hbad (by simp at h3; simp only [opens, h, hq, Bool.true_and]; rw [show decide (0 ≤ k) = false from decide_eq_false (by omega)]; rfl) _
  simp -implicitDefEqProofs only [h3, setCells, evb0, evb1, evb2, evb3, evb4, evb5, evb6, evb7, evb8, evb9, ↓evZ2, ↓evZ3, ↓Int.cast_ofNat_Int, implies_true, ne_eq, or_false, false_or, or_self, gt_iff_lt, isMut, aFn, List.contains, List.elem, aBox, aField, aLoad, sub, aNil, aPick, aExt, aFld, gd, noJunk, plainOp, aBuildSlice, aBuild, aFill, aParts, seqParts, fitAll, List.range', ↓reduceIte, reduceCtorEq, Nat.reduceEqDiff, Nat.reduceAdd, Nat.reduceLeDiff, Nat.reduceMul, Nat.reduceLT, Nat.reduceBEq, Int.reduceEq, tf_C6_40]
  refine cond_split (fun h4 => ?_) (fun h4 => ?_)
  · simp -implicitDefEqProofs only [setCells, evb0, evb1, evb2, evb3, evb4, evb5, evb6, evb7, evb8, evb9, ↓evZ2, ↓evZ3, ↓Int.cast_ofNat_Int, implies_true, ne_eq, or_false, false_or, or_self, gt_iff_lt, isMut, aFn, List.contains, List.elem, aBox, aField, aLoad, sub, aNil, aPick, aExt, aFld, gd, noJunk, plainOp, aBuildSlice, aBuild, aFill, aParts, seqParts, fitAll, List.range', ↓reduceIte, reduceCtorEq, Nat.reduceEqDiff, Nat.reduceAdd, Nat.reduceLeDiff, Nat.reduceMul, Nat.reduceLT, Nat.reduceBEq, Int.reduceEq, tf_C6_40]
    exact hbad (by simp at h4; simp only [opens, h, hq, Bool.true_and]; rw [show decide (k ≤ 300) = false from decide_eq_false (by omega)]; simp) _
  simp -implicitDefEqProofs only [setCells, evb0, evb1, evb2, evb3, evb4, evb5, evb6, evb7, evb8, evb9, ↓evZ2, ↓evZ3, ↓Int.cast_ofNat_Int, implies_true, ne_eq, or_false, false_or, or_self, gt_iff_lt, isMut, aFn, List.contains, List.elem, aBox, aField, aLoad, sub, aNil, aPick, aExt, aFld, gd, noJunk, plainOp, aBuildSlice, aBuild, aFill, aParts, seqParts, fitAll, List.range', ↓reduceIte, reduceCtorEq, Nat.reduceEqDiff, Nat.reduceAdd, Nat.reduceLeDiff, Nat.reduceMul, Nat.reduceLT, Nat.reduceBEq, Int.reduceEq, tf_C6_40]
  have hok : opens p q k = true := by
    have h3' : 0 ≤ k := by simp at h3; omega
    have h4' : k ≤ 300 := by simp at h4; omega
    simp [opens, h, hq, h3', h4']
  have hss : sess p q k = ⟨p, q, k, 0, 0, -1⟩ := by unfold sess; rw [if_pos hok]
  obtain ⟨p1, p2⟩ := progOk_small h
  obtain ⟨q1, q2⟩ := queryOk_small hq
  have hc := fun st => c_l10Copy ⟨p, q, k, 0, 0, -1⟩ (by simp only; omega) p2 (by simp only; omega) q2 st
  simp only [ssAv] at hc
  refine (hc _).to ?_
  simp -implicitDefEqProofs only [setCells, evb0, evb1, evb2, evb3, evb4, evb5, evb6, evb7, evb8, evb9, ↓evZ2, ↓evZ3, ↓Int.cast_ofNat_Int, implies_true, ne_eq, or_false, false_or, or_self, gt_iff_lt, isMut, aFn, List.contains, List.elem, aBox, aField, aLoad, sub, aNil, aPick, aExt, aFld, gd, noJunk, plainOp, aBuildSlice, aBuild, aFill, aParts, seqParts, fitAll, List.range', ↓reduceIte, reduceCtorEq, Nat.reduceEqDiff, Nat.reduceAdd, Nat.reduceLeDiff, Nat.reduceMul, Nat.reduceLT, Nat.reduceBEq, Int.reduceEq, tf_C6_40]
  rw [hss, hok]
  exact ⟨by simp only [ssAv, soft_agg, soft_tup, soft_int, soft_bool, soft_str, soft_slice, soft_fslice, soft_ptr, soft_pptr, soft_map, soft_mslice, Tm.soft, List.map_cons, List.map_nil], (Drops.refl _).upd hb⟩

theorem own_Ss {st : Store} {s : Ss} {o : AV} {bs : List Nat} :
    Own st (ssAv s) o bs ↔ ∃ q b1 q' b2, o = .agg [q, q', .int .i64 s.quota, .int .i64 s.used, .int .i64 s.sent, .int .i64 s.fin] ∧ bs = b1 ++ b2 ∧ Own st (.slice (s.p.map clAv)) q b1 ∧ Own st (.slice (s.q.map Tm.av)) q' b2 := by
  unfold ssAv
  generalize AV.slice (s.p.map clAv) = x
  generalize AV.slice (s.q.map Tm.av) = y
  simp only [Own, OwnL]
  constructor
  · rintro ⟨os, rfl, o4, os4, b4, b4', rfl, rfl, h, o6, os6, b6, b6', rfl, rfl, h', o1, os1, b1, b1', rfl, rfl, ⟨rfl, rfl⟩, o2, os2, b2, b2', rfl, rfl, ⟨rfl, rfl⟩, o3, os3, b3, b3', rfl, rfl, ⟨rfl, rfl⟩, o5, os5, b5, b5', rfl, rfl, ⟨rfl, rfl⟩, rfl, rfl⟩
    exact ⟨o4, b4, o6, b6, rfl, by simp, h, h'⟩
  · rintro ⟨q, b1, q', b2, rfl, rfl, h, h'⟩
    exact ⟨_, rfl, q, _, b1, b2, rfl, rfl, h, q', _, b2, [], rfl, by simp, h', _, _, [], [], rfl, rfl, ⟨rfl, rfl⟩, _, _, [], [], rfl, rfl, ⟨rfl, rfl⟩, _, _, [], [], rfl, rfl, ⟨rfl, rfl⟩, _, _, [], [], rfl, rfl, ⟨rfl, rfl⟩, rfl, rfl⟩

theorem tf_C6_42 : (type_of% tI_2) ∧ (type_of% zI_2) ∧ (type_of% Go.Proofs.Try.underlying2) ∧ (type_of% tI_3) ∧ (type_of% zI_3) ∧ (type_of% Go.Proofs.Try.underlying3) ∧ (type_of% tI_4) ∧ (type_of% zI_4) ∧ (type_of% Go.Proofs.Try.underlying4) ∧ (type_of% tI_5) ∧ (type_of% zI_5) ∧ (type_of% Go.Proofs.Try.underlying5) ∧ (type_of% tI_6) ∧ (type_of% zI_6) ∧ (type_of% Go.Proofs.Try.underlying6) ∧ (type_of% tI_8) ∧ (type_of% zI_8) ∧ (type_of% fI_8_0) ∧ (type_of% fI_8_1) ∧ (type_of% fI_8_2) ∧ (type_of% fI_8_3) ∧ (type_of% bI_8) ∧ (type_of% tI_9) ∧ (type_of% zI_9) ∧ (type_of% Go.Proofs.Try.underlying9) ∧ (type_of% tI_10) ∧ (type_of% zI_10) ∧ (type_of% Go.Proofs.Try.underlying10) ∧ (type_of% tI_12) ∧ (type_of% zI_12) ∧ (type_of% Go.Proofs.Try.underlying12) ∧ (type_of% tI_13) ∧ (type_of% zI_13) ∧ (type_of% fI_13_0) ∧ (type_of% fI_13_1) ∧ (type_of% bI_13) ∧ (type_of% tI_17) ∧ (type_of% zI_17) ∧ (type_of% tI_18) ∧ (type_of% zI_18) ∧ (type_of% fI_18_0) ∧ (type_of% bI_18) ∧ (type_of% tI_22) ∧ (type_of% zI_22) ∧ (type_of% eI_22) ∧ (type_of% eB_22) ∧ (type_of% eZ_22) ∧ (type_of% Go.Proofs.Try.underlying22) ∧ (type_of% tI_23) ∧ (type_of% zI_23) ∧ (type_of% fI_23_0) ∧ (type_of% bI_23) ∧ (type_of% tI_24) ∧ (type_of% zI_24) ∧ (type_of% fI_24_0) ∧ (type_of% bI_24) ∧ (type_of% tI_27) ∧ (type_of% zI_27) ∧ (type_of% eI_27) ∧ (type_of% eB_27) ∧ (type_of% eZ_27) ∧ (type_of% Go.Proofs.Try.underlying27) ∧ (type_of% tI_64) ∧ (type_of% zI_64) ∧ (type_of% fI_64_0) ∧ (type_of% fI_64_1) ∧ (type_of% bI_64) ∧ (type_of% tI_73) ∧ (type_of% zI_73) ∧ (type_of% eI_73) ∧ (type_of% eB_73) ∧ (type_of% eZ_73) ∧ (type_of% Go.Proofs.Try.underlying73) ∧ (type_of% tI_75) ∧ (type_of% zI_75) ∧ (type_of% fI_75_0) ∧ (type_of% fI_75_1) ∧ (type_of% fI_75_2) ∧ (type_of% fI_75_3) ∧ (type_of% fI_75_4) ∧ (type_of% fI_75_5) ∧ (type_of% bI_75) := ⟨tI_2, zI_2, Go.Proofs.Try.underlying2, tI_3, zI_3, Go.Proofs.Try.underlying3, tI_4, zI_4, Go.Proofs.Try.underlying4, tI_5, zI_5, Go.Proofs.Try.underlying5, tI_6, zI_6, Go.Proofs.Try.underlying6, tI_8, zI_8, fI_8_0, fI_8_1, fI_8_2, fI_8_3, bI_8, tI_9, zI_9, Go.Proofs.Try.underlying9, tI_10, zI_10, Go.Proofs.Try.underlying10, tI_12, zI_12, Go.Proofs.Try.underlying12, tI_13, zI_13, fI_13_0, fI_13_1, bI_13, tI_17, zI_17, tI_18, zI_18, fI_18_0, bI_18, tI_22, zI_22, eI_22, eB_22, eZ_22, Go.Proofs.Try.underlying22, tI_23, zI_23, fI_23_0, bI_23, tI_24, zI_24, fI_24_0, bI_24, tI_27, zI_27, eI_27, eB_27, eZ_27, Go.Proofs.Try.underlying27, tI_64, zI_64, fI_64_0, fI_64_1, bI_64, tI_73, zI_73, eI_73, eB_73, eZ_73, Go.Proofs.Try.underlying73, tI_75, zI_75, fI_75_0, fI_75_1, fI_75_2, fI_75_3, fI_75_4, fI_75_5, bI_75⟩
theorem c_impl_OpenSession (p : List Cl) (q : List Tm) (k : Int) (st : Store) : ACalls prog 42 [.slice (p.map clAv), .slice (q.map Tm.av), .int .i64 k] st (fun r st' => ∃ o, r = .tup [o, .bool (opens p q k)] ∧ Made st (ssAv (sess p q k)) o st') := by
  refine ACalls.dropS ?_
  refine acalls_fit [1000000] func42 ntmps42 rfl rfl (by kernel_rfl) (by decide +kernel) (by show 3 ≤ _; decide +kernel) ?_
  intro _
  simp -implicitDefEqProofs only [setCells, evb0, evb1, evb2, evb3, evb4, evb5, evb6, evb7, evb8, evb9, ↓evZ2, ↓evZ3, ↓Int.cast_ofNat_Int, implies_true, ne_eq, or_false, false_or, or_self, gt_iff_lt, isMut, aFn, List.contains, List.elem, aBox, aField, aLoad, sub, aNil, aPick, aExt, aFld, gd, noJunk, plainOp, aBuildSlice, aBuild, aFill, aParts, seqParts, fitAll, List.range', ↓reduceIte, reduceCtorEq, Nat.reduceEqDiff, Nat.reduceAdd, Nat.reduceLeDiff, Nat.reduceMul, Nat.reduceLT, Nat.reduceBEq, Int.reduceEq, tf_C6_42]
  intro b hb
  have hbad : opens p q k = false → ∀ o, ∃ s2, Drops (st.upd b o) s2 ∧ ∃ o, AV.tup [.agg [.fslice [], .fslice [], .int .i64 0, .int .i64 0, .int .i64 0, .int .i64 0], .bool false] = .tup [o, .bool (opens p q k)] ∧ Made st (ssAv (sess p q k)) o s2 := fun h o => by
    refine ⟨st, (Drops.refl _).upd hb, _, by rw [h], [], List.nodup_nil, by simp, ?_, fun _ _ => rfl⟩
    unfold sess
    rw [h]
    exact own_Ss.2 ⟨.fslice [], [], .fslice [], [], rfl, rfl, by simp [Own], by simp [Own]⟩
  refine (c_impl_ProgramValid p _).to ?_
  simp -implicitDefEqProofs only [setCells, evb0, evb1, evb2, evb3, evb4, evb5, evb6, evb7, evb8, evb9, ↓evZ2, ↓evZ3, ↓Int.cast_ofNat_Int, implies_true, ne_eq, or_false, false_or, or_self, gt_iff_lt, isMut, aFn, List.contains, List.elem, aBox, aField, aLoad, sub, aNil, aPick, aExt, aFld, gd, noJunk, plainOp, aBuildSlice, aBuild, aFill, aParts, seqParts, fitAll, List.range', ↓reduceIte, reduceCtorEq, Nat.reduceEqDiff, Nat.reduceAdd, Nat.reduceLeDiff, Nat.reduceMul, Nat.reduceLT, Nat.reduceBEq, Int.reduceEq, tf_C6_42]
  refine opsG_split (fun h => ?_) (fun h => ?_)
  case refine_2 =>
    simp -implicitDefEqProofs only [h, setCells, evb0, evb1, evb2, evb3, evb4, evb5, evb6, evb7, evb8, evb9, ↓evZ2, ↓evZ3, ↓Int.cast_ofNat_Int, implies_true, ne_eq, or_false, false_or, or_self, gt_iff_lt, isMut, aFn, List.contains, List.elem, aBox, aField, aLoad, sub, aNil, aPick, aExt, aFld, gd, noJunk, plainOp, aBuildSlice, aBuild, aFill, aParts, seqParts, fitAll, List.range', ↓reduceIte, reduceCtorEq, Nat.reduceEqDiff, Nat.reduceAdd, Nat.reduceLeDiff, Nat.reduceMul, Nat.reduceLT, Nat.reduceBEq, Int.reduceEq, tf_C6_42]
    exact hbad (by simp at h; simp [opens, h]) _
  simp only [Bool.not_eq_false'] at h
  simp -implicitDefEqProofs only [h, setCells, evb0, evb1, evb2, evb3, evb4, evb5, evb6, evb7, evb8, evb9, ↓evZ2, ↓evZ3, ↓Int.cast_ofNat_Int, implies_true, ne_eq, or_false, false_or, or_self, gt_iff_lt, isMut, aFn, List.contains, List.elem, aBox, aField, aLoad, sub, aNil, aPick, aExt, aFld, gd, noJunk, plainOp, aBuildSlice, aBuild, aFill, aParts, seqParts, fitAll, List.range', ↓reduceIte, reduceCtorEq, Nat.reduceEqDiff, Nat.reduceAdd, Nat.reduceLeDiff, Nat.reduceMul, Nat.reduceLT, Nat.reduceBEq, Int.reduceEq, tf_C6_42]
  refine (c_impl_QueryValid q _).to ?_
  simp -implicitDefEqProofs only [h, setCells, evb0, evb1, evb2, evb3, evb4, evb5, evb6, evb7, evb8, evb9, ↓evZ2, ↓evZ3, ↓Int.cast_ofNat_Int, implies_true, ne_eq, or_false, false_or, or_self, gt_iff_lt, isMut, aFn, List.contains, List.elem, aBox, aField, aLoad, sub, aNil, aPick, aExt, aFld, gd, noJunk, plainOp, aBuildSlice, aBuild, aFill, aParts, seqParts, fitAll, List.range', ↓reduceIte, reduceCtorEq, Nat.reduceEqDiff, Nat.reduceAdd, Nat.reduceLeDiff, Nat.reduceMul, Nat.reduceLT, Nat.reduceBEq, Int.reduceEq, tf_C6_42]
  refine opsG_split (fun h2 => ?_) (fun h2 => ?_)
  case refine_2 =>
    simp -implicitDefEqProofs only [h2, setCells, evb0, evb1, evb2, evb3, evb4, evb5, evb6, evb7, evb8, evb9, ↓evZ2, ↓evZ3, ↓Int.cast_ofNat_Int, implies_true, ne_eq, or_false, false_or, or_self, gt_iff_lt, isMut, aFn, List.contains, List.elem, aBox, aField, aLoad, sub, aNil, aPick, aExt, aFld, gd, noJunk, plainOp, aBuildSlice, aBuild, aFill, aParts, seqParts, fitAll, List.range', ↓reduceIte, reduceCtorEq, Nat.reduceEqDiff, Nat.reduceAdd, Nat.reduceLeDiff, Nat.reduceMul, Nat.reduceLT, Nat.reduceBEq, Int.reduceEq, tf_C6_42]
    exact hbad (by simp at h2; simp [opens, h2]) _
  have hq : queryOk q = true := by simpa using h2
  simp -implicitDefEqProofs only [h2, setCells, evb0, evb1, evb2, evb3, evb4, evb5, evb6, evb7, evb8, evb9, ↓evZ2, ↓evZ3, ↓Int.cast_ofNat_Int, implies_true, ne_eq, or_false, false_or, or_self, gt_iff_lt, isMut, aFn, List.contains, List.elem, aBox, aField, aLoad, sub, aNil, aPick, aExt, aFld, gd, noJunk, plainOp, aBuildSlice, aBuild, aFill, aParts, seqParts, fitAll, List.range', ↓reduceIte, reduceCtorEq, Nat.reduceEqDiff, Nat.reduceAdd, Nat.reduceLeDiff, Nat.reduceMul, Nat.reduceLT, Nat.reduceBEq, Int.reduceEq, tf_C6_42]
  refine (c_within k 0 300 _).to ?_
  simp -implicitDefEqProofs only [h2, setCells, evb0, evb1, evb2, evb3, evb4, evb5, evb6, evb7, evb8, evb9, ↓evZ2, ↓evZ3, ↓Int.cast_ofNat_Int, implies_true, ne_eq, or_false, false_or, or_self, gt_iff_lt, isMut, aFn, List.contains, List.elem, aBox, aField, aLoad, sub, aNil, aPick, aExt, aFld, gd, noJunk, plainOp, aBuildSlice, aBuild, aFill, aParts, seqParts, fitAll, List.range', ↓reduceIte, reduceCtorEq, Nat.reduceEqDiff, Nat.reduceAdd, Nat.reduceLeDiff, Nat.reduceMul, Nat.reduceLT, Nat.reduceBEq, Int.reduceEq, tf_C6_42]
  refine cond_split (fun h4 => ?_) (fun h4 => ?_)
  · simp -implicitDefEqProofs only [setCells, evb0, evb1, evb2, evb3, evb4, evb5, evb6, evb7, evb8, evb9, ↓evZ2, ↓evZ3, ↓Int.cast_ofNat_Int, implies_true, ne_eq, or_false, false_or, or_self, gt_iff_lt, isMut, aFn, List.contains, List.elem, aBox, aField, aLoad, sub, aNil, aPick, aExt, aFld, gd, noJunk, plainOp, aBuildSlice, aBuild, aFill, aParts, seqParts, fitAll, List.range', ↓reduceIte, reduceCtorEq, Nat.reduceEqDiff, Nat.reduceAdd, Nat.reduceLeDiff, Nat.reduceMul, Nat.reduceLT, Nat.reduceBEq, Int.reduceEq, tf_C6_42]
    exact hbad (by simp at h4; simp only [opens, h, hq, Bool.true_and]; simp only [Bool.and_eq_false_iff, decide_eq_false_iff_not]; omega) _
  simp -implicitDefEqProofs only [setCells, evb0, evb1, evb2, evb3, evb4, evb5, evb6, evb7, evb8, evb9, ↓evZ2, ↓evZ3, ↓Int.cast_ofNat_Int, implies_true, ne_eq, or_false, false_or, or_self, gt_iff_lt, isMut, aFn, List.contains, List.elem, aBox, aField, aLoad, sub, aNil, aPick, aExt, aFld, gd, noJunk, plainOp, aBuildSlice, aBuild, aFill, aParts, seqParts, fitAll, List.range', ↓reduceIte, reduceCtorEq, Nat.reduceEqDiff, Nat.reduceAdd, Nat.reduceLeDiff, Nat.reduceMul, Nat.reduceLT, Nat.reduceBEq, Int.reduceEq, tf_C6_42]
  have hok : opens p q k = true := by
    simp only [Bool.not_eq_false'] at h4
    simp only [opens, h, hq, Bool.true_and]
    exact h4
  have hss : sess p q k = ⟨p, q, k, 0, 0, -1⟩ := by unfold sess; rw [if_pos hok]
  obtain ⟨p1, p2⟩ := progOk_small h
  obtain ⟨q1, q2⟩ := queryOk_small hq
  refine (o_ownProgram p _ (by omega) fun x hx s => o_ownClause x s (p2 x hx)).mono ?_
  rintro r1 s2 ⟨bs, m1, m2, m3, m4⟩
  obtain ⟨hqc, hqs, hqa, hqw, hqj⟩ := Own.one' m3
  have hbb : b ∉ bs := fun h => by have := m2 b h; simp [su_eq] at this
  have e1 := m4 b hbb
  rw [Store.upd_same] at e1
  simp -implicitDefEqProofs only [hqc, hqs, hqa, hqw, hqj, e1, setCells, evb0, evb1, evb2, evb3, evb4, evb5, evb6, evb7, evb8, evb9, ↓evZ2, ↓evZ3, ↓Int.cast_ofNat_Int, implies_true, ne_eq, or_false, false_or, or_self, gt_iff_lt, isMut, aFn, List.contains, List.elem, aBox, aField, aLoad, sub, aNil, aPick, aExt, aFld, gd, noJunk, plainOp, aBuildSlice, aBuild, aFill, aParts, seqParts, fitAll, List.range', ↓reduceIte, reduceCtorEq, Nat.reduceEqDiff, Nat.reduceAdd, Nat.reduceLeDiff, Nat.reduceMul, Nat.reduceLT, Nat.reduceBEq, Int.reduceEq, tf_C6_42]
  refine (o_ownList q _ (by omega) fun x hx s => o_own x s (q2 x hx)).mono ?_
  rintro r2 s3 ⟨cs, n1, n2, n3, n4⟩
  have hcb : b ∉ cs := fun h => by have := n2 b h; rw [e1] at this; cases this
  have f1 := n4 b hcb
  rw [e1] at f1
  obtain ⟨hrc, hrs, hra, hrw, hrj⟩ := Own.one' n3
  simp -implicitDefEqProofs only [hqc, hqs, hqa, hqw, hqj, hrc, hrs, hra, hrw, hrj, f1, setCells, evb0, evb1, evb2, evb3, evb4, evb5, evb6, evb7, evb8, evb9, ↓evZ2, ↓evZ3, ↓Int.cast_ofNat_Int, implies_true, ne_eq, or_false, false_or, or_self, gt_iff_lt, isMut, aFn, List.contains, List.elem, aBox, aField, aLoad, sub, aNil, aPick, aExt, aFld, gd, noJunk, plainOp, aBuildSlice, aBuild, aFill, aParts, seqParts, fitAll, List.range', ↓reduceIte, reduceCtorEq, Nat.reduceEqDiff, Nat.reduceAdd, Nat.reduceLeDiff, Nat.reduceMul, Nat.reduceLT, Nat.reduceBEq, Int.reduceEq, tf_C6_42]
  have hsome := (Own.solid _ _ _ m3).2.2
  have hdis : ∀ x ∈ bs, x ∉ cs := fun x hx hx' => by
    obtain ⟨u, e, _⟩ := hsome x hx
    have := n2 x hx'
    rw [e] at this; cases this
  have hcs : ∀ x ∈ cs, x ≠ b := fun x hx e => hcb (e ▸ hx)
  have hbs : ∀ x ∈ bs, x ≠ b := fun x hx e => hbb (e ▸ hx)
  rw [hss, hok]
  refine ⟨s3.erase b, ?_, _, rfl, bs ++ cs, List.nodup_append.2 ⟨m1, n1, fun x hx y hy e => hdis x hx (e ▸ hy)⟩, fun x hx => ?_, ?_, ?_⟩
  · intro x
    by_cases hx : x = b
    · subst hx; simp [Store.erase, Store.upd]
    · simp [Store.erase, Store.upd, hx]
  · rcases List.mem_append.1 hx with hx | hx
    · have := m2 x hx
      rwa [Store.upd_ne _ _ (hbs x hx)] at this
    · have := n2 x hx
      rw [m4 x (fun h => hdis x h hx), Store.upd_ne _ _ (hcs x hx)] at this
      exact this
  · refine own_Ss.2 ⟨r1, bs, r2, cs, rfl, rfl, Own.keep _ _ _ (fun x hx => ?_) m3, Own.keep _ _ _ (fun x hx => ?_) n3⟩
    · simp only [Store.erase, hbs x hx, if_false]
      rw [n4 x (hdis x hx)]
    · simp only [Store.erase, hcs x hx, if_false]
  · intro x hx
    simp only [List.mem_append, not_or] at hx
    by_cases hxb : x = b
    · subst hxb; simp only [Store.erase, if_true]; rw [hb]
    · simp only [Store.erase, hxb, if_false]
      rw [n4 x hx.2, m4 x hx.1, Store.upd_ne _ _ hxb]
end Go.AW


/- Variables of terms: what the program's functions return. -/
namespace Go.AW
open Go.Proofs.Try
set_option linter.unusedSimpArgs false
set_option maxRecDepth 100000

/-- What a list of numbers that grows has become. -/
def Grown (st : Store) (l : List Int) (r : AV) (st' : Store) : Prop := ∃ b', r = accV 1 b' (l.map iv) ∧ st' = accS st b' (l.map iv) ∧ (l.map iv ≠ [] → st b' = none)

end Go.AW


/- Variables of lists of terms: what the functions return. -/
namespace Go.AW
open Go.Proofs.Try
set_option linter.unusedSimpArgs false
set_option maxRecDepth 100000

end Go.AW


/- Replaced variables: what the program's and the reference's functions return. -/
namespace Go.AW
open Go.Proofs.Try
set_option linter.unusedSimpArgs false
set_option maxRecDepth 100000

end Go.AW


/- Bindings applied: what the program's and the reference's functions return. -/
namespace Go.AW
open Go.Proofs.Try
set_option linter.unusedSimpArgs false
set_option maxRecDepth 100000

def optAv : Option Tm → AV
  | some t => .tup [t.av, .bool true]
  | none => .tup [Tm.zero.av, .bool false]

end Go.AW


/- Bindings applied, as a whole. -/
namespace Go.AW
open Go.Proofs.Try
set_option linter.unusedSimpArgs false
set_option maxRecDepth 100000

/-- Bindings applied, if all is valid. -/
def appB (t : Tm) (bs : List Bd) : Option Tm :=
  if t.valid = true ∧ (bs.all fun b => b.2.valid) = true ∧ (t.mapv (subB bs)).valid = true then some (t.mapv (subB bs)) else none
end Go.AW


/- Answers' goals: what the program's and the reference's functions return. -/
namespace Go.AW
open Go.Proofs.Try
set_option linter.unusedSimpArgs false
set_option maxRecDepth 100000

/-- An answer. -/
abbrev ansAv (l : List Tm) : AV := .agg [.slice (l.map Tm.av)]

/-- What a variable of a query stands for in an answer. -/
def valOf (vars : List Int) (vals : List Tm) (n : Int) : Tm := (vals[(idxI n vars 0).toNat]?).getD (vr n)
def fitsQ (q vals : List Tm) : Bool := queryOk q && decide (vals.length = (tmsVars q []).length) && vals.all Tm.valid
def ansGoals (q vals : List Tm) : Option (List Tm) :=
  if fitsQ q vals = true ∧ (q.map (Tm.mapv (valOf (tmsVars q []) vals))).all Tm.valid = true then some (q.map (Tm.mapv (valOf (tmsVars q []) vals))) else none

def iaAv (o : Option (List Tm)) (q : AV) : AV := .tup [q, .bool o.isSome]

end Go.AW


/- Answers' goals: what the reference's functions return. -/
namespace Go.AW
open Go.Proofs.Try
set_option linter.unusedSimpArgs false
set_option maxRecDepth 100000

end Go.AW


/- Marks in terms: what the laws' helpers do. -/
namespace Go.AW
open Go.Proofs.Try
set_option linter.unusedSimpArgs false
set_option maxRecDepth 100000

theorem tf_MkTm_67 : (type_of% tI_2) ∧ (type_of% zI_2) ∧ (type_of% Go.Proofs.Try.underlying2) ∧ (type_of% tI_3) ∧ (type_of% zI_3) ∧ (type_of% Go.Proofs.Try.underlying3) ∧ (type_of% tI_4) ∧ (type_of% zI_4) ∧ (type_of% Go.Proofs.Try.underlying4) ∧ (type_of% tI_5) ∧ (type_of% zI_5) ∧ (type_of% Go.Proofs.Try.underlying5) ∧ (type_of% tI_6) ∧ (type_of% zI_6) ∧ (type_of% Go.Proofs.Try.underlying6) ∧ (type_of% tI_7) ∧ (type_of% zI_7) ∧ (type_of% fI_7_0) ∧ (type_of% fI_7_1) ∧ (type_of% fI_7_2) ∧ (type_of% fI_7_3) ∧ (type_of% bI_7) ∧ (type_of% tI_9) ∧ (type_of% zI_9) ∧ (type_of% Go.Proofs.Try.underlying9) ∧ (type_of% tI_10) ∧ (type_of% zI_10) ∧ (type_of% Go.Proofs.Try.underlying10) ∧ (type_of% tI_17) ∧ (type_of% zI_17) ∧ (type_of% tI_39) ∧ (type_of% zI_39) ∧ (type_of% eI_39) ∧ (type_of% eB_39) ∧ (type_of% eZ_39) ∧ (type_of% Go.Proofs.Try.underlying39) ∧ (type_of% tI_64) ∧ (type_of% zI_64) ∧ (type_of% fI_64_0) ∧ (type_of% fI_64_1) ∧ (type_of% bI_64) := ⟨tI_2, zI_2, Go.Proofs.Try.underlying2, tI_3, zI_3, Go.Proofs.Try.underlying3, tI_4, zI_4, Go.Proofs.Try.underlying4, tI_5, zI_5, Go.Proofs.Try.underlying5, tI_6, zI_6, Go.Proofs.Try.underlying6, tI_7, zI_7, fI_7_0, fI_7_1, fI_7_2, fI_7_3, bI_7, tI_9, zI_9, Go.Proofs.Try.underlying9, tI_10, zI_10, Go.Proofs.Try.underlying10, tI_17, zI_17, tI_39, zI_39, eI_39, eB_39, eZ_39, Go.Proofs.Try.underlying39, tI_64, zI_64, fI_64_0, fI_64_1, bI_64⟩
theorem c_markText (k : Int) (st : Store) (h1 : k ≤ 1099511627776) : ACalls prog 67 [.int .i64 k] st (fun r st' => r = .str (mt k) ∧ st' = st) := by
  refine acalls_fit [] func67 ntmps67 rfl rfl (by kernel_rfl) (by decide +kernel) (by show 1 ≤ _; decide +kernel) ?_
  intro _
  simp -implicitDefEqProofs only [evb0, evb1, evb2, evb3, evb4, evb5, evb6, evb7, evb8, evb9, ↓evZ2, ↓evZ3, ↓Int.cast_ofNat_Int, implies_true, ne_eq, or_false, false_or, or_self, gt_iff_lt, isMut, aFn, List.contains, List.elem, aBox, aField, aLoad, sub, aNil, aPick, aExt, aFld, gd, noJunk, plainOp, aBuildSlice, aBuild, aFill, aParts, seqParts, fitAll, List.range', ↓reduceIte, reduceCtorEq, Nat.reduceEqDiff, Nat.reduceAdd, Nat.reduceLeDiff, Nat.reduceMul, Nat.reduceLT, Nat.reduceBEq, Int.reduceEq, tf_MkTm_67]
  refine cond_split (fun h => ?_) (fun h => ?_)
  · simp -implicitDefEqProofs only [evb0, evb1, evb2, evb3, evb4, evb5, evb6, evb7, evb8, evb9, ↓evZ2, ↓evZ3, ↓Int.cast_ofNat_Int, implies_true, ne_eq, or_false, false_or, or_self, gt_iff_lt, isMut, aFn, List.contains, List.elem, aBox, aField, aLoad, sub, aNil, aPick, aExt, aFld, gd, noJunk, plainOp, aBuildSlice, aBuild, aFill, aParts, seqParts, fitAll, List.range', ↓reduceIte, reduceCtorEq, Nat.reduceEqDiff, Nat.reduceAdd, Nat.reduceLeDiff, Nat.reduceMul, Nat.reduceLT, Nat.reduceBEq, Int.reduceEq, tf_MkTm_67]
    simp only [decide_eq_true_eq] at h
    simp only [mt, h, if_true]
  simp only [decide_eq_false_iff_not] at h
  obtain ⟨n, rfl⟩ := Int.eq_ofNat_of_zero_le (show 0 ≤ k by omega)
  have hmt : mt (n : Int) = ⟨(109 :: mtDigs n []).toArray⟩ := by simp only [mt, h, if_false, Int.toNat_natCast]
  rw [hmt]
  simp -implicitDefEqProofs only [evb0, evb1, evb2, evb3, evb4, evb5, evb6, evb7, evb8, evb9, ↓evZ2, ↓evZ3, ↓Int.cast_ofNat_Int, implies_true, ne_eq, or_false, false_or, or_self, gt_iff_lt, isMut, aFn, List.contains, List.elem, aBox, aField, aLoad, sub, aNil, aPick, aExt, aFld, gd, noJunk, plainOp, aBuildSlice, aBuild, aFill, aParts, seqParts, fitAll, List.range', ↓reduceIte, reduceCtorEq, Nat.reduceEqDiff, Nat.reduceAdd, Nat.reduceLeDiff, Nat.reduceMul, Nat.reduceLT, Nat.reduceBEq, Int.reduceEq, tf_MkTm_67]
  refine arun_whileK (σ := Nat × List UInt8) [] [2] (fun p => mtDigs p.1 p.2 = mtDigs n [] ∧ p.2.length + p.1 ≤ 1099511627776) (fun p => [(0, .int .i64 p.1), (3, .str ⟨p.2.toArray⟩)]) (fun _ => st) (fun p => p.1) (by decide +kernel)
    ⟨(n, []), ⟨rfl, by simp; omega⟩, LessL.mk (by simp -implicitDefEqProofs only [evb0, evb1, evb2, evb3, evb4, evb5, evb6, evb7, evb8, evb9, ↓evZ2, ↓evZ3, ↓Int.cast_ofNat_Int, implies_true, ne_eq, or_false, false_or, or_self, gt_iff_lt, isMut, aFn, List.contains, List.elem, aBox, aField, aLoad, sub, aNil, aPick, aExt, aFld, gd, noJunk, plainOp, aBuildSlice, aBuild, aFill, aParts, seqParts, fitAll, List.range', ↓reduceIte, reduceCtorEq, Nat.reduceEqDiff, Nat.reduceAdd, Nat.reduceLeDiff, Nat.reduceMul, Nat.reduceLT, Nat.reduceBEq, Int.reduceEq, tf_MkTm_67])⟩ ?_
  rintro ⟨k, acc⟩ ⟨hd, hb⟩
  simp only at hd hb
  simp -implicitDefEqProofs only [evb0, evb1, evb2, evb3, evb4, evb5, evb6, evb7, evb8, evb9, ↓evZ2, ↓evZ3, ↓Int.cast_ofNat_Int, implies_true, ne_eq, or_false, false_or, or_self, gt_iff_lt, isMut, aFn, List.contains, List.elem, aBox, aField, aLoad, sub, aNil, aPick, aExt, aFld, gd, noJunk, plainOp, aBuildSlice, aBuild, aFill, aParts, seqParts, fitAll, List.range', ↓reduceIte, reduceCtorEq, Nat.reduceEqDiff, Nat.reduceAdd, Nat.reduceLeDiff, Nat.reduceMul, Nat.reduceLT, Nat.reduceBEq, Int.reduceEq, tf_MkTm_67]
  refine cond_split (fun h2 => ?_) (fun h2 => ?_)
  case refine_2 =>
    simp only [decide_eq_false_iff_not] at h2
    obtain rfl : k = 0 := by omega
    rw [mtDigs_zero] at hd
    have hsz : (⟨#[109]⟩ : ByteArray).size + (⟨acc.toArray⟩ : ByteArray).size ≤ maxLen := by
      show 1 + acc.toArray.size ≤ maxLen
      unfold maxLen
      simp; omega
    simp -implicitDefEqProofs only [hsz, if_pos, evb0, evb1, evb2, evb3, evb4, evb5, evb6, evb7, evb8, evb9, ↓evZ2, ↓evZ3, ↓Int.cast_ofNat_Int, implies_true, ne_eq, or_false, false_or, or_self, gt_iff_lt, isMut, aFn, List.contains, List.elem, aBox, aField, aLoad, sub, aNil, aPick, aExt, aFld, gd, noJunk, plainOp, aBuildSlice, aBuild, aFill, aParts, seqParts, fitAll, List.range', ↓reduceIte, reduceCtorEq, Nat.reduceEqDiff, Nat.reduceAdd, Nat.reduceLeDiff, Nat.reduceMul, Nat.reduceLT, Nat.reduceBEq, Int.reduceEq, tf_MkTm_67]
    rw [← hd]
    congr 1
  simp only [decide_eq_true_eq] at h2
  have hr : ((k : Int)).tmod 10 = ((k % 10 : Nat) : Int) := by rw [Int.tmod_eq_emod_of_nonneg (by omega)]; omega
  have hq : ((k : Int)).tdiv 10 = ((k / 10 : Nat) : Int) := by rw [Int.tdiv_eq_ediv_of_nonneg (by omega)]; omega
  have hw := wrap64 (n := 48 + ((k % 10 : Nat) : Int)) (by omega) (by omega)
  have hw8 : IntKind.wrap .u8 (48 + ((k % 10 : Nat) : Int)) = ((48 + k % 10 : Nat) : Int) := by rw [IntKind.wrap_u8]; omega
  have hw2 := wrap64 (n := ((k / 10 : Nat) : Int)) (by omega) (by omega)
  have hby : bytesOf [AV.int .u8 ((48 + k % 10 : Nat) : Int)] = some [UInt8.ofNat (48 + k % 10)] := by
    simp only [bytesOf, Int.toNat_natCast, Option.map_some]
  have hsz : (⟨#[UInt8.ofNat (48 + k % 10)]⟩ : ByteArray).size + (⟨acc.toArray⟩ : ByteArray).size ≤ maxLen := by
    show 1 + acc.toArray.size ≤ maxLen
    unfold maxLen
    simp; omega
  simp -implicitDefEqProofs only [aConvert, hr, hq, hw, hw8, hw2, hby, hsz, if_pos, evb0, evb1, evb2, evb3, evb4, evb5, evb6, evb7, evb8, evb9, ↓evZ2, ↓evZ3, ↓Int.cast_ofNat_Int, implies_true, ne_eq, or_false, false_or, or_self, gt_iff_lt, isMut, aFn, List.contains, List.elem, aBox, aField, aLoad, sub, aNil, aPick, aExt, aFld, gd, noJunk, plainOp, aBuildSlice, aBuild, aFill, aParts, seqParts, fitAll, List.range', ↓reduceIte, reduceCtorEq, Nat.reduceEqDiff, Nat.reduceAdd, Nat.reduceLeDiff, Nat.reduceMul, Nat.reduceLT, Nat.reduceBEq, Int.reduceEq, tf_MkTm_67]
  refine ⟨(k / 10, UInt8.ofNat (48 + k % 10) :: acc), by omega, ⟨by rw [← mtDigs_pos (by omega)]; exact hd, by simp only [List.length_cons]; omega⟩, LessL.mk (by simp -implicitDefEqProofs only [ba_append, evb0, evb1, evb2, evb3, evb4, evb5, evb6, evb7, evb8, evb9, ↓evZ2, ↓evZ3, ↓Int.cast_ofNat_Int, implies_true, ne_eq, or_false, false_or, or_self, gt_iff_lt, isMut, aFn, List.contains, List.elem, aBox, aField, aLoad, sub, aNil, aPick, aExt, aFld, gd, noJunk, plainOp, aBuildSlice, aBuild, aFill, aParts, seqParts, fitAll, List.range', ↓reduceIte, reduceCtorEq, Nat.reduceEqDiff, Nat.reduceAdd, Nat.reduceLeDiff, Nat.reduceMul, Nat.reduceLT, Nat.reduceBEq, Int.reduceEq, tf_MkTm_67])⟩

theorem tf_MkTm_19 : (type_of% tI_2) ∧ (type_of% zI_2) ∧ (type_of% Go.Proofs.Try.underlying2) ∧ (type_of% tI_3) ∧ (type_of% zI_3) ∧ (type_of% Go.Proofs.Try.underlying3) ∧ (type_of% tI_4) ∧ (type_of% zI_4) ∧ (type_of% Go.Proofs.Try.underlying4) ∧ (type_of% tI_5) ∧ (type_of% zI_5) ∧ (type_of% Go.Proofs.Try.underlying5) ∧ (type_of% tI_6) ∧ (type_of% zI_6) ∧ (type_of% Go.Proofs.Try.underlying6) ∧ (type_of% tI_7) ∧ (type_of% zI_7) ∧ (type_of% fI_7_0) ∧ (type_of% fI_7_1) ∧ (type_of% fI_7_2) ∧ (type_of% fI_7_3) ∧ (type_of% bI_7) ∧ (type_of% tI_8) ∧ (type_of% zI_8) ∧ (type_of% fI_8_0) ∧ (type_of% fI_8_1) ∧ (type_of% fI_8_2) ∧ (type_of% fI_8_3) ∧ (type_of% bI_8) ∧ (type_of% tI_9) ∧ (type_of% zI_9) ∧ (type_of% Go.Proofs.Try.underlying9) ∧ (type_of% tI_10) ∧ (type_of% zI_10) ∧ (type_of% Go.Proofs.Try.underlying10) ∧ (type_of% tI_11) ∧ (type_of% zI_11) ∧ (type_of% Go.Proofs.Try.underlying11) ∧ (type_of% tI_19) ∧ (type_of% zI_19) ∧ (type_of% fI_19_0) ∧ (type_of% bI_19) ∧ (type_of% tI_27) ∧ (type_of% zI_27) ∧ (type_of% eI_27) ∧ (type_of% eB_27) ∧ (type_of% eZ_27) ∧ (type_of% Go.Proofs.Try.underlying27) ∧ (type_of% tI_39) ∧ (type_of% zI_39) ∧ (type_of% eI_39) ∧ (type_of% eB_39) ∧ (type_of% eZ_39) ∧ (type_of% Go.Proofs.Try.underlying39) ∧ (type_of% tI_40) ∧ (type_of% zI_40) ∧ (type_of% fI_40_0) ∧ (type_of% fI_40_1) ∧ (type_of% fI_40_2) ∧ (type_of% fI_40_3) ∧ (type_of% bI_40) ∧ (type_of% tI_41) ∧ (type_of% zI_41) ∧ (type_of% fI_41_0) ∧ (type_of% fI_41_1) ∧ (type_of% fI_41_2) ∧ (type_of% fI_41_3) ∧ (type_of% bI_41) ∧ (type_of% tI_64) ∧ (type_of% zI_64) ∧ (type_of% fI_64_0) ∧ (type_of% fI_64_1) ∧ (type_of% bI_64) := ⟨tI_2, zI_2, Go.Proofs.Try.underlying2, tI_3, zI_3, Go.Proofs.Try.underlying3, tI_4, zI_4, Go.Proofs.Try.underlying4, tI_5, zI_5, Go.Proofs.Try.underlying5, tI_6, zI_6, Go.Proofs.Try.underlying6, tI_7, zI_7, fI_7_0, fI_7_1, fI_7_2, fI_7_3, bI_7, tI_8, zI_8, fI_8_0, fI_8_1, fI_8_2, fI_8_3, bI_8, tI_9, zI_9, Go.Proofs.Try.underlying9, tI_10, zI_10, Go.Proofs.Try.underlying10, tI_11, zI_11, Go.Proofs.Try.underlying11, tI_19, zI_19, fI_19_0, bI_19, tI_27, zI_27, eI_27, eB_27, eZ_27, Go.Proofs.Try.underlying27, tI_39, zI_39, eI_39, eB_39, eZ_39, Go.Proofs.Try.underlying39, tI_40, zI_40, fI_40_0, fI_40_1, fI_40_2, fI_40_3, bI_40, tI_41, zI_41, fI_41_0, fI_41_1, fI_41_2, fI_41_3, bI_41, tI_64, zI_64, fI_64_0, fI_64_1, bI_64⟩
theorem c_markTermS : ∀ (l : List Tm) (j : Int) (o : AV) (bs : List Nat) (st : Store), Own st (.slice (l.map Tm.av)) o bs → bs.Nodup → 0 ≤ j → j + sumL Tm.mks l ≤ 1099511627776 →
    ACalls prog 19 [o, .int .i64 j] st (Marked st (.slice ((markL Tm.mark Tm.mks l j).map Tm.av)) o bs (j + sumL Tm.mks l))
  | l, j, o, bs, st, hO, hnd, hj0, hj1 => by
    have IH := fun (k n : Int) (s : ByteArray) (ts : List Tm) (hm : Tm.mk k n s ts ∈ l) => c_markTermS ts
    obtain ⟨hlen, haL⟩ := hO.len
    rw [List.length_map] at hlen
    have haL := haL prog 27 _ underlying27
    rw [List.length_map] at haL
    refine acalls_fit [] func19 ntmps19 rfl rfl (by kernel_rfl) (by decide +kernel) (by show 2 ≤ _; decide +kernel) ?_
    simp only [fitsL]
    intro ⟨hf, _⟩
    have hl := hlen hf
    clear hf hlen
    simp -implicitDefEqProofs only [evb0, evb1, evb2, evb3, evb4, evb5, evb6, evb7, evb8, evb9, ↓evZ2, ↓evZ3, ↓Int.cast_ofNat_Int, implies_true, ne_eq, or_false, false_or, or_self, gt_iff_lt, isMut, aFn, List.contains, List.elem, aBox, aField, aLoad, sub, aNil, aPick, aExt, aFld, gd, noJunk, plainOp, aBuildSlice, aBuild, aFill, aParts, seqParts, fitAll, List.range', ↓reduceIte, reduceCtorEq, Nat.reduceEqDiff, Nat.reduceAdd, Nat.reduceLeDiff, Nat.reduceMul, Nat.reduceLT, Nat.reduceBEq, Int.reduceEq, tf_MkTm_19]
    refine arun_each (σ := List Tm × Int × Store) [] [0, 4] l
      (fun i p => p.1.length = i ∧ p.1 ++ markL Tm.mark Tm.mks (l.drop i) p.2.1 = markL Tm.mark Tm.mks l j ∧ 0 ≤ p.2.1 ∧ p.2.1 + sumL Tm.mks (l.drop i) = j + sumL Tm.mks l ∧ Own p.2.2 (.slice ((p.1 ++ l.drop i).map Tm.av)) o bs ∧ ∀ q, q ∉ bs → p.2.2 q = st q)
      (fun i p => [(1, .int .i64 p.2.1), (5, .int .i64 i)]) (fun _ p => p.2.2) (by decide +kernel)
      ⟨([], j, st), ⟨rfl, rfl, hj0, rfl, hO, fun _ _ => rfl⟩, LessL.mk (by simp -implicitDefEqProofs only [evb0, evb1, evb2, evb3, evb4, evb5, evb6, evb7, evb8, evb9, ↓evZ2, ↓evZ3, ↓Int.cast_ofNat_Int, implies_true, ne_eq, or_false, false_or, or_self, gt_iff_lt, isMut, aFn, List.contains, List.elem, aBox, aField, aLoad, sub, aNil, aPick, aExt, aFld, gd, noJunk, plainOp, aBuildSlice, aBuild, aFill, aParts, seqParts, fitAll, List.range', ↓reduceIte, reduceCtorEq, Nat.reduceEqDiff, Nat.reduceAdd, Nat.reduceLeDiff, Nat.reduceMul, Nat.reduceLT, Nat.reduceBEq, Int.reduceEq, tf_MkTm_19])⟩ (fun i x p hx hlt hlt' hdr hinv => ?_) (fun p hge hinv => ?_)
    case refine_2 =>
      obtain ⟨done, k, s⟩ := p
      obtain ⟨i1, i2, i3, i4, i5, i6⟩ := hinv
      simp only at i1 i2 i3 i4 i5 i6
      simp -implicitDefEqProofs only [haL, hge, evb0, evb1, evb2, evb3, evb4, evb5, evb6, evb7, evb8, evb9, ↓evZ2, ↓evZ3, ↓Int.cast_ofNat_Int, implies_true, ne_eq, or_false, false_or, or_self, gt_iff_lt, isMut, aFn, List.contains, List.elem, aBox, aField, aLoad, sub, aNil, aPick, aExt, aFld, gd, noJunk, plainOp, aBuildSlice, aBuild, aFill, aParts, seqParts, fitAll, List.range', ↓reduceIte, reduceCtorEq, Nat.reduceEqDiff, Nat.reduceAdd, Nat.reduceLeDiff, Nat.reduceMul, Nat.reduceLT, Nat.reduceBEq, Int.reduceEq, tf_MkTm_19]
      simp only [List.drop_length, markL, List.append_nil, sumL] at i2 i4 i5
      exact ⟨by rw [← i4]; simp, by rw [← i2]; exact i5, i6⟩
    obtain ⟨done, k, s⟩ := p
    obtain ⟨i1, i2, i3, i4, i5, i6⟩ := hinv
    simp only at i1 i2 i3 i4 i5 i6
    rw [hdr] at i2 i4 i5
    obtain ⟨xk, xn, xs, xts⟩ := x
    simp only [sumL, Tm.mks_mk] at i4
    have hget := marked_get (av := Tm.av) (done := done) (x := .mk xk xn xs xts) (rest := l.drop (i + 1))
    obtain ⟨b, bs', w, A, oe, bo, B, rfl, hbs, hsb, hA, hoe, hbo, hbn, hsub, hw, hi, hfoc⟩ := i5.focus hnd hget
    rw [Tm.av_width] at hw
    subst hw
    rw [i1] at hA
    obtain ⟨q, rfl, hq⟩ := own_Tm.1 hoe
    have hlen2 : ((done ++ Tm.mk xk xn xs xts :: l.drop (i + 1)).map Tm.av).length = l.length := by
      rw [List.length_map, List.length_append, List.length_cons, List.length_drop, i1]; omega
    rw [hlen2] at haL hfoc ⊢
    have hat := held_at (b := b) (len := l.length) (w := 4) (i := i) eI_27 hlt
    have hbnd : ∀ (c : Nat), c < 4 → i * 4 + c + 1 ≤ A.length + (4 + B.length) := fun c hc => by rw [hA]; omega
    have hw1 := wrap64 (n := k + 1) (by omega) (by omega)
    have hw2 := wrap64 (n := k + 1 + 1) (by omega) (by omega)
    have hw3 := wrap64 (n := k + 1 + 1 + 1) (by omega) (by omega)
    have hw4 := wrap64 (n := (i : Int) + 1) (by omega) (by omega)
    obtain ⟨e1, e2, e3, e4, e5, e6⟩ := midE (B := B) hA
    simp -implicitDefEqProofs only [haL, hlt', hat, hsb, hw1, hw2, hw3, e1, e2, e3, e4, e5, e6, Nat.add_zero, List.set_cons_zero, List.set_cons_succ, Store.upd_upd, evb0, evb1, evb2, evb3, evb4, evb5, evb6, evb7, evb8, evb9, ↓evZ2, ↓evZ3, ↓Int.cast_ofNat_Int, implies_true, ne_eq, or_false, false_or, or_self, gt_iff_lt, isMut, aFn, List.contains, List.elem, aBox, aField, aLoad, sub, aNil, aPick, aExt, aFld, gd, noJunk, plainOp, aBuildSlice, aBuild, aFill, aParts, seqParts, fitAll, List.range', ↓reduceIte, reduceCtorEq, Nat.reduceEqDiff, Nat.reduceAdd, Nat.reduceLeDiff, Nat.reduceMul, Nat.reduceLT, Nat.reduceBEq, Int.reduceEq, tf_MkTm_19]
    refine (c_markText (k + 1 + 1) _ (by omega)).to ?_
    simp -implicitDefEqProofs only [hat, e1, e2, e3, e4, e5, e6, Nat.add_zero, List.set_cons_zero, List.set_cons_succ, Store.upd_upd, hw1, hw2, hw3, evb0, evb1, evb2, evb3, evb4, evb5, evb6, evb7, evb8, evb9, ↓evZ2, ↓evZ3, ↓Int.cast_ofNat_Int, implies_true, ne_eq, or_false, false_or, or_self, gt_iff_lt, isMut, aFn, List.contains, List.elem, aBox, aField, aLoad, sub, aNil, aPick, aExt, aFld, gd, noJunk, plainOp, aBuildSlice, aBuild, aFill, aParts, seqParts, fitAll, List.range', ↓reduceIte, reduceCtorEq, Nat.reduceEqDiff, Nat.reduceAdd, Nat.reduceLeDiff, Nat.reduceMul, Nat.reduceLT, Nat.reduceBEq, Int.reduceEq, tf_MkTm_19]
    have hqs : ∀ (o : AO), Own (s.upd b o) (.slice (xts.map Tm.av)) q bo := fun o => Own.keep _ _ _ (fun x hx => Store.upd_ne _ _ (fun e => hbn (e ▸ hx))) hq
    have hqa : q.isAgg = false := (Own.shape hq).1
    simp -implicitDefEqProofs only [hqa, evb0, evb1, evb2, evb3, evb4, evb5, evb6, evb7, evb8, evb9, ↓evZ2, ↓evZ3, ↓Int.cast_ofNat_Int, implies_true, ne_eq, or_false, false_or, or_self, gt_iff_lt, isMut, aFn, List.contains, List.elem, aBox, aField, aLoad, sub, aNil, aPick, aExt, aFld, gd, noJunk, plainOp, aBuildSlice, aBuild, aFill, aParts, seqParts, fitAll, List.range', ↓reduceIte, reduceCtorEq, Nat.reduceEqDiff, Nat.reduceAdd, Nat.reduceLeDiff, Nat.reduceMul, Nat.reduceLT, Nat.reduceBEq, Int.reduceEq, tf_MkTm_19]
    refine (IH xk xn xs xts (List.mem_of_getElem? hx) (k + 1 + 1 + 1) q bo _ (hqs _) hbo (by omega) (by omega)).mono ?_
    rintro _ s2 ⟨rfl, hq2, hk2⟩
    simp -implicitDefEqProofs only [hw4, evb0, evb1, evb2, evb3, evb4, evb5, evb6, evb7, evb8, evb9, ↓evZ2, ↓evZ3, ↓Int.cast_ofNat_Int, implies_true, ne_eq, or_false, false_or, or_self, gt_iff_lt, isMut, aFn, List.contains, List.elem, aBox, aField, aLoad, sub, aNil, aPick, aExt, aFld, gd, noJunk, plainOp, aBuildSlice, aBuild, aFill, aParts, seqParts, fitAll, List.range', ↓reduceIte, reduceCtorEq, Nat.reduceEqDiff, Nat.reduceAdd, Nat.reduceLeDiff, Nat.reduceMul, Nat.reduceLT, Nat.reduceBEq, Int.reduceEq, tf_MkTm_19]
    refine ⟨(done ++ [(Tm.mk xk xn xs xts).mark k], k + 1 + 1 + 1 + sumL Tm.mks xts, s2), ⟨?_, ?_, ?_, ?_, ?_, ?_⟩, LessL.mk (by simp -implicitDefEqProofs only [evb0, evb1, evb2, evb3, evb4, evb5, evb6, evb7, evb8, evb9, ↓evZ2, ↓evZ3, ↓Int.cast_ofNat_Int, implies_true, ne_eq, or_false, false_or, or_self, gt_iff_lt, isMut, aFn, List.contains, List.elem, aBox, aField, aLoad, sub, aNil, aPick, aExt, aFld, gd, noJunk, plainOp, aBuildSlice, aBuild, aFill, aParts, seqParts, fitAll, List.range', ↓reduceIte, reduceCtorEq, Nat.reduceEqDiff, Nat.reduceAdd, Nat.reduceLeDiff, Nat.reduceMul, Nat.reduceLT, Nat.reduceBEq, Int.reduceEq, tf_MkTm_19])⟩
    · simp [i1]
    · simp only [markL, Tm.mks_mk] at i2
      rw [← i2, show k + ((3 + sumL Tm.mks xts : Nat) : Int) = k + 1 + 1 + 1 + (sumL Tm.mks xts : Int) by omega]
      simp
    · simp only; omega
    · simp only; omega
    · have := hfoc s2 ((Tm.mk xk xn xs xts).mark k).av (.agg [.int .i64 k, .int .i64 (k + 1), .str (mt (k + 1 + 1)), q]) (Tm.av_width _) (fun x hx hxb hxo => by rw [hk2 x hxo, Store.upd_ne _ _ hxb]) (by rw [hk2 b hbn, Store.upd_same]; rfl) (by rw [Tm.mark_mk]; exact own_Tm.2 ⟨q, rfl, hq2⟩)
      rw [marked_set] at this
      exact this
    · intro x hx
      have hxb : x ≠ b := fun e => hx (by rw [hbs]; simp [e])
      have hxo : x ∉ bo := fun e => hx (hsub x e)
      show s2 x = st x
      rw [hk2 x hxo, Store.upd_ne _ _ hxb, i6 x hx]
termination_by l => SizeOf.sizeOf l
decreasing_by have := List.sizeOf_lt_of_mem hm; simp only [Tm.mk.sizeOf_spec] at this; omega

end Go.AW


/- Terms made in blocks of their own. -/
namespace Go.AW
open Go.Proofs.Try
set_option linter.unusedSimpArgs false
set_option maxRecDepth 100000

theorem tf_MkO_14 : (type_of% tI_2) ∧ (type_of% zI_2) ∧ (type_of% Go.Proofs.Try.underlying2) ∧ (type_of% tI_3) ∧ (type_of% zI_3) ∧ (type_of% Go.Proofs.Try.underlying3) ∧ (type_of% tI_4) ∧ (type_of% zI_4) ∧ (type_of% Go.Proofs.Try.underlying4) ∧ (type_of% tI_5) ∧ (type_of% zI_5) ∧ (type_of% Go.Proofs.Try.underlying5) ∧ (type_of% tI_6) ∧ (type_of% zI_6) ∧ (type_of% Go.Proofs.Try.underlying6) ∧ (type_of% tI_8) ∧ (type_of% zI_8) ∧ (type_of% fI_8_0) ∧ (type_of% fI_8_1) ∧ (type_of% fI_8_2) ∧ (type_of% fI_8_3) ∧ (type_of% bI_8) ∧ (type_of% tI_9) ∧ (type_of% zI_9) ∧ (type_of% Go.Proofs.Try.underlying9) ∧ (type_of% tI_10) ∧ (type_of% zI_10) ∧ (type_of% Go.Proofs.Try.underlying10) ∧ (type_of% tI_19) ∧ (type_of% zI_19) ∧ (type_of% fI_19_0) ∧ (type_of% bI_19) ∧ (type_of% tI_21) ∧ (type_of% zI_21) ∧ (type_of% Go.Proofs.Try.underlying21) ∧ (type_of% tI_22) ∧ (type_of% zI_22) ∧ (type_of% eI_22) ∧ (type_of% eB_22) ∧ (type_of% eZ_22) ∧ (type_of% Go.Proofs.Try.underlying22) ∧ (type_of% tI_23) ∧ (type_of% zI_23) ∧ (type_of% fI_23_0) ∧ (type_of% bI_23) ∧ (type_of% tI_27) ∧ (type_of% zI_27) ∧ (type_of% eI_27) ∧ (type_of% eB_27) ∧ (type_of% eZ_27) ∧ (type_of% Go.Proofs.Try.underlying27) ∧ (type_of% tI_41) ∧ (type_of% zI_41) ∧ (type_of% fI_41_0) ∧ (type_of% fI_41_1) ∧ (type_of% fI_41_2) ∧ (type_of% fI_41_3) ∧ (type_of% bI_41) ∧ (type_of% tI_58) ∧ (type_of% zI_58) ∧ (type_of% fI_58_0) ∧ (type_of% fI_58_1) ∧ (type_of% bI_58) ∧ (type_of% tI_64) ∧ (type_of% zI_64) ∧ (type_of% fI_64_0) ∧ (type_of% fI_64_1) ∧ (type_of% bI_64) ∧ (type_of% tI_92) ∧ (type_of% zI_92) ∧ (type_of% fI_92_0) ∧ (type_of% fI_92_1) ∧ (type_of% fI_92_2) ∧ (type_of% fI_92_3) ∧ (type_of% bI_92) := ⟨tI_2, zI_2, Go.Proofs.Try.underlying2, tI_3, zI_3, Go.Proofs.Try.underlying3, tI_4, zI_4, Go.Proofs.Try.underlying4, tI_5, zI_5, Go.Proofs.Try.underlying5, tI_6, zI_6, Go.Proofs.Try.underlying6, tI_8, zI_8, fI_8_0, fI_8_1, fI_8_2, fI_8_3, bI_8, tI_9, zI_9, Go.Proofs.Try.underlying9, tI_10, zI_10, Go.Proofs.Try.underlying10, tI_19, zI_19, fI_19_0, bI_19, tI_21, zI_21, Go.Proofs.Try.underlying21, tI_22, zI_22, eI_22, eB_22, eZ_22, Go.Proofs.Try.underlying22, tI_23, zI_23, fI_23_0, bI_23, tI_27, zI_27, eI_27, eB_27, eZ_27, Go.Proofs.Try.underlying27, tI_41, zI_41, fI_41_0, fI_41_1, fI_41_2, fI_41_3, bI_41, tI_58, zI_58, fI_58_0, fI_58_1, bI_58, tI_64, zI_64, fI_64_0, fI_64_1, bI_64, tI_92, zI_92, fI_92_0, fI_92_1, fI_92_2, fI_92_3, bI_92⟩
theorem o_toTermS (l : List Tm) (st : Store) (hb : l.length ≤ 1048576) (hc : ∀ x ∈ l, ∀ (st : Store), ACalls prog 58 [Tm.av x] st (Made st (Tm.av x))) :
    ACalls prog 14 [.slice (l.map Tm.av)] st (Made st (.slice (l.map Tm.av))) := by
  refine acalls_fit [] func14 ntmps14 rfl rfl (by kernel_rfl) (by decide +kernel) (by show 1 ≤ _; decide +kernel) ?_
  intro _
  simp -implicitDefEqProofs only [List.length_map, aMakeSlice, evb0, evb1, evb2, evb3, evb4, evb5, evb6, evb7, evb8, evb9, ↓evZ2, ↓evZ3, ↓Int.cast_ofNat_Int, implies_true, ne_eq, or_false, false_or, or_self, gt_iff_lt, isMut, aFn, List.contains, List.elem, aBox, aField, aLoad, sub, aNil, aPick, aExt, aFld, gd, noJunk, plainOp, aBuildSlice, aBuild, aFill, aParts, seqParts, fitAll, List.range', ↓reduceIte, reduceCtorEq, Nat.reduceEqDiff, Nat.reduceAdd, Nat.reduceLeDiff, Nat.reduceMul, Nat.reduceLT, Nat.reduceBEq, Int.reduceEq, tf_MkO_14]
  refine ⟨by omega, by omega, by omega, ?_⟩
  intro b hn
  rw [Int.toNat_natCast, madeAV_eq _ (by simp)]
  refine arun_each (σ := List AV × List Nat × Store) [] [0, 2, 3] l (fun i p => OwnTo (l.map Tm.av) [.int .i64 0, .int .i64 0, .str ⟨#[]⟩, .fslice []] b st i p) (fun i _ => [(4, .int .i64 i)]) (fun _ p => p.2.2) (by decide +kernel)
    ⟨([], [], _), ?_, LessL.mk (by simp -implicitDefEqProofs only [evb0, evb1, evb2, evb3, evb4, evb5, evb6, evb7, evb8, evb9, ↓evZ2, ↓evZ3, ↓Int.cast_ofNat_Int, implies_true, ne_eq, or_false, false_or, or_self, gt_iff_lt, isMut, aFn, List.contains, List.elem, aBox, aField, aLoad, sub, aNil, aPick, aExt, aFld, gd, noJunk, plainOp, aBuildSlice, aBuild, aFill, aParts, seqParts, fitAll, List.range', ↓reduceIte, reduceCtorEq, Nat.reduceEqDiff, Nat.reduceAdd, Nat.reduceLeDiff, Nat.reduceMul, Nat.reduceLT, Nat.reduceBEq, Int.reduceEq, tf_MkO_14])⟩ (fun i x p hx hlt hlt' hdr hinv => ?_) (fun p hge hinv => ?_)
  · exact OwnTo.start hn (by rw [List.length_map])
  case refine_3 =>
    obtain ⟨os, bs, s⟩ := p
    simp -implicitDefEqProofs only [List.length_map, hge, evb0, evb1, evb2, evb3, evb4, evb5, evb6, evb7, evb8, evb9, ↓evZ2, ↓evZ3, ↓Int.cast_ofNat_Int, implies_true, ne_eq, or_false, false_or, or_self, gt_iff_lt, isMut, aFn, List.contains, List.elem, aBox, aField, aLoad, sub, aNil, aPick, aExt, aFld, gd, noJunk, plainOp, aBuildSlice, aBuild, aFill, aParts, seqParts, fitAll, List.range', ↓reduceIte, reduceCtorEq, Nat.reduceEqDiff, Nat.reduceAdd, Nat.reduceLeDiff, Nat.reduceMul, Nat.reduceLT, Nat.reduceBEq, Int.reduceEq, tf_MkO_14]
    exact hinv.done (List.length_map _) (fun e he => by simp only [List.mem_map] at he; obtain ⟨t, _, rfl⟩ := he; exact Tm.av_width t)
  obtain ⟨os, bs, s⟩ := p
  simp -implicitDefEqProofs only [List.length_map, hlt', ev_at (av := Tm.av) eI_22 hx (Tm.av_width x), Tm.av_agg, Tm.av_width, evb0, evb1, evb2, evb3, evb4, evb5, evb6, evb7, evb8, evb9, ↓evZ2, ↓evZ3, ↓Int.cast_ofNat_Int, implies_true, ne_eq, or_false, false_or, or_self, gt_iff_lt, isMut, aFn, List.contains, List.elem, aBox, aField, aLoad, sub, aNil, aPick, aExt, aFld, gd, noJunk, plainOp, aBuildSlice, aBuild, aFill, aParts, seqParts, fitAll, List.range', ↓reduceIte, reduceCtorEq, Nat.reduceEqDiff, Nat.reduceAdd, Nat.reduceLeDiff, Nat.reduceMul, Nat.reduceLT, Nat.reduceBEq, Int.reduceEq, tf_MkO_14]
  refine (hc x (List.mem_of_getElem? hx) _).mono ?_
  rintro r s2 hmade
  obtain ⟨A, B, hs2, hA, hrw, hrs, hnext⟩ := hinv.step hmade (show (l.map Tm.av)[i]? = some (Tm.av x) by rw [List.getElem?_map, hx]; rfl) (Tm.av_width x) (fun e he => by simp only [List.mem_map] at he; obtain ⟨t, _, rfl⟩ := he; exact Tm.av_width t) rfl (Tm.av_store x) (.inl (Tm.av_agg x))
  have hat := held_at (b := b) (len := l.length) (w := 4) (i := i) eI_27 hlt
  obtain ⟨hp1, hp2⟩ := partE (B := B) (C := [.int .i64 0, .int .i64 0, .str ⟨#[]⟩, .fslice []]) (x := r.cells) hA rfl hrw
  have hw := wrap64 (n := (i : Int) + 1) (by omega) (by omega)
  simp -implicitDefEqProofs only [hat, hs2, hrw, hrs, hp1, hw, evb0, evb1, evb2, evb3, evb4, evb5, evb6, evb7, evb8, evb9, ↓evZ2, ↓evZ3, ↓Int.cast_ofNat_Int, implies_true, ne_eq, or_false, false_or, or_self, gt_iff_lt, isMut, aFn, List.contains, List.elem, aBox, aField, aLoad, sub, aNil, aPick, aExt, aFld, gd, noJunk, plainOp, aBuildSlice, aBuild, aFill, aParts, seqParts, fitAll, List.range', ↓reduceIte, reduceCtorEq, Nat.reduceEqDiff, Nat.reduceAdd, Nat.reduceLeDiff, Nat.reduceMul, Nat.reduceLT, Nat.reduceBEq, Int.reduceEq, tf_MkO_14]
  refine ⟨hp2, ?_⟩
  exact ⟨_, hnext, LessL.mk (by simp -implicitDefEqProofs only [evb0, evb1, evb2, evb3, evb4, evb5, evb6, evb7, evb8, evb9, ↓evZ2, ↓evZ3, ↓Int.cast_ofNat_Int, implies_true, ne_eq, or_false, false_or, or_self, gt_iff_lt, isMut, aFn, List.contains, List.elem, aBox, aField, aLoad, sub, aNil, aPick, aExt, aFld, gd, noJunk, plainOp, aBuildSlice, aBuild, aFill, aParts, seqParts, fitAll, List.range', ↓reduceIte, reduceCtorEq, Nat.reduceEqDiff, Nat.reduceAdd, Nat.reduceLeDiff, Nat.reduceMul, Nat.reduceLT, Nat.reduceBEq, Int.reduceEq, tf_MkO_14])⟩


theorem tf_MkO_58 : (type_of% tI_2) ∧ (type_of% zI_2) ∧ (type_of% Go.Proofs.Try.underlying2) ∧ (type_of% tI_3) ∧ (type_of% zI_3) ∧ (type_of% Go.Proofs.Try.underlying3) ∧ (type_of% tI_4) ∧ (type_of% zI_4) ∧ (type_of% Go.Proofs.Try.underlying4) ∧ (type_of% tI_5) ∧ (type_of% zI_5) ∧ (type_of% Go.Proofs.Try.underlying5) ∧ (type_of% tI_6) ∧ (type_of% zI_6) ∧ (type_of% Go.Proofs.Try.underlying6) ∧ (type_of% tI_9) ∧ (type_of% zI_9) ∧ (type_of% Go.Proofs.Try.underlying9) ∧ (type_of% tI_14) ∧ (type_of% zI_14) ∧ (type_of% fI_14_0) ∧ (type_of% fI_14_1) ∧ (type_of% bI_14) ∧ (type_of% tI_15) ∧ (type_of% zI_15) ∧ (type_of% tI_18) ∧ (type_of% zI_18) ∧ (type_of% fI_18_0) ∧ (type_of% bI_18) ∧ (type_of% tI_22) ∧ (type_of% zI_22) ∧ (type_of% eI_22) ∧ (type_of% eB_22) ∧ (type_of% eZ_22) ∧ (type_of% Go.Proofs.Try.underlying22) ∧ (type_of% tI_27) ∧ (type_of% zI_27) ∧ (type_of% eI_27) ∧ (type_of% eB_27) ∧ (type_of% eZ_27) ∧ (type_of% Go.Proofs.Try.underlying27) ∧ (type_of% tI_41) ∧ (type_of% zI_41) ∧ (type_of% fI_41_0) ∧ (type_of% fI_41_1) ∧ (type_of% fI_41_2) ∧ (type_of% fI_41_3) ∧ (type_of% bI_41) ∧ (type_of% tI_92) ∧ (type_of% zI_92) ∧ (type_of% fI_92_0) ∧ (type_of% fI_92_1) ∧ (type_of% fI_92_2) ∧ (type_of% fI_92_3) ∧ (type_of% bI_92) ∧ (type_of% tI_120) ∧ (type_of% zI_120) ∧ (type_of% fI_120_0) ∧ (type_of% fI_120_1) ∧ (type_of% fI_120_2) ∧ (type_of% fI_120_3) ∧ (type_of% fI_120_4) ∧ (type_of% fI_120_5) ∧ (type_of% fI_120_6) ∧ (type_of% bI_120) := ⟨tI_2, zI_2, Go.Proofs.Try.underlying2, tI_3, zI_3, Go.Proofs.Try.underlying3, tI_4, zI_4, Go.Proofs.Try.underlying4, tI_5, zI_5, Go.Proofs.Try.underlying5, tI_6, zI_6, Go.Proofs.Try.underlying6, tI_9, zI_9, Go.Proofs.Try.underlying9, tI_14, zI_14, fI_14_0, fI_14_1, bI_14, tI_15, zI_15, tI_18, zI_18, fI_18_0, bI_18, tI_22, zI_22, eI_22, eB_22, eZ_22, Go.Proofs.Try.underlying22, tI_27, zI_27, eI_27, eB_27, eZ_27, Go.Proofs.Try.underlying27, tI_41, zI_41, fI_41_0, fI_41_1, fI_41_2, fI_41_3, bI_41, tI_92, zI_92, fI_92_0, fI_92_1, fI_92_2, fI_92_3, bI_92, tI_120, zI_120, fI_120_0, fI_120_1, fI_120_2, fI_120_3, fI_120_4, fI_120_5, fI_120_6, bI_120⟩
theorem o_toTerm : ∀ (a : Tm) (st : Store), a.sz ≤ 1048576 → ACalls prog 58 [a.av] st (Made st a.av)
  | .mk k n s ts, st, hb => by
    rw [Tm.sz_mk] at hb
    have hc := fun st => o_toTermS ts st (by omega) fun x hx st => o_toTerm x st (by have := sumL_mem (f := Tm.sz) hx; omega)
    refine ACalls.madeJ ?_
    refine acalls_fit [] func58 ntmps58 rfl rfl (by kernel_rfl) (by decide +kernel) (by show 1 ≤ _; decide +kernel) ?_
    intro _
    simp only [Tm.av_mk]
    simp -implicitDefEqProofs only [evb0, evb1, evb2, evb3, evb4, evb5, evb6, evb7, evb8, evb9, ↓evZ2, ↓evZ3, ↓Int.cast_ofNat_Int, implies_true, ne_eq, or_false, false_or, or_self, gt_iff_lt, isMut, aFn, List.contains, List.elem, aBox, aField, aLoad, sub, aNil, aPick, aExt, aFld, gd, noJunk, plainOp, aBuildSlice, aBuild, aFill, aParts, seqParts, fitAll, List.range', ↓reduceIte, reduceCtorEq, Nat.reduceEqDiff, Nat.reduceAdd, Nat.reduceLeDiff, Nat.reduceMul, Nat.reduceLT, Nat.reduceBEq, Int.reduceEq, tf_MkO_58]
    intro b hb1 b2 hb2
    have hne : b2 ≠ b := by rintro rfl; rw [Store.upd_same] at hb2; cases hb2
    have hn2 : st b2 = none := by rw [Store.upd_ne st _ hne] at hb2; exact hb2
    simp -implicitDefEqProofs only [su_eq, hne, hne.symm, setCells, Store.upd_upd, evb0, evb1, evb2, evb3, evb4, evb5, evb6, evb7, evb8, evb9, ↓evZ2, ↓evZ3, ↓Int.cast_ofNat_Int, implies_true, ne_eq, or_false, false_or, or_self, gt_iff_lt, isMut, aFn, List.contains, List.elem, aBox, aField, aLoad, sub, aNil, aPick, aExt, aFld, gd, noJunk, plainOp, aBuildSlice, aBuild, aFill, aParts, seqParts, fitAll, List.range', ↓reduceIte, reduceCtorEq, Nat.reduceEqDiff, Nat.reduceAdd, Nat.reduceLeDiff, Nat.reduceMul, Nat.reduceLT, Nat.reduceBEq, Int.reduceEq, tf_MkO_58]
    refine (hc _).mono ?_
    rintro q s2 ⟨bs, m1, m2, m3, m4⟩
    have hbb : b ∉ bs := fun h => by have := m2 b h; simp [su_eq, hne, hne.symm] at this
    have hbb2 : b2 ∉ bs := fun h => by have := m2 b2 h; simp [su_eq] at this
    have e1 := m4 b hbb
    have e2 := m4 b2 hbb2
    simp only [su_eq, hne, hne.symm, if_true, if_false] at e1 e2
    have hqc : q.cells = [q] := by have := (Own.shape m3).1; cases q <;> first | rfl | simp [AV.isAgg] at this
    have hqs : q.storable = true := by
      have := m3
      simp only [Own] at this
      rcases this with ⟨_, rfl, _⟩ | ⟨_, _, _, _, rfl, _⟩ <;> rfl
    simp -implicitDefEqProofs only [su_eq, hne, hne.symm, e1, e2, hqc, hqs, setCells, Store.upd_upd, evb0, evb1, evb2, evb3, evb4, evb5, evb6, evb7, evb8, evb9, ↓evZ2, ↓evZ3, ↓Int.cast_ofNat_Int, implies_true, ne_eq, or_false, false_or, or_self, gt_iff_lt, isMut, aFn, List.contains, List.elem, aBox, aField, aLoad, sub, aNil, aPick, aExt, aFld, gd, noJunk, plainOp, aBuildSlice, aBuild, aFill, aParts, seqParts, fitAll, List.range', ↓reduceIte, reduceCtorEq, Nat.reduceEqDiff, Nat.reduceAdd, Nat.reduceLeDiff, Nat.reduceMul, Nat.reduceLT, Nat.reduceBEq, Int.reduceEq, tf_MkO_58]
    refine ⟨[b, b2], bs, m1, fun x hx => ?_, ?_, ?_, ?_⟩
    · have := m2 x hx
      have h1 : x ≠ b := fun e => hbb (e ▸ hx)
      have h2 : x ≠ b2 := fun e => hbb2 (e ▸ hx)
      simpa [su_eq, h1, h2] using this
    · simp [hb1, hn2, hbb, hbb2]
    · rw [← Tm.av_mk]
      refine own_Tm.2 ⟨q, rfl, Own.keep _ _ _ (fun x hx => ?_) m3⟩
      have h1 : x ≠ b := fun e => hbb (e ▸ hx)
      have h2 : x ≠ b2 := fun e => hbb2 (e ▸ hx)
      simp only [su_eq, h1, h2, if_false]
    · intro x hx hd
      simp only [List.mem_cons, List.not_mem_nil, or_false, not_or] at hd
      simp only [su_eq, hd.1, hd.2, if_false]
      rw [m4 x hx]
      simp only [su_eq, hd.1, hd.2, if_false]
termination_by a => SizeOf.sizeOf a
decreasing_by have := List.sizeOf_lt_of_mem hx; simp only [Tm.mk.sizeOf_spec]; omega
end Go.AW
