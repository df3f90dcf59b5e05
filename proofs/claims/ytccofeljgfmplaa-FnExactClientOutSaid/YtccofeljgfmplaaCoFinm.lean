/- A slice that is compared with nil. -/
import Derived.Test.YtccofeljgfmplaaCoFinf
import Derived.Lib.SliceRun
import Derived.Test.YtccofeljgfmplaaCoFinl
import Derived.ProofKit
import Derived.Test.YtccofeljgfmplaaCoFinh
import Derived.Test.YtccofeljgfmplaaCoFini
import Derived.Test.YtccofeljgfmplaaCoFinj
namespace Go.AW
set_option linter.unusedVariables false
set_option linter.unusedSimpArgs false

theorem arun_seq {P : Program} {N : Nat} {x y : Code} {Q : Exit → AF → Store → Prop} {φ : AF} {st : Store} (e : ARun P N x (thenQ (ARun P N y Q) Q) φ st) : ARun P N (.seq x y) Q φ st := fun a w R => by
  refine wp_seq (wp_mono (e a w R) ?_)
  rintro ex a' w' ⟨φ', st', R', T, s, q⟩
  cases ex with
  | normal => exact wp_mono (q a' w' R') fun _ _ _ h => h.mono T s
  | _ => exact ⟨φ', st', R', T, s, q⟩

theorem acalls_arun {P : Program} {g : FuncId} {fn : Func} {c : Code} {args : List AV} {st : Store} {N : Nat} {rs : List ResultVar} {K : AV → Store → Prop} (hf : P.funcs[g]? = some fn) (hN : fn.ntmps = N) (hr : fn.results = rs.toArray) (hb : fn.body = some c) (hn : (fn.name == "runtime.NumGoroutine") = false)
    (hargs : args.length ≤ N) (e : fitsL args → ARun P N c (retQ P rs.toArray K) (argF 0 args) st) : ACalls P g args st K := by
  subst hN
  rw [← hr] at e
  refine ⟨⟨fn, hf, by simp [hb], hn⟩, fun w vs S V => ?_⟩
  have e := e V.fits
  have hl := V.length
  have R : Rel fn.ntmps { tmps := vs.toArray ++ Array.replicate (fn.ntmps - vs.toArray.size) undef, defers := [] } w (argF 0 args) st := by
    refine ⟨by simp; omega, rfl, argF_rel args vs 0 V fun j v hj => ?_, S⟩
    obtain ⟨hjl, hjv⟩ := List.getElem?_eq_some_iff.1 hj
    simp [Array.getElem?_append, hjl, hjv]
  refine calls_of_wp hf hb (wp_mono (e _ w R) ?_)
  rintro ex a' w' ⟨φ', st', R', T, s, q⟩
  have fin : (match aResults P φ' st' fn.results.toList with | some xs => tupOf K st' xs | none => False) → a'.defers = [] ∧ ∃ v, (results fn a'.tmps).run P w' = .ok v w' ∧
      (∃ v2 r st2, (Ending.returned v) = .returned v2 ∧ VRel w'.heap st2 r v2 ∧ SRel w'.heap st2 ∧ StepH w.heap st w'.heap st2 ∧ Same w w' ∧ K r st2) := by
    intro q
    split at q
    · rename_i xs hx
      obtain ⟨v, r, r1, r2, r3⟩ := results_ok R'.frame R'.store hx q
      exact ⟨R'.defers, v, r1, v, r, st', rfl, r2, R'.store, T, s, r3⟩
    · cases q
  cases ex with
  | normal => exact fin q
  | ret => exact fin q
  | _ => exact q.elim

/-- What a slice that is not written looks like. -/
theorem VRel.slice_nil {h : Heap} {st : Store} {es : List AV} {v : Value} (y : VRel h st (.slice es) v) : ∃ a n c, v = .slice a n c ∧ (es ≠ [] → a.isNone = false) := by
  obtain ⟨y0, y1⟩ := y
  have hv : v.cells.toList = [v] := by cases v <;> first | rfl | (simp [AV.isAgg, vIsAgg] at y0)
  unfold VC at y1
  rw [hv] at y1
  rcases y1 with ⟨⟨p, e⟩, rfl⟩ | ⟨b, off, cap, e, _⟩
  · exact ⟨p, 0, 0, by simpa using e, fun h => absurd rfl h⟩
  · exact ⟨_, _, _, by simpa using e, fun _ => rfl⟩

theorem arun_nilcmp {P : Program} {N : Nat} {id i d d' : Nat} {t e ty ty' tx : TypeId} {pos pos' : String} {aft aft' : Array Edge} {es : List AV} {Q : Exit → AF → Store → Prop} {φ : AF} {st : Store} (ht : P.underlying t = some (.slice e))
    (hd : d < N) (hd' : d' < N) (hx : φ i = .slice es) (k : ∀ c : Bool, (es ≠ [] → c = false) → Q .normal ((φ.upd d (.slice es)).upd d' (.bool c)) st) :
    ARun P N (.region id #[⟨some d, .move (.tmp i), ty, pos, aft, none⟩, ⟨some d', .binOp .eql t (.tmp d) (.const (.slice none 0 0)) tx, ty', pos', aft', none⟩] false) Q φ st := fun a w R => by
  refine wp_region_list ?_
  have hN : ∀ (j q : Nat), ((#[⟨some d, .move (.tmp i), ty, pos, aft, none⟩, ⟨some d', .binOp .eql t (.tmp d) (.const (.slice none 0 0)) tx, ty', pos', aft', none⟩] : Array Oper)[j]?).bind (·.dst) = some q → q < N := by
    intro j q e
    match j with
    | 0 => simp at e; subst e; exact hd
    | 1 => simp at e; subst e; exact hd'
    | j + 2 => simp at e
  refine aOps1_ok (mt := []) (K := fun φ' st' => φ' = φ.upd d (.slice es) ∧ st' = st) hN (by simp [dstOk, hd]) R (by
    show φ.put (some d) (φ i) = _ ∧ _
    rw [hx]
    exact ⟨rfl, rfl⟩) ?_
  rintro a1 w1 _ _ R1 T1 s1 ⟨rfl, rfl⟩
  have y := R1.frame d
  rw [AF.upd_same] at y
  obtain ⟨p, n, c, hv, hp⟩ := y.slice_nil
  have hv' : a1.eval (.tmp d) = .slice p n c := hv
  unfold wpList
  rw [if_pos (by rfl)]
  refine .inl ?_
  have hrun : (execOp a1.eval ⟨some d', .binOp .eql t (.tmp d) (.const (.slice none 0 0)) tx, ty', pos', aft', none⟩).run P w1 = .ok (.value (.bool p.isNone)) w1 := by
    simp only [execOp, hv']
    rw [show a1.eval (.const (.slice none 0 0)) = .slice none 0 0 from rfl]
    simp [eqGuard_at_slice, Lib.run_eql_slice_nil w1 t e p n c 0 0 ht]
  simp only [Oper.wp, hrun, Oper.upon]
  unfold wpList
  exact ⟨_, _, R1.put (o := ⟨some d', .binOp .eql t (.tmp d) (.const (.slice none 0 0)) tx, ty', pos', aft', none⟩) (by simp [dstOk, hd']) (StepH.refl _ _) R1.store VRel.bool_mk, T1, s1, k _ hp⟩
end Go.AW


/- What was sent to a client: the program's and the reference's functions, the law. -/
namespace Go.AW
open Go.Proofs.Try
set_option linter.unusedSimpArgs false
set_option maxRecDepth 100000

theorem made_frs {st : Store} {b : Nat} {l : List Fr} (hb : l.map frAv ≠ [] → st b = none) : Made st (frs l) (accV 2 b (l.map frAv)) (accS st b (l.map frAv)) := by
  have hO : ∀ (s : Store) (l : List Fr), OwnL s (l.map frAv) (l.map frAv) [] := fun s l => by
    induction l with
    | nil => exact ⟨rfl, rfl⟩
    | cons x l ih =>
      simp only [List.map_cons, OwnL]
      exact ⟨_, _, [], [], rfl, rfl, own_pieces.2 ⟨[], rfl, rfl, rfl⟩, ih⟩
  have hw : ∀ e ∈ l.map frAv, e.width = 2 := by intro e h; simp only [List.mem_map] at h; obtain ⟨t, _, rfl⟩ := h; rfl
  have := own_acc (hO (accS st b (l.map frAv)) l) hw
  rw [List.append_nil] at this
  refine ⟨_, ?_, ?_, this, ?_⟩
  · cases l.map frAv <;> simp [accB]
  · intro x hx
    cases hl : l.map frAv with
    | nil => rw [hl] at hx; simp [accB] at hx
    | cons y ys =>
      rw [hl] at hx
      simp only [accB, List.mem_cons, List.not_mem_nil, or_false] at hx
      subst hx
      exact hb (by rw [hl]; simp)
  · intro x hx
    cases hl : l.map frAv with
    | nil => rfl
    | cons y ys =>
      rw [hl] at hx
      simp only [accB, List.mem_cons, List.not_mem_nil, or_false] at hx
      simp only [accS]
      exact Store.upd_ne _ _ hx

theorem app_frs {st : Store} {l : List Fr} {K : AV → Store → Prop} (hb : l.length ≤ 1048576) (hK : ∀ b, (l.map frAv ≠ [] → st b = none) → K (accV 2 b (l.map frAv)) (accS st b (l.map frAv))) :
    aAppend prog 60 st (.fslice []) (frs l) K := by
  have hw : ∀ e ∈ l.map frAv, e.width = 2 ∧ e.cells.all AV.storable = true := by intro e h; simp only [List.mem_map] at h; obtain ⟨t, _, rfl⟩ := h; exact ⟨rfl, rfl⟩
  have := acc_append (P := prog) (st := st) (b := 0) (l := []) (xs := l.map frAv) (x := frs l) (K := K) eI_60 eB_60 eZ_60 rfl rfl hw (by simp) (by simp) (by simp only [List.length_nil, List.length_map]; omega) (by simp only [List.length_nil, List.length_map]; omega) (by simpa using hK)
  exact this

theorem tf_F5_89 : (type_of% tI_2) ∧ (type_of% zI_2) ∧ (type_of% Go.Proofs.Try.underlying2) ∧ (type_of% tI_3) ∧ (type_of% zI_3) ∧ (type_of% Go.Proofs.Try.underlying3) ∧ (type_of% tI_5) ∧ (type_of% zI_5) ∧ (type_of% Go.Proofs.Try.underlying5) ∧ (type_of% tI_6) ∧ (type_of% zI_6) ∧ (type_of% Go.Proofs.Try.underlying6) ∧ (type_of% tI_7) ∧ (type_of% zI_7) ∧ (type_of% fI_7_0) ∧ (type_of% fI_7_1) ∧ (type_of% fI_7_2) ∧ (type_of% fI_7_3) ∧ (type_of% bI_7) ∧ (type_of% tI_8) ∧ (type_of% zI_8) ∧ (type_of% fI_8_0) ∧ (type_of% fI_8_1) ∧ (type_of% fI_8_2) ∧ (type_of% fI_8_3) ∧ (type_of% bI_8) ∧ (type_of% tI_60) ∧ (type_of% zI_60) ∧ (type_of% eI_60) ∧ (type_of% eB_60) ∧ (type_of% eZ_60) ∧ (type_of% Go.Proofs.Try.underlying60) := ⟨tI_2, zI_2, Go.Proofs.Try.underlying2, tI_3, zI_3, Go.Proofs.Try.underlying3, tI_5, zI_5, Go.Proofs.Try.underlying5, tI_6, zI_6, Go.Proofs.Try.underlying6, tI_7, zI_7, fI_7_0, fI_7_1, fI_7_2, fI_7_3, bI_7, tI_8, zI_8, fI_8_0, fI_8_1, fI_8_2, fI_8_3, bI_8, tI_60, zI_60, eI_60, eB_60, eZ_60, Go.Proofs.Try.underlying60⟩
theorem o_CloneFr (l : List Fr) (st : Store) (hb : l.length ≤ 1048576) : ACalls prog 89 [frs l] st (Made st (frs l)) := by
  refine acalls_arun func89 ntmps89 rfl rfl (by kernel_rfl) (by show 1 ≤ _; decide +kernel) ?_
  intro _
  refine arun_seq (arun_code [1000000] (by decide +kernel) ?_)
  simp -implicitDefEqProofs only [evb0, evb1, evb2, evb3, evb4, evb5, evb6, evb7, evb8, evb9, ↓evZ2, ↓evZ3, ↓Int.cast_ofNat_Int, implies_true, ne_eq, or_false, false_or, or_self, gt_iff_lt, isMut, aFn, List.contains, List.elem, aBox, aField, aLoad, sub, aNil, aPick, aExt, aFld, gd, noJunk, plainOp, aBuildSlice, aBuild, aFill, aParts, seqParts, fitAll, List.range', ↓reduceIte, reduceCtorEq, Nat.reduceEqDiff, Nat.reduceAdd, Nat.reduceLeDiff, Nat.reduceMul, Nat.reduceLT, Nat.reduceBEq, Int.reduceEq, tf_F5_89]
  refine arun_seq (arun_seq (arun_nilcmp underlying60 (by decide +kernel) (by decide +kernel) rfl fun c hc => ?_))
  refine arun_code [1000000] (by decide +kernel) ?_
  simp -implicitDefEqProofs only [evb0, evb1, evb2, evb3, evb4, evb5, evb6, evb7, evb8, evb9, ↓evZ2, ↓evZ3, ↓Int.cast_ofNat_Int, implies_true, ne_eq, or_false, false_or, or_self, gt_iff_lt, isMut, aFn, List.contains, List.elem, aBox, aField, aLoad, sub, aNil, aPick, aExt, aFld, gd, noJunk, plainOp, aBuildSlice, aBuild, aFill, aParts, seqParts, fitAll, List.range', ↓reduceIte, reduceCtorEq, Nat.reduceEqDiff, Nat.reduceAdd, Nat.reduceLeDiff, Nat.reduceMul, Nat.reduceLT, Nat.reduceBEq, Int.reduceEq, tf_F5_89]
  refine cond_split (fun h => ?_) (fun h => ?_)
  · subst h
    have hn : l = [] := by
      rcases l with _ | ⟨x, l⟩
      · rfl
      · have := hc (by simp); cases this
    subst hn
    simp -implicitDefEqProofs only [evb0, evb1, evb2, evb3, evb4, evb5, evb6, evb7, evb8, evb9, ↓evZ2, ↓evZ3, ↓Int.cast_ofNat_Int, implies_true, ne_eq, or_false, false_or, or_self, gt_iff_lt, isMut, aFn, List.contains, List.elem, aBox, aField, aLoad, sub, aNil, aPick, aExt, aFld, gd, noJunk, plainOp, aBuildSlice, aBuild, aFill, aParts, seqParts, fitAll, List.range', ↓reduceIte, reduceCtorEq, Nat.reduceEqDiff, Nat.reduceAdd, Nat.reduceLeDiff, Nat.reduceMul, Nat.reduceLT, Nat.reduceBEq, Int.reduceEq, tf_F5_89]
    exact ⟨[], List.nodup_nil, by simp, by simp [Own], fun _ _ => rfl⟩
  · refine arun_code [1000000] (by decide +kernel) ?_
    simp -implicitDefEqProofs only [evb0, evb1, evb2, evb3, evb4, evb5, evb6, evb7, evb8, evb9, ↓evZ2, ↓evZ3, ↓Int.cast_ofNat_Int, implies_true, ne_eq, or_false, false_or, or_self, gt_iff_lt, isMut, aFn, List.contains, List.elem, aBox, aField, aLoad, sub, aNil, aPick, aExt, aFld, gd, noJunk, plainOp, aBuildSlice, aBuild, aFill, aParts, seqParts, fitAll, List.range', ↓reduceIte, reduceCtorEq, Nat.reduceEqDiff, Nat.reduceAdd, Nat.reduceLeDiff, Nat.reduceMul, Nat.reduceLT, Nat.reduceBEq, Int.reduceEq, tf_F5_89]
    refine app_frs hb fun b hb' => ?_
    simp -implicitDefEqProofs only [evb0, evb1, evb2, evb3, evb4, evb5, evb6, evb7, evb8, evb9, ↓evZ2, ↓evZ3, ↓Int.cast_ofNat_Int, implies_true, ne_eq, or_false, false_or, or_self, gt_iff_lt, isMut, aFn, List.contains, List.elem, aBox, aField, aLoad, sub, aNil, aPick, aExt, aFld, gd, noJunk, plainOp, aBuildSlice, aBuild, aFill, aParts, seqParts, fitAll, List.range', ↓reduceIte, reduceCtorEq, Nat.reduceEqDiff, Nat.reduceAdd, Nat.reduceLeDiff, Nat.reduceMul, Nat.reduceLT, Nat.reduceBEq, Int.reduceEq, tf_F5_89]
    exact made_frs hb'

def cout (s : Sv) (k : Int) : List Fr := if 0 ≤ k then (s.cs[k.toNat]?.map Clt.out).getD [] else []
theorem cout_sz {s : Sv} {k : Int} (h : szCt s.cs ≤ 1048576) : szF (cout s k) ≤ 1048576 := by
  unfold cout
  split
  · cases hx : s.cs[k.toNat]? with
    | none => simp [szF, sumL]
    | some x =>
      have h1 := clt_sz_mem (List.mem_of_getElem? hx)
      unfold cltSz at h1
      simp only [Option.map_some, Option.getD_some]
      omega
  · simp [szF, sumL]

theorem tf_F5_86 : (type_of% tI_2) ∧ (type_of% zI_2) ∧ (type_of% Go.Proofs.Try.underlying2) ∧ (type_of% tI_3) ∧ (type_of% zI_3) ∧ (type_of% Go.Proofs.Try.underlying3) ∧ (type_of% tI_4) ∧ (type_of% zI_4) ∧ (type_of% Go.Proofs.Try.underlying4) ∧ (type_of% tI_10) ∧ (type_of% zI_10) ∧ (type_of% Go.Proofs.Try.underlying10) ∧ (type_of% tI_11) ∧ (type_of% zI_11) ∧ (type_of% Go.Proofs.Try.underlying11) ∧ (type_of% tI_12) ∧ (type_of% zI_12) ∧ (type_of% Go.Proofs.Try.underlying12) ∧ (type_of% tI_14) ∧ (type_of% zI_14) ∧ (type_of% fI_14_0) ∧ (type_of% fI_14_1) ∧ (type_of% bI_14) ∧ (type_of% tI_62) ∧ (type_of% zI_62) ∧ (type_of% eI_62) ∧ (type_of% eB_62) ∧ (type_of% eZ_62) ∧ (type_of% Go.Proofs.Try.underlying62) ∧ (type_of% tI_64) ∧ (type_of% zI_64) ∧ (type_of% fI_64_0) ∧ (type_of% fI_64_1) ∧ (type_of% bI_64) := ⟨tI_2, zI_2, Go.Proofs.Try.underlying2, tI_3, zI_3, Go.Proofs.Try.underlying3, tI_4, zI_4, Go.Proofs.Try.underlying4, tI_10, zI_10, Go.Proofs.Try.underlying10, tI_11, zI_11, Go.Proofs.Try.underlying11, tI_12, zI_12, Go.Proofs.Try.underlying12, tI_14, zI_14, fI_14_0, fI_14_1, bI_14, tI_62, zI_62, eI_62, eB_62, eZ_62, Go.Proofs.Try.underlying62, tI_64, zI_64, fI_64_0, fI_64_1, bI_64⟩
theorem c_l12Is (s : Sv) (k : Int) (st : Store) : ACalls prog 86 [svAv s, .int .i64 k] st (fun r st' => r = .bool (decide (0 ≤ k) && decide (k < s.cs.length)) ∧ st' = st) := by
  obtain ⟨cs, q⟩ := s
  simp only [svAv]
  refine acalls_fit [1000000] func86 ntmps86 rfl rfl (by kernel_rfl) (by decide +kernel) (by show 2 ≤ _; decide +kernel) ?_
  intro _
  simp -implicitDefEqProofs only [List.length_map, evb0, evb1, evb2, evb3, evb4, evb5, evb6, evb7, evb8, evb9, ↓evZ2, ↓evZ3, ↓Int.cast_ofNat_Int, implies_true, ne_eq, or_false, false_or, or_self, gt_iff_lt, isMut, aFn, List.contains, List.elem, aBox, aField, aLoad, sub, aNil, aPick, aExt, aFld, gd, noJunk, plainOp, aBuildSlice, aBuild, aFill, aParts, seqParts, fitAll, List.range', ↓reduceIte, reduceCtorEq, Nat.reduceEqDiff, Nat.reduceAdd, Nat.reduceLeDiff, Nat.reduceMul, Nat.reduceLT, Nat.reduceBEq, Int.reduceEq, tf_F5_86]
  refine opsG_split (fun h => ?_) (fun h => ?_)
  · have h' : 0 ≤ k := by simpa using h
    simp -implicitDefEqProofs only [h, List.length_map, evb0, evb1, evb2, evb3, evb4, evb5, evb6, evb7, evb8, evb9, ↓evZ2, ↓evZ3, ↓Int.cast_ofNat_Int, implies_true, ne_eq, or_false, false_or, or_self, gt_iff_lt, isMut, aFn, List.contains, List.elem, aBox, aField, aLoad, sub, aNil, aPick, aExt, aFld, gd, noJunk, plainOp, aBuildSlice, aBuild, aFill, aParts, seqParts, fitAll, List.range', ↓reduceIte, reduceCtorEq, Nat.reduceEqDiff, Nat.reduceAdd, Nat.reduceLeDiff, Nat.reduceMul, Nat.reduceLT, Nat.reduceBEq, Int.reduceEq, tf_F5_86]
    all_goals (try simp [h'])
  · have h' : ¬ 0 ≤ k := by simpa using h
    simp -implicitDefEqProofs only [h, evb0, evb1, evb2, evb3, evb4, evb5, evb6, evb7, evb8, evb9, ↓evZ2, ↓evZ3, ↓Int.cast_ofNat_Int, implies_true, ne_eq, or_false, false_or, or_self, gt_iff_lt, isMut, aFn, List.contains, List.elem, aBox, aField, aLoad, sub, aNil, aPick, aExt, aFld, gd, noJunk, plainOp, aBuildSlice, aBuild, aFill, aParts, seqParts, fitAll, List.range', ↓reduceIte, reduceCtorEq, Nat.reduceEqDiff, Nat.reduceAdd, Nat.reduceLeDiff, Nat.reduceMul, Nat.reduceLT, Nat.reduceBEq, Int.reduceEq, tf_F5_86]
    all_goals (try simp [h'])

theorem tf_F5_31 : (type_of% tI_2) ∧ (type_of% zI_2) ∧ (type_of% Go.Proofs.Try.underlying2) ∧ (type_of% tI_3) ∧ (type_of% zI_3) ∧ (type_of% Go.Proofs.Try.underlying3) ∧ (type_of% tI_4) ∧ (type_of% zI_4) ∧ (type_of% Go.Proofs.Try.underlying4) ∧ (type_of% tI_5) ∧ (type_of% zI_5) ∧ (type_of% Go.Proofs.Try.underlying5) ∧ (type_of% tI_6) ∧ (type_of% zI_6) ∧ (type_of% Go.Proofs.Try.underlying6) ∧ (type_of% tI_7) ∧ (type_of% zI_7) ∧ (type_of% fI_7_0) ∧ (type_of% fI_7_1) ∧ (type_of% fI_7_2) ∧ (type_of% fI_7_3) ∧ (type_of% bI_7) ∧ (type_of% tI_10) ∧ (type_of% zI_10) ∧ (type_of% Go.Proofs.Try.underlying10) ∧ (type_of% tI_12) ∧ (type_of% zI_12) ∧ (type_of% Go.Proofs.Try.underlying12) ∧ (type_of% tI_16) ∧ (type_of% zI_16) ∧ (type_of% tI_17) ∧ (type_of% zI_17) ∧ (type_of% tI_18) ∧ (type_of% zI_18) ∧ (type_of% fI_18_0) ∧ (type_of% bI_18) ∧ (type_of% tI_60) ∧ (type_of% zI_60) ∧ (type_of% eI_60) ∧ (type_of% eB_60) ∧ (type_of% eZ_60) ∧ (type_of% Go.Proofs.Try.underlying60) ∧ (type_of% tI_62) ∧ (type_of% zI_62) ∧ (type_of% eI_62) ∧ (type_of% eB_62) ∧ (type_of% eZ_62) ∧ (type_of% Go.Proofs.Try.underlying62) ∧ (type_of% tI_64) ∧ (type_of% zI_64) ∧ (type_of% fI_64_0) ∧ (type_of% fI_64_1) ∧ (type_of% bI_64) ∧ (type_of% tI_121) ∧ (type_of% zI_121) ∧ (type_of% fI_121_0) ∧ (type_of% fI_121_1) ∧ (type_of% fI_121_2) ∧ (type_of% fI_121_3) ∧ (type_of% fI_121_4) ∧ (type_of% fI_121_5) ∧ (type_of% fI_121_6) ∧ (type_of% bI_121) := ⟨tI_2, zI_2, Go.Proofs.Try.underlying2, tI_3, zI_3, Go.Proofs.Try.underlying3, tI_4, zI_4, Go.Proofs.Try.underlying4, tI_5, zI_5, Go.Proofs.Try.underlying5, tI_6, zI_6, Go.Proofs.Try.underlying6, tI_7, zI_7, fI_7_0, fI_7_1, fI_7_2, fI_7_3, bI_7, tI_10, zI_10, Go.Proofs.Try.underlying10, tI_12, zI_12, Go.Proofs.Try.underlying12, tI_16, zI_16, tI_17, zI_17, tI_18, zI_18, fI_18_0, bI_18, tI_60, zI_60, eI_60, eB_60, eZ_60, Go.Proofs.Try.underlying60, tI_62, zI_62, eI_62, eB_62, eZ_62, Go.Proofs.Try.underlying62, tI_64, zI_64, fI_64_0, fI_64_1, bI_64, tI_121, zI_121, fI_121_0, fI_121_1, fI_121_2, fI_121_3, fI_121_4, fI_121_5, fI_121_6, bI_121⟩
theorem o_spec_ClientOut (s : Sv) (k : Int) (st : Store) (hb : szCt s.cs ≤ 1048576) : ACalls prog 31 [svAv s, .int .i64 k] st (Made st (frs (cout s k))) := by
  have hlen := cout_sz (k := k) hb
  have hIs := c_l12Is s k
  obtain ⟨cs, q⟩ := s
  simp only [svAv] at hIs ⊢
  unfold cout at *
  simp only at *
  refine acalls_fit [1000000] func31 ntmps31 rfl rfl (by kernel_rfl) (by decide +kernel) (by show 2 ≤ _; decide +kernel) ?_
  intro _
  simp -implicitDefEqProofs only [evb0, evb1, evb2, evb3, evb4, evb5, evb6, evb7, evb8, evb9, ↓evZ2, ↓evZ3, ↓Int.cast_ofNat_Int, implies_true, ne_eq, or_false, false_or, or_self, gt_iff_lt, isMut, aFn, List.contains, List.elem, aBox, aField, aLoad, sub, aNil, aPick, aExt, aFld, gd, noJunk, plainOp, aBuildSlice, aBuild, aFill, aParts, seqParts, fitAll, List.range', ↓reduceIte, reduceCtorEq, Nat.reduceEqDiff, Nat.reduceAdd, Nat.reduceLeDiff, Nat.reduceMul, Nat.reduceLT, Nat.reduceBEq, Int.reduceEq, tf_F5_31]
  refine (hIs _).to ?_
  simp -implicitDefEqProofs only [evb0, evb1, evb2, evb3, evb4, evb5, evb6, evb7, evb8, evb9, ↓evZ2, ↓evZ3, ↓Int.cast_ofNat_Int, implies_true, ne_eq, or_false, false_or, or_self, gt_iff_lt, isMut, aFn, List.contains, List.elem, aBox, aField, aLoad, sub, aNil, aPick, aExt, aFld, gd, noJunk, plainOp, aBuildSlice, aBuild, aFill, aParts, seqParts, fitAll, List.range', ↓reduceIte, reduceCtorEq, Nat.reduceEqDiff, Nat.reduceAdd, Nat.reduceLeDiff, Nat.reduceMul, Nat.reduceLT, Nat.reduceBEq, Int.reduceEq, tf_F5_31]
  refine cond_split (fun h => ?_) (fun h => ?_)
  · simp -implicitDefEqProofs only [evb0, evb1, evb2, evb3, evb4, evb5, evb6, evb7, evb8, evb9, ↓evZ2, ↓evZ3, ↓Int.cast_ofNat_Int, implies_true, ne_eq, or_false, false_or, or_self, gt_iff_lt, isMut, aFn, List.contains, List.elem, aBox, aField, aLoad, sub, aNil, aPick, aExt, aFld, gd, noJunk, plainOp, aBuildSlice, aBuild, aFill, aParts, seqParts, fitAll, List.range', ↓reduceIte, reduceCtorEq, Nat.reduceEqDiff, Nat.reduceAdd, Nat.reduceLeDiff, Nat.reduceMul, Nat.reduceLT, Nat.reduceBEq, Int.reduceEq, tf_F5_31]
    have : (if 0 ≤ k then (cs[k.toNat]?.map Clt.out).getD [] else []) = [] := by
      split
      · rename_i h0
        rw [List.getElem?_eq_none (by simp [h0] at h; omega)]
        rfl
      · rfl
    rw [this]
    exact ⟨[], List.nodup_nil, by simp, by simp [Own], fun _ _ => rfl⟩
  have h' : 0 ≤ k ∧ k < cs.length := by simpa using h
  rw [if_pos h'.1] at hlen ⊢
  obtain ⟨n, rfl⟩ : ∃ n : Nat, k = n := ⟨k.toNat, by omega⟩
  obtain ⟨x, hx⟩ : ∃ x, cs[n]? = some x := ⟨_, List.getElem?_eq_getElem (by omega)⟩
  rw [Int.toNat_natCast, hx] at hlen ⊢
  simp only [Option.map_some, Option.getD_some] at hlen ⊢
  have hat := ev_at (av := cltAv) (P := prog) eI_62 hx (cltAv_width x)
  obtain ⟨r, bk, wt, pr, ac, ss, td, ou⟩ := x
  simp only [cltAv, cltCells] at hat hlen ⊢
  simp -implicitDefEqProofs only [hat, evb0, evb1, evb2, evb3, evb4, evb5, evb6, evb7, evb8, evb9, ↓evZ2, ↓evZ3, ↓Int.cast_ofNat_Int, implies_true, ne_eq, or_false, false_or, or_self, gt_iff_lt, isMut, aFn, List.contains, List.elem, aBox, aField, aLoad, sub, aNil, aPick, aExt, aFld, gd, noJunk, plainOp, aBuildSlice, aBuild, aFill, aParts, seqParts, fitAll, List.range', ↓reduceIte, reduceCtorEq, Nat.reduceEqDiff, Nat.reduceAdd, Nat.reduceLeDiff, Nat.reduceMul, Nat.reduceLT, Nat.reduceBEq, Int.reduceEq, tf_F5_31]
  refine app_frs (by unfold szF at hlen; omega) fun b hb' => ?_
  simp -implicitDefEqProofs only [hat, evb0, evb1, evb2, evb3, evb4, evb5, evb6, evb7, evb8, evb9, ↓evZ2, ↓evZ3, ↓Int.cast_ofNat_Int, implies_true, ne_eq, or_false, false_or, or_self, gt_iff_lt, isMut, aFn, List.contains, List.elem, aBox, aField, aLoad, sub, aNil, aPick, aExt, aFld, gd, noJunk, plainOp, aBuildSlice, aBuild, aFill, aParts, seqParts, fitAll, List.range', ↓reduceIte, reduceCtorEq, Nat.reduceEqDiff, Nat.reduceAdd, Nat.reduceLeDiff, Nat.reduceMul, Nat.reduceLT, Nat.reduceBEq, Int.reduceEq, tf_F5_31]
  exact made_frs hb'

theorem tf_F5_33 : (type_of% tI_2) ∧ (type_of% zI_2) ∧ (type_of% Go.Proofs.Try.underlying2) ∧ (type_of% tI_3) ∧ (type_of% zI_3) ∧ (type_of% Go.Proofs.Try.underlying3) ∧ (type_of% tI_4) ∧ (type_of% zI_4) ∧ (type_of% Go.Proofs.Try.underlying4) ∧ (type_of% tI_5) ∧ (type_of% zI_5) ∧ (type_of% Go.Proofs.Try.underlying5) ∧ (type_of% tI_6) ∧ (type_of% zI_6) ∧ (type_of% Go.Proofs.Try.underlying6) ∧ (type_of% tI_7) ∧ (type_of% zI_7) ∧ (type_of% fI_7_0) ∧ (type_of% fI_7_1) ∧ (type_of% fI_7_2) ∧ (type_of% fI_7_3) ∧ (type_of% bI_7) ∧ (type_of% tI_8) ∧ (type_of% zI_8) ∧ (type_of% fI_8_0) ∧ (type_of% fI_8_1) ∧ (type_of% fI_8_2) ∧ (type_of% fI_8_3) ∧ (type_of% bI_8) ∧ (type_of% tI_9) ∧ (type_of% zI_9) ∧ (type_of% Go.Proofs.Try.underlying9) ∧ (type_of% tI_10) ∧ (type_of% zI_10) ∧ (type_of% Go.Proofs.Try.underlying10) ∧ (type_of% tI_12) ∧ (type_of% zI_12) ∧ (type_of% Go.Proofs.Try.underlying12) ∧ (type_of% tI_17) ∧ (type_of% zI_17) ∧ (type_of% tI_18) ∧ (type_of% zI_18) ∧ (type_of% fI_18_0) ∧ (type_of% bI_18) ∧ (type_of% tI_19) ∧ (type_of% zI_19) ∧ (type_of% fI_19_0) ∧ (type_of% bI_19) ∧ (type_of% tI_60) ∧ (type_of% zI_60) ∧ (type_of% eI_60) ∧ (type_of% eB_60) ∧ (type_of% eZ_60) ∧ (type_of% Go.Proofs.Try.underlying60) ∧ (type_of% tI_62) ∧ (type_of% zI_62) ∧ (type_of% eI_62) ∧ (type_of% eB_62) ∧ (type_of% eZ_62) ∧ (type_of% Go.Proofs.Try.underlying62) ∧ (type_of% tI_64) ∧ (type_of% zI_64) ∧ (type_of% fI_64_0) ∧ (type_of% fI_64_1) ∧ (type_of% bI_64) ∧ (type_of% tI_121) ∧ (type_of% zI_121) ∧ (type_of% fI_121_0) ∧ (type_of% fI_121_1) ∧ (type_of% fI_121_2) ∧ (type_of% fI_121_3) ∧ (type_of% fI_121_4) ∧ (type_of% fI_121_5) ∧ (type_of% fI_121_6) ∧ (type_of% bI_121) ∧ (type_of% tI_172) ∧ (type_of% zI_172) ∧ (type_of% fI_172_0) ∧ (type_of% fI_172_1) ∧ (type_of% fI_172_2) ∧ (type_of% fI_172_3) ∧ (type_of% fI_172_4) ∧ (type_of% fI_172_5) ∧ (type_of% fI_172_6) ∧ (type_of% bI_172) := ⟨tI_2, zI_2, Go.Proofs.Try.underlying2, tI_3, zI_3, Go.Proofs.Try.underlying3, tI_4, zI_4, Go.Proofs.Try.underlying4, tI_5, zI_5, Go.Proofs.Try.underlying5, tI_6, zI_6, Go.Proofs.Try.underlying6, tI_7, zI_7, fI_7_0, fI_7_1, fI_7_2, fI_7_3, bI_7, tI_8, zI_8, fI_8_0, fI_8_1, fI_8_2, fI_8_3, bI_8, tI_9, zI_9, Go.Proofs.Try.underlying9, tI_10, zI_10, Go.Proofs.Try.underlying10, tI_12, zI_12, Go.Proofs.Try.underlying12, tI_17, zI_17, tI_18, zI_18, fI_18_0, bI_18, tI_19, zI_19, fI_19_0, bI_19, tI_60, zI_60, eI_60, eB_60, eZ_60, Go.Proofs.Try.underlying60, tI_62, zI_62, eI_62, eB_62, eZ_62, Go.Proofs.Try.underlying62, tI_64, zI_64, fI_64_0, fI_64_1, bI_64, tI_121, zI_121, fI_121_0, fI_121_1, fI_121_2, fI_121_3, fI_121_4, fI_121_5, fI_121_6, bI_121, tI_172, zI_172, fI_172_0, fI_172_1, fI_172_2, fI_172_3, fI_172_4, fI_172_5, fI_172_6, bI_172⟩
theorem o_impl_ClientOut (s : Sv) (k : Int) (st : Store) (hb : szCt s.cs ≤ 1048576) : ACalls prog 33 [svAv s, .int .i64 k] st (Made st (frs (cout s k))) := by
  have hlen := cout_sz (k := k) hb
  obtain ⟨cs, q⟩ := s
  simp only [svAv]
  unfold cout at *
  simp only at *
  refine acalls_fit [1000000] func33 ntmps33 rfl rfl (by kernel_rfl) (by decide +kernel) (by show 2 ≤ _; decide +kernel) ?_
  intro _
  have hw := wrap64 (n := (cs.length : Int) - 1) (by unfold szCt at hb; omega) (by unfold szCt at hb; omega)
  simp -implicitDefEqProofs only [List.length_map, hw, evb0, evb1, evb2, evb3, evb4, evb5, evb6, evb7, evb8, evb9, ↓evZ2, ↓evZ3, ↓Int.cast_ofNat_Int, implies_true, ne_eq, or_false, false_or, or_self, gt_iff_lt, isMut, aFn, List.contains, List.elem, aBox, aField, aLoad, sub, aNil, aPick, aExt, aFld, gd, noJunk, plainOp, aBuildSlice, aBuild, aFill, aParts, seqParts, fitAll, List.range', ↓reduceIte, reduceCtorEq, Nat.reduceEqDiff, Nat.reduceAdd, Nat.reduceLeDiff, Nat.reduceMul, Nat.reduceLT, Nat.reduceBEq, Int.reduceEq, tf_F5_33]
  refine (c_within k 0 _ _).to ?_
  simp -implicitDefEqProofs only [List.length_map, hw, evb0, evb1, evb2, evb3, evb4, evb5, evb6, evb7, evb8, evb9, ↓evZ2, ↓evZ3, ↓Int.cast_ofNat_Int, implies_true, ne_eq, or_false, false_or, or_self, gt_iff_lt, isMut, aFn, List.contains, List.elem, aBox, aField, aLoad, sub, aNil, aPick, aExt, aFld, gd, noJunk, plainOp, aBuildSlice, aBuild, aFill, aParts, seqParts, fitAll, List.range', ↓reduceIte, reduceCtorEq, Nat.reduceEqDiff, Nat.reduceAdd, Nat.reduceLeDiff, Nat.reduceMul, Nat.reduceLT, Nat.reduceBEq, Int.reduceEq, tf_F5_33]
  refine cond_split (fun h => ?_) (fun h => ?_)
  · simp -implicitDefEqProofs only [List.length_map, hw, evb0, evb1, evb2, evb3, evb4, evb5, evb6, evb7, evb8, evb9, ↓evZ2, ↓evZ3, ↓Int.cast_ofNat_Int, implies_true, ne_eq, or_false, false_or, or_self, gt_iff_lt, isMut, aFn, List.contains, List.elem, aBox, aField, aLoad, sub, aNil, aPick, aExt, aFld, gd, noJunk, plainOp, aBuildSlice, aBuild, aFill, aParts, seqParts, fitAll, List.range', ↓reduceIte, reduceCtorEq, Nat.reduceEqDiff, Nat.reduceAdd, Nat.reduceLeDiff, Nat.reduceMul, Nat.reduceLT, Nat.reduceBEq, Int.reduceEq, tf_F5_33]
    have : (if 0 ≤ k then (cs[k.toNat]?.map Clt.out).getD [] else []) = [] := by
      split
      · rename_i h0
        rw [List.getElem?_eq_none (by simp [h0] at h; omega)]
        rfl
      · rfl
    rw [this]
    exact ⟨[], List.nodup_nil, by simp, by simp [Own], fun _ _ => rfl⟩
  have h' : 0 ≤ k ∧ k < cs.length := by simp at h; omega
  rw [if_pos h'.1] at hlen ⊢
  obtain ⟨n, rfl⟩ : ∃ n : Nat, k = n := ⟨k.toNat, by omega⟩
  obtain ⟨x, hx⟩ : ∃ x, cs[n]? = some x := ⟨_, List.getElem?_eq_getElem (by omega)⟩
  rw [Int.toNat_natCast, hx] at hlen ⊢
  simp only [Option.map_some, Option.getD_some] at hlen ⊢
  have hat := ev_at (av := cltAv) (P := prog) eI_62 hx (cltAv_width x)
  obtain ⟨r, bk, wt, pr, ac, ss, td, ou⟩ := x
  simp only [cltAv, cltCells] at hat hlen ⊢
  simp -implicitDefEqProofs only [hat, evb0, evb1, evb2, evb3, evb4, evb5, evb6, evb7, evb8, evb9, ↓evZ2, ↓evZ3, ↓Int.cast_ofNat_Int, implies_true, ne_eq, or_false, false_or, or_self, gt_iff_lt, isMut, aFn, List.contains, List.elem, aBox, aField, aLoad, sub, aNil, aPick, aExt, aFld, gd, noJunk, plainOp, aBuildSlice, aBuild, aFill, aParts, seqParts, fitAll, List.range', ↓reduceIte, reduceCtorEq, Nat.reduceEqDiff, Nat.reduceAdd, Nat.reduceLeDiff, Nat.reduceMul, Nat.reduceLT, Nat.reduceBEq, Int.reduceEq, tf_F5_33]
  refine (o_CloneFr ou _ (by unfold szF at hlen; omega)).mono ?_
  rintro r s' hm
  simp -implicitDefEqProofs only [hat, evb0, evb1, evb2, evb3, evb4, evb5, evb6, evb7, evb8, evb9, ↓evZ2, ↓evZ3, ↓Int.cast_ofNat_Int, implies_true, ne_eq, or_false, false_or, or_self, gt_iff_lt, isMut, aFn, List.contains, List.elem, aBox, aField, aLoad, sub, aNil, aPick, aExt, aFld, gd, noJunk, plainOp, aBuildSlice, aBuild, aFill, aParts, seqParts, fitAll, List.range', ↓reduceIte, reduceCtorEq, Nat.reduceEqDiff, Nat.reduceAdd, Nat.reduceLeDiff, Nat.reduceMul, Nat.reduceLT, Nat.reduceBEq, Int.reduceEq, tf_F5_33]
  exact hm
end Go.AW


/- What was sent to a client: the law. -/
namespace Go.AW
open Go.Proofs.Try
set_option linter.unusedSimpArgs false
set_option maxRecDepth 100000

theorem svAv_width (s : Sv) : (svAv s).width = 2 := rfl
theorem svAv_store (s : Sv) : (svAv s).cells.all AV.storable = true := rfl
theorem svAv_junk (s : Sv) : (svAv s).isJunk = false := rfl
theorem svAv_agg (s : Sv) : (svAv s).isAgg = true := rfl
theorem cout_mks (s : Sv) (k : Int) (h : szCt s.cs ≤ 1048576) : sumL frMks (cout s k) ≤ 2097152 := by
  have h1 := frMks_le (cout s k)
  have h2 := cout_sz (k := k) h
  omega

theorem tf_F6_6 : (type_of% tI_2) ∧ (type_of% zI_2) ∧ (type_of% Go.Proofs.Try.underlying2) ∧ (type_of% tI_3) ∧ (type_of% zI_3) ∧ (type_of% Go.Proofs.Try.underlying3) ∧ (type_of% tI_4) ∧ (type_of% zI_4) ∧ (type_of% Go.Proofs.Try.underlying4) ∧ (type_of% tI_5) ∧ (type_of% zI_5) ∧ (type_of% Go.Proofs.Try.underlying5) ∧ (type_of% tI_6) ∧ (type_of% zI_6) ∧ (type_of% Go.Proofs.Try.underlying6) ∧ (type_of% tI_7) ∧ (type_of% zI_7) ∧ (type_of% fI_7_0) ∧ (type_of% fI_7_1) ∧ (type_of% fI_7_2) ∧ (type_of% fI_7_3) ∧ (type_of% bI_7) ∧ (type_of% tI_8) ∧ (type_of% zI_8) ∧ (type_of% fI_8_0) ∧ (type_of% fI_8_1) ∧ (type_of% fI_8_2) ∧ (type_of% fI_8_3) ∧ (type_of% bI_8) ∧ (type_of% tI_9) ∧ (type_of% zI_9) ∧ (type_of% Go.Proofs.Try.underlying9) ∧ (type_of% tI_10) ∧ (type_of% zI_10) ∧ (type_of% Go.Proofs.Try.underlying10) ∧ (type_of% tI_11) ∧ (type_of% zI_11) ∧ (type_of% Go.Proofs.Try.underlying11) ∧ (type_of% tI_12) ∧ (type_of% zI_12) ∧ (type_of% Go.Proofs.Try.underlying12) ∧ (type_of% tI_13) ∧ (type_of% zI_13) ∧ (type_of% fI_13_0) ∧ (type_of% fI_13_1) ∧ (type_of% bI_13) ∧ (type_of% tI_14) ∧ (type_of% zI_14) ∧ (type_of% fI_14_0) ∧ (type_of% fI_14_1) ∧ (type_of% bI_14) ∧ (type_of% tI_15) ∧ (type_of% zI_15) ∧ (type_of% tI_16) ∧ (type_of% zI_16) ∧ (type_of% tI_17) ∧ (type_of% zI_17) ∧ (type_of% tI_18) ∧ (type_of% zI_18) ∧ (type_of% fI_18_0) ∧ (type_of% bI_18) ∧ (type_of% tI_19) ∧ (type_of% zI_19) ∧ (type_of% fI_19_0) ∧ (type_of% bI_19) ∧ (type_of% tI_21) ∧ (type_of% zI_21) ∧ (type_of% Go.Proofs.Try.underlying21) ∧ (type_of% tI_22) ∧ (type_of% zI_22) ∧ (type_of% eI_22) ∧ (type_of% eB_22) ∧ (type_of% eZ_22) ∧ (type_of% Go.Proofs.Try.underlying22) ∧ (type_of% tI_23) ∧ (type_of% zI_23) ∧ (type_of% fI_23_0) ∧ (type_of% bI_23) ∧ (type_of% tI_24) ∧ (type_of% zI_24) ∧ (type_of% fI_24_0) ∧ (type_of% bI_24) ∧ (type_of% tI_27) ∧ (type_of% zI_27) ∧ (type_of% eI_27) ∧ (type_of% eB_27) ∧ (type_of% eZ_27) ∧ (type_of% Go.Proofs.Try.underlying27) ∧ (type_of% tI_31) ∧ (type_of% zI_31) ∧ (type_of% fI_31_0) ∧ (type_of% bI_31) ∧ (type_of% tI_32) ∧ (type_of% zI_32) ∧ (type_of% fI_32_0) ∧ (type_of% bI_32) ∧ (type_of% tI_44) ∧ (type_of% zI_44) ∧ (type_of% eI_44) ∧ (type_of% eB_44) ∧ (type_of% eZ_44) ∧ (type_of% Go.Proofs.Try.underlying44) ∧ (type_of% tI_58) ∧ (type_of% zI_58) ∧ (type_of% fI_58_0) ∧ (type_of% fI_58_1) ∧ (type_of% bI_58) ∧ (type_of% tI_60) ∧ (type_of% zI_60) ∧ (type_of% eI_60) ∧ (type_of% eB_60) ∧ (type_of% eZ_60) ∧ (type_of% Go.Proofs.Try.underlying60) ∧ (type_of% tI_62) ∧ (type_of% zI_62) ∧ (type_of% eI_62) ∧ (type_of% eB_62) ∧ (type_of% eZ_62) ∧ (type_of% Go.Proofs.Try.underlying62) ∧ (type_of% tI_63) ∧ (type_of% zI_63) ∧ (type_of% fI_63_0) ∧ (type_of% fI_63_1) ∧ (type_of% bI_63) ∧ (type_of% tI_64) ∧ (type_of% zI_64) ∧ (type_of% fI_64_0) ∧ (type_of% fI_64_1) ∧ (type_of% bI_64) ∧ (type_of% tI_74) ∧ (type_of% zI_74) ∧ (type_of% fI_74_0) ∧ (type_of% fI_74_1) ∧ (type_of% fI_74_2) ∧ (type_of% fI_74_3) ∧ (type_of% fI_74_4) ∧ (type_of% fI_74_5) ∧ (type_of% bI_74) := ⟨tI_2, zI_2, Go.Proofs.Try.underlying2, tI_3, zI_3, Go.Proofs.Try.underlying3, tI_4, zI_4, Go.Proofs.Try.underlying4, tI_5, zI_5, Go.Proofs.Try.underlying5, tI_6, zI_6, Go.Proofs.Try.underlying6, tI_7, zI_7, fI_7_0, fI_7_1, fI_7_2, fI_7_3, bI_7, tI_8, zI_8, fI_8_0, fI_8_1, fI_8_2, fI_8_3, bI_8, tI_9, zI_9, Go.Proofs.Try.underlying9, tI_10, zI_10, Go.Proofs.Try.underlying10, tI_11, zI_11, Go.Proofs.Try.underlying11, tI_12, zI_12, Go.Proofs.Try.underlying12, tI_13, zI_13, fI_13_0, fI_13_1, bI_13, tI_14, zI_14, fI_14_0, fI_14_1, bI_14, tI_15, zI_15, tI_16, zI_16, tI_17, zI_17, tI_18, zI_18, fI_18_0, bI_18, tI_19, zI_19, fI_19_0, bI_19, tI_21, zI_21, Go.Proofs.Try.underlying21, tI_22, zI_22, eI_22, eB_22, eZ_22, Go.Proofs.Try.underlying22, tI_23, zI_23, fI_23_0, bI_23, tI_24, zI_24, fI_24_0, bI_24, tI_27, zI_27, eI_27, eB_27, eZ_27, Go.Proofs.Try.underlying27, tI_31, zI_31, fI_31_0, bI_31, tI_32, zI_32, fI_32_0, bI_32, tI_44, zI_44, eI_44, eB_44, eZ_44, Go.Proofs.Try.underlying44, tI_58, zI_58, fI_58_0, fI_58_1, bI_58, tI_60, zI_60, eI_60, eB_60, eZ_60, Go.Proofs.Try.underlying60, tI_62, zI_62, eI_62, eB_62, eZ_62, Go.Proofs.Try.underlying62, tI_63, zI_63, fI_63_0, fI_63_1, bI_63, tI_64, zI_64, fI_64_0, fI_64_1, bI_64, tI_74, zI_74, fI_74_0, fI_74_1, fI_74_2, fI_74_3, fI_74_4, fI_74_5, bI_74⟩
theorem c_FnExactClientOut (s : Sv) (k : Int) (st : Store) : ACalls prog 6 [svAv s, .int .i64 k] st (fun r _ => r = .bool true) := by
  refine acalls_fit [1000000] func6 ntmps6 rfl rfl (by kernel_rfl) (by decide +kernel) (by show 2 ≤ _; decide +kernel) ?_
  intro _
  simp -implicitDefEqProofs only [svAv_width, svAv_store, svAv_junk, svAv_agg, evb0, evb1, evb2, evb3, evb4, evb5, evb6, evb7, evb8, evb9, ↓evZ2, ↓evZ3, ↓Int.cast_ofNat_Int, implies_true, ne_eq, or_false, false_or, or_self, gt_iff_lt, isMut, aFn, List.contains, List.elem, aBox, aField, aLoad, sub, aNil, aPick, aExt, aFld, gd, noJunk, plainOp, aBuildSlice, aBuild, aFill, aParts, seqParts, fitAll, List.range', ↓reduceIte, reduceCtorEq, Nat.reduceEqDiff, Nat.reduceAdd, Nat.reduceLeDiff, Nat.reduceMul, Nat.reduceLT, Nat.reduceBEq, Int.reduceEq, tf_F6_6]
  refine (c_szServer s _ st (by omega) (by omega)).to ?_
  simp -implicitDefEqProofs only [svAv_width, svAv_store, svAv_junk, svAv_agg, evb0, evb1, evb2, evb3, evb4, evb5, evb6, evb7, evb8, evb9, ↓evZ2, ↓evZ3, ↓Int.cast_ofNat_Int, implies_true, ne_eq, or_false, false_or, or_self, gt_iff_lt, isMut, aFn, List.contains, List.elem, aBox, aField, aLoad, sub, aNil, aPick, aExt, aFld, gd, noJunk, plainOp, aBuildSlice, aBuild, aFill, aParts, seqParts, fitAll, List.range', ↓reduceIte, reduceCtorEq, Nat.reduceEqDiff, Nat.reduceAdd, Nat.reduceLeDiff, Nat.reduceMul, Nat.reduceLT, Nat.reduceBEq, Int.reduceEq, tf_F6_6]
  refine cond_split (fun h1 => ?_) (fun h1 => ?_)
  · simp -implicitDefEqProofs only [svAv_width, svAv_store, svAv_junk, svAv_agg, evb0, evb1, evb2, evb3, evb4, evb5, evb6, evb7, evb8, evb9, ↓evZ2, ↓evZ3, ↓Int.cast_ofNat_Int, implies_true, ne_eq, or_false, false_or, or_self, gt_iff_lt, isMut, aFn, List.contains, List.elem, aBox, aField, aLoad, sub, aNil, aPick, aExt, aFld, gd, noJunk, plainOp, aBuildSlice, aBuild, aFill, aParts, seqParts, fitAll, List.range', ↓reduceIte, reduceCtorEq, Nat.reduceEqDiff, Nat.reduceAdd, Nat.reduceLeDiff, Nat.reduceMul, Nat.reduceLT, Nat.reduceBEq, Int.reduceEq, tf_F6_6]
  simp only [decide_eq_false_iff_not, szR_neg] at h1
  have ha : szCt s.cs ≤ 1048576 := by omega
  have hm1 := cltMks_sum s.cs
  have hz : s.cs.length + sumL cltSz s.cs ≤ 1048576 := ha
  have hm2 := cout_mks s k ha
  have hsp := fun st => (o_spec_ClientOut s k st ha).made
  have him := fun st => o_impl_ClientOut s k st ha
  have hto := fun st => o_toServer s st ha
  generalize hG : cout s k = G at *
  simp -implicitDefEqProofs only [svAv_width, svAv_store, svAv_junk, svAv_agg, evb0, evb1, evb2, evb3, evb4, evb5, evb6, evb7, evb8, evb9, ↓evZ2, ↓evZ3, ↓Int.cast_ofNat_Int, implies_true, ne_eq, or_false, false_or, or_self, gt_iff_lt, isMut, aFn, List.contains, List.elem, aBox, aField, aLoad, sub, aNil, aPick, aExt, aFld, gd, noJunk, plainOp, aBuildSlice, aBuild, aFill, aParts, seqParts, fitAll, List.range', ↓reduceIte, reduceCtorEq, Nat.reduceEqDiff, Nat.reduceAdd, Nat.reduceLeDiff, Nat.reduceMul, Nat.reduceLT, Nat.reduceBEq, Int.reduceEq, tf_F6_6]
  refine ((hto _).made).to ?_
  simp -implicitDefEqProofs only [svAv_width, svAv_store, svAv_junk, svAv_agg, evb0, evb1, evb2, evb3, evb4, evb5, evb6, evb7, evb8, evb9, ↓evZ2, ↓evZ3, ↓Int.cast_ofNat_Int, implies_true, ne_eq, or_false, false_or, or_self, gt_iff_lt, isMut, aFn, List.contains, List.elem, aBox, aField, aLoad, sub, aNil, aPick, aExt, aFld, gd, noJunk, plainOp, aBuildSlice, aBuild, aFill, aParts, seqParts, fitAll, List.range', ↓reduceIte, reduceCtorEq, Nat.reduceEqDiff, Nat.reduceAdd, Nat.reduceLeDiff, Nat.reduceMul, Nat.reduceLT, Nat.reduceBEq, Int.reduceEq, tf_F6_6]
  refine (hsp _).to ?_
  simp -implicitDefEqProofs only [svAv_width, svAv_store, svAv_junk, svAv_agg, evb0, evb1, evb2, evb3, evb4, evb5, evb6, evb7, evb8, evb9, ↓evZ2, ↓evZ3, ↓Int.cast_ofNat_Int, implies_true, ne_eq, or_false, false_or, or_self, gt_iff_lt, isMut, aFn, List.contains, List.elem, aBox, aField, aLoad, sub, aNil, aPick, aExt, aFld, gd, noJunk, plainOp, aBuildSlice, aBuild, aFill, aParts, seqParts, fitAll, List.range', ↓reduceIte, reduceCtorEq, Nat.reduceEqDiff, Nat.reduceAdd, Nat.reduceLeDiff, Nat.reduceMul, Nat.reduceLT, Nat.reduceBEq, Int.reduceEq, tf_F6_6]
  refine (hto _).mono ?_
  rintro o0 s1 ⟨b0, n0, f0, O0, k0⟩
  obtain ⟨hw0, _, hs0, hj0, ha0⟩ := Own.fits O0 (svAv_width s) (svAv_store s)
  rw [svAv_agg] at ha0
  simp -implicitDefEqProofs only [svAv_width, svAv_store, svAv_junk, svAv_agg, hw0, hs0, hj0, ha0, evb0, evb1, evb2, evb3, evb4, evb5, evb6, evb7, evb8, evb9, ↓evZ2, ↓evZ3, ↓Int.cast_ofNat_Int, implies_true, ne_eq, or_false, false_or, or_self, gt_iff_lt, isMut, aFn, List.contains, List.elem, aBox, aField, aLoad, sub, aNil, aPick, aExt, aFld, gd, noJunk, plainOp, aBuildSlice, aBuild, aFill, aParts, seqParts, fitAll, List.range', ↓reduceIte, reduceCtorEq, Nat.reduceEqDiff, Nat.reduceAdd, Nat.reduceLeDiff, Nat.reduceMul, Nat.reduceLT, Nat.reduceBEq, Int.reduceEq, tf_F6_6]
  refine (ACalls.seeMade (fun st => him st) (Seen.own O0 (Seen.same .nil))).mono ?_
  rintro og s3 ⟨bg, ng, fg, Og, kg⟩
  have d0g : Apart b0 bg := O0.apart fg
  have O0' := O0.beside kg d0g
  obtain ⟨hcg, hsg, hag, hwg, hjg⟩ := Own.one' Og
  simp -implicitDefEqProofs only [svAv_width, svAv_store, svAv_junk, svAv_agg, hw0, hs0, hj0, ha0, hsg, hjg, hag, evb0, evb1, evb2, evb3, evb4, evb5, evb6, evb7, evb8, evb9, ↓evZ2, ↓evZ3, ↓Int.cast_ofNat_Int, implies_true, ne_eq, or_false, false_or, or_self, gt_iff_lt, isMut, aFn, List.contains, List.elem, aBox, aField, aLoad, sub, aNil, aPick, aExt, aFld, gd, noJunk, plainOp, aBuildSlice, aBuild, aFill, aParts, seqParts, fitAll, List.range', ↓reduceIte, reduceCtorEq, Nat.reduceEqDiff, Nat.reduceAdd, Nat.reduceLeDiff, Nat.reduceMul, Nat.reduceLT, Nat.reduceBEq, Int.reduceEq, tf_F6_6]
  refine (ACalls.see (fun st => c_eqFrameS' G st) (Seen.own Og (Seen.same .nil)) rfl).to ?_
  simp -implicitDefEqProofs only [beq_self_eq_true, svAv_width, svAv_store, svAv_junk, svAv_agg, hw0, hs0, hj0, ha0, hsg, hjg, hag, evb0, evb1, evb2, evb3, evb4, evb5, evb6, evb7, evb8, evb9, ↓evZ2, ↓evZ3, ↓Int.cast_ofNat_Int, implies_true, ne_eq, or_false, false_or, or_self, gt_iff_lt, isMut, aFn, List.contains, List.elem, aBox, aField, aLoad, sub, aNil, aPick, aExt, aFld, gd, noJunk, plainOp, aBuildSlice, aBuild, aFill, aParts, seqParts, fitAll, List.range', ↓reduceIte, reduceCtorEq, Nat.reduceEqDiff, Nat.reduceAdd, Nat.reduceLeDiff, Nat.reduceMul, Nat.reduceLT, Nat.reduceBEq, Int.reduceEq, tf_F6_6]
  refine arun_drawA mixed (by decide +kernel) (by decide +kernel) ?_
  simp -implicitDefEqProofs only [svAv_width, svAv_store, svAv_junk, svAv_agg, hw0, hs0, hj0, ha0, hsg, hjg, hag, evb0, evb1, evb2, evb3, evb4, evb5, evb6, evb7, evb8, evb9, ↓evZ2, ↓evZ3, ↓Int.cast_ofNat_Int, implies_true, ne_eq, or_false, false_or, or_self, gt_iff_lt, isMut, aFn, List.contains, List.elem, aBox, aField, aLoad, sub, aNil, aPick, aExt, aFld, gd, noJunk, plainOp, aBuildSlice, aBuild, aFill, aParts, seqParts, fitAll, List.range', ↓reduceIte, reduceCtorEq, Nat.reduceEqDiff, Nat.reduceAdd, Nat.reduceLeDiff, Nat.reduceMul, Nat.reduceLT, Nat.reduceBEq, Int.reduceEq, tf_F6_6]
  refine callH_mk ((hto _).made) ?_
  simp -implicitDefEqProofs only [svAv_width, svAv_store, svAv_junk, svAv_agg, hw0, hs0, hj0, ha0, hsg, hjg, hag, evb0, evb1, evb2, evb3, evb4, evb5, evb6, evb7, evb8, evb9, ↓evZ2, ↓evZ3, ↓Int.cast_ofNat_Int, implies_true, ne_eq, or_false, false_or, or_self, gt_iff_lt, isMut, aFn, List.contains, List.elem, aBox, aField, aLoad, sub, aNil, aPick, aExt, aFld, gd, noJunk, plainOp, aBuildSlice, aBuild, aFill, aParts, seqParts, fitAll, List.range', ↓reduceIte, reduceCtorEq, Nat.reduceEqDiff, Nat.reduceAdd, Nat.reduceLeDiff, Nat.reduceMul, Nat.reduceLT, Nat.reduceBEq, Int.reduceEq, tf_F6_6]
  refine callH_mk (ACalls.see (fun st => c_eqServer s st) (Seen.own O0' (Seen.same .nil)) rfl) ?_
  simp -implicitDefEqProofs only [svAv_width, svAv_store, svAv_junk, svAv_agg, hw0, hs0, hj0, ha0, hsg, hjg, hag, evb0, evb1, evb2, evb3, evb4, evb5, evb6, evb7, evb8, evb9, ↓evZ2, ↓evZ3, ↓Int.cast_ofNat_Int, implies_true, ne_eq, or_false, false_or, or_self, gt_iff_lt, isMut, aFn, List.contains, List.elem, aBox, aField, aLoad, sub, aNil, aPick, aExt, aFld, gd, noJunk, plainOp, aBuildSlice, aBuild, aFill, aParts, seqParts, fitAll, List.range', ↓reduceIte, reduceCtorEq, Nat.reduceEqDiff, Nat.reduceAdd, Nat.reduceLeDiff, Nat.reduceMul, Nat.reduceLT, Nat.reduceBEq, Int.reduceEq, tf_F6_6]
  refine (c_markServer s 1 o0 b0 s3 O0' n0 (by omega) (by omega)).mono ?_
  rintro _ s4 ⟨rfl, k4⟩
  have Og4 := Og.beside k4 d0g.symm
  have hneg0 : ¬ (1 + (sumL cltMks s.cs : Int) < 0) := by omega
  simp -implicitDefEqProofs only [hneg0, decide_false, svAv_width, svAv_store, svAv_junk, svAv_agg, hw0, hs0, hj0, ha0, hsg, hjg, hag, evb0, evb1, evb2, evb3, evb4, evb5, evb6, evb7, evb8, evb9, ↓evZ2, ↓evZ3, ↓Int.cast_ofNat_Int, implies_true, ne_eq, or_false, false_or, or_self, gt_iff_lt, isMut, aFn, List.contains, List.elem, aBox, aField, aLoad, sub, aNil, aPick, aExt, aFld, gd, noJunk, plainOp, aBuildSlice, aBuild, aFill, aParts, seqParts, fitAll, List.range', ↓reduceIte, reduceCtorEq, Nat.reduceEqDiff, Nat.reduceAdd, Nat.reduceLeDiff, Nat.reduceMul, Nat.reduceLT, Nat.reduceBEq, Int.reduceEq, tf_F6_6]
  refine (ACalls.see (fun st => c_eqFrameS' G st) (Seen.own Og4 (Seen.same .nil)) rfl).to ?_
  simp -implicitDefEqProofs only [beq_self_eq_true, svAv_width, svAv_store, svAv_junk, svAv_agg, hw0, hs0, hj0, ha0, hsg, hjg, hag, evb0, evb1, evb2, evb3, evb4, evb5, evb6, evb7, evb8, evb9, ↓evZ2, ↓evZ3, ↓Int.cast_ofNat_Int, implies_true, ne_eq, or_false, false_or, or_self, gt_iff_lt, isMut, aFn, List.contains, List.elem, aBox, aField, aLoad, sub, aNil, aPick, aExt, aFld, gd, noJunk, plainOp, aBuildSlice, aBuild, aFill, aParts, seqParts, fitAll, List.range', ↓reduceIte, reduceCtorEq, Nat.reduceEqDiff, Nat.reduceAdd, Nat.reduceLeDiff, Nat.reduceMul, Nat.reduceLT, Nat.reduceBEq, Int.reduceEq, tf_F6_6]
  refine (c_markFrameS G 1 og bg s4 Og4 ng (by omega) (by omega)).mono ?_
  rintro _ s6 ⟨rfl, Og6, k6⟩
  have hneg : ¬ (1 + (sumL frMks G : Int) < 0) := by omega
  simp -implicitDefEqProofs only [svAv_width, svAv_store, svAv_junk, svAv_agg, hw0, hs0, hj0, ha0, hsg, hjg, hag, hneg, decide_false, evb0, evb1, evb2, evb3, evb4, evb5, evb6, evb7, evb8, evb9, ↓evZ2, ↓evZ3, ↓Int.cast_ofNat_Int, implies_true, ne_eq, or_false, false_or, or_self, gt_iff_lt, isMut, aFn, List.contains, List.elem, aBox, aField, aLoad, sub, aNil, aPick, aExt, aFld, gd, noJunk, plainOp, aBuildSlice, aBuild, aFill, aParts, seqParts, fitAll, List.range', ↓reduceIte, reduceCtorEq, Nat.reduceEqDiff, Nat.reduceAdd, Nat.reduceLeDiff, Nat.reduceMul, Nat.reduceLT, Nat.reduceBEq, Int.reduceEq, tf_F6_6]
  refine (ACalls.see (fun st => c_heldFrameS G 1 st (by omega) (by omega)) (Seen.own Og6 (Seen.same .nil)) rfl).to ?_
  simp -implicitDefEqProofs only [decide_true, svAv_width, svAv_store, svAv_junk, svAv_agg, hw0, hs0, hj0, ha0, hsg, hjg, hag, hneg, decide_false, evb0, evb1, evb2, evb3, evb4, evb5, evb6, evb7, evb8, evb9, ↓evZ2, ↓evZ3, ↓Int.cast_ofNat_Int, implies_true, ne_eq, or_false, false_or, or_self, gt_iff_lt, isMut, aFn, List.contains, List.elem, aBox, aField, aLoad, sub, aNil, aPick, aExt, aFld, gd, noJunk, plainOp, aBuildSlice, aBuild, aFill, aParts, seqParts, fitAll, List.range', ↓reduceIte, reduceCtorEq, Nat.reduceEqDiff, Nat.reduceAdd, Nat.reduceLeDiff, Nat.reduceMul, Nat.reduceLT, Nat.reduceBEq, Int.reduceEq, tf_F6_6]
  refine ((hto _).made).to ?_
  simp -implicitDefEqProofs only [svAv_width, svAv_store, svAv_junk, svAv_agg, hw0, hs0, hj0, ha0, hsg, hjg, hag, hneg, decide_false, evb0, evb1, evb2, evb3, evb4, evb5, evb6, evb7, evb8, evb9, ↓evZ2, ↓evZ3, ↓Int.cast_ofNat_Int, implies_true, ne_eq, or_false, false_or, or_self, gt_iff_lt, isMut, aFn, List.contains, List.elem, aBox, aField, aLoad, sub, aNil, aPick, aExt, aFld, gd, noJunk, plainOp, aBuildSlice, aBuild, aFill, aParts, seqParts, fitAll, List.range', ↓reduceIte, reduceCtorEq, Nat.reduceEqDiff, Nat.reduceAdd, Nat.reduceLeDiff, Nat.reduceMul, Nat.reduceLT, Nat.reduceBEq, Int.reduceEq, tf_F6_6]
  refine ((him _).made).to ?_
  simp -implicitDefEqProofs only [svAv_width, svAv_store, svAv_junk, svAv_agg, hw0, hs0, hj0, ha0, hsg, hjg, hag, hneg, decide_false, evb0, evb1, evb2, evb3, evb4, evb5, evb6, evb7, evb8, evb9, ↓evZ2, ↓evZ3, ↓Int.cast_ofNat_Int, implies_true, ne_eq, or_false, false_or, or_self, gt_iff_lt, isMut, aFn, List.contains, List.elem, aBox, aField, aLoad, sub, aNil, aPick, aExt, aFld, gd, noJunk, plainOp, aBuildSlice, aBuild, aFill, aParts, seqParts, fitAll, List.range', ↓reduceIte, reduceCtorEq, Nat.reduceEqDiff, Nat.reduceAdd, Nat.reduceLeDiff, Nat.reduceMul, Nat.reduceLT, Nat.reduceBEq, Int.reduceEq, tf_F6_6]
  refine (c_eqFrameS' G _).to ?_
  simp -implicitDefEqProofs only [beq_self_eq_true, svAv_width, svAv_store, svAv_junk, svAv_agg, hw0, hs0, hj0, ha0, hsg, hjg, hag, hneg, decide_false, evb0, evb1, evb2, evb3, evb4, evb5, evb6, evb7, evb8, evb9, ↓evZ2, ↓evZ3, ↓Int.cast_ofNat_Int, implies_true, ne_eq, or_false, false_or, or_self, gt_iff_lt, isMut, aFn, List.contains, List.elem, aBox, aField, aLoad, sub, aNil, aPick, aExt, aFld, gd, noJunk, plainOp, aBuildSlice, aBuild, aFill, aParts, seqParts, fitAll, List.range', ↓reduceIte, reduceCtorEq, Nat.reduceEqDiff, Nat.reduceAdd, Nat.reduceLeDiff, Nat.reduceMul, Nat.reduceLT, Nat.reduceBEq, Int.reduceEq, tf_F6_6]
  refine (ACalls.see (fun st => c_heldFrameS G 1 st (by omega) (by omega)) (Seen.own Og6 (Seen.same .nil)) rfl).to ?_
  simp -implicitDefEqProofs only [decide_true, svAv_width, svAv_store, svAv_junk, svAv_agg, hw0, hs0, hj0, ha0, hsg, hjg, hag, hneg, decide_false, evb0, evb1, evb2, evb3, evb4, evb5, evb6, evb7, evb8, evb9, ↓evZ2, ↓evZ3, ↓Int.cast_ofNat_Int, implies_true, ne_eq, or_false, false_or, or_self, gt_iff_lt, isMut, aFn, List.contains, List.elem, aBox, aField, aLoad, sub, aNil, aPick, aExt, aFld, gd, noJunk, plainOp, aBuildSlice, aBuild, aFill, aParts, seqParts, fitAll, List.range', ↓reduceIte, reduceCtorEq, Nat.reduceEqDiff, Nat.reduceAdd, Nat.reduceLeDiff, Nat.reduceMul, Nat.reduceLT, Nat.reduceBEq, Int.reduceEq, tf_F6_6]
end Go.AW

/- What a law is handed, read as data; the law's row from a contract. -/
namespace Go.AW
open Go.ChangeShapes Go.WideShapes Go.ChangeAt Go.RowKit

/-- No block is owned. -/
abbrev none0 : Store := fun _ => none

section
variable {H : Type} {enc : TypeId × Value → H} {P : Program} {w : World}

/-- Whatever is read as type t is data. -/
def Reads (enc : TypeId × Value → H) (P : Program) (w : World) (t n : Nat) {α : Type} (av : α → AV) : Prop :=
  ∀ cs x, DataW.trod enc P w 0 (fun _ => true) true n t cs = some x → ∃ a : α, VC w.heap none0 (av a) cs

theorem VEs_each {h : Heap} {st : Store} {b k : Nat} : ∀ {es : List AV} {off : Nat}, (∀ e ∈ es, e.width = k) → (∀ (i : Nat) e, es[i]? = some e → VE h st b (off + i * k) e) → VEs h st b off es
  | [], _, _, _ => by simp [VEs]
  | e :: es, off, hw, h => by
    simp only [VEs]
    refine ⟨by simpa [VE] using h 0 e rfl, VEs_each (fun x hx => hw x (by simp [hx])) fun i x hx => ?_⟩
    have := h (i + 1) x (by simpa using hx)
    rw [hw e (by simp), Nat.add_assoc, ← Nat.succ_mul' k i] 
    exact this
where Nat.succ_mul' (k i : Nat) : (i + 1) * k = k + i * k := by rw [Nat.succ_mul]; omega

theorem cell_spot {a : Addr} {v : Value} (h : w.cell? a = some v) : a.spot = none ∧ a.block < w.heap.size ∧ cellAt w.heap a.block a.off = some v := by
  unfold World.cell? at h
  split at h
  · rename_i c t fr hb
    split at h
    · cases h
    · rename_i hs
      refine ⟨by simpa using hs, (Array.getElem?_eq_some_iff.1 hb).1, by simp [cellAt, hb, h]⟩
  · cases h

theorem cells_at {a : Addr} {n : Nat} {cs : List Value} (hs : a.spot = none) (h : w.cells? 0 a n = some cs) : cellsAt w.heap a.block a.off cs ∧ cs.length = n := by
  obtain ⟨_, hl, hc⟩ := World.cells?_some h
  refine ⟨?_, hl⟩
  have : ∀ (l : List Value) (k : Nat), (∀ i, i < l.length → w.cell? (a.add (k + i)) = l[i]?) → cellsAt w.heap a.block (a.off + k) l := by
    intro l
    induction l with
    | nil => intro _ _; trivial
    | cons v l ih =>
      intro k hk
      refine ⟨?_, ?_⟩
      · have := (cell_spot (hk 0 (by simp))).2.2
        obtain ⟨b, off, sp⟩ := a
        simp only at hs
        subst hs
        simpa [Addr.add_flat] using this
      · have := ih (k + 1) (fun i hi => by have := hk (i + 1) (by simp; omega); rw [show k + 1 + i = k + (i + 1) by omega]; simpa using this)
        simpa [Nat.add_assoc] using this
  simpa using this cs 0 (fun i hi => by simpa using hc i (by omega))

theorem reads_slice {t e n k : Nat} {α : Type} {av : α → AV} (ht : P.underlying t = some (.slice e)) (hk : P.cellsOf e = k) (hpos : 0 < k) (hw : ∀ a, (av a).width = k) (hr : ∀ m, m < n → Reads enc P w e m av) :
    Reads enc P w t n (fun l : List α => .slice (l.map av)) := by
  intro cs x h
  rcases DataW.trod_slice ht h with ⟨rfl, _⟩ | ⟨a, len, cap, elems, rest, m, hm, rfl, rfl, _, hl, hcap, hlen, hel, hsp, _⟩
  · exact ⟨[], by simp only [List.map_nil]; unfold VC; exact .inl ⟨⟨_, rfl⟩, rfl⟩⟩
  obtain ⟨hrl, hrest⟩ := hsp rfl
  rw [hk] at hel hrest
  have get : ∀ i, i < cap → ∃ ds y, w.cells? 0 (a.add (i * k)) k = some ds ∧ DataW.trod enc P w 0 (fun _ => true) true m e ds = some y := by
    intro i hi
    have hb : ∃ y, (w.cells? 0 (a.add (i * k)) k).bind (DataW.trod enc P w 0 (fun _ => true) true m e) = some y := by
      by_cases hi' : i < len
      · exact ⟨elems[i]'(by omega), by rw [hel i hi']; simp [show i < elems.length by omega]⟩
      · have := hrest (i - len) (by omega)
        rw [show len + (i - len) = i by omega] at this
        exact ⟨rest[i - len]'(by omega), by rw [this]; simp [show i - len < rest.length by omega]⟩
    obtain ⟨y, hy⟩ := hb
    obtain ⟨ds, h1, h2⟩ := Option.bind_eq_some_iff.1 hy
    exact ⟨ds, y, h1, h2⟩
  by_cases hc0 : cap = 0
  · subst hc0
    obtain rfl : len = 0 := by omega
    exact ⟨[], by simp only [List.map_nil]; unfold VC; exact .inl ⟨⟨_, rfl⟩, rfl⟩⟩
  obtain ⟨ds0, _, hd0, _⟩ := get 0 (by omega)
  have hspot : a.spot = none ∧ a.block < w.heap.size := by
    obtain ⟨_, hl0, hc⟩ := World.cells?_some hd0
    have := hc 0 hpos
    have h0 : ds0[0]? = some (ds0[0]'(by omega)) := by simp [hl0, hpos]
    rw [h0] at this
    have := cell_spot this
    obtain ⟨b, off, sp⟩ := a
    simp only [Nat.zero_mul] at this
    cases sp with
    | none => exact ⟨rfl, by simpa [Addr.add_flat] using this.2.1⟩
    | some s => exact absurd this.1 (by simp [Addr.add])
  obtain ⟨b, off, sp⟩ := a
  simp only at hspot
  obtain ⟨rfl, hbl⟩ := hspot
  have val : ∀ i, i < len → ∃ v : α, VE w.heap none0 b (off + i * k) (av v) := by
    intro i hi
    obtain ⟨ds, y, h1, h2⟩ := get i (by omega)
    obtain ⟨v, hv⟩ := hr m (by omega) ds y h2
    obtain ⟨c1, c2⟩ := cells_at (a := (⟨b, off, none⟩ : Addr).add (i * k)) (by simp [Addr.add_flat]) h1
    exact ⟨v, ds, by simpa [Addr.add_flat] using c1, by rw [hw]; exact c2, hv⟩
  have build : ∀ j, j ≤ len → ∃ l : List α, l.length = j ∧ ∀ (i : Nat) v, l[i]? = some v → VE w.heap none0 b (off + i * k) (av v) := by
    intro j
    induction j with
    | zero => intro _; exact ⟨[], rfl, by simp⟩
    | succ j ih =>
      intro hj
      obtain ⟨l, h1, h2⟩ := ih (by omega)
      obtain ⟨v, hv⟩ := val j (by omega)
      refine ⟨l ++ [v], by simp [h1], fun i u hi => ?_⟩
      rw [List.getElem?_append] at hi
      split at hi
      · exact h2 i u hi
      · rename_i hge
        have : i = j := by
          have := (List.getElem?_eq_some_iff.1 hi).1
          simp at this
          omega
        subst this
        simp [h1] at hi
        subst hi
        exact hv
  obtain ⟨l, h1, h2⟩ := build len (Nat.le_refl _)
  refine ⟨l, ?_⟩
  unfold VC
  refine .inr ⟨b, off, cap, by simp [h1], by simp [h1]; exact hl, hcap, rfl, hbl, even_map hw l, VEs_each (k := k) (by intro e he; simp only [List.mem_map] at he; obtain ⟨v, _, rfl⟩ := he; exact hw v) fun i e he => ?_⟩
  rw [List.getElem?_map] at he
  obtain ⟨v, hv, rfl⟩ := Option.map_eq_some_iff.1 he
  exact h2 i v hv

theorem rd_field {fs : Array Field} {n : Nat} {cs : List Value} {xs : List (DataW H × List MemPlace)} (hx : xs.length = fs.size)
    (hf : ∀ (i : Nat) (f : Field), fs[i]? = some f → DataW.trod enc P w 0 (fun _ => true) true n f.type ((cs.drop f.offset).take (P.cellsOf f.type)) = xs[i]?) (i : Nat) {f : Field} (h : fs[i]? = some f) :
    ∃ y, DataW.trod enc P w 0 (fun _ => true) true n f.type ((cs.drop f.offset).take (P.cellsOf f.type)) = some y := by
  have hi : i < xs.length := by rw [hx]; exact (Array.getElem?_eq_some_iff.1 h).1
  exact ⟨xs[i], by rw [hf i f h]; simp [hi]⟩

theorem reads_val {t : TypeId} {α : Type} {av : α → AV} {v : Value} {d : DataW H} {ps : List MemPlace} (hr : ∀ n, Reads enc P w t n av) (hag : ∀ a, (av a).isAgg = vIsAgg v) (h : DataW.Trod enc P w 0 (fun _ => true) true t v d ps) :
    ∃ a : α, VRel w.heap none0 (av a) v := by
  obtain ⟨n, hn⟩ := h
  obtain ⟨a, ha⟩ := hr n _ _ hn
  refine ⟨a, ?_⟩
  have := hag a
  cases hq : av a <;> rw [hq] at ha this <;> first | trivial | exact ⟨this, ha⟩

/-! ### The row -/
theorem trodAll_stays (hl : laidOutB P = true) {W W' : World} {sp : Nat → Bool} : ∀ {ts : List TypeId} {vs : List Value} {ds : List (DataW H)} {ps : List MemPlace}, (ts.all fun t => P.readableRec t && decide (t < P.types.size)) = true →
    DataW.TrodAll enc P W 0 (fun _ => true) true ts vs ds ps → (∀ x ∈ ps, W.sameAt W' x) → (∀ x ∈ ps, sp x.block = true) → DataW.TrodAll enc P W' 0 sp true ts vs ds ps
  | [], vs, ds, ps, _, h, _, _ => by
    cases vs <;> cases ds <;> simp [DataW.TrodAll] at h ⊢
    exact h
  | t :: ts, vs, ds, ps, ht, h, h1, h2 => by
    obtain ⟨v, vs', d, ds', p, q, rfl, rfl, rfl, hd, hrest⟩ := trodAll_cons h
    simp only [List.all_cons, Bool.and_eq_true, decide_eq_true_eq] at ht
    refine ⟨p, q, Go.WideElems.Trod_stays hl ht.1.1 ht.1.2 hd (fun x hx => h1 x (by simp [hx])) (fun x hx => h2 x (by simp [hx])), trodAll_stays hl ht.2 hrest (fun x hx => h1 x (by simp [hx])) (fun x hx => h2 x (by simp [hx])), rfl⟩

theorem below_of {W W' : World} {st' : Store} (T : StepH W.heap none0 W'.heap st') (s : Same W W') : Below W.heap.size W W' :=
  ⟨s.1, s.2.1, s.2.2, T.size, fun k hk => (T.keep k hk rfl).1⟩

/-- A law that returns true and writes nothing that was there. -/
theorem law_row {f : Func} {g : FuncId} {s : ChangeSpec} {W : World} {args : Array Value} {ds : List (DataW H)} {before : List MemPlace} {avs : List AV} {tb : TypeId}
    (hl : laidOutB P = true) (hts : (f.params.toList.all fun t => P.readableRec t && decide (t < P.types.size)) = true) (hrt : f.resultTypes = #[tb]) (htb : P.underlying tb = some .bool) (hsv : s.vars = [])
    (hW : DataW.Whole enc P f.params.toList [] false W args.toList ds [] before) (hfn : s.fn H ds = { results := [.lit (.bool true)], args := ds }) (hrel : VRelL W.heap none0 avs args.toList)
    (hc : ACalls P g avs none0 (fun r _ => r = .bool true)) :
    Calls P g args W fun e W' => ∃ v, e = .returned v ∧ s.post enc P f false true false false W args v W' := by
  have hS : SRel W.heap none0 := fun b o h => by cases h
  have := hc.2 W args.toList hS hrel
  simp only [Array.toArray_toList] at this
  refine this.mono ?_
  rintro e W' ⟨v, r, st', rfl, hv, _, T, sm, rfl⟩
  refine ⟨v, rfl, ?_⟩
  have hB := below_of T sm
  rw [hv.bool_of]
  have hW' : DataW.Whole enc P f.params.toList s.vars false W args.toList ds [] before := by rw [hsv]; exact hW
  obtain ⟨p, q, hA, hV, rfl, hz, _⟩ := hW
  obtain ⟨_, rfl⟩ := trodVars_none hV
  have hlt : ∀ x ∈ p, x.block < W.heap.size := fun x hx => hW'.lt x (by simp [hx])
  have hres : ∀ (b : Nat) (sp : Nat → Bool) (hd : Bool), DataW.TrodAll enc P W' b sp hd f.resultTypes.toList ((Value.bool true).resultList f.resultTypes.size) (s.fn H (ds ++ [])).results [] := fun _ _ _ => by
    rw [List.append_nil, hfn, hrt]
    exact trodAll_mk1 (shut_bool htb true)
  have hargs : ∀ sp : Nat → Bool, (∀ x ∈ p, sp x.block = true) → DataW.TrodAll enc P W' 0 sp true f.params.toList args.toList (s.fn H (ds ++ [])).args p := fun sp hsp => by
    rw [List.append_nil, hfn]
    exact trodAll_stays hl hts hA (fun x hx => hB.same (hlt x hx)) hsp
  have hvars : ∀ sp : Nat → Bool, DataW.TrodVars enc P W' sp s.vars (s.fn H (ds ++ [])).vars [] := fun sp => by
    rw [List.append_nil, hfn, hsv]
    exact rfl
  refine ⟨ds, [], p ++ [], [], p, [], hW', hres _ _ _, hargs _ (fun x hx => by simpa using hlt x hx), hvars _, World.keptBut_mono (fun x hx => ⟨hx, by simpa using hx⟩) (hB.frame (· ∈ p ++ [])), fun _ => ?_⟩
  refine ⟨ok_one hrt rfl (okWide_bool_mk htb true), _, _, ([] ++ p) ++ [], ⟨[] ++ p, [], trodAll_append (hargs _ (fun _ _ => rfl)) (hres _ _ _), hvars _, rfl, ?_, ?_⟩, ?_⟩
  · intro b off hp
    have hp' : MemPlace.cell b off ∈ p := by simpa using hp
    rw [hB.frozen (p := ⟨b, off, none⟩) (hlt _ hp')]
    exact hz b off (by simpa using hp')
  · intro ha; cases ha
  · intro x hx _
    simpa using hx
end
end Go.AW


/- Terms, answers, numbers and bytes, read. -/
namespace Go.AW
open Go.Proofs.Try
set_option maxRecDepth 100000
section
variable {H : Type} {enc : TypeId × Value → H} {w : World}

theorem VC_int {h : Heap} {st : Store} {k : IntKind} {n : Int} : VC h st (.int k n) [.int k n] := by simp only [VC]
theorem cellsOf_int : prog.cellsOf 3 = 1 := by kernel_rfl
theorem cellsOf_string : prog.cellsOf 9 = 1 := by kernel_rfl
theorem cellsOf_terms : prog.cellsOf 22 = 1 := by kernel_rfl
theorem cellsOf_term : prog.cellsOf 92 = 4 := by kernel_rfl

theorem reads_Tm : ∀ n, Reads enc prog w 92 n Tm.av := by
  intro n
  induction n using Nat.strongRecOn with
  | _ n ih =>
    intro cs x h
    obtain ⟨xs, m, rfl, _, hl, hx, hf⟩ := DataW.trod_struct underlying92 h
    rw [cellsOf_term] at hl
    match cs, hl with
    | [c0, c1, c2, c3], _ =>
      obtain ⟨y0, h0⟩ := rd_field hx hf 0 rfl
      obtain ⟨y1, h1⟩ := rd_field hx hf 1 rfl
      obtain ⟨y2, h2⟩ := rd_field hx hf 2 rfl
      obtain ⟨y3, h3⟩ := rd_field hx hf 3 rfl
      replace h0 : DataW.trod enc prog w 0 (fun _ => true) true m 3 ([c0, c1, c2, c3].take (prog.cellsOf 3)) = some y0 := h0
      replace h1 : DataW.trod enc prog w 0 (fun _ => true) true m 3 ([c1, c2, c3].take (prog.cellsOf 3)) = some y1 := h1
      replace h2 : DataW.trod enc prog w 0 (fun _ => true) true m 9 ([c2, c3].take (prog.cellsOf 9)) = some y2 := h2
      replace h3 : DataW.trod enc prog w 0 (fun _ => true) true m 22 ([c3].take (prog.cellsOf 22)) = some y3 := h3
      rw [cellsOf_int] at h0 h1
      rw [cellsOf_string] at h2
      rw [cellsOf_terms] at h3
      obtain ⟨k, e0, _⟩ := DataW.trod_int underlying3 h0
      obtain ⟨j, e1, _⟩ := DataW.trod_int underlying3 h1
      obtain ⟨s, e2, _, es⟩ := DataW.trod_string underlying9 h2
      obtain ⟨l, e3⟩ := reads_slice (n := m) underlying22 cellsOf_term (by omega) Tm.av_width (fun m' hm => ih m' (by omega)) _ _ h3
      obtain rfl := (List.cons.inj e0).1
      obtain rfl := (List.cons.inj e1).1
      obtain rfl := (List.cons.inj e2).1
      refine ⟨.mk k j s l, ?_⟩
      rw [Tm.av_mk]
      unfold VC
      simp only [VCs]
      exact ⟨_, _, rfl, by simp only [VC], _, _, rfl, by simp only [VC], _, _, rfl, by simp only [VC]; exact ⟨trivial, es⟩, _, _, rfl, e3, rfl⟩

theorem reads_Tms (n : Nat) : Reads enc prog w 22 n (fun l : List Tm => .slice (l.map Tm.av)) :=
  reads_slice underlying22 cellsOf_term (by omega) Tm.av_width fun m _ => reads_Tm m

/-- A struct's value. -/
theorem wide_agg {r : Reach} {b0 : Nat} {t : TypeId} {fs : Array Field} {v : Value} (ht : prog.underlying t = some (.struct fs)) (h : Value.okWide prog w r b0 t v) : vIsAgg v = true := by
  simp only [Value.okWide, ht] at h
  obtain ⟨cs, rfl, _⟩ := h
  rfl
end
end Go.AW


/- Clauses and whole numbers, read. -/
namespace Go.AW
open Go.Proofs.Try
set_option maxRecDepth 100000
section
variable {H : Type} {enc : TypeId × Value → H} {w : World}
theorem cellsOf_clause : prog.cellsOf 132 = 5 := by kernel_rfl
theorem reads_int (n : Nat) : Reads enc prog w 3 n (fun k : Int => .int .i64 k) := by
  intro cs x h
  obtain ⟨k, rfl, _⟩ := DataW.trod_int underlying3 h
  exact ⟨k, VC_int⟩
theorem reads_Cl (n : Nat) : Reads enc prog w 132 n clAv := by
  intro cs x h
  obtain ⟨xs, m, rfl, _, hl, hx, hf⟩ := DataW.trod_struct underlying132 h
  rw [cellsOf_clause] at hl
  match cs, hl with
  | [c0, c1, c2, c3, c4], _ =>
    obtain ⟨y0, h0⟩ := rd_field hx hf 0 rfl
    obtain ⟨y1, h1⟩ := rd_field hx hf 1 rfl
    replace h0 : DataW.trod enc prog w 0 (fun _ => true) true m 92 ([c0, c1, c2, c3, c4].take (prog.cellsOf 92)) = some y0 := h0
    replace h1 : DataW.trod enc prog w 0 (fun _ => true) true m 22 ([c4].take (prog.cellsOf 22)) = some y1 := h1
    rw [cellsOf_term] at h0
    rw [cellsOf_terms] at h1
    obtain ⟨⟨k, j, s, l⟩, e0⟩ := reads_Tm _ _ _ h0
    obtain ⟨b, e1⟩ := reads_Tms _ _ _ h1
    refine ⟨(.mk k j s l, b), ?_⟩
    rw [clAv_mk]
    rw [Tm.av_mk] at e0
    unfold VC at e0
    unfold VC
    simp only [VCs, List.cons.injEq] at e0 ⊢
    obtain ⟨_, _, ⟨rfl, rfl⟩, f0, _, _, ⟨rfl, rfl⟩, f1, _, _, ⟨rfl, rfl⟩, f2, _, _, ⟨rfl, rfl⟩, f3, _⟩ := e0
    exact ⟨_, _, ⟨rfl, rfl⟩, f0, _, _, rfl, f1, _, _, rfl, f2, _, _, rfl, f3, _, _, rfl, e1, rfl⟩
theorem reads_Cls (n : Nat) : Reads enc prog w 71 n (fun l : List Cl => .slice (l.map clAv)) :=
  reads_slice underlying71 cellsOf_clause (by omega) clAv_width fun m _ => reads_Cl m
theorem wide_int {r : Reach} {b0 : Nat} {v : Value} (h : Value.okWide prog w r b0 3 v) : vIsAgg v = false := by
  cases v <;> first | rfl | (simp [Value.okWide, underlying3, Cell.okWide, Cell.ok] at h)
end
end Go.AW


/- Bytes, read. -/
namespace Go.AW
open Go.Proofs.Try
set_option maxRecDepth 100000
section
variable {H : Type} {enc : TypeId × Value → H} {w : World}
theorem cellsOf_uint8 : prog.cellsOf 5 = 1 := by kernel_rfl
theorem reads_byte (n : Nat) : Reads enc prog w 5 n byteAv := by
  intro cs x h
  obtain ⟨k, rfl, _, hw⟩ := DataW.trod_int underlying5 h
  simp only [Lit.wf, IntKind.min, IntKind.max, IntKind.signed, IntKind.bits, Bool.and_eq_true, decide_eq_true_eq] at hw
  refine ⟨⟨k.toNat, ?_⟩, ?_⟩
  · simp at hw; omega
  · have : (((k.toNat : Nat)) : Int) = k := by simp at hw; omega
    simp only [byteAv, this, VC]
theorem reads_bytes (n : Nat) : Reads enc prog w 39 n (fun l : List Bt => .slice (l.map byteAv)) :=
  reads_slice underlying39 cellsOf_uint8 (by omega) byteAv_width fun m _ => reads_byte m
end
end Go.AW


/- Servers, read. -/
namespace Go.AW
open Go.Proofs.Try
set_option maxRecDepth 100000
section
variable {H : Type} {enc : TypeId × Value → H} {w : World}
theorem cellsOf_bool : prog.cellsOf 4 = 1 := by kernel_rfl
theorem cellsOf_frame : prog.cellsOf 211 = 2 := by kernel_rfl
theorem cellsOf_frames : prog.cellsOf 168 = 1 := by kernel_rfl
theorem cellsOf_bytes : prog.cellsOf 39 = 1 := by kernel_rfl
theorem cellsOf_decoder : prog.cellsOf 167 = 2 := by kernel_rfl
theorem cellsOf_clauses : prog.cellsOf 71 = 1 := by kernel_rfl
theorem cellsOf_session : prog.cellsOf 170 = 6 := by kernel_rfl
theorem cellsOf_client : prog.cellsOf 172 = 13 := by kernel_rfl
theorem cellsOf_clients : prog.cellsOf 56 = 1 := by kernel_rfl

theorem VCs_1 {h : Heap} {st : Store} {a : AV} {es : List AV} {c : Value} {cs : List Value} (x : VC h st a [c]) (y : VCs h st es cs) : VCs h st (a :: es) (c :: cs) := by
  unfold VCs; exact ⟨c, cs, rfl, x, y⟩
theorem VCs_0 {h : Heap} {st : Store} : VCs h st [] [] := by unfold VCs; rfl
theorem VCs_app {h : Heap} {st : Store} : ∀ {es bs : List AV} {cs ds : List Value}, VCs h st es cs → VCs h st bs ds → VCs h st (es ++ bs) (cs ++ ds)
  | [], bs, cs, ds, x, y => by unfold VCs at x; subst x; exact y
  | a :: es, bs, cs, ds, x, y => by
    unfold VCs at x
    obtain ⟨c, r, rfl, x1, x2⟩ := x
    exact VCs_1 x1 (VCs_app x2 y)
theorem VC_agg {h : Heap} {st : Store} {es : List AV} {cs : List Value} : VC h st (.agg es) cs ↔ VCs h st es cs := by unfold VC; exact Iff.rfl
theorem reads_bool1 {n : Nat} {c : Value} {x : DataW H × List MemPlace} (h : DataW.trod enc prog w 0 (fun _ => true) true n 4 [c] = some x) : ∃ b, VC w.heap none0 (.bool b) [c] := by
  obtain ⟨b, e, _⟩ := DataW.trod_bool underlying4 h
  exact ⟨b, by simp only [VC]; exact e⟩

theorem reads_Fr (n : Nat) : Reads enc prog w 211 n frAv := by
  intro cs x h
  obtain ⟨xs, m, rfl, _, hl, hx, hf⟩ := DataW.trod_struct underlying211 h
  rw [cellsOf_frame] at hl
  match cs, hl with
  | [c0, c1], _ =>
    obtain ⟨y0, h0⟩ := rd_field hx hf 0 rfl
    obtain ⟨y1, h1⟩ := rd_field hx hf 1 rfl
    replace h0 : DataW.trod enc prog w 0 (fun _ => true) true m 3 ([c0, c1].take (prog.cellsOf 3)) = some y0 := h0
    replace h1 : DataW.trod enc prog w 0 (fun _ => true) true m 9 ([c1].take (prog.cellsOf 9)) = some y1 := h1
    rw [cellsOf_int] at h0
    rw [cellsOf_string] at h1
    obtain ⟨k, e0, _⟩ := DataW.trod_int underlying3 h0
    obtain ⟨s, e1, _, es⟩ := DataW.trod_string underlying9 h1
    obtain rfl := (List.cons.inj e0).1
    obtain rfl := (List.cons.inj e1).1
    exact ⟨(k, s), VC_agg.2 (VCs_1 VC_int (VCs_1 (by simp only [VC]; exact ⟨trivial, es⟩) VCs_0))⟩
theorem reads_Frs (n : Nat) : Reads enc prog w 168 n frs :=
  reads_slice underlying168 cellsOf_frame (by omega) frAv_width fun m _ => reads_Fr m

theorem reads_dc {n : Nat} {cs : List Value} {x : DataW H × List MemPlace} (h : DataW.trod enc prog w 0 (fun _ => true) true n 167 cs = some x) : ∃ r b, VCs w.heap none0 [bts r, .bool b] cs := by
  obtain ⟨xs, m, rfl, _, hl, hx, hf⟩ := DataW.trod_struct underlying167 h
  rw [cellsOf_decoder] at hl
  match cs, hl with
  | [c0, c1], _ =>
    obtain ⟨y0, h0⟩ := rd_field hx hf 0 rfl
    obtain ⟨y1, h1⟩ := rd_field hx hf 1 rfl
    replace h0 : DataW.trod enc prog w 0 (fun _ => true) true m 39 ([c0, c1].take (prog.cellsOf 39)) = some y0 := h0
    replace h1 : DataW.trod enc prog w 0 (fun _ => true) true m 4 ([c1].take (prog.cellsOf 4)) = some y1 := h1
    rw [cellsOf_bytes] at h0
    rw [cellsOf_bool] at h1
    obtain ⟨r, e0⟩ := reads_bytes _ _ _ h0
    obtain ⟨b, e1⟩ := reads_bool1 h1
    exact ⟨r, b, VCs_1 e0 (VCs_1 e1 VCs_0)⟩

theorem reads_ss {n : Nat} {cs : List Value} {x : DataW H × List MemPlace} (h : DataW.trod enc prog w 0 (fun _ => true) true n 170 cs = some x) : ∃ s, VC w.heap none0 (ssAv s) cs := by
  obtain ⟨xs, m, rfl, _, hl, hx, hf⟩ := DataW.trod_struct underlying170 h
  rw [cellsOf_session] at hl
  match cs, hl with
  | [c0, c1, c2, c3, c4, c5], _ =>
    obtain ⟨y0, h0⟩ := rd_field hx hf 0 rfl
    obtain ⟨y1, h1⟩ := rd_field hx hf 1 rfl
    obtain ⟨y2, h2⟩ := rd_field hx hf 2 rfl
    obtain ⟨y3, h3⟩ := rd_field hx hf 3 rfl
    obtain ⟨y4, h4⟩ := rd_field hx hf 4 rfl
    obtain ⟨y5, h5⟩ := rd_field hx hf 5 rfl
    replace h0 : DataW.trod enc prog w 0 (fun _ => true) true m 71 ([c0, c1, c2, c3, c4, c5].take (prog.cellsOf 71)) = some y0 := h0
    replace h1 : DataW.trod enc prog w 0 (fun _ => true) true m 22 ([c1, c2, c3, c4, c5].take (prog.cellsOf 22)) = some y1 := h1
    replace h2 : DataW.trod enc prog w 0 (fun _ => true) true m 3 ([c2, c3, c4, c5].take (prog.cellsOf 3)) = some y2 := h2
    replace h3 : DataW.trod enc prog w 0 (fun _ => true) true m 3 ([c3, c4, c5].take (prog.cellsOf 3)) = some y3 := h3
    replace h4 : DataW.trod enc prog w 0 (fun _ => true) true m 3 ([c4, c5].take (prog.cellsOf 3)) = some y4 := h4
    replace h5 : DataW.trod enc prog w 0 (fun _ => true) true m 3 ([c5].take (prog.cellsOf 3)) = some y5 := h5
    rw [cellsOf_clauses] at h0
    rw [cellsOf_terms] at h1
    rw [cellsOf_int] at h2 h3 h4 h5
    obtain ⟨p, e0⟩ := reads_Cls _ _ _ h0
    obtain ⟨q, e1⟩ := reads_Tms _ _ _ h1
    obtain ⟨k2, e2⟩ := reads_int _ _ _ h2
    obtain ⟨k3, e3⟩ := reads_int _ _ _ h3
    obtain ⟨k4, e4⟩ := reads_int _ _ _ h4
    obtain ⟨k5, e5⟩ := reads_int _ _ _ h5
    exact ⟨⟨p, q, k2, k3, k4, k5⟩, VC_agg.2 (VCs_1 e0 (VCs_1 e1 (VCs_1 e2 (VCs_1 e3 (VCs_1 e4 (VCs_1 e5 VCs_0))))))⟩

theorem reads_Clt (n : Nat) : Reads enc prog w 172 n cltAv := by
  intro cs x h
  obtain ⟨xs, m, rfl, _, hl, hx, hf⟩ := DataW.trod_struct underlying172 h
  rw [cellsOf_client] at hl
  match cs, hl with
  | [c0, c1, c2, c3, c4, c5, c6, c7, c8, c9, c10, c11, c12], _ =>
    obtain ⟨y0, h0⟩ := rd_field hx hf 0 rfl
    obtain ⟨y1, h1⟩ := rd_field hx hf 1 rfl
    obtain ⟨y2, h2⟩ := rd_field hx hf 2 rfl
    obtain ⟨y3, h3⟩ := rd_field hx hf 3 rfl
    obtain ⟨y4, h4⟩ := rd_field hx hf 4 rfl
    obtain ⟨y5, h5⟩ := rd_field hx hf 5 rfl
    obtain ⟨y6, h6⟩ := rd_field hx hf 6 rfl
    replace h0 : DataW.trod enc prog w 0 (fun _ => true) true m 167 ([c0, c1, c2, c3, c4, c5, c6, c7, c8, c9, c10, c11, c12].take (prog.cellsOf 167)) = some y0 := h0
    replace h1 : DataW.trod enc prog w 0 (fun _ => true) true m 168 ([c2, c3, c4, c5, c6, c7, c8, c9, c10, c11, c12].take (prog.cellsOf 168)) = some y1 := h1
    replace h2 : DataW.trod enc prog w 0 (fun _ => true) true m 71 ([c3, c4, c5, c6, c7, c8, c9, c10, c11, c12].take (prog.cellsOf 71)) = some y2 := h2
    replace h3 : DataW.trod enc prog w 0 (fun _ => true) true m 4 ([c4, c5, c6, c7, c8, c9, c10, c11, c12].take (prog.cellsOf 4)) = some y3 := h3
    replace h4 : DataW.trod enc prog w 0 (fun _ => true) true m 170 ([c5, c6, c7, c8, c9, c10, c11, c12].take (prog.cellsOf 170)) = some y4 := h4
    replace h5 : DataW.trod enc prog w 0 (fun _ => true) true m 4 ([c11, c12].take (prog.cellsOf 4)) = some y5 := h5
    replace h6 : DataW.trod enc prog w 0 (fun _ => true) true m 168 ([c12].take (prog.cellsOf 168)) = some y6 := h6
    rw [cellsOf_decoder] at h0
    rw [cellsOf_frames] at h1 h6
    rw [cellsOf_clauses] at h2
    rw [cellsOf_bool] at h3 h5
    rw [cellsOf_session] at h4
    obtain ⟨r, b, e0⟩ := reads_dc h0
    obtain ⟨wt, e1⟩ := reads_Frs _ _ _ h1
    obtain ⟨pr, e2⟩ := reads_Cls _ _ _ h2
    obtain ⟨ac, e3⟩ := reads_bool1 h3
    obtain ⟨ss, e4⟩ := reads_ss h4
    obtain ⟨td, e5⟩ := reads_bool1 h5
    obtain ⟨ou, e6⟩ := reads_Frs _ _ _ h6
    refine ⟨⟨r, b, wt, pr, ac, ss, td, ou⟩, VC_agg.2 ?_⟩
    have e4' := VC_agg.1 e4
    exact VCs_app e0 (VCs_1 e1 (VCs_1 e2 (VCs_1 e3 (VCs_app e4' (VCs_1 e5 (VCs_1 e6 VCs_0))))))
theorem reads_Sv (n : Nat) : Reads enc prog w 58 n svAv := by
  intro cs x h
  obtain ⟨xs, m, rfl, _, hl, hx, hf⟩ := DataW.trod_struct underlying58 h
  rw [show prog.cellsOf 58 = 2 by kernel_rfl] at hl
  match cs, hl with
  | [c0, c1], _ =>
    obtain ⟨y0, h0⟩ := rd_field hx hf 0 rfl
    obtain ⟨y1, h1⟩ := rd_field hx hf 1 rfl
    replace h0 : DataW.trod enc prog w 0 (fun _ => true) true m 56 ([c0, c1].take (prog.cellsOf 56)) = some y0 := h0
    replace h1 : DataW.trod enc prog w 0 (fun _ => true) true m 3 ([c1].take (prog.cellsOf 3)) = some y1 := h1
    rw [cellsOf_clients] at h0
    rw [cellsOf_int] at h1
    obtain ⟨l, e0⟩ := (reads_slice (av := cltAv) underlying56 cellsOf_client (by omega) cltAv_width fun m _ => reads_Clt m) _ _ h0
    obtain ⟨k, e1⟩ := reads_int _ _ _ h1
    exact ⟨⟨l, k⟩, VC_agg.2 (VCs_1 e0 (VCs_1 e1 VCs_0))⟩
end
end Go.AW
