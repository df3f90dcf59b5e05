
import Derived.Test.YtcndknlbedcimaaGreatDoorRows
import Derived.Test.YtcndknlbedcimaaGreatDoorCards
import Derived.Test.YtcndknlbedcimaaGreatDoorTie
import Derived.Test.YtcndknlbedcimaaGreatDoorSolr
import Derived.LaidMore
import Derived.SevenTiedAt
namespace Go.Proofs.YtcndknlbedcimaaGreatDoor
open Go.ChangeShapes Go.WideShapes Go.ChangeAt Go.RowKit Go.AW
theorem Tryzown : ownKnob Tryz.prog.godebug = none := by kernel_rfl
theorem Tryzlaid : laidOutB Tryz.prog = true := by kernel_rfl
theorem fnExactSolve_door (os : Os) (args : Array Value) : laidMetH Tryz.prog Rows.fnExactSolveRow.laid ((World.doorLaid Tryz.prog 24 os).forCall (fun _ _ => 0) ⟨#[], args, []⟩).memory :=
 laidMetH_of_parts3 (fuel := 8) (laidMet_of_run' 8 (by kernel_rfl) (by kernel_rfl)) (by kernel_rfl) (by kernel_rfl)
set_option maxRecDepth 100000 in
theorem fnExactSolve_lifted (os : Os) (started : os.Started) (H : Type) (enc : TypeId × Value → H) :
 ReturnsInHanded {} Tryz.checked os 3 .any (fun w args => (Rows.fnExactSolveSpec.pre enc Tryz.prog Tryz.f3 [] false w args ∧ laidMetH Tryz.prog Rows.fnExactSolveRow.laid w) ∧ sizedMet enc Tryz.prog Tryz.f3 (OpenSpec.ofChange Rows.fnExactSolveSpec) false w args) (Rows.fnExactSolveSpec.post enc Tryz.prog Tryz.f3 false true false false) := by
 refine returnsInHanded_of_change_and (C := Tryz.checked) (X := fun w _ => laidMetH Tryz.prog Rows.fnExactSolveRow.laid w) (fun _ _ _ hh h => h.of_heap hh) Tryzown started (by kernel_rfl) Tryz.func3
  (ChangeSpec.witness_shaped (enc := enc) (C := Tryz.checked) (os := os) (X := fun w _ => laidMetH Tryz.prog Rows.fnExactSolveRow.laid w) false (World.doorLaid Tryz.prog 24 os) #[.slice none 0 0, .slice none 0 0, .int .i64 0, .int .i64 0] 8 rfl (World.shaped_of_RefB (by kernel_rfl) (by kernel_rfl)) (by kernel_rfl) (by kernel_rfl) (by kernel_rfl) (fnExactSolve_door os _)) ?_
 intro W base args ds gs before hval0 hW hcnd _ _ _
 have hval : ∀ (j : Nat) t v, Tryz.f3.params[j]? = some t → args[j]? = some v → Value.okWide Tryz.prog W .any base t v := hval0
 have hW' : DataW.Whole enc Tryz.prog Tryz.f3.params.toList [] false W args.toList ds gs before := hW
 obtain ⟨p, q, hA0, hV, rfl, hfz, hnd⟩ := hW
 have hA : DataW.TrodAll enc Tryz.prog W 0 (fun _ => true) true Tryz.f3.params.toList args.toList ds p := hA0
 rw [Tryz.params3] at hA hval
 obtain ⟨v0, v1, v2, v3, d0, d1, d2, d3, p0, p1, p2, p3, rfl, rfl, rfl, h0, h1, h2, h3⟩ := trodAll_four hA
 obtain ⟨rfl, rfl⟩ := trodVars_none hV
 have g0 := wide_slice Tryz.underlying22 (hval 0 22 v0 rfl rfl)
 have g1 := wide_slice Tryz.underlying23 (hval 1 23 v1 rfl rfl)
 have g2 := wide_int (hval 2 3 v2 rfl rfl)
 have g3 := wide_int (hval 3 3 v3 rfl rfl)
 obtain ⟨a, ha⟩ := reads_val reads_Cls (fun a => by rw [g0]; rfl) h0
 obtain ⟨b, hb⟩ := reads_val reads_Tms (fun a => by rw [g1]; rfl) h1
 obtain ⟨c, hc⟩ := reads_val reads_int (fun a => by rw [g2]; rfl) h2
 obtain ⟨d, hd⟩ := reads_val reads_int (fun a => by rw [g3]; rfl) h3
 exact law_row (tb := 4) Tryzlaid (by kernel_rfl) rfl Tryz.underlying4 rfl hW' rfl (by show VRelL _ _ _ [v0, v1, v2, v3]; simp only [VRelL]; exact ⟨v0, [v1, v2, v3], rfl, ha, v1, [v2, v3], rfl, hb, v2, [v3], rfl, hc, v3, [], rfl, hd, rfl⟩) (c_FnExactSolve a b c d none0)
theorem fnExactSolve_holds : Rows.FnExactSolveSaid :=
 OpenClaim.holds_of_wide 3 Tryz.f3 rfl rfl rfl rfl rfl rfl rfl ⟨rfl, rfl, rfl, rfl, rfl⟩ rfl rfl rfl rfl rfl (by kernel_rfl) Tryz.func3 (by kernel_rfl)
  (of_decide_eq_true (by kernel_rfl)) (by unfold Func.isWrapper; first | (rw [if_pos (by decide +kernel)]; kernel_rfl) | (rw [if_neg (by decide +kernel)]; exact ⟨rfl, rfl⟩))
  (fun os started H enc _ => fnExactSolve_lifted os started H enc)
theorem fnExactSolve_card_holds : Rows.FnExactSolveCardSaid :=
 Claim7.holds_tied_plain_at .later [] [.data, .data, .data] true (true, "85d6079aa7e1929119bb64a026b38742f8a7569ec9eceaa1cb430e94ebb04aed") false
  fnExactSolve_holds (fun _ h => by cases h) (by kernel_rfl) (fun _ h => by cases h) fnExactSolve_row_tie rfl ⟨rfl, rfl⟩ (by kernel_rfl) rfl
  (fun f fn hf hfn => by
   obtain rfl : f = 3 := Option.some.inj ((show Tryz.prog.funcNamed "loop.example/prologserver/laws.FnExactSolve" = some 3 by kernel_rfl).symm.trans hf) |>.symm
   obtain rfl : fn = Tryz.f3 := (Option.some.inj (Tryz.func3.symm.trans hfn)).symm
   exact ⟨by kernel_rfl, fun j t ht => by
    rw [Tryz.params3] at ht
    have hm : t ∈ [22, 23, 3, 3] := by simpa using Array.mem_of_getElem? ht
    have hall : ([22, 23, 3, 3].all fun u => !Tryz.prog.wantsStandIn u) = true := by kernel_rfl
    exact (show Tryz.prog.wantsStandIn t = false by simpa using List.all_eq_true.1 hall t hm)⟩)
  (by kernel_rfl)
end Go.Proofs.YtcndknlbedcimaaGreatDoor
