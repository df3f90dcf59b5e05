
import Derived.Test.YtpficjlageaebaaGreatDoorRows
import Derived.Test.YtpficjlageaebaaGreatDoorCards
import Derived.Test.YtpficjlageaebaaGreatDoorTie
import Derived.Test.YtpficjlageaebaaGreatDoorSfar
import Derived.LaidMore
import Derived.SevenTiedAt
namespace Go.Proofs.YtpficjlageaebaaGreatDoor
open Go.ChangeShapes Go.WideShapes Go.ChangeAt Go.RowKit Go.AW
theorem aYZ : ownKnob Tryz.prog.godebug = none := by kernel_rfl
theorem aWY : laidOutB Tryz.prog = true := by kernel_rfl
theorem aQK (os : Os) (args : Array Value) : laidMetH Tryz.prog Rows.fnSolveFailRow.laid ((World.doorLaid Tryz.prog 24 os).forCall (fun _ _ => 0) ⟨#[], args, []⟩).memory :=
 laidMetH_of_parts3 (fuel := 8) (laidMet_of_run' 8 (by kernel_rfl) (by kernel_rfl)) (by kernel_rfl) (by kernel_rfl)
set_option maxRecDepth 100000 in
theorem aT6 (os : Os) (started : os.Started) (H : Type) (enc : TypeId × Value → H) :
 ReturnsInHanded {} Tryz.checked os 9 .any (fun w args => (Rows.fnSolveFailSpec.pre enc Tryz.prog Tryz.f9 [] false w args ∧ laidMetH Tryz.prog Rows.fnSolveFailRow.laid w) ∧ sizedMet enc Tryz.prog Tryz.f9 (OpenSpec.ofChange Rows.fnSolveFailSpec) false w args) (Rows.fnSolveFailSpec.post enc Tryz.prog Tryz.f9 false true false false) := by
 refine returnsInHanded_of_change_and (C := Tryz.checked) (X := fun w _ => laidMetH Tryz.prog Rows.fnSolveFailRow.laid w) (fun _ _ _ hh h => h.of_heap hh) aYZ started (by kernel_rfl) Tryz.func9
  (ChangeSpec.witness_shaped (enc := enc) (C := Tryz.checked) (os := os) (X := fun w _ => laidMetH Tryz.prog Rows.fnSolveFailRow.laid w) false (World.doorLaid Tryz.prog 24 os) #[.slice none 0 0] 8 rfl (World.shaped_of_RefB (by kernel_rfl) (by kernel_rfl)) (by kernel_rfl) (by kernel_rfl) (by kernel_rfl) (aQK os _)) ?_
 intro W base args ds gs before aTR hW CT _ _ _
 have CM : ∀ (j : Nat) t v, Tryz.f9.params[j]? = some t → args[j]? = some v → Value.okWide Tryz.prog W .any base t v := aTR
 have hW' : DataW.Whole enc Tryz.prog Tryz.f9.params.toList [] false W args.toList ds gs before := hW
 obtain ⟨p, q, hA0, hV, rfl, hfz, hnd⟩ := hW
 have hA : DataW.TrodAll enc Tryz.prog W 0 (fun _ => true) true Tryz.f9.params.toList args.toList ds p := hA0
 rw [Tryz.params9] at hA CM
 obtain ⟨v0, d0, rfl, rfl, h0⟩ := trodAll_one hA
 obtain ⟨rfl, rfl⟩ := trodVars_none hV
 have g0 := aV6 Tryz.underlying57 (CM 0 57 v0 rfl rfl)
 obtain ⟨a, ha⟩ := aPI aSG (fun a => by rw [g0]; try rfl) h0
 exact aVF (tb := 4) aWY (by kernel_rfl) rfl Tryz.underlying4 rfl hW' rfl (by show cZ _ _ _ [v0]; simp only [cZ]; exact ⟨v0, [], rfl, ha, rfl⟩) (aMX a sI)
theorem aV9 : Rows.FnSolveFailSaid :=
 OpenClaim.holds_of_wide 9 Tryz.f9 rfl rfl rfl rfl rfl rfl rfl ⟨rfl, rfl, rfl, rfl, rfl⟩ rfl rfl rfl rfl rfl (by kernel_rfl) Tryz.func9 (by kernel_rfl)
  (of_decide_eq_true (by kernel_rfl)) (by unfold Func.isWrapper; first | (rw [aG (by decide +kernel)]; kernel_rfl) | (rw [aE (by decide +kernel)]; exact ⟨rfl, rfl⟩))
  (fun os started H enc _ => aT6 os started H enc)
theorem fnSolveFail_card_holds : Rows.FnSolveFailCardSaid :=
 Claim7.holds_tied_plain_at .later [] [.data, .data, .data] true (true, "051c1bf98127da73e297ad1c5fa4eda58bb75418594256229fc5542e05003646") false
  aV9 (fun _ h => by cases h) (by kernel_rfl) (fun _ h => by cases h) fnSolveFail_row_tie rfl ⟨rfl, rfl⟩ (by kernel_rfl) rfl
  (fun f fn hf hfn => by
   obtain rfl : f = 9 := nG ((show Tryz.prog.funcNamed "loop.example/prologserver/laws.FnSolveFail" = some 9 by kernel_rfl).symm.trans hf) |>.symm
   obtain rfl : fn = Tryz.f9 := (nG (Tryz.func9.symm.trans hfn)).symm
   exact ⟨by kernel_rfl, fun j t ht => by
    rw [Tryz.params9] at ht
    have hm : t ∈ [57] := by simpa using DB ht
    have dV : ([57].all fun u => !Tryz.prog.wantsStandIn u) = true := by kernel_rfl
    exact (show Tryz.prog.wantsStandIn t = false by simpa using eW.1 dV t hm)⟩)
  (by kernel_rfl)
end Go.Proofs.YtpficjlageaebaaGreatDoor
