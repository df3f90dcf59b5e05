
import Derived.Test.YtpficjlageaebaaGreatDoorRows
import Derived.Test.YtpficjlageaebaaGreatDoorCards
import Derived.Test.YtpficjlageaebaaGreatDoorTie
import Derived.Test.YtpficjlageaebaaGreatDoorStrr
import Derived.LaidMore
import Derived.SevenTiedAt
namespace Go.Proofs.YtpficjlageaebaaGreatDoor
open Go.ChangeShapes Go.WideShapes Go.ChangeAt Go.RowKit Go.AW
theorem aWB : ownKnob Tryz.prog.godebug = none := by kernel_rfl
theorem aSX : laidOutB Tryz.prog = true := by kernel_rfl
theorem aUJ (os : Os) (args : Array Value) : laidMetH Tryz.prog Rows.fnSolveTrueRow.laid ((World.doorLaid Tryz.prog 24 os).forCall (fun _ _ => 0) ⟨#[], args, []⟩).memory :=
 laidMetH_of_parts3 (fuel := 8) (laidMet_of_run' 8 (by kernel_rfl) (by kernel_rfl)) (by kernel_rfl) (by kernel_rfl)
set_option maxRecDepth 100000 in
theorem aMX (os : Os) (started : os.Started) (H : Type) (enc : TypeId × Value → H) :
 ReturnsInHanded {} Tryz.checked os 8 .any (fun w args => (Rows.fnSolveTrueSpec.pre enc Tryz.prog Tryz.f8 [] false w args ∧ laidMetH Tryz.prog Rows.fnSolveTrueRow.laid w) ∧ sizedMet enc Tryz.prog Tryz.f8 (OpenSpec.ofChange Rows.fnSolveTrueSpec) false w args) (Rows.fnSolveTrueSpec.post enc Tryz.prog Tryz.f8 false true false false) := by
 refine returnsInHanded_of_change_and (C := Tryz.checked) (X := fun w _ => laidMetH Tryz.prog Rows.fnSolveTrueRow.laid w) (fun _ _ _ hh h => h.of_heap hh) aWB started (by kernel_rfl) Tryz.func8
  (ChangeSpec.witness_shaped (enc := enc) (C := Tryz.checked) (os := os) (X := fun w _ => laidMetH Tryz.prog Rows.fnSolveTrueRow.laid w) false (World.doorLaid Tryz.prog 24 os) #[.slice none 0 0] 8 rfl (World.shaped_of_RefB (by kernel_rfl) (by kernel_rfl)) (by kernel_rfl) (by kernel_rfl) (by kernel_rfl) (aUJ os _)) ?_
 intro W base args ds gs before aXY hW AC _ _ _
 have CF : ∀ (j : Nat) t v, Tryz.f8.params[j]? = some t → args[j]? = some v → Value.okWide Tryz.prog W .any base t v := aXY
 have hW' : DataW.Whole enc Tryz.prog Tryz.f8.params.toList [] false W args.toList ds gs before := hW
 obtain ⟨p, q, hA0, hV, rfl, hfz, hnd⟩ := hW
 have hA : DataW.TrodAll enc Tryz.prog W 0 (fun _ => true) true Tryz.f8.params.toList args.toList ds p := hA0
 rw [Tryz.params8] at hA CF
 obtain ⟨v0, d0, rfl, rfl, h0⟩ := trodAll_one hA
 obtain ⟨rfl, rfl⟩ := trodVars_none hV
 have g0 := aSE Tryz.underlying57 (CF 0 57 v0 rfl rfl)
 obtain ⟨a, ha⟩ := aZL aX2 (fun a => by rw [g0]; try rfl) h0
 exact aUN (tb := 4) aSX (by kernel_rfl) rfl Tryz.underlying4 rfl hW' rfl (by show cZ _ _ _ [v0]; simp only [cZ]; exact ⟨v0, [], rfl, ha, rfl⟩) (aOZ a rH)
theorem aZH : Rows.FnSolveTrueSaid :=
 OpenClaim.holds_of_wide 8 Tryz.f8 rfl rfl rfl rfl rfl rfl rfl ⟨rfl, rfl, rfl, rfl, rfl⟩ rfl rfl rfl rfl rfl (by kernel_rfl) Tryz.func8 (by kernel_rfl)
  (of_decide_eq_true (by kernel_rfl)) (by unfold Func.isWrapper; first | (rw [aG (by decide +kernel)]; kernel_rfl) | (rw [aE (by decide +kernel)]; exact ⟨rfl, rfl⟩))
  (fun os started H enc _ => aMX os started H enc)
theorem fnSolveTrue_card_holds : Rows.FnSolveTrueCardSaid :=
 Claim7.holds_tied_plain_at .later [] [.data, .data, .data] true (true, "051c1bf98127da73e297ad1c5fa4eda58bb75418594256229fc5542e05003646") false
  aZH (fun _ h => by cases h) (by kernel_rfl) (fun _ h => by cases h) fnSolveTrue_row_tie rfl ⟨rfl, rfl⟩ (by kernel_rfl) rfl
  (fun f fn hf hfn => by
   obtain rfl : f = 8 := nD ((show Tryz.prog.funcNamed "loop.example/prologserver/laws.FnSolveTrue" = some 8 by kernel_rfl).symm.trans hf) |>.symm
   obtain rfl : fn = Tryz.f8 := (nD (Tryz.func8.symm.trans hfn)).symm
   exact ⟨by kernel_rfl, fun j t ht => by
    rw [Tryz.params8] at ht
    have hm : t ∈ [57] := by simpa using C9 ht
    have dW : ([57].all fun u => !Tryz.prog.wantsStandIn u) = true := by kernel_rfl
    exact (show Tryz.prog.wantsStandIn t = false by simpa using eW.1 dW t hm)⟩)
  (by kernel_rfl)
end Go.Proofs.YtpficjlageaebaaGreatDoor
