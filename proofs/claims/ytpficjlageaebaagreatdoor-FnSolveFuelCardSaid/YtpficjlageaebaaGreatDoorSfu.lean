
import Derived.Test.YtpficjlageaebaaGreatDoorRows
import Derived.Test.YtpficjlageaebaaGreatDoorCards
import Derived.Test.YtpficjlageaebaaGreatDoorTie
import Derived.Test.YtpficjlageaebaaGreatDoorSfur
import Derived.LaidMore
import Derived.SevenTiedAt
namespace Go.Proofs.YtpficjlageaebaaGreatDoor
open Go.ChangeShapes Go.WideShapes Go.ChangeAt Go.RowKit Go.AW
theorem aYY : ownKnob Tryz.prog.godebug = none := by kernel_rfl
theorem aXB : laidOutB Tryz.prog = true := by kernel_rfl
theorem aPB (os : Os) (args : Array Value) : laidMetH Tryz.prog Rows.fnSolveFuelRow.laid ((World.doorLaid Tryz.prog 24 os).forCall (fun _ _ => 0) ⟨#[], args, []⟩).memory :=
 laidMetH_of_parts3 (fuel := 8) (laidMet_of_run' 8 (by kernel_rfl) (by kernel_rfl)) (by kernel_rfl) (by kernel_rfl)
set_option maxRecDepth 100000 in
theorem aN5 (os : Os) (started : os.Started) (H : Type) (enc : TypeId × Value → H) :
 ReturnsInHanded {} Tryz.checked os 7 .any (fun w args => (Rows.fnSolveFuelSpec.pre enc Tryz.prog Tryz.f7 [] false w args ∧ laidMetH Tryz.prog Rows.fnSolveFuelRow.laid w) ∧ sizedMet enc Tryz.prog Tryz.f7 (OpenSpec.ofChange Rows.fnSolveFuelSpec) false w args) (Rows.fnSolveFuelSpec.post enc Tryz.prog Tryz.f7 false true false false) := by
 refine returnsInHanded_of_change_and (C := Tryz.checked) (X := fun w _ => laidMetH Tryz.prog Rows.fnSolveFuelRow.laid w) (fun _ _ _ hh h => h.of_heap hh) aYY started (by kernel_rfl) Tryz.func7
  (ChangeSpec.witness_shaped (enc := enc) (C := Tryz.checked) (os := os) (X := fun w _ => laidMetH Tryz.prog Rows.fnSolveFuelRow.laid w) false (World.doorLaid Tryz.prog 24 os) #[.slice none 0 0] 8 rfl (World.shaped_of_RefB (by kernel_rfl) (by kernel_rfl)) (by kernel_rfl) (by kernel_rfl) (by kernel_rfl) (aPB os _)) ?_
 intro W base args ds gs before aZO hW B6 _ _ _
 have CL : ∀ (j : Nat) t v, Tryz.f7.params[j]? = some t → args[j]? = some v → Value.okWide Tryz.prog W .any base t v := aZO
 have hW' : DataW.Whole enc Tryz.prog Tryz.f7.params.toList [] false W args.toList ds gs before := hW
 obtain ⟨p, q, hA0, hV, rfl, hfz, hnd⟩ := hW
 have hA : DataW.TrodAll enc Tryz.prog W 0 (fun _ => true) true Tryz.f7.params.toList args.toList ds p := hA0
 rw [Tryz.params7] at hA CL
 obtain ⟨v0, d0, rfl, rfl, h0⟩ := trodAll_one hA
 obtain ⟨rfl, rfl⟩ := trodVars_none hV
 have g0 := aYF Tryz.underlying57 (CL 0 57 v0 rfl rfl)
 obtain ⟨a, ha⟩ := aOH aXS (fun a => by rw [g0]; try rfl) h0
 exact aO5 (tb := 4) aXB (by kernel_rfl) rfl Tryz.underlying4 rfl hW' rfl (by show c8 _ _ _ [v0]; simp only [c8]; exact ⟨v0, [], rfl, ha, rfl⟩) (aU8 a sB)
theorem aL9 : Rows.FnSolveFuelSaid :=
 OpenClaim.holds_of_wide 7 Tryz.f7 rfl rfl rfl rfl rfl rfl rfl ⟨rfl, rfl, rfl, rfl, rfl⟩ rfl rfl rfl rfl rfl (by kernel_rfl) Tryz.func7 (by kernel_rfl)
  (of_decide_eq_true (by kernel_rfl)) (by unfold Func.isWrapper; first | (rw [aG (by decide +kernel)]; kernel_rfl) | (rw [aE (by decide +kernel)]; exact ⟨rfl, rfl⟩))
  (fun os started H enc _ => aN5 os started H enc)
theorem fnSolveFuel_card_holds : Rows.FnSolveFuelCardSaid :=
 Claim7.holds_tied_plain_at .later [] [.data, .data, .data] true (true, "051c1bf98127da73e297ad1c5fa4eda58bb75418594256229fc5542e05003646") false
  aL9 (fun _ h => by cases h) (by kernel_rfl) (fun _ h => by cases h) fnSolveFuel_row_tie rfl ⟨rfl, rfl⟩ (by kernel_rfl) rfl
  (fun f fn hf hfn => by
   obtain rfl : f = 7 := nC ((show Tryz.prog.funcNamed "loop.example/prologserver/laws.FnSolveFuel" = some 7 by kernel_rfl).symm.trans hf) |>.symm
   obtain rfl : fn = Tryz.f7 := (nC (Tryz.func7.symm.trans hfn)).symm
   exact ⟨by kernel_rfl, fun j t ht => by
    rw [Tryz.params7] at ht
    have hm : t ∈ [57] := by simpa using C4 ht
    have dX : ([57].all fun u => !Tryz.prog.wantsStandIn u) = true := by kernel_rfl
    exact (show Tryz.prog.wantsStandIn t = false by simpa using eW.1 dX t hm)⟩)
  (by kernel_rfl)
end Go.Proofs.YtpficjlageaebaaGreatDoor
