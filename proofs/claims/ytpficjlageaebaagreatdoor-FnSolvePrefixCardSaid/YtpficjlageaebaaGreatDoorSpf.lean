
import Derived.Test.YtpficjlageaebaaGreatDoorRows
import Derived.Test.YtpficjlageaebaaGreatDoorCards
import Derived.Test.YtpficjlageaebaaGreatDoorTie
import Derived.Test.YtpficjlageaebaaGreatDoorSpfr
import Derived.LaidMore
import Derived.SevenTiedAt
namespace Go.Proofs.YtpficjlageaebaaGreatDoor
open Go.ChangeShapes Go.WideShapes Go.ChangeAt Go.RowKit Go.AW
theorem aML : ownKnob Tryz.prog.godebug = none := by kernel_rfl
theorem aOJ : laidOutB Tryz.prog = true := by kernel_rfl
theorem aXK (os : Os) (args : Array Value) : laidMetH Tryz.prog Rows.fnSolvePrefixRow.laid ((World.doorLaid Tryz.prog 24 os).forCall (fun _ _ => 0) ⟨#[], args, []⟩).memory :=
 laidMetH_of_parts3 (fuel := 8) (laidMet_of_run' 8 (by kernel_rfl) (by kernel_rfl)) (by kernel_rfl) (by kernel_rfl)
set_option maxRecDepth 100000 in
theorem aW4 (os : Os) (started : os.Started) (H : Type) (enc : TypeId × Value → H) :
 ReturnsInHanded {} Tryz.checked os 6 .any (fun w args => (Rows.fnSolvePrefixSpec.pre enc Tryz.prog Tryz.f6 [] false w args ∧ laidMetH Tryz.prog Rows.fnSolvePrefixRow.laid w) ∧ sizedMet enc Tryz.prog Tryz.f6 (OpenSpec.ofChange Rows.fnSolvePrefixSpec) false w args) (Rows.fnSolvePrefixSpec.post enc Tryz.prog Tryz.f6 false true false false) := by
 refine returnsInHanded_of_change_and (C := Tryz.checked) (X := fun w _ => laidMetH Tryz.prog Rows.fnSolvePrefixRow.laid w) (fun _ _ _ hh h => h.of_heap hh) aML started (by kernel_rfl) Tryz.func6
  (ChangeSpec.witness_shaped (enc := enc) (C := Tryz.checked) (os := os) (X := fun w _ => laidMetH Tryz.prog Rows.fnSolvePrefixRow.laid w) false (World.doorLaid Tryz.prog 24 os) #[.slice none 0 0, .slice none 0 0] 8 rfl (World.shaped_of_RefB (by kernel_rfl) (by kernel_rfl)) (by kernel_rfl) (by kernel_rfl) (by kernel_rfl) (aXK os _)) ?_
 intro W base args ds gs before aT9 hW CH _ _ _
 have zT : ∀ (j : Nat) t v, Tryz.f6.params[j]? = some t → args[j]? = some v → Value.okWide Tryz.prog W .any base t v := aT9
 have hW' : DataW.Whole enc Tryz.prog Tryz.f6.params.toList [] false W args.toList ds gs before := hW
 obtain ⟨p, q, hA0, hV, rfl, hfz, hnd⟩ := hW
 have hA : DataW.TrodAll enc Tryz.prog W 0 (fun _ => true) true Tryz.f6.params.toList args.toList ds p := hA0
 rw [Tryz.params6] at hA zT
 obtain ⟨v0, v1, d0, d1, p0, p1, rfl, rfl, rfl, h0, h1⟩ := trodAll_two hA
 obtain ⟨rfl, rfl⟩ := trodVars_none hV
 have g0 := aKU Tryz.underlying57 (zT 0 57 v0 rfl rfl)
 have g1 := aKU Tryz.underlying57 (zT 1 57 v1 rfl rfl)
 obtain ⟨a, ha⟩ := TF YB (fun a => by rw [g0]; try rfl) h0
 obtain ⟨b, hb⟩ := TF YB (fun a => by rw [g1]; try rfl) h1
 exact aVE (tb := 4) aOJ (by kernel_rfl) rfl Tryz.underlying4 rfl hW' rfl (by show c8 _ _ _ [v0, v1]; simp only [c8]; exact ⟨v0, [v1], rfl, ha, v1, [], rfl, hb, rfl⟩) (aVT a b q7)
theorem aV2 : Rows.FnSolvePrefixSaid :=
 OpenClaim.holds_of_wide 6 Tryz.f6 rfl rfl rfl rfl rfl rfl rfl ⟨rfl, rfl, rfl, rfl, rfl⟩ rfl rfl rfl rfl rfl (by kernel_rfl) Tryz.func6 (by kernel_rfl)
  (of_decide_eq_true (by kernel_rfl)) (by unfold Func.isWrapper; first | (rw [aG (by decide +kernel)]; kernel_rfl) | (rw [aE (by decide +kernel)]; exact ⟨rfl, rfl⟩))
  (fun os started H enc _ => aW4 os started H enc)
theorem fnSolvePrefix_card_holds : Rows.FnSolvePrefixCardSaid :=
 Claim7.holds_tied_plain_at .later [] [.data, .data, .data] true (true, "051c1bf98127da73e297ad1c5fa4eda58bb75418594256229fc5542e05003646") false
  aV2 (fun _ h => by cases h) (by kernel_rfl) (fun _ h => by cases h) fnSolvePrefix_row_tie rfl ⟨rfl, rfl⟩ (by kernel_rfl) rfl
  (fun f fn hf hfn => by
   obtain rfl : f = 6 := nC ((show Tryz.prog.funcNamed "loop.example/prologserver/laws.FnSolvePrefix" = some 6 by kernel_rfl).symm.trans hf) |>.symm
   obtain rfl : fn = Tryz.f6 := (nC (Tryz.func6.symm.trans hfn)).symm
   exact ⟨by kernel_rfl, fun j t ht => by
    rw [Tryz.params6] at ht
    have hm : t ∈ [57, 57] := by simpa using C0 ht
    have dV : ([57, 57].all fun u => !Tryz.prog.wantsStandIn u) = true := by kernel_rfl
    exact (show Tryz.prog.wantsStandIn t = false by simpa using eW.1 dV t hm)⟩)
  (by kernel_rfl)
end Go.Proofs.YtpficjlageaebaaGreatDoor
