
import Derived.Test.YtepkgoabhlnkbaaGreatDoorRows
import Derived.Test.YtepkgoabhlnkbaaGreatDoorCards
import Derived.Test.YtepkgoabhlnkbaaGreatDoorTie
import Derived.Test.YtepkgoabhlnkbaaGreatDoorSesq
import Derived.Test.YtepkgoabhlnkbaaGreatDoorSesr
import Derived.LaidMore
import Derived.SevenTiedAt
namespace Go.Proofs.YtepkgoabhlnkbaaGreatDoor
open Go.ChangeShapes Go.WideShapes Go.ChangeAt Go.RowKit Go.AW
theorem Tryzown : ownKnob Tryz.prog.godebug = none := by kernel_rfl
theorem Tryzlaid : laidOutB Tryz.prog = true := by kernel_rfl
theorem reads_ssS {H : Type} {enc : TypeId × Value → H} {w : World} (n : Nat) : Reads enc Tryz.prog w 25 n ssAv := fun _ _ h => reads_ss h
theorem fnExactSessionValid_door (os : Os) (args : Array Value) : laidMetH Tryz.prog Rows.fnExactSessionValidRow.laid ((World.doorLaid Tryz.prog 24 os).forCall (fun _ _ => 0) ⟨#[], args, []⟩).memory :=
 laidMetH_of_parts3 (fuel := 8) (laidMet_of_run' 8 (by kernel_rfl) (by kernel_rfl)) (by kernel_rfl) (by kernel_rfl)
set_option maxRecDepth 100000 in
theorem fnExactSessionValid_lifted (os : Os) (started : os.Started) (H : Type) (enc : TypeId × Value → H) :
 ReturnsInHanded {} Tryz.checked os 3 .any (fun w args => (Rows.fnExactSessionValidSpec.pre enc Tryz.prog Tryz.f3 [] false w args ∧ laidMetH Tryz.prog Rows.fnExactSessionValidRow.laid w) ∧ sizedMet enc Tryz.prog Tryz.f3 (OpenSpec.ofChange Rows.fnExactSessionValidSpec) false w args) (Rows.fnExactSessionValidSpec.post enc Tryz.prog Tryz.f3 false true false false) := by
 refine returnsInHanded_of_change_and (C := Tryz.checked) (X := fun w _ => laidMetH Tryz.prog Rows.fnExactSessionValidRow.laid w) (fun _ _ _ hh h => h.of_heap hh) Tryzown started (by kernel_rfl) Tryz.func3
  (ChangeSpec.witness_shaped (enc := enc) (C := Tryz.checked) (os := os) (X := fun w _ => laidMetH Tryz.prog Rows.fnExactSessionValidRow.laid w) false (World.doorLaid Tryz.prog 24 os) #[.agg #[.slice none 0 0, .slice none 0 0, .int .i64 0, .int .i64 0, .int .i64 0, .int .i64 0]] 8 rfl (World.shaped_of_RefB (by kernel_rfl) (by kernel_rfl)) (by kernel_rfl) (by kernel_rfl) (by kernel_rfl) (fnExactSessionValid_door os _)) ?_
 intro W base args ds gs before hval0 hW hcnd _ _ _
 have hval : ∀ (j : Nat) t v, Tryz.f3.params[j]? = some t → args[j]? = some v → Value.okWide Tryz.prog W .any base t v := hval0
 have hW' : DataW.Whole enc Tryz.prog Tryz.f3.params.toList [] false W args.toList ds gs before := hW
 obtain ⟨p, q, hA0, hV, rfl, hfz, hnd⟩ := hW
 have hA : DataW.TrodAll enc Tryz.prog W 0 (fun _ => true) true Tryz.f3.params.toList args.toList ds p := hA0
 rw [Tryz.params3] at hA hval
 obtain ⟨v0, d0, rfl, rfl, h0⟩ := trodAll_one hA
 obtain ⟨rfl, rfl⟩ := trodVars_none hV
 have g0 := wide_agg Tryz.underlying25 (hval 0 25 v0 rfl rfl)
 obtain ⟨a, ha⟩ := reads_val reads_ssS (fun a => by rw [g0]; rfl) h0
 exact law_row (tb := 4) Tryzlaid (by kernel_rfl) rfl Tryz.underlying4 rfl hW' rfl (by show VRelL _ _ _ [v0]; simp only [VRelL]; exact ⟨v0, [], rfl, ha, rfl⟩) (c_FnExactSessionValid a none0)
theorem fnExactSessionValid_holds : Rows.FnExactSessionValidSaid :=
 OpenClaim.holds_of_wide 3 Tryz.f3 rfl rfl rfl rfl rfl rfl rfl ⟨rfl, rfl, rfl, rfl, rfl⟩ rfl rfl rfl rfl rfl (by kernel_rfl) Tryz.func3 (by kernel_rfl)
  (of_decide_eq_true (by kernel_rfl)) (by unfold Func.isWrapper; first | (rw [if_pos (by decide +kernel)]; kernel_rfl) | (rw [if_neg (by decide +kernel)]; exact ⟨rfl, rfl⟩))
  (fun os started H enc _ => fnExactSessionValid_lifted os started H enc)
theorem fnExactSessionValid_card_holds : Rows.FnExactSessionValidCardSaid :=
 Claim7.holds_tied_plain_at .later [] [.data, .data, .data] true (true, "fe8935a49063eda5230aefd5be4410b4cb52ee253a2781a863450db38f880bc3") false
  fnExactSessionValid_holds (fun _ h => by cases h) (by kernel_rfl) (fun _ h => by cases h) fnExactSessionValid_row_tie rfl ⟨rfl, rfl⟩ (by kernel_rfl) rfl
  (fun f fn hf hfn => by
   obtain rfl : f = 3 := Option.some.inj ((show Tryz.prog.funcNamed "loop.example/prologserver/laws.FnExactSessionValid" = some 3 by kernel_rfl).symm.trans hf) |>.symm
   obtain rfl : fn = Tryz.f3 := (Option.some.inj (Tryz.func3.symm.trans hfn)).symm
   exact ⟨by kernel_rfl, fun j t ht => by
    rw [Tryz.params3] at ht
    have hm : t ∈ [25] := by simpa using Array.mem_of_getElem? ht
    have hall : ([25].all fun u => !Tryz.prog.wantsStandIn u) = true := by kernel_rfl
    exact (show Tryz.prog.wantsStandIn t = false by simpa using List.all_eq_true.1 hall t hm)⟩)
  (by kernel_rfl)
end Go.Proofs.YtepkgoabhlnkbaaGreatDoor
