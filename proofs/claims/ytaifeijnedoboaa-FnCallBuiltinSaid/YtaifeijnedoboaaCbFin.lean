
import Derived.Test.YtaifeijnedoboaaRows
import Derived.Test.YtaifeijnedoboaaCbFinq
namespace Go.Proofs.Ytaifeijnedoboaa
open Go.ChangeShapes Go.WideShapes Go.ChangeAt Go.RowKit Go.AW
theorem Tryown : ownKnob Try.prog.godebug = none := by kernel_rfl
theorem Trylaid : laidOutB Try.prog = true := by kernel_rfl
set_option maxRecDepth 100000 in
theorem fnCallBuiltin_lifted (os : Os) (started : os.Started) (H : Type) (enc : TypeId × Value → H) :
    ReturnsInHanded {} Try.checked os 3 .any (Rows.fnCallBuiltinSpec.pre6 enc Try.prog Try.f3 Rows.fnCallBuiltinRow.domain false) (Rows.fnCallBuiltinSpec.post enc Try.prog Try.f3 false true false false) := by
  refine returnsInHanded_of_change (C := Try.checked) Tryown started (by kernel_rfl) Try.func3
    (ChangeSpec.witness6 (enc := enc) (C := Try.checked) false ⟨#[], #[.slice none 0 0], []⟩ 8 (by kernel_rfl) (by kernel_rfl) (by kernel_rfl) (by kernel_rfl)) ?_
  intro W base args ds gs before hval0 hW hcnd _
  have hval : ∀ (j : Nat) t v, Try.f3.params[j]? = some t → args[j]? = some v → Value.okWide Try.prog W .any base t v := hval0
  have hW' : DataW.Whole enc Try.prog Try.f3.params.toList [] false W args.toList ds gs before := hW
  obtain ⟨p, q, hA0, hV, rfl, hfz, hnd⟩ := hW
  have hA : DataW.TrodAll enc Try.prog W 0 (fun _ => true) true Try.f3.params.toList args.toList ds p := hA0
  rw [Try.params3] at hA hval
  obtain ⟨v0, d0, rfl, rfl, h0⟩ := trodAll_one hA
  obtain ⟨rfl, rfl⟩ := trodVars_none hV
  have g0 := wide_slice Try.underlying22 (hval 0 22 v0 rfl rfl)
  obtain ⟨a, ha⟩ := reads_val reads_bytes (fun a => by rw [g0]; rfl) h0
  exact law_row (tb := 4) Trylaid (by kernel_rfl) rfl Try.underlying4 rfl hW' rfl (by show VRelL _ _ _ [v0]; simp only [VRelL]; exact ⟨v0, [], rfl, ha, rfl⟩) (c_FnCallBuiltin a none0)
theorem fnCallBuiltin_holds : Rows.FnCallBuiltinSaid :=
  OpenClaim.holds_of_wide 3 Try.f3 rfl rfl rfl rfl rfl rfl rfl ⟨rfl, rfl, rfl, rfl, rfl⟩ rfl rfl rfl rfl rfl (by kernel_rfl) Try.func3 (by kernel_rfl)
    (of_decide_eq_true (by kernel_rfl)) (by unfold Func.isWrapper; first | (rw [if_pos (by decide +kernel)]; kernel_rfl) | (rw [if_neg (by decide +kernel)]; exact ⟨rfl, rfl⟩))
    (fun os started H enc _ => fnCallBuiltin_lifted os started H enc)
end Go.Proofs.Ytaifeijnedoboaa
