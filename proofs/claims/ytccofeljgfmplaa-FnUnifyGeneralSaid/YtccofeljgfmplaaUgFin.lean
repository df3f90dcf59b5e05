
/- 'FnUnifyGeneral': unification is most general; no conditions. -/
import Derived.Test.YtccofeljgfmplaaRows
import Derived.Test.YtccofeljgfmplaaUgFinr
namespace Go.Proofs.Ytccofeljgfmplaa
open Go.ChangeShapes Go.WideShapes Go.ChangeAt Go.RowKit Go.AW

theorem Tryown : ownKnob Try.prog.godebug = none := by kernel_rfl
theorem Trylaid : laidOutB Try.prog = true := by kernel_rfl

set_option maxRecDepth 100000 in
theorem fnUnifyGeneral_lifted (os : Os) (started : os.Started) (H : Type) (enc : TypeId × Value → H) :
    ReturnsInHanded {} Try.checked os 9 .any (Rows.fnUnifyGeneralSpec.pre6 enc Try.prog Try.f9 Rows.fnUnifyGeneralRow.domain false) (Rows.fnUnifyGeneralSpec.post enc Try.prog Try.f9 false true false false) := by
  refine returnsInHanded_of_change (C := Try.checked) Tryown started (by kernel_rfl) Try.func9
    (ChangeSpec.witness6 (enc := enc) (C := Try.checked) false ⟨#[], #[.slice none 0 0, .slice none 0 0], []⟩ 8 (by kernel_rfl) (by kernel_rfl) (by kernel_rfl) (by kernel_rfl)) ?_
  intro W base args ds gs before hval0 hW hcnd _
  have hval : ∀ (j : Nat) t v, Try.f9.params[j]? = some t → args[j]? = some v → Value.okWide Try.prog W .any base t v := hval0
  have hW' : DataW.Whole enc Try.prog Try.f9.params.toList [] false W args.toList ds gs before := hW
  obtain ⟨p, q, hA0, hV, rfl, hfz, hnd⟩ := hW
  have hA : DataW.TrodAll enc Try.prog W 0 (fun _ => true) true Try.f9.params.toList args.toList ds p := hA0
  rw [Try.params9] at hA hval
  obtain ⟨v0, v1, d0, d1, p0, p1, rfl, rfl, rfl, h0, h1⟩ := trodAll_two hA
  obtain ⟨rfl, rfl⟩ := trodVars_none hV
  have g0 := wide_slice Try.underlying39 (hval 0 39 v0 rfl rfl)
  have g1 := wide_slice Try.underlying39 (hval 1 39 v1 rfl rfl)
  obtain ⟨a, ha⟩ := reads_val reads_bytes (fun a => by rw [g0]; rfl) h0
  obtain ⟨b, hb⟩ := reads_val reads_bytes (fun a => by rw [g1]; rfl) h1
  exact law_row (tb := 4) Trylaid (by kernel_rfl) rfl Try.underlying4 rfl hW' rfl (by show VRelL _ _ _ [v0, v1]; simp only [VRelL]; exact ⟨v0, [v1], rfl, ha, v1, [], rfl, hb, rfl⟩) (c_FnUnifyGeneral a b none0)

theorem fnUnifyGeneral_holds : Rows.FnUnifyGeneralSaid :=
  OpenClaim.holds_of_wide 9 Try.f9 rfl rfl rfl rfl rfl rfl rfl ⟨rfl, rfl, rfl, rfl, rfl⟩ rfl rfl rfl rfl rfl (by kernel_rfl) Try.func9 (by kernel_rfl)
    (of_decide_eq_true (by kernel_rfl)) (by unfold Func.isWrapper; first | (rw [if_pos (by decide +kernel)]; kernel_rfl) | (rw [if_neg (by decide +kernel)]; exact ⟨rfl, rfl⟩))
    (fun os started H enc _ => fnUnifyGeneral_lifted os started H enc)
end Go.Proofs.Ytccofeljgfmplaa
