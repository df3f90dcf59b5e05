
import Derived.Test.YtlepdbmhjkmelaaGreatRows
import Derived.Test.YtlepdbmhjkmelaaGreatWrl
namespace Go.Proofs.YtlepdbmhjkmelaaGreat
open Go.ChangeShapes Go.WideShapes Go.ChangeAt Go.RowKit Go.AW
theorem Tryzown:ownKnob Tryz.prog.godebug=none:=by kernel_rfl
theorem Tryzlaid:laidOutB Tryz.prog=true:=by kernel_rfl
set_option maxRecDepth 100000 in
theorem fnUnknownGoals_lifted(os:Os)(started:os.Started)(H:Type)(enc:TypeId×Value→H) :
 ReturnsInHanded {} Tryz.checked os 3 .any (Rows.fnUnknownGoalsSpec.pre6 enc Tryz.prog Tryz.f3 Rows.fnUnknownGoalsRow.domain false) (Rows.fnUnknownGoalsSpec.post enc Tryz.prog Tryz.f3 false true false false):=by
 refine returnsInHanded_of_change (C:=Tryz.checked) Tryzown started (by kernel_rfl) Tryz.func3
  (ChangeSpec.witness6 (enc:=enc) (C:=Tryz.checked) false ⟨#[],#[.slice none 0 0],[]⟩ 8 (by kernel_rfl) (by kernel_rfl) (by kernel_rfl) (by kernel_rfl)) ?_
 intro W base args ds gs before XX hW aB3 _
 have N2:∀(j:Nat) t v,Tryz.f3.params[j]?=some t→args[j]?=some v→Value.okWide Tryz.prog W .any base t v:=XX
 have hW':DataW.Whole enc Tryz.prog Tryz.f3.params.toList [] false W args.toList ds gs before:=hW
 obtain⟨p,q,hA0,hV,rfl,hfz,hnd⟩:=hW
 have hA:DataW.TrodAll enc Tryz.prog W 0 (fun _=>true) true Tryz.f3.params.toList args.toList ds p:=hA0
 rw[Tryz.params3] at hA N2
 obtain⟨v0,d0,rfl,rfl,h0⟩:=trodAll_one hA
 obtain⟨rfl,rfl⟩:=trodVars_none hV
 have g0:=aAU Tryz.underlying22 (N2 0 22 v0 rfl rfl)
 obtain⟨a,ha⟩:=ZA Y8 (fun a=>by rw[g0];try rfl) h0
 exact X8 (tb:=4) Tryzlaid (by kernel_rfl) rfl Tryz.underlying4 rfl hW' rfl (by show bT _ _ _ [v0];simp only[bT];exact⟨v0,[],rfl,ha,rfl⟩) (SL a kK)
theorem fnUnknownGoals_j1:(Rows.fnUnknownGoalsRow.inPlace == Tryz.prog.inPlace 3)=true:=by kernel_rfl
theorem fnUnknownGoals_j2:(Rows.fnUnknownGoalsRow.unfollowed == Tryz.prog.unfollowed 3)=true:=by kernel_rfl
theorem fnUnknownGoals_j3:(Rows.fnUnknownGoalsRow.recurses == Tryz.prog.recurses 3)=true:=by kernel_rfl
theorem fnUnknownGoals_j4:(Rows.fnUnknownGoalsRow.named == Tryz.prog.varsNamed 3)=true:=by kernel_rfl
theorem fnUnknownGoals_j5:Tryz.prog.stopsHeard=true:=by kernel_rfl
theorem fnUnknownGoals_j6:Tryz.prog.mayEnter=true:=by kernel_rfl
theorem fnUnknownGoals_j7:(Rows.fnUnknownGoalsRow.lifted == Tryz.prog.liftsFinal)=true:=by kernel_rfl
theorem fnUnknownGoals_j8:(Tryz.prog.make == some Rows.fnUnknownGoalsRow.make)=true:=by kernel_rfl
theorem fnUnknownGoals_j9:joinedFacts Tryz.prog 3 Tryz.f3 Rows.fnUnknownGoalsSpec Rows.fnUnknownGoalsRow=true:=by
 unfold joinedFacts
 rw[fnUnknownGoals_j1,fnUnknownGoals_j2,fnUnknownGoals_j3,fnUnknownGoals_j4,fnUnknownGoals_j5,fnUnknownGoals_j6,fnUnknownGoals_j7,fnUnknownGoals_j8]
 kernel_rfl
theorem fnUnknownGoals_holds:Rows.FnUnknownGoalsSaid:=
 OpenClaim.holds_of_wide 3 Tryz.f3 rfl rfl rfl rfl rfl rfl rfl ⟨rfl,rfl,rfl,rfl,rfl⟩ rfl rfl rfl rfl rfl (by kernel_rfl) Tryz.func3 fnUnknownGoals_j9
  (of_decide_eq_true (by kernel_rfl)) (by unfold Func.isWrapper;first | (rw[a4 (by decide +kernel)];kernel_rfl) | (rw[aQ (by decide +kernel)];exact⟨rfl,rfl⟩))
  (fun os started H enc _=>fnUnknownGoals_lifted os started H enc)
end Go.Proofs.YtlepdbmhjkmelaaGreat
