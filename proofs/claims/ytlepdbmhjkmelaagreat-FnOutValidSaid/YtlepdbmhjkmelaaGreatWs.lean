
import Derived.Test.YtlepdbmhjkmelaaGreatRows
import Derived.Test.YtlepdbmhjkmelaaGreatWsp
import Derived.Test.YtlepdbmhjkmelaaGreatWsq
namespace Go.Proofs.YtlepdbmhjkmelaaGreat
open Go.ChangeShapes Go.WideShapes Go.ChangeAt Go.RowKit Go.AW
theorem Tryzown:ownKnob Tryz.prog.godebug=none:=by kernel_rfl
theorem Tryzlaid:laidOutB Tryz.prog=true:=by kernel_rfl
set_option maxRecDepth 100000 in
theorem fnOutValid_lifted(os:Os)(started:os.Started)(H:Type)(enc:TypeId×Value→H) :
 ReturnsInHanded {} Tryz.checked os 4 .any (Rows.fnOutValidSpec.pre6 enc Tryz.prog Tryz.f4 Rows.fnOutValidRow.domain false) (Rows.fnOutValidSpec.post enc Tryz.prog Tryz.f4 false true false false):=by
 refine returnsInHanded_of_change (C:=Tryz.checked) Tryzown started (by kernel_rfl) Tryz.func4
  (ChangeSpec.witness6 (enc:=enc) (C:=Tryz.checked) false ⟨#[],#[.slice none 0 0],[]⟩ 8 (by kernel_rfl) (by kernel_rfl) (by kernel_rfl) (by kernel_rfl)) ?_
 intro W base args ds gs before aTR hW a0A _
 have vQ:∀(j:Nat) t v,Tryz.f4.params[j]?=some t→args[j]?=some v→Value.okWide Tryz.prog W .any base t v:=aTR
 have hW':DataW.Whole enc Tryz.prog Tryz.f4.params.toList [] false W args.toList ds gs before:=hW
 obtain⟨p,q,hA0,hV,rfl,hfz,hnd⟩:=hW
 have hA:DataW.TrodAll enc Tryz.prog W 0 (fun _=>true) true Tryz.f4.params.toList args.toList ds p:=hA0
 rw[Tryz.params4] at hA vQ
 obtain⟨v0,d0,rfl,rfl,h0⟩:=trodAll_one hA
 obtain⟨rfl,rfl⟩:=trodVars_none hV
 have g0:=aYT Tryz.underlying22 (vQ 0 22 v0 rfl rfl)
 obtain⟨a,ha⟩:=aWE aWC (fun a=>by rw[g0];try rfl) h0
 exact aUC (tb:=4) Tryzlaid (by kernel_rfl) rfl Tryz.underlying4 rfl hW' rfl (by show cJ _ _ _ [v0];simp only[cJ];exact⟨v0,[],rfl,ha,rfl⟩) (aMI a qX)
theorem fnOutValid_j1:(Rows.fnOutValidRow.inPlace == Tryz.prog.inPlace 4)=true:=by kernel_rfl
theorem fnOutValid_j2:(Rows.fnOutValidRow.unfollowed == Tryz.prog.unfollowed 4)=true:=by kernel_rfl
theorem fnOutValid_j3:(Rows.fnOutValidRow.recurses == Tryz.prog.recurses 4)=true:=by kernel_rfl
theorem fnOutValid_j4:(Rows.fnOutValidRow.named == Tryz.prog.varsNamed 4)=true:=by kernel_rfl
theorem fnOutValid_j5:Tryz.prog.stopsHeard=true:=by kernel_rfl
theorem fnOutValid_j6:Tryz.prog.mayEnter=true:=by kernel_rfl
theorem fnOutValid_j7:(Rows.fnOutValidRow.lifted == Tryz.prog.liftsFinal)=true:=by kernel_rfl
theorem fnOutValid_j8:(Tryz.prog.make == some Rows.fnOutValidRow.make)=true:=by kernel_rfl
theorem fnOutValid_j9:joinedFacts Tryz.prog 4 Tryz.f4 Rows.fnOutValidSpec Rows.fnOutValidRow=true:=by
 unfold joinedFacts
 rw[fnOutValid_j1,fnOutValid_j2,fnOutValid_j3,fnOutValid_j4,fnOutValid_j5,fnOutValid_j6,fnOutValid_j7,fnOutValid_j8]
 kernel_rfl
theorem fnOutValid_holds:Rows.FnOutValidSaid:=
 OpenClaim.holds_of_wide 4 Tryz.f4 rfl rfl rfl rfl rfl rfl rfl ⟨rfl,rfl,rfl,rfl,rfl⟩ rfl rfl rfl rfl rfl (by kernel_rfl) Tryz.func4 fnOutValid_j9
  (of_decide_eq_true (by kernel_rfl)) (by unfold Func.isWrapper;first | (rw[aN (by decide +kernel)];kernel_rfl) | (rw[aH (by decide +kernel)];exact⟨rfl,rfl⟩))
  (fun os started H enc _=>fnOutValid_lifted os started H enc)
end Go.Proofs.YtlepdbmhjkmelaaGreat
