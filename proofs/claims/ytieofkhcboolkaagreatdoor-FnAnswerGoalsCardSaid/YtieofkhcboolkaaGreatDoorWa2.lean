
import Derived.Test.YtieofkhcboolkaaGreatDoorRows
import Derived.Test.YtieofkhcboolkaaGreatDoorCards
import Derived.Test.YtieofkhcboolkaaGreatDoorTie
import Derived.Test.YtieofkhcboolkaaGreatDoorWau
import Derived.LaidMore
import Derived.SevenTiedAt
namespace Go.Proofs.YtieofkhcboolkaaGreatDoor
open Go.ChangeShapes Go.WideShapes Go.ChangeAt Go.RowKit Go.AW
theorem fnAnswerGoals_door(os:Os)(args:Array Value):laidMetH Tryz.prog Rows.fnAnswerGoalsRow.laid ((World.doorLaid Tryz.prog 24 os).forCall (fun _ _=>0) ⟨#[],args,[]⟩).memory:=
 laidMetH_of_parts3 (fuel:=8) (laidMet_of_run' 8 (by kernel_rfl) (by kernel_rfl)) (by kernel_rfl) (by kernel_rfl)
set_option maxRecDepth 100000 in
theorem fnAnswerGoals_lifted(os:Os)(started:os.Started)(H:Type)(enc:TypeId×Value→H) :
 ReturnsInHanded {} Tryz.checked os 4 .any (fun w args=>(Rows.fnAnswerGoalsSpec.pre enc Tryz.prog Tryz.f4 [] false w args∧laidMetH Tryz.prog Rows.fnAnswerGoalsRow.laid w)∧sizedMet enc Tryz.prog Tryz.f4 (OpenSpec.ofChange Rows.fnAnswerGoalsSpec) false w args) (Rows.fnAnswerGoalsSpec.post enc Tryz.prog Tryz.f4 false true false false):=by
 refine returnsInHanded_of_change_and (C:=Tryz.checked) (X:=fun w _=>laidMetH Tryz.prog Rows.fnAnswerGoalsRow.laid w) (fun _ _ _ hh h=>h.of_heap hh) VF started (by kernel_rfl) Tryz.func4
  (ChangeSpec.witness_shaped (enc:=enc) (C:=Tryz.checked) (os:=os) (X:=fun w _=>laidMetH Tryz.prog Rows.fnAnswerGoalsRow.laid w) false (World.doorLaid Tryz.prog 24 os) #[.slice none 0 0] 8 rfl (World.shaped_of_RefB (by kernel_rfl) (by kernel_rfl)) (by kernel_rfl) (by kernel_rfl) (by kernel_rfl) (fnAnswerGoals_door os _)) ?_
 intro W base args ds gs before Q8 hW wG _ QW _
 have tE:∀(j:Nat) t v,Tryz.f4.params[j]?=some t→args[j]?=some v→Value.okWide Tryz.prog W .any base t v:=Q8
 have hW':DataW.Whole enc Tryz.prog Tryz.f4.params.toList [] false W args.toList ds gs before:=hW
 obtain⟨p,q,hA0,hV,rfl,hfz,hnd⟩:=hW
 have hA:DataW.TrodAll enc Tryz.prog W 0 (fun _=>true) true Tryz.f4.params.toList args.toList ds p:=hA0
 rw[Tryz.params4] at hA tE
 obtain⟨tT,htT⟩:=aMJ (laidMetH.filter (fun x=>x.1 == SK) QW)
 have P8:=aM2 htT
 obtain⟨v0,d0,rfl,rfl,h0⟩:=trodAll_one hA
 obtain⟨rfl,rfl⟩:=trodVars_none hV
 have g0:=aPW Tryz.underlying22 (tE 0 22 v0 rfl rfl)
 obtain⟨a,ha⟩:=aMP (aMO P8) (fun a=>by rw[g0];try rfl) h0
 exact aLL (tb:=4) VD (by kernel_rfl) rfl Tryz.underlying4 rfl hW' rfl ⟨tT,htT⟩ (by show dA _ _ _ [v0];simp only[dA];exact⟨v0,[],rfl,ha,rfl⟩) (aSN a _ (aNO _ _))
theorem fnAnswerGoals_j1:(Rows.fnAnswerGoalsRow.inPlace == Tryz.prog.inPlace 4)=true:=by kernel_rfl
theorem fnAnswerGoals_j2:(Rows.fnAnswerGoalsRow.unfollowed == Tryz.prog.unfollowed 4)=true:=by kernel_rfl
theorem fnAnswerGoals_j3:(Rows.fnAnswerGoalsRow.recurses == Tryz.prog.recurses 4)=true:=by kernel_rfl
theorem fnAnswerGoals_j4:(Rows.fnAnswerGoalsRow.named == Tryz.prog.varsNamed 4)=true:=by kernel_rfl
theorem fnAnswerGoals_j7:(Rows.fnAnswerGoalsRow.lifted == Tryz.prog.liftsFinal)=true:=Y1
theorem fnAnswerGoals_j8:(Tryz.prog.make == some Rows.fnAnswerGoalsRow.make)=true:=Y4
theorem fnAnswerGoals_j9:joinedFacts Tryz.prog 4 Tryz.f4 Rows.fnAnswerGoalsSpec Rows.fnAnswerGoalsRow=true:=by
 unfold joinedFacts
 rw[fnAnswerGoals_j1,fnAnswerGoals_j2,fnAnswerGoals_j3,fnAnswerGoals_j4,Y0,YZ,fnAnswerGoals_j7,fnAnswerGoals_j8]
 kernel_rfl
theorem fnAnswerGoals_holds:Rows.FnAnswerGoalsSaid:=
 OpenClaim.holds_of_wide 4 Tryz.f4 rfl rfl rfl rfl rfl rfl rfl ⟨rfl,rfl,rfl,rfl,rfl⟩ rfl rfl rfl rfl rfl (by kernel_rfl) Tryz.func4 fnAnswerGoals_j9
  (of_decide_eq_true (by kernel_rfl)) (by unfold Func.isWrapper;first | (rw[aJ (by decide +kernel)];kernel_rfl) | (rw[aF (by decide +kernel)];exact⟨rfl,rfl⟩))
  (fun os started H enc _=>fnAnswerGoals_lifted os started H enc)
theorem fnAnswerGoals_i3:false=Rows.fnAnswerGoalsRow.goesBy Tryz.prog:=by kernel_rfl
theorem fnAnswerGoals_i4:Tryz.prog.funcNamed "loop.example/prologserver/laws.FnAnswerGoals" = some 4:=by kernel_rfl
theorem fnAnswerGoals_card_holds:Rows.FnAnswerGoalsCardSaid:=
 Claim7.holds_tied_plain_at .later [] [.data,.data,.data] true (true, "5ac40d088460fd31efcb4e8be2bfc96a53873949d201157e5bb18c952d020935") false
  fnAnswerGoals_holds (fun _ h=>by cases h) (by kernel_rfl) (fun _ h=>by cases h) fnAnswerGoals_row_tie rfl ⟨rfl,rfl⟩ Y3 rfl
  (fun f fn hf hfn=>by
   obtain rfl:f=4:=kZ (fnAnswerGoals_i4.symm.trans hf) |>.symm
   obtain rfl:fn=Tryz.f4:=(kZ (Tryz.func4.symm.trans hfn)).symm
   exact⟨Y2,fun j t ht=>by
    rw[Tryz.params4] at ht
    have hm:t∈[22]:=by simpa using zD ht
    have dJ:([22].all fun u=> !Tryz.prog.wantsStandIn u)=true:=by kernel_rfl
    exact(show Tryz.prog.wantsStandIn t=false by simpa using dQ.1 dJ t hm)⟩)
  fnAnswerGoals_i3
end Go.Proofs.YtieofkhcboolkaaGreatDoor
