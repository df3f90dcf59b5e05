import Derived.Test.YtimfffmcljmfgaaGreatDoorRows
import Derived.Test.YtimfffmcljmfgaaGreatDoorCards
import Derived.Test.YtimfffmcljmfgaaGreatDoorTie
import Derived.LaidMore
import Derived.SevenTiedAt
import Derived.Test.YtimfffmcljmfgaaGreatDoorUus
import Derived.Test.YtimfffmcljmfgaaGreatDoorUut
import Derived.Test.YtimfffmcljmfgaaGreatDoorUuu
import Derived.Test.YtimfffmcljmfgaaGreatDoorUv1

namespace Go.Proofs.YtimfffmcljmfgaaGreatDoor
open Go.ChangeShapes Go.WideShapes Go.ChangeAt Go.RowKit Go.AW
theorem fnAnswersHold_door(os:Os)(args:Array Value):laidMetH Tryz.prog Rows.fnAnswersHoldRow.laid ((World.doorLaid Tryz.prog 24 os).forCall (fun _ _=>0) ⟨#[],args,[]⟩).memory:=
 laidMetH_of_parts3 (fuel:=8) (laidMet_of_run' 8 (by kernel_rfl) (by kernel_rfl)) (by kernel_rfl) (by kernel_rfl)
set_option maxRecDepth 100000 in
theorem fnAnswersHold_lifted(os:Os)(started:os.Started)(H:Type)(enc:TypeId×Value→H) :
 ReturnsInHanded {} Tryz.checked os 12 .any (fun w args=>(Rows.fnAnswersHoldSpec.pre enc Tryz.prog Tryz.f12 [] false w args∧laidMetH Tryz.prog Rows.fnAnswersHoldRow.laid w)∧sizedMet enc Tryz.prog Tryz.f12 (OpenSpec.ofChange Rows.fnAnswersHoldSpec) false w args) (Rows.fnAnswersHoldSpec.post enc Tryz.prog Tryz.f12 false true false false):=by
 refine returnsInHanded_of_change_and (C:=Tryz.checked) (X:=fun w _=>laidMetH Tryz.prog Rows.fnAnswersHoldRow.laid w) (fun _ _ _ hh h=>h.of_heap hh) aPD started (by kernel_rfl) Tryz.func12
  (ChangeSpec.witness_shaped (enc:=enc) (C:=Tryz.checked) (os:=os) (X:=fun w _=>laidMetH Tryz.prog Rows.fnAnswersHoldRow.laid w) false (World.doorLaid Tryz.prog 24 os) #[.slice none 0 0] 8 rfl (World.shaped_of_RefB (by kernel_rfl) (by kernel_rfl)) (by kernel_rfl) (by kernel_rfl) (by kernel_rfl) (fnAnswersHold_door os _)) ?_
 intro W base args ds gs before aYY hW xV _ _ _
 have rF:∀(j:Nat) t v,Tryz.f12.params[j]?=some t→args[j]?=some v→Value.okWide Tryz.prog W .any base t v:=aYY
 have hW':DataW.Whole enc Tryz.prog Tryz.f12.params.toList [] false W args.toList ds gs before:=hW
 obtain⟨p,q,hA0,hV,rfl,hfz,hnd⟩:=hW
 have hA:DataW.TrodAll enc Tryz.prog W 0 (fun _=>true) true Tryz.f12.params.toList args.toList ds p:=hA0
 rw[Tryz.params12] at hA rF
 obtain⟨v0,d0,rfl,rfl,h0⟩:=trodAll_one hA
 obtain⟨rfl,rfl⟩:=trodVars_none hV
 have g0:=aOZ Tryz.underlying40 (rF 0 40 v0 rfl rfl)
 obtain⟨a,ha⟩:=aL1 aL0 (fun a=>by rw[g0];try rfl) h0
 exact aZW (tb:=4) aPC (by kernel_rfl) rfl Tryz.underlying4 rfl hW' rfl (by show dA _ _ _ [v0];simp only[dA];exact⟨v0,[],rfl,ha,rfl⟩) (c_FnAnswersHold a sV)
theorem fnAnswersHold_j1:(Rows.fnAnswersHoldRow.inPlace == Tryz.prog.inPlace 12)=true:=by kernel_rfl
theorem fnAnswersHold_j2:(Rows.fnAnswersHoldRow.unfollowed == Tryz.prog.unfollowed 12)=true:=by kernel_rfl
theorem fnAnswersHold_j3:(Rows.fnAnswersHoldRow.recurses == Tryz.prog.recurses 12)=true:=by kernel_rfl
theorem fnAnswersHold_j4:(Rows.fnAnswersHoldRow.named == Tryz.prog.varsNamed 12)=true:=by kernel_rfl
theorem fnAnswersHold_j7:(Rows.fnAnswersHoldRow.lifted == Tryz.prog.liftsFinal)=true:=aUP
theorem fnAnswersHold_j8:(Tryz.prog.make == some Rows.fnAnswersHoldRow.make)=true:=aUS
theorem fnAnswersHold_j9:joinedFacts Tryz.prog 12 Tryz.f12 Rows.fnAnswersHoldSpec Rows.fnAnswersHoldRow=true:=by
 unfold joinedFacts
 rw[fnAnswersHold_j1,fnAnswersHold_j2,fnAnswersHold_j3,fnAnswersHold_j4,aUO,aUN,fnAnswersHold_j7,fnAnswersHold_j8]
 kernel_rfl
theorem fnAnswersHold_holds:Rows.FnAnswersHoldSaid:=
 OpenClaim.holds_of_wide 12 Tryz.f12 rfl rfl rfl rfl rfl rfl rfl ⟨rfl,rfl,rfl,rfl,rfl⟩ rfl rfl rfl rfl rfl (by kernel_rfl) Tryz.func12 fnAnswersHold_j9
  (of_decide_eq_true (by kernel_rfl)) (by unfold Func.isWrapper;first | (rw[aH (by decide +kernel)];kernel_rfl) | (rw[aE (by decide +kernel)];exact⟨rfl,rfl⟩))
  (fun os started H enc _=>fnAnswersHold_lifted os started H enc)
theorem fnAnswersHold_i3:false=Rows.fnAnswersHoldRow.goesBy Tryz.prog:=by kernel_rfl
theorem fnAnswersHold_i4:Tryz.prog.funcNamed "loop.example/prologserver/laws.FnAnswersHold" = some 12:=by kernel_rfl
theorem fnAnswersHold_card_holds:Rows.FnAnswersHoldCardSaid:=
 Claim7.holds_tied_plain_at .later [] [.data,.data,.data] true (true, "35a9d5ba51d683bf6a5ce4e922c04c75025bcab1a1de1b217ce7602da35b80a8") false
  fnAnswersHold_holds (fun _ h=>by cases h) (by kernel_rfl) (fun _ h=>by cases h) fnAnswersHold_row_tie rfl ⟨rfl,rfl⟩ aUR rfl
  (fun f fn hf hfn=>by
   obtain rfl:f=12:=nK (fnAnswersHold_i4.symm.trans hf) |>.symm
   obtain rfl:fn=Tryz.f12:=(nK (Tryz.func12.symm.trans hfn)).symm
   exact⟨aUQ,fun j t ht=>by
    rw[Tryz.params12] at ht
    have hm:t∈[40]:=by simpa using BN ht
    have dX:([40].all fun u=> !Tryz.prog.wantsStandIn u)=true:=by kernel_rfl
    exact(show Tryz.prog.wantsStandIn t=false by simpa using dW.1 dX t hm)⟩)
  fnAnswersHold_i3
end Go.Proofs.YtimfffmcljmfgaaGreatDoor
