
import Derived.Test.YtimfffmcljmfgaaGreatDoorRows
import Derived.Test.YtimfffmcljmfgaaGreatDoorCards
import Derived.Test.YtimfffmcljmfgaaGreatDoorTie
import Derived.Test.YtimfffmcljmfgaaGreatDoorUus
import Derived.Test.YtimfffmcljmfgaaGreatDoorUut
import Derived.Test.YtimfffmcljmfgaaGreatDoorUuu
import Derived.LaidMore
import Derived.SevenTiedAt
namespace Go.Proofs.YtimfffmcljmfgaaGreatDoor
open Go.ChangeShapes Go.WideShapes Go.ChangeAt Go.RowKit Go.AW
theorem fnSolveFacts_door(os:Os)(args:Array Value):laidMetH Tryz.prog Rows.fnSolveFactsRow.laid ((World.doorLaid Tryz.prog 24 os).forCall (fun _ _=>0) ⟨#[],args,[]⟩).memory:=
 laidMetH_of_parts3 (fuel:=8) (laidMet_of_run' 8 (by kernel_rfl) (by kernel_rfl)) (by kernel_rfl) (by kernel_rfl)
set_option maxRecDepth 100000 in
theorem fnSolveFacts_lifted(os:Os)(started:os.Started)(H:Type)(enc:TypeId×Value→H) :
 ReturnsInHanded {} Tryz.checked os 11 .any (fun w args=>(Rows.fnSolveFactsSpec.pre enc Tryz.prog Tryz.f11 [] false w args∧laidMetH Tryz.prog Rows.fnSolveFactsRow.laid w)∧sizedMet enc Tryz.prog Tryz.f11 (OpenSpec.ofChange Rows.fnSolveFactsSpec) false w args) (Rows.fnSolveFactsSpec.post enc Tryz.prog Tryz.f11 false true false false):=by
 refine returnsInHanded_of_change_and (C:=Tryz.checked) (X:=fun w _=>laidMetH Tryz.prog Rows.fnSolveFactsRow.laid w) (fun _ _ _ hh h=>h.of_heap hh) aPD started (by kernel_rfl) Tryz.func11
  (ChangeSpec.witness_shaped (enc:=enc) (C:=Tryz.checked) (os:=os) (X:=fun w _=>laidMetH Tryz.prog Rows.fnSolveFactsRow.laid w) false (World.doorLaid Tryz.prog 24 os) #[.slice none 0 0,.slice none 0 0] 8 rfl (World.shaped_of_RefB (by kernel_rfl) (by kernel_rfl)) (by kernel_rfl) (by kernel_rfl) (by kernel_rfl) (fnSolveFacts_door os _)) ?_
 intro W base args ds gs before aYY hW xV _ _ _
 have rF:∀(j:Nat) t v,Tryz.f11.params[j]?=some t→args[j]?=some v→Value.okWide Tryz.prog W .any base t v:=aYY
 have hW':DataW.Whole enc Tryz.prog Tryz.f11.params.toList [] false W args.toList ds gs before:=hW
 obtain⟨p,q,hA0,hV,rfl,hfz,hnd⟩:=hW
 have hA:DataW.TrodAll enc Tryz.prog W 0 (fun _=>true) true Tryz.f11.params.toList args.toList ds p:=hA0
 rw[Tryz.params11] at hA rF
 obtain⟨v0,v1,d0,d1,p0,p1,rfl,rfl,rfl,h0,h1⟩:=trodAll_two hA
 obtain⟨rfl,rfl⟩:=trodVars_none hV
 have g0:=aOZ Tryz.underlying40 (rF 0 40 v0 rfl rfl)
 have g1:=aOZ Tryz.underlying40 (rF 1 40 v1 rfl rfl)
 obtain⟨a,ha⟩:=aL1 aL0 (fun a=>by rw[g0];try rfl) h0
 obtain⟨b,hb⟩:=aL1 aL0 (fun a=>by rw[g1];try rfl) h1
 exact aZW (tb:=4) aPC (by kernel_rfl) rfl Tryz.underlying4 rfl hW' rfl (by show dA _ _ _ [v0,v1];simp only[dA];exact⟨v0,[v1],rfl,ha,v1,[],rfl,hb,rfl⟩) (aRE a b sV)
theorem fnSolveFacts_j1:(Rows.fnSolveFactsRow.inPlace == Tryz.prog.inPlace 11)=true:=by kernel_rfl
theorem fnSolveFacts_j2:(Rows.fnSolveFactsRow.unfollowed == Tryz.prog.unfollowed 11)=true:=by kernel_rfl
theorem fnSolveFacts_j3:(Rows.fnSolveFactsRow.recurses == Tryz.prog.recurses 11)=true:=by kernel_rfl
theorem fnSolveFacts_j4:(Rows.fnSolveFactsRow.named == Tryz.prog.varsNamed 11)=true:=by kernel_rfl
theorem fnSolveFacts_j7:(Rows.fnSolveFactsRow.lifted == Tryz.prog.liftsFinal)=true:=aUP
theorem fnSolveFacts_j8:(Tryz.prog.make == some Rows.fnSolveFactsRow.make)=true:=aUS
theorem fnSolveFacts_j9:joinedFacts Tryz.prog 11 Tryz.f11 Rows.fnSolveFactsSpec Rows.fnSolveFactsRow=true:=by
 unfold joinedFacts
 rw[fnSolveFacts_j1,fnSolveFacts_j2,fnSolveFacts_j3,fnSolveFacts_j4,aUO,aUN,fnSolveFacts_j7,fnSolveFacts_j8]
 kernel_rfl
theorem fnSolveFacts_holds:Rows.FnSolveFactsSaid:=
 OpenClaim.holds_of_wide 11 Tryz.f11 rfl rfl rfl rfl rfl rfl rfl ⟨rfl,rfl,rfl,rfl,rfl⟩ rfl rfl rfl rfl rfl (by kernel_rfl) Tryz.func11 fnSolveFacts_j9
  (of_decide_eq_true (by kernel_rfl)) (by unfold Func.isWrapper;first | (rw[aH (by decide +kernel)];kernel_rfl) | (rw[aE (by decide +kernel)];exact⟨rfl,rfl⟩))
  (fun os started H enc _=>fnSolveFacts_lifted os started H enc)
theorem fnSolveFacts_i3:false=Rows.fnSolveFactsRow.goesBy Tryz.prog:=by kernel_rfl
theorem fnSolveFacts_i4:Tryz.prog.funcNamed "loop.example/prologserver/laws.FnSolveFacts" = some 11:=by kernel_rfl
theorem fnSolveFacts_card_holds:Rows.FnSolveFactsCardSaid:=
 Claim7.holds_tied_plain_at .later [] [.data,.data,.data] true (true, "35a9d5ba51d683bf6a5ce4e922c04c75025bcab1a1de1b217ce7602da35b80a8") false
  fnSolveFacts_holds (fun _ h=>by cases h) (by kernel_rfl) (fun _ h=>by cases h) fnSolveFacts_row_tie rfl ⟨rfl,rfl⟩ aUR rfl
  (fun f fn hf hfn=>by
   obtain rfl:f=11:=nK (fnSolveFacts_i4.symm.trans hf) |>.symm
   obtain rfl:fn=Tryz.f11:=(nK (Tryz.func11.symm.trans hfn)).symm
   exact⟨aUQ,fun j t ht=>by
    rw[Tryz.params11] at ht
    have hm:t∈[40,40]:=by simpa using BN ht
    have dX:([40,40].all fun u=> !Tryz.prog.wantsStandIn u)=true:=by kernel_rfl
    exact(show Tryz.prog.wantsStandIn t=false by simpa using dW.1 dX t hm)⟩)
  fnSolveFacts_i3
end Go.Proofs.YtimfffmcljmfgaaGreatDoor
