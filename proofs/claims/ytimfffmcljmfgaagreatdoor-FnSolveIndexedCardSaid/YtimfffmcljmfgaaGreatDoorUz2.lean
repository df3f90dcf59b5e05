
import Derived.Test.YtimfffmcljmfgaaGreatDoorRows
import Derived.Test.YtimfffmcljmfgaaGreatDoorCards
import Derived.Test.YtimfffmcljmfgaaGreatDoorTie
import Derived.Test.YtimfffmcljmfgaaGreatDoorUzv
import Derived.Test.YtimfffmcljmfgaaGreatDoorUzu
import Derived.LaidMore
import Derived.SevenTiedAt
namespace Go.Proofs.YtimfffmcljmfgaaGreatDoor
open Go.ChangeShapes Go.WideShapes Go.ChangeAt Go.RowKit Go.AW
theorem fnSolveIndexed_door(os:Os)(args:Array Value):laidMetH Tryz.prog Rows.fnSolveIndexedRow.laid ((World.doorLaid Tryz.prog 24 os).forCall (fun _ _=>0) ⟨#[],args,[]⟩).memory:=
 laidMetH_of_parts3 (fuel:=8) (laidMet_of_run' 8 (by kernel_rfl) (by kernel_rfl)) (by kernel_rfl) (by kernel_rfl)
set_option maxRecDepth 100000 in
theorem fnSolveIndexed_lifted(os:Os)(started:os.Started)(H:Type)(enc:TypeId×Value→H) :
 ReturnsInHanded {} Tryz.checked os 4 .any (fun w args=>(Rows.fnSolveIndexedSpec.pre enc Tryz.prog Tryz.f4 [] false w args∧laidMetH Tryz.prog Rows.fnSolveIndexedRow.laid w)∧sizedMet enc Tryz.prog Tryz.f4 (OpenSpec.ofChange Rows.fnSolveIndexedSpec) false w args) (Rows.fnSolveIndexedSpec.post enc Tryz.prog Tryz.f4 false true false false):=by
 refine returnsInHanded_of_change_and (C:=Tryz.checked) (X:=fun w _=>laidMetH Tryz.prog Rows.fnSolveIndexedRow.laid w) (fun _ _ _ hh h=>h.of_heap hh) X7 started (by kernel_rfl) Tryz.func4
  (ChangeSpec.witness_shaped (enc:=enc) (C:=Tryz.checked) (os:=os) (X:=fun w _=>laidMetH Tryz.prog Rows.fnSolveIndexedRow.laid w) false (World.doorLaid Tryz.prog 24 os) #[.slice none 0 0] 8 rfl (World.shaped_of_RefB (by kernel_rfl) (by kernel_rfl)) (by kernel_rfl) (by kernel_rfl) (by kernel_rfl) (fnSolveIndexed_door os _)) ?_
 intro W base args ds gs before UE hW xU _ TT _
 have sN:∀(j:Nat) t v,Tryz.f4.params[j]?=some t→args[j]?=some v→Value.okWide Tryz.prog W .any base t v:=UE
 have hW':DataW.Whole enc Tryz.prog Tryz.f4.params.toList [] false W args.toList ds gs before:=hW
 obtain⟨p,q,hA0,hV,rfl,hfz,hnd⟩:=hW
 have hA:DataW.TrodAll enc Tryz.prog W 0 (fun _=>true) true Tryz.f4.params.toList args.toList ds p:=hA0
 rw[Tryz.params4] at hA sN
 obtain⟨tT,htT⟩:=aPZ (laidMetH.filter (fun x=>x.1 == VL) TT)
 have MZ:=aQI htT
 obtain⟨v0,d0,rfl,rfl,h0⟩:=trodAll_one hA
 obtain⟨rfl,rfl⟩:=trodVars_none hV
 have g0:=XO Tryz.underlying40 (sN 0 40 v0 rfl rfl)
 obtain⟨a,ha⟩:=JF (a57 MZ) (fun a=>by rw[g0];try rfl) h0
 exact aOR (tb:=4) X6 (by kernel_rfl) rfl Tryz.underlying4 rfl hW' rfl ⟨tT,htT⟩ (by show dC _ _ _ [v0];simp only[dC];exact⟨v0,[],rfl,ha,rfl⟩) (aVJ a _ (OB _ _))
theorem fnSolveIndexed_j1:(Rows.fnSolveIndexedRow.inPlace == Tryz.prog.inPlace 4)=true:=by kernel_rfl
theorem fnSolveIndexed_j2:(Rows.fnSolveIndexedRow.unfollowed == Tryz.prog.unfollowed 4)=true:=by kernel_rfl
theorem fnSolveIndexed_j3:(Rows.fnSolveIndexedRow.recurses == Tryz.prog.recurses 4)=true:=by kernel_rfl
theorem fnSolveIndexed_j4:(Rows.fnSolveIndexedRow.named == Tryz.prog.varsNamed 4)=true:=by kernel_rfl
theorem fnSolveIndexed_j7:(Rows.fnSolveIndexedRow.lifted == Tryz.prog.liftsFinal)=true:=aBR
theorem fnSolveIndexed_j8:(Tryz.prog.make == some Rows.fnSolveIndexedRow.make)=true:=aBU
theorem fnSolveIndexed_j9:joinedFacts Tryz.prog 4 Tryz.f4 Rows.fnSolveIndexedSpec Rows.fnSolveIndexedRow=true:=by
 unfold joinedFacts
 rw[fnSolveIndexed_j1,fnSolveIndexed_j2,fnSolveIndexed_j3,fnSolveIndexed_j4,aBQ,aBP,fnSolveIndexed_j7,fnSolveIndexed_j8]
 kernel_rfl
theorem fnSolveIndexed_holds:Rows.FnSolveIndexedSaid:=
 OpenClaim.holds_of_wide 4 Tryz.f4 rfl rfl rfl rfl rfl rfl rfl ⟨rfl,rfl,rfl,rfl,rfl⟩ rfl rfl rfl rfl rfl (by kernel_rfl) Tryz.func4 fnSolveIndexed_j9
  (I5 (by kernel_rfl)) (by unfold Func.isWrapper;first | (rw[aH (by decide +kernel)];kernel_rfl) | (rw[aE (by decide +kernel)];exact⟨rfl,rfl⟩))
  (fun os started H enc _=>fnSolveIndexed_lifted os started H enc)
theorem fnSolveIndexed_i3:false=Rows.fnSolveIndexedRow.goesBy Tryz.prog:=by kernel_rfl
theorem fnSolveIndexed_i4:Tryz.prog.funcNamed "loop.example/prologserver/laws.FnSolveIndexed" = some 4:=by kernel_rfl
theorem fnSolveIndexed_card_holds:Rows.FnSolveIndexedCardSaid:=
 Claim7.holds_tied_plain_at .later [] [.data,.data,.data] true (true, "35a9d5ba51d683bf6a5ce4e922c04c75025bcab1a1de1b217ce7602da35b80a8") false
  fnSolveIndexed_holds (fun _ h=>by cases h) (by kernel_rfl) (fun _ h=>by cases h) fnSolveIndexed_row_tie rfl ⟨rfl,rfl⟩ aBT rfl
  (fun f fn hf hfn=>by
   obtain rfl:f=4:=lL (fnSolveIndexed_i4.symm.trans hf) |>.symm
   obtain rfl:fn=Tryz.f4:=(lL (Tryz.func4.symm.trans hfn)).symm
   exact⟨aBS,fun j t ht=>by
    rw[Tryz.params4] at ht
    have hm:t∈[40]:=by simpa using A8 ht
    have dN:([40].all fun u=> !Tryz.prog.wantsStandIn u)=true:=by kernel_rfl
    exact(show Tryz.prog.wantsStandIn t=false by simpa using eW.1 dN t hm)⟩)
  fnSolveIndexed_i3
end Go.Proofs.YtimfffmcljmfgaaGreatDoor
