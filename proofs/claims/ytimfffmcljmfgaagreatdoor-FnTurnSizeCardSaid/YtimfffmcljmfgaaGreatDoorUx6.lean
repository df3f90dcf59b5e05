
import Derived.Test.YtimfffmcljmfgaaGreatDoorRows
import Derived.Test.YtimfffmcljmfgaaGreatDoorCards
import Derived.Test.YtimfffmcljmfgaaGreatDoorTie
import Derived.Test.YtimfffmcljmfgaaGreatDoorUx5
import Derived.Test.YtimfffmcljmfgaaGreatDoorUxz
import Derived.LaidMore
import Derived.SevenTiedAt
namespace Go.Proofs.YtimfffmcljmfgaaGreatDoor
open Go.ChangeShapes Go.WideShapes Go.ChangeAt Go.RowKit Go.AW
theorem fnTurnSize_door(os:Os)(args:Array Value):laidMetH Tryz.prog Rows.fnTurnSizeRow.laid ((World.doorLaid Tryz.prog 24 os).forCall (fun _ _=>0) ⟨#[],args,[]⟩).memory:=
 laidMetH_of_parts3 (fuel:=8) (laidMet_of_run' 8 (by kernel_rfl) (by kernel_rfl)) (by kernel_rfl) (by kernel_rfl)
set_option maxRecDepth 100000 in
theorem fnTurnSize_lifted(os:Os)(started:os.Started)(H:Type)(enc:TypeId×Value→H) :
 ReturnsInHanded {} Tryz.checked os 7 .any (fun w args=>(Rows.fnTurnSizeSpec.pre enc Tryz.prog Tryz.f7 [] false w args∧laidMetH Tryz.prog Rows.fnTurnSizeRow.laid w)∧sizedMet enc Tryz.prog Tryz.f7 (OpenSpec.ofChange Rows.fnTurnSizeSpec) false w args) (Rows.fnTurnSizeSpec.post enc Tryz.prog Tryz.f7 false true false false):=by
 refine returnsInHanded_of_change_and (C:=Tryz.checked) (X:=fun w _=>laidMetH Tryz.prog Rows.fnTurnSizeRow.laid w) (fun _ _ _ hh h=>h.of_heap hh) ZB started (by kernel_rfl) Tryz.func7
  (ChangeSpec.witness_shaped (enc:=enc) (C:=Tryz.checked) (os:=os) (X:=fun w _=>laidMetH Tryz.prog Rows.fnTurnSizeRow.laid w) false (World.doorLaid Tryz.prog 24 os) #[.slice none 0 0,.slice none 0 0] 8 rfl (World.shaped_of_RefB (by kernel_rfl) (by kernel_rfl)) (by kernel_rfl) (by kernel_rfl) (by kernel_rfl) (fnTurnSize_door os _)) ?_
 intro W base args ds gs before U9 hW yN _ _ _
 have wU:∀(j:Nat) t v,Tryz.f7.params[j]?=some t→args[j]?=some v→Value.okWide Tryz.prog W .any base t v:=U9
 have hW':DataW.Whole enc Tryz.prog Tryz.f7.params.toList [] false W args.toList ds gs before:=hW
 obtain⟨p,q,hA0,hV,rfl,hfz,hnd⟩:=hW
 have hA:DataW.TrodAll enc Tryz.prog W 0 (fun _=>true) true Tryz.f7.params.toList args.toList ds p:=hA0
 rw[Tryz.params7] at hA wU
 obtain⟨v0,v1,d0,d1,p0,p1,rfl,rfl,rfl,h0,h1⟩:=trodAll_two hA
 obtain⟨rfl,rfl⟩:=trodVars_none hV
 have g0:=YM Tryz.underlying40 (wU 0 40 v0 rfl rfl)
 have g1:=YM Tryz.underlying40 (wU 1 40 v1 rfl rfl)
 obtain⟨a,ha⟩:=WS WR (fun a=>by rw[g0];try rfl) h0
 obtain⟨b,hb⟩:=WS WR (fun a=>by rw[g1];try rfl) h1
 exact aQG (tb:=4) ZA (by kernel_rfl) rfl Tryz.underlying4 rfl hW' rfl (by show dF _ _ _ [v0,v1];simp only[dF];exact⟨v0,[v1],rfl,ha,v1,[],rfl,hb,rfl⟩) (aXK a b tL)
theorem fnTurnSize_j1:(Rows.fnTurnSizeRow.inPlace == Tryz.prog.inPlace 7)=true:=by kernel_rfl
theorem fnTurnSize_j2:(Rows.fnTurnSizeRow.unfollowed == Tryz.prog.unfollowed 7)=true:=by kernel_rfl
theorem fnTurnSize_j3:(Rows.fnTurnSizeRow.recurses == Tryz.prog.recurses 7)=true:=by kernel_rfl
theorem fnTurnSize_j4:(Rows.fnTurnSizeRow.named == Tryz.prog.varsNamed 7)=true:=by kernel_rfl
theorem fnTurnSize_j7:(Rows.fnTurnSizeRow.lifted == Tryz.prog.liftsFinal)=true:=aCU
theorem fnTurnSize_j8:(Tryz.prog.make == some Rows.fnTurnSizeRow.make)=true:=aCX
theorem fnTurnSize_j9:joinedFacts Tryz.prog 7 Tryz.f7 Rows.fnTurnSizeSpec Rows.fnTurnSizeRow=true:=by
 unfold joinedFacts
 rw[fnTurnSize_j1,fnTurnSize_j2,fnTurnSize_j3,fnTurnSize_j4,aCT,aCS,fnTurnSize_j7,fnTurnSize_j8]
 kernel_rfl
theorem fnTurnSize_holds:Rows.FnTurnSizeSaid:=
 OpenClaim.holds_of_wide 7 Tryz.f7 rfl rfl rfl rfl rfl rfl rfl ⟨rfl,rfl,rfl,rfl,rfl⟩ rfl rfl rfl rfl rfl (by kernel_rfl) Tryz.func7 fnTurnSize_j9
  (of_decide_eq_true (by kernel_rfl)) (by unfold Func.isWrapper;first | (rw[aH (by decide +kernel)];kernel_rfl) | (rw[aE (by decide +kernel)];exact⟨rfl,rfl⟩))
  (fun os started H enc _=>fnTurnSize_lifted os started H enc)
theorem fnTurnSize_i3:false=Rows.fnTurnSizeRow.goesBy Tryz.prog:=by kernel_rfl
theorem fnTurnSize_i4:Tryz.prog.funcNamed "loop.example/prologserver/laws.FnTurnSize" = some 7:=by kernel_rfl
theorem fnTurnSize_card_holds:Rows.FnTurnSizeCardSaid:=
 Claim7.holds_tied_plain_at .later [] [.data,.data,.data] true (true, "35a9d5ba51d683bf6a5ce4e922c04c75025bcab1a1de1b217ce7602da35b80a8") false
  fnTurnSize_holds (fun _ h=>by cases h) (by kernel_rfl) (fun _ h=>by cases h) fnTurnSize_row_tie rfl ⟨rfl,rfl⟩ aCW rfl
  (fun f fn hf hfn=>by
   obtain rfl:f=7:=nC (fnTurnSize_i4.symm.trans hf) |>.symm
   obtain rfl:fn=Tryz.f7:=(nC (Tryz.func7.symm.trans hfn)).symm
   exact⟨aCV,fun j t ht=>by
    rw[Tryz.params7] at ht
    have hm:t∈[40,40]:=by simpa using BX ht
    have d7:([40,40].all fun u=> !Tryz.prog.wantsStandIn u)=true:=by kernel_rfl
    exact(show Tryz.prog.wantsStandIn t=false by simpa using eH.1 d7 t hm)⟩)
  fnTurnSize_i3
end Go.Proofs.YtimfffmcljmfgaaGreatDoor
