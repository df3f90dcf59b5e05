
import Derived.Test.YtimfffmcljmfgaaGreatDoorRows
import Derived.Test.YtimfffmcljmfgaaGreatDoorCards
import Derived.Test.YtimfffmcljmfgaaGreatDoorTie
import Derived.Test.YtimfffmcljmfgaaGreatDoorUxt
import Derived.Test.YtimfffmcljmfgaaGreatDoorUxu
import Derived.Test.YtimfffmcljmfgaaGreatDoorUxw
import Derived.LaidMore
import Derived.SevenTiedAt
namespace Go.Proofs.YtimfffmcljmfgaaGreatDoor
open Go.ChangeShapes Go.WideShapes Go.ChangeAt Go.RowKit Go.AW
theorem fnRoundRobin_door(os:Os)(args:Array Value):laidMetH Tryz.prog Rows.fnRoundRobinRow.laid ((World.doorLaid Tryz.prog 24 os).forCall (fun _ _=>0) ⟨#[],args,[]⟩).memory:=
 laidMetH_of_parts3 (fuel:=8) (laidMet_of_run' 8 (by kernel_rfl) (by kernel_rfl)) (by kernel_rfl) (by kernel_rfl)
set_option maxRecDepth 100000 in
theorem fnRoundRobin_lifted(os:Os)(started:os.Started)(H:Type)(enc:TypeId×Value→H) :
 ReturnsInHanded {} Tryz.checked os 6 .any (fun w args=>(Rows.fnRoundRobinSpec.pre enc Tryz.prog Tryz.f6 [] false w args∧laidMetH Tryz.prog Rows.fnRoundRobinRow.laid w)∧sizedMet enc Tryz.prog Tryz.f6 (OpenSpec.ofChange Rows.fnRoundRobinSpec) false w args) (Rows.fnRoundRobinSpec.post enc Tryz.prog Tryz.f6 false true false false):=by
 refine returnsInHanded_of_change_and (C:=Tryz.checked) (X:=fun w _=>laidMetH Tryz.prog Rows.fnRoundRobinRow.laid w) (fun _ _ _ hh h=>h.of_heap hh) ZB started (by kernel_rfl) Tryz.func6
  (ChangeSpec.witness_shaped (enc:=enc) (C:=Tryz.checked) (os:=os) (X:=fun w _=>laidMetH Tryz.prog Rows.fnRoundRobinRow.laid w) false (World.doorLaid Tryz.prog 24 os) #[.slice none 0 0] 8 rfl (World.shaped_of_RefB (by kernel_rfl) (by kernel_rfl)) (by kernel_rfl) (by kernel_rfl) (by kernel_rfl) (fnRoundRobin_door os _)) ?_
 intro W base args ds gs before U9 hW yN _ _ _
 have wU:∀(j:Nat) t v,Tryz.f6.params[j]?=some t→args[j]?=some v→Value.okWide Tryz.prog W .any base t v:=U9
 have hW':DataW.Whole enc Tryz.prog Tryz.f6.params.toList [] false W args.toList ds gs before:=hW
 obtain⟨p,q,hA0,hV,rfl,hfz,hnd⟩:=hW
 have hA:DataW.TrodAll enc Tryz.prog W 0 (fun _=>true) true Tryz.f6.params.toList args.toList ds p:=hA0
 rw[Tryz.params6] at hA wU
 obtain⟨v0,d0,rfl,rfl,h0⟩:=trodAll_one hA
 obtain⟨rfl,rfl⟩:=trodVars_none hV
 have g0:=YM Tryz.underlying40 (wU 0 40 v0 rfl rfl)
 obtain⟨a,ha⟩:=WS WR (fun a=>by rw[g0];try rfl) h0
 exact aQG (tb:=4) ZA (by kernel_rfl) rfl Tryz.underlying4 rfl hW' rfl (by show dF _ _ _ [v0];simp only[dF];exact⟨v0,[],rfl,ha,rfl⟩) (aXJ a tL)
theorem fnRoundRobin_j1:(Rows.fnRoundRobinRow.inPlace == Tryz.prog.inPlace 6)=true:=by kernel_rfl
theorem fnRoundRobin_j2:(Rows.fnRoundRobinRow.unfollowed == Tryz.prog.unfollowed 6)=true:=by kernel_rfl
theorem fnRoundRobin_j3:(Rows.fnRoundRobinRow.recurses == Tryz.prog.recurses 6)=true:=by kernel_rfl
theorem fnRoundRobin_j4:(Rows.fnRoundRobinRow.named == Tryz.prog.varsNamed 6)=true:=by kernel_rfl
theorem fnRoundRobin_j7:(Rows.fnRoundRobinRow.lifted == Tryz.prog.liftsFinal)=true:=aCU
theorem fnRoundRobin_j8:(Tryz.prog.make == some Rows.fnRoundRobinRow.make)=true:=aCX
theorem fnRoundRobin_j9:joinedFacts Tryz.prog 6 Tryz.f6 Rows.fnRoundRobinSpec Rows.fnRoundRobinRow=true:=by
 unfold joinedFacts
 rw[fnRoundRobin_j1,fnRoundRobin_j2,fnRoundRobin_j3,fnRoundRobin_j4,aCT,aCS,fnRoundRobin_j7,fnRoundRobin_j8]
 kernel_rfl
theorem fnRoundRobin_holds:Rows.FnRoundRobinSaid:=
 OpenClaim.holds_of_wide 6 Tryz.f6 rfl rfl rfl rfl rfl rfl rfl ⟨rfl,rfl,rfl,rfl,rfl⟩ rfl rfl rfl rfl rfl (by kernel_rfl) Tryz.func6 fnRoundRobin_j9
  (of_decide_eq_true (by kernel_rfl)) (by unfold Func.isWrapper;first | (rw[aH (by decide +kernel)];kernel_rfl) | (rw[aE (by decide +kernel)];exact⟨rfl,rfl⟩))
  (fun os started H enc _=>fnRoundRobin_lifted os started H enc)
theorem fnRoundRobin_i3:false=Rows.fnRoundRobinRow.goesBy Tryz.prog:=by kernel_rfl
theorem fnRoundRobin_i4:Tryz.prog.funcNamed "loop.example/prologserver/laws.FnRoundRobin" = some 6:=by kernel_rfl
theorem fnRoundRobin_card_holds:Rows.FnRoundRobinCardSaid:=
 Claim7.holds_tied_plain_at .later [] [.data,.data,.data] true (true, "35a9d5ba51d683bf6a5ce4e922c04c75025bcab1a1de1b217ce7602da35b80a8") false
  fnRoundRobin_holds (fun _ h=>by cases h) (by kernel_rfl) (fun _ h=>by cases h) fnRoundRobin_row_tie rfl ⟨rfl,rfl⟩ aCW rfl
  (fun f fn hf hfn=>by
   obtain rfl:f=6:=nC (fnRoundRobin_i4.symm.trans hf) |>.symm
   obtain rfl:fn=Tryz.f6:=(nC (Tryz.func6.symm.trans hfn)).symm
   exact⟨aCV,fun j t ht=>by
    rw[Tryz.params6] at ht
    have hm:t∈[40]:=by simpa using BX ht
    have d7:([40].all fun u=> !Tryz.prog.wantsStandIn u)=true:=by kernel_rfl
    exact(show Tryz.prog.wantsStandIn t=false by simpa using eH.1 d7 t hm)⟩)
  fnRoundRobin_i3
end Go.Proofs.YtimfffmcljmfgaaGreatDoor
