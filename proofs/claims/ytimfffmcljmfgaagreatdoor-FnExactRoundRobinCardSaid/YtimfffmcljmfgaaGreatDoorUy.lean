
import Derived.Test.YtimfffmcljmfgaaGreatDoorRows
import Derived.Test.YtimfffmcljmfgaaGreatDoorCards
import Derived.Test.YtimfffmcljmfgaaGreatDoorTie
import Derived.Test.YtimfffmcljmfgaaGreatDoorUys
import Derived.LaidMore
import Derived.SevenTiedAt
namespace Go.Proofs.YtimfffmcljmfgaaGreatDoor
open Go.ChangeShapes Go.WideShapes Go.ChangeAt Go.RowKit Go.AW
theorem Tryzown:ownKnob Tryz.prog.godebug=none:=by kernel_rfl
theorem Tryzlaid:laidOutB Tryz.prog=true:=by kernel_rfl
theorem cellsOf_ssR:Tryz.prog.cellsOf 105=6:=by kernel_rfl
theorem reads_sss{H:Type}{enc:TypeId×Value→H}{w:World}(n:Nat):Reads enc Tryz.prog w 44 n (fun l:List Ss=>.slice (l.map aX)):=
 KV Tryz.underlying44 cellsOf_ssR (by omega) (fun _=>rfl) fun m _=>fun _ _ h=>a0T h
theorem reads_intS{H:Type}{enc:TypeId×Value→H}{w:World}(n:Nat):Reads enc Tryz.prog w 3 n iv:=GM n
theorem fnExactRoundRobin_door(os:Os)(args:Array Value):laidMetH Tryz.prog Rows.fnExactRoundRobinRow.laid ((World.doorLaid Tryz.prog 24 os).forCall (fun _ _=>0) ⟨#[],args,[]⟩).memory:=
 laidMetH_of_parts3 (fuel:=8) (laidMet_of_run' 8 (by kernel_rfl) (by kernel_rfl)) (by kernel_rfl) (by kernel_rfl)
set_option maxRecDepth 100000 in
theorem fnExactRoundRobin_lifted(os:Os)(started:os.Started)(H:Type)(enc:TypeId×Value→H) :
 ReturnsInHanded {} Tryz.checked os 5 .any (fun w args=>(Rows.fnExactRoundRobinSpec.pre enc Tryz.prog Tryz.f5 [] false w args∧laidMetH Tryz.prog Rows.fnExactRoundRobinRow.laid w)∧sizedMet enc Tryz.prog Tryz.f5 (OpenSpec.ofChange Rows.fnExactRoundRobinSpec) false w args) (Rows.fnExactRoundRobinSpec.post enc Tryz.prog Tryz.f5 false true false false):=by
 refine returnsInHanded_of_change_and (C:=Tryz.checked) (X:=fun w _=>laidMetH Tryz.prog Rows.fnExactRoundRobinRow.laid w) (fun _ _ _ hh h=>h.of_heap hh) Tryzown started (by kernel_rfl) Tryz.func5
  (ChangeSpec.witness_shaped (enc:=enc) (C:=Tryz.checked) (os:=os) (X:=fun w _=>laidMetH Tryz.prog Rows.fnExactRoundRobinRow.laid w) false (World.doorLaid Tryz.prog 24 os) #[.slice none 0 0,.int .i64 0] 8 rfl (World.shaped_of_RefB (by kernel_rfl) (by kernel_rfl)) (by kernel_rfl) (by kernel_rfl) (by kernel_rfl) (fnExactRoundRobin_door os _)) ?_
 intro W base args ds gs before aXP hW xD _ _ _
 have zH:∀(j:Nat) t v,Tryz.f5.params[j]?=some t→args[j]?=some v→Value.okWide Tryz.prog W .any base t v:=aXP
 have hW':DataW.Whole enc Tryz.prog Tryz.f5.params.toList [] false W args.toList ds gs before:=hW
 obtain⟨p,q,hA0,hV,rfl,hfz,hnd⟩:=hW
 have hA:DataW.TrodAll enc Tryz.prog W 0 (fun _=>true) true Tryz.f5.params.toList args.toList ds p:=hA0
 rw[Tryz.params5] at hA zH
 obtain⟨v0,v1,d0,d1,p0,p1,rfl,rfl,rfl,h0,h1⟩:=trodAll_two hA
 obtain⟨rfl,rfl⟩:=trodVars_none hV
 have g0:=a36 Tryz.underlying44 (zH 0 44 v0 rfl rfl)
 have g1:=a35 (zH 1 3 v1 rfl rfl)
 obtain⟨a,ha⟩:=aK0 reads_sss (fun a=>by rw[g0];try rfl) h0
 obtain⟨b,hb⟩:=aK0 reads_intS (fun a=>by rw[g1];try rfl) h1
 exact aYL (tb:=4) Tryzlaid (by kernel_rfl) rfl Tryz.underlying4 rfl hW' rfl (by show cV _ _ _ [v0,v1];simp only[cV];exact⟨v0,[v1],rfl,ha,v1,[],rfl,hb,rfl⟩) (aQB a b rK)
theorem fnExactRoundRobin_j1:(Rows.fnExactRoundRobinRow.inPlace == Tryz.prog.inPlace 5)=true:=by kernel_rfl
theorem fnExactRoundRobin_j2:(Rows.fnExactRoundRobinRow.unfollowed == Tryz.prog.unfollowed 5)=true:=by kernel_rfl
theorem fnExactRoundRobin_j3:(Rows.fnExactRoundRobinRow.recurses == Tryz.prog.recurses 5)=true:=by kernel_rfl
theorem fnExactRoundRobin_j4:(Rows.fnExactRoundRobinRow.named == Tryz.prog.varsNamed 5)=true:=by kernel_rfl
theorem fnExactRoundRobin_j5:Tryz.prog.stopsHeard=true:=by kernel_rfl
theorem fnExactRoundRobin_j6:Tryz.prog.mayEnter=true:=by kernel_rfl
theorem fnExactRoundRobin_j7:(Rows.fnExactRoundRobinRow.lifted == Tryz.prog.liftsFinal)=true:=by kernel_rfl
theorem fnExactRoundRobin_j8:(Tryz.prog.make == some Rows.fnExactRoundRobinRow.make)=true:=by kernel_rfl
theorem fnExactRoundRobin_j9:joinedFacts Tryz.prog 5 Tryz.f5 Rows.fnExactRoundRobinSpec Rows.fnExactRoundRobinRow=true:=by
 unfold joinedFacts
 rw[fnExactRoundRobin_j1,fnExactRoundRobin_j2,fnExactRoundRobin_j3,fnExactRoundRobin_j4,fnExactRoundRobin_j5,fnExactRoundRobin_j6,fnExactRoundRobin_j7,fnExactRoundRobin_j8]
 kernel_rfl
theorem fnExactRoundRobin_holds:Rows.FnExactRoundRobinSaid:=
 OpenClaim.holds_of_wide 5 Tryz.f5 rfl rfl rfl rfl rfl rfl rfl ⟨rfl,rfl,rfl,rfl,rfl⟩ rfl rfl rfl rfl rfl (by kernel_rfl) Tryz.func5 fnExactRoundRobin_j9
  (of_decide_eq_true (by kernel_rfl)) (by unfold Func.isWrapper;first | (rw[aH (by decide +kernel)];kernel_rfl) | (rw[aG (by decide +kernel)];exact⟨rfl,rfl⟩))
  (fun os started H enc _=>fnExactRoundRobin_lifted os started H enc)
theorem fnExactRoundRobin_i1:Tryz.prog.mainIs=some (true, "35a9d5ba51d683bf6a5ce4e922c04c75025bcab1a1de1b217ce7602da35b80a8".toList):=by kernel_rfl
theorem fnExactRoundRobin_i2:false=Tryz.prog.looks []:=by kernel_rfl
theorem fnExactRoundRobin_i3:false=Rows.fnExactRoundRobinRow.goesBy Tryz.prog:=by kernel_rfl
theorem fnExactRoundRobin_i4:Tryz.prog.funcNamed "loop.example/prologserver/laws.FnExactRoundRobin" = some 5:=by kernel_rfl
theorem fnExactRoundRobin_card_holds:Rows.FnExactRoundRobinCardSaid:=
 Claim7.holds_tied_plain_at .later [] [.data,.data,.data] true (true, "35a9d5ba51d683bf6a5ce4e922c04c75025bcab1a1de1b217ce7602da35b80a8") false
  fnExactRoundRobin_holds (fun _ h=>by cases h) (by kernel_rfl) (fun _ h=>by cases h) fnExactRoundRobin_row_tie rfl ⟨rfl,rfl⟩ fnExactRoundRobin_i1 rfl
  (fun f fn hf hfn=>by
   obtain rfl:f=5:=mZ (fnExactRoundRobin_i4.symm.trans hf) |>.symm
   obtain rfl:fn=Tryz.f5:=(mZ (Tryz.func5.symm.trans hfn)).symm
   exact⟨fnExactRoundRobin_i2,fun j t ht=>by
    rw[Tryz.params5] at ht
    have hm:t∈[44,3]:=by simpa using AR ht
    have dC:([44,3].all fun u=> !Tryz.prog.wantsStandIn u)=true:=by kernel_rfl
    exact(show Tryz.prog.wantsStandIn t=false by simpa using eD.1 dC t hm)⟩)
  fnExactRoundRobin_i3
end Go.Proofs.YtimfffmcljmfgaaGreatDoor
