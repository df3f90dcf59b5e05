
import Derived.Test.YthigelfjekcbmaaGreatDoorRows
import Derived.Test.YthigelfjekcbmaaGreatDoorCards
import Derived.Test.YthigelfjekcbmaaGreatDoorTie
import Derived.Test.YthigelfjekcbmaaGreatDoorDrsr
import Derived.LaidMore
import Derived.SevenTiedAt
namespace Go.Proofs.YthigelfjekcbmaaGreatDoor
open Go.ChangeShapes Go.WideShapes Go.ChangeAt Go.RowKit Go.AW
theorem Tryzown:ownKnob Tryz.prog.godebug=none:=by kernel_rfl
theorem Tryzlaid:laidOutB Tryz.prog=true:=by kernel_rfl
theorem reads_ssS{H:Type}{enc:TypeId×Value→H}{w:World}(n:Nat):Reads enc Tryz.prog w 25 n cZ:=fun _ _ h=>aVC h
theorem cellsOf_intR:Tryz.prog.cellsOf 3=1:=by kernel_rfl
theorem reads_ints{H:Type}{enc:TypeId×Value→H}{w:World}(n:Nat):Reads enc Tryz.prog w 40 n (fun l:List Int=>.slice (l.map iv)):=
 JC Tryz.underlying40 cellsOf_intR (by omega) (fun _=>rfl) fun m _=>E5 m
theorem fnExactDrainSession_door(os:Os)(args:Array Value):laidMetH Tryz.prog Rows.fnExactDrainSessionRow.laid ((World.doorLaid Tryz.prog 24 os).forCall (fun _ _=>0) ⟨#[],args,[]⟩).memory:=
 laidMetH_of_parts3 (fuel:=8) (laidMet_of_run' 8 (by kernel_rfl) (by kernel_rfl)) (by kernel_rfl) (by kernel_rfl)
set_option maxRecDepth 100000 in
theorem fnExactDrainSession_lifted(os:Os)(started:os.Started)(H:Type)(enc:TypeId×Value→H) :
 ReturnsInHanded {} Tryz.checked os 4 .any (fun w args=>(Rows.fnExactDrainSessionSpec.pre enc Tryz.prog Tryz.f4 [] false w args∧laidMetH Tryz.prog Rows.fnExactDrainSessionRow.laid w)∧sizedMet enc Tryz.prog Tryz.f4 (OpenSpec.ofChange Rows.fnExactDrainSessionSpec) false w args) (Rows.fnExactDrainSessionSpec.post enc Tryz.prog Tryz.f4 false true false false):=by
 refine returnsInHanded_of_change_and (C:=Tryz.checked) (X:=fun w _=>laidMetH Tryz.prog Rows.fnExactDrainSessionRow.laid w) (fun _ _ _ hh h=>h.of_heap hh) Tryzown started (by kernel_rfl) Tryz.func4
  (ChangeSpec.witness_shaped (enc:=enc) (C:=Tryz.checked) (os:=os) (X:=fun w _=>laidMetH Tryz.prog Rows.fnExactDrainSessionRow.laid w) false (World.doorLaid Tryz.prog 24 os) #[.agg #[.slice none 0 0,.slice none 0 0,.int .i64 0,.int .i64 0,.int .i64 0,.int .i64 0],.slice none 0 0] 8 rfl (World.shaped_of_RefB (by kernel_rfl) (by kernel_rfl)) (by kernel_rfl) (by kernel_rfl) (by kernel_rfl) (fnExactDrainSession_door os _)) ?_
 intro W base args ds gs before aSZ hW BA _ _ _
 have x9:∀(j:Nat) t v,Tryz.f4.params[j]?=some t→args[j]?=some v→Value.okWide Tryz.prog W .any base t v:=aSZ
 have hW':DataW.Whole enc Tryz.prog Tryz.f4.params.toList [] false W args.toList ds gs before:=hW
 obtain⟨p,q,hA0,hV,rfl,hfz,hnd⟩:=hW
 have hA:DataW.TrodAll enc Tryz.prog W 0 (fun _=>true) true Tryz.f4.params.toList args.toList ds p:=hA0
 rw[Tryz.params4] at hA x9
 obtain⟨v0,v1,d0,d1,p0,p1,rfl,rfl,rfl,h0,h1⟩:=trodAll_two hA
 obtain⟨rfl,rfl⟩:=trodVars_none hV
 have g0:=aX1 Tryz.underlying25 (x9 0 25 v0 rfl rfl)
 have g1:=aX2 Tryz.underlying40 (x9 1 40 v1 rfl rfl)
 obtain⟨a,ha⟩:=aH8 reads_ssS (fun a=>by rw[g0];try rfl) h0
 obtain⟨b,hb⟩:=aH8 reads_ints (fun a=>by rw[g1];try rfl) h1
 exact aTR (tb:=4) Tryzlaid (by kernel_rfl) rfl Tryz.underlying4 rfl hW' rfl (by show cO _ _ _ [v0,v1];simp only[cO];exact⟨v0,[v1],rfl,ha,v1,[],rfl,hb,rfl⟩) (aMP a b qB)
theorem fnExactDrainSession_j1:(Rows.fnExactDrainSessionRow.inPlace == Tryz.prog.inPlace 4)=true:=by kernel_rfl
theorem fnExactDrainSession_j2:(Rows.fnExactDrainSessionRow.unfollowed == Tryz.prog.unfollowed 4)=true:=by kernel_rfl
theorem fnExactDrainSession_j3:(Rows.fnExactDrainSessionRow.recurses == Tryz.prog.recurses 4)=true:=by kernel_rfl
theorem fnExactDrainSession_j4:(Rows.fnExactDrainSessionRow.named == Tryz.prog.varsNamed 4)=true:=by kernel_rfl
theorem fnExactDrainSession_j5:Tryz.prog.stopsHeard=true:=by kernel_rfl
theorem fnExactDrainSession_j6:Tryz.prog.mayEnter=true:=by kernel_rfl
theorem fnExactDrainSession_j7:(Rows.fnExactDrainSessionRow.lifted == Tryz.prog.liftsFinal)=true:=by kernel_rfl
theorem fnExactDrainSession_j8:(Tryz.prog.make == some Rows.fnExactDrainSessionRow.make)=true:=by kernel_rfl
theorem fnExactDrainSession_j9:joinedFacts Tryz.prog 4 Tryz.f4 Rows.fnExactDrainSessionSpec Rows.fnExactDrainSessionRow=true:=by
 unfold joinedFacts
 rw[fnExactDrainSession_j1,fnExactDrainSession_j2,fnExactDrainSession_j3,fnExactDrainSession_j4,fnExactDrainSession_j5,fnExactDrainSession_j6,fnExactDrainSession_j7,fnExactDrainSession_j8]
 kernel_rfl
theorem fnExactDrainSession_holds:Rows.FnExactDrainSessionSaid:=
 OpenClaim.holds_of_wide 4 Tryz.f4 rfl rfl rfl rfl rfl rfl rfl ⟨rfl,rfl,rfl,rfl,rfl⟩ rfl rfl rfl rfl rfl (by kernel_rfl) Tryz.func4 fnExactDrainSession_j9
  (of_decide_eq_true (by kernel_rfl)) (by unfold Func.isWrapper;first | (rw[aK (by decide +kernel)];kernel_rfl) | (rw[aG (by decide +kernel)];exact⟨rfl,rfl⟩))
  (fun os started H enc _=>fnExactDrainSession_lifted os started H enc)
theorem fnExactDrainSession_i1:Tryz.prog.mainIs=some (true, "94032daa4ea14b1a96c79b4538a5bb7bdae72593153229f10066d087018480d7".toList):=by kernel_rfl
theorem fnExactDrainSession_i2:false=Tryz.prog.looks []:=by kernel_rfl
theorem fnExactDrainSession_i3:false=Rows.fnExactDrainSessionRow.goesBy Tryz.prog:=by kernel_rfl
theorem fnExactDrainSession_i4:Tryz.prog.funcNamed "loop.example/prologserver/laws.FnExactDrainSession" = some 4:=by kernel_rfl
theorem fnExactDrainSession_card_holds:Rows.FnExactDrainSessionCardSaid:=
 Claim7.holds_tied_plain_at .later [] [.data,.data,.data] true (true, "94032daa4ea14b1a96c79b4538a5bb7bdae72593153229f10066d087018480d7") false
  fnExactDrainSession_holds (fun _ h=>by cases h) (by kernel_rfl) (fun _ h=>by cases h) fnExactDrainSession_row_tie rfl ⟨rfl,rfl⟩ fnExactDrainSession_i1 rfl
  (fun f fn hf hfn=>by
   obtain rfl:f=4:=lE (fnExactDrainSession_i4.symm.trans hf) |>.symm
   obtain rfl:fn=Tryz.f4:=(lE (Tryz.func4.symm.trans hfn)).symm
   exact⟨fnExactDrainSession_i2,fun j t ht=>by
    rw[Tryz.params4] at ht
    have hm:t∈[25,40]:=by simpa using yZ ht
    have c9:([25,40].all fun u=> !Tryz.prog.wantsStandIn u)=true:=by kernel_rfl
    exact(show Tryz.prog.wantsStandIn t=false by simpa using eL.1 c9 t hm)⟩)
  fnExactDrainSession_i3
end Go.Proofs.YthigelfjekcbmaaGreatDoor
