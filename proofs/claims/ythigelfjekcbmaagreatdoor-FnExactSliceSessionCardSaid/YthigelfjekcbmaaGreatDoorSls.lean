
import Derived.Test.YthigelfjekcbmaaGreatDoorRows
import Derived.Test.YthigelfjekcbmaaGreatDoorCards
import Derived.Test.YthigelfjekcbmaaGreatDoorTie
import Derived.Test.YthigelfjekcbmaaGreatDoorSlsq
import Derived.Test.YthigelfjekcbmaaGreatDoorSlsr
import Derived.LaidMore
import Derived.SevenTiedAt
namespace Go.Proofs.YthigelfjekcbmaaGreatDoor
open Go.ChangeShapes Go.WideShapes Go.ChangeAt Go.RowKit Go.AW
theorem Tryzown:ownKnob Tryz.prog.godebug=none:=by kernel_rfl
theorem Tryzlaid:laidOutB Tryz.prog=true:=by kernel_rfl
theorem reads_ssS{H:Type}{enc:TypeId×Value→H}{w:World}(n:Nat):Reads enc Tryz.prog w 25 n dE:=fun _ _ h=>aT0 h
theorem fnExactSliceSession_door(os:Os)(args:Array Value):laidMetH Tryz.prog Rows.fnExactSliceSessionRow.laid ((World.doorLaid Tryz.prog 24 os).forCall (fun _ _=>0) ⟨#[],args,[]⟩).memory:=
 laidMetH_of_parts3 (fuel:=8) (laidMet_of_run' 8 (by kernel_rfl) (by kernel_rfl)) (by kernel_rfl) (by kernel_rfl)
set_option maxRecDepth 100000 in
theorem fnExactSliceSession_lifted(os:Os)(started:os.Started)(H:Type)(enc:TypeId×Value→H) :
 ReturnsInHanded {} Tryz.checked os 3 .any (fun w args=>(Rows.fnExactSliceSessionSpec.pre enc Tryz.prog Tryz.f3 [] false w args∧laidMetH Tryz.prog Rows.fnExactSliceSessionRow.laid w)∧sizedMet enc Tryz.prog Tryz.f3 (OpenSpec.ofChange Rows.fnExactSliceSessionSpec) false w args) (Rows.fnExactSliceSessionSpec.post enc Tryz.prog Tryz.f3 false true false false):=by
 refine returnsInHanded_of_change_and (C:=Tryz.checked) (X:=fun w _=>laidMetH Tryz.prog Rows.fnExactSliceSessionRow.laid w) (fun _ _ _ hh h=>h.of_heap hh) Tryzown started (by kernel_rfl) Tryz.func3
  (ChangeSpec.witness_shaped (enc:=enc) (C:=Tryz.checked) (os:=os) (X:=fun w _=>laidMetH Tryz.prog Rows.fnExactSliceSessionRow.laid w) false (World.doorLaid Tryz.prog 24 os) #[.agg #[.slice none 0 0,.slice none 0 0,.int .i64 0,.int .i64 0,.int .i64 0,.int .i64 0],.int .i64 0] 8 rfl (World.shaped_of_RefB (by kernel_rfl) (by kernel_rfl)) (by kernel_rfl) (by kernel_rfl) (by kernel_rfl) (fnExactSliceSession_door os _)) ?_
 intro W base args ds gs before aRK hW z9 _ _ _
 have xF:∀(j:Nat) t v,Tryz.f3.params[j]?=some t→args[j]?=some v→Value.okWide Tryz.prog W .any base t v:=aRK
 have hW':DataW.Whole enc Tryz.prog Tryz.f3.params.toList [] false W args.toList ds gs before:=hW
 obtain⟨p,q,hA0,hV,rfl,hfz,hnd⟩:=hW
 have hA:DataW.TrodAll enc Tryz.prog W 0 (fun _=>true) true Tryz.f3.params.toList args.toList ds p:=hA0
 rw[Tryz.params3] at hA xF
 obtain⟨v0,v1,d0,d1,p0,p1,rfl,rfl,rfl,h0,h1⟩:=trodAll_two hA
 obtain⟨rfl,rfl⟩:=trodVars_none hV
 have g0:=aWI Tryz.underlying25 (xF 0 25 v0 rfl rfl)
 have g1:=aWJ (xF 1 3 v1 rfl rfl)
 obtain⟨a,ha⟩:=aGG reads_ssS (fun a=>by rw[g0];try rfl) h0
 obtain⟨b,hb⟩:=aGG D3 (fun a=>by rw[g1];try rfl) h1
 exact aSB (tb:=4) Tryzlaid (by kernel_rfl) rfl Tryz.underlying4 rfl hW' rfl (by show cK _ _ _ [v0,v1];simp only[cK];exact⟨v0,[v1],rfl,ha,v1,[],rfl,hb,rfl⟩) (aK5 a b pJ)
theorem fnExactSliceSession_j1:(Rows.fnExactSliceSessionRow.inPlace == Tryz.prog.inPlace 3)=true:=by kernel_rfl
theorem fnExactSliceSession_j2:(Rows.fnExactSliceSessionRow.unfollowed == Tryz.prog.unfollowed 3)=true:=by kernel_rfl
theorem fnExactSliceSession_j3:(Rows.fnExactSliceSessionRow.recurses == Tryz.prog.recurses 3)=true:=by kernel_rfl
theorem fnExactSliceSession_j4:(Rows.fnExactSliceSessionRow.named == Tryz.prog.varsNamed 3)=true:=by kernel_rfl
theorem fnExactSliceSession_j5:Tryz.prog.stopsHeard=true:=by kernel_rfl
theorem fnExactSliceSession_j6:Tryz.prog.mayEnter=true:=by kernel_rfl
theorem fnExactSliceSession_j7:(Rows.fnExactSliceSessionRow.lifted == Tryz.prog.liftsFinal)=true:=by kernel_rfl
theorem fnExactSliceSession_j8:(Tryz.prog.make == some Rows.fnExactSliceSessionRow.make)=true:=by kernel_rfl
theorem fnExactSliceSession_j9:joinedFacts Tryz.prog 3 Tryz.f3 Rows.fnExactSliceSessionSpec Rows.fnExactSliceSessionRow=true:=by
 unfold joinedFacts
 rw[fnExactSliceSession_j1,fnExactSliceSession_j2,fnExactSliceSession_j3,fnExactSliceSession_j4,fnExactSliceSession_j5,fnExactSliceSession_j6,fnExactSliceSession_j7,fnExactSliceSession_j8]
 kernel_rfl
theorem fnExactSliceSession_holds:Rows.FnExactSliceSessionSaid:=
 OpenClaim.holds_of_wide 3 Tryz.f3 rfl rfl rfl rfl rfl rfl rfl ⟨rfl,rfl,rfl,rfl,rfl⟩ rfl rfl rfl rfl rfl (by kernel_rfl) Tryz.func3 fnExactSliceSession_j9
  (of_decide_eq_true (by kernel_rfl)) (by unfold Func.isWrapper;first | (rw[aK (by decide +kernel)];kernel_rfl) | (rw[aG (by decide +kernel)];exact⟨rfl,rfl⟩))
  (fun os started H enc _=>fnExactSliceSession_lifted os started H enc)
theorem fnExactSliceSession_i1:Tryz.prog.mainIs=some (true, "94032daa4ea14b1a96c79b4538a5bb7bdae72593153229f10066d087018480d7".toList):=by kernel_rfl
theorem fnExactSliceSession_i2:false=Tryz.prog.looks []:=by kernel_rfl
theorem fnExactSliceSession_i3:false=Rows.fnExactSliceSessionRow.goesBy Tryz.prog:=by kernel_rfl
theorem fnExactSliceSession_i4:Tryz.prog.funcNamed "loop.example/prologserver/laws.FnExactSliceSession" = some 3:=by kernel_rfl
theorem fnExactSliceSession_card_holds:Rows.FnExactSliceSessionCardSaid:=
 Claim7.holds_tied_plain_at .later [] [.data,.data,.data] true (true, "94032daa4ea14b1a96c79b4538a5bb7bdae72593153229f10066d087018480d7") false
  fnExactSliceSession_holds (fun _ h=>by cases h) (by kernel_rfl) (fun _ h=>by cases h) fnExactSliceSession_row_tie rfl ⟨rfl,rfl⟩ fnExactSliceSession_i1 rfl
  (fun f fn hf hfn=>by
   obtain rfl:f=3:=lV (fnExactSliceSession_i4.symm.trans hf) |>.symm
   obtain rfl:fn=Tryz.f3:=(lV (Tryz.func3.symm.trans hfn)).symm
   exact⟨fnExactSliceSession_i2,fun j t ht=>by
    rw[Tryz.params3] at ht
    have hm:t∈[25,3]:=by simpa using x7 ht
    have c7:([25,3].all fun u=> !Tryz.prog.wantsStandIn u)=true:=by kernel_rfl
    exact(show Tryz.prog.wantsStandIn t=false by simpa using eE.1 c7 t hm)⟩)
  fnExactSliceSession_i3
end Go.Proofs.YthigelfjekcbmaaGreatDoor
