
import Derived.Test.YthigelfjekcbmaaGreatDoorRows
import Derived.Test.YthigelfjekcbmaaGreatDoorCards
import Derived.Test.YthigelfjekcbmaaGreatDoorTie
import Derived.Test.YthigelfjekcbmaaGreatDoorUzv
import Derived.Test.YthigelfjekcbmaaGreatDoorUzt
import Derived.Test.YthigelfjekcbmaaGreatDoorUzu
import Derived.LaidMore
import Derived.SevenTiedAt
namespace Go.Proofs.YthigelfjekcbmaaGreatDoor
open Go.ChangeShapes Go.WideShapes Go.ChangeAt Go.RowKit Go.AW
theorem fnDrainSession_door(os:Os)(args:Array Value):laidMetH Tryz.prog Rows.fnDrainSessionRow.laid ((World.doorLaid Tryz.prog 24 os).forCall (fun _ _=>0) ⟨#[],args,[]⟩).memory:=
 laidMetH_of_parts3 (fuel:=8) (laidMet_of_run' 8 (by kernel_rfl) (by kernel_rfl)) (by kernel_rfl) (by kernel_rfl)
set_option maxRecDepth 100000 in
theorem fnDrainSession_lifted(os:Os)(started:os.Started)(H:Type)(enc:TypeId×Value→H) :
 ReturnsInHanded {} Tryz.checked os 11 .any (fun w args=>(Rows.fnDrainSessionSpec.pre enc Tryz.prog Tryz.f11 [] false w args∧laidMetH Tryz.prog Rows.fnDrainSessionRow.laid w)∧sizedMet enc Tryz.prog Tryz.f11 (OpenSpec.ofChange Rows.fnDrainSessionSpec) false w args) (Rows.fnDrainSessionSpec.post enc Tryz.prog Tryz.f11 false true false false):=by
 refine returnsInHanded_of_change_and (C:=Tryz.checked) (X:=fun w _=>laidMetH Tryz.prog Rows.fnDrainSessionRow.laid w) (fun _ _ _ hh h=>h.of_heap hh) BL started (by kernel_rfl) Tryz.func11
  (ChangeSpec.witness_shaped (enc:=enc) (C:=Tryz.checked) (os:=os) (X:=fun w _=>laidMetH Tryz.prog Rows.fnDrainSessionRow.laid w) false (World.doorLaid Tryz.prog 24 os) #[.slice none 0 0,.slice none 0 0] 8 rfl (World.shaped_of_RefB (by kernel_rfl) (by kernel_rfl)) (by kernel_rfl) (by kernel_rfl) (by kernel_rfl) (fnDrainSession_door os _)) ?_
 intro W base args ds gs before rY hW sU _ _ _
 have kL:∀(j:Nat) t v,Tryz.f11.params[j]?=some t→args[j]?=some v→Value.okWide Tryz.prog W .any base t v:=rY
 have hW':DataW.Whole enc Tryz.prog Tryz.f11.params.toList [] false W args.toList ds gs before:=hW
 obtain⟨p,q,hA0,hV,rfl,hfz,hnd⟩:=hW
 have hA:DataW.TrodAll enc Tryz.prog W 0 (fun _=>true) true Tryz.f11.params.toList args.toList ds p:=hA0
 rw[Tryz.params11] at hA kL
 obtain⟨v0,v1,d0,d1,p0,p1,rfl,rfl,rfl,h0,h1⟩:=trodAll_two hA
 obtain⟨rfl,rfl⟩:=trodVars_none hV
 have g0:=yN Tryz.underlying47 (kL 0 47 v0 rfl rfl)
 have g1:=yN Tryz.underlying47 (kL 1 47 v1 rfl rfl)
 obtain⟨a,ha⟩:=yC yB (fun a=>by rw[g0];try rfl) h0
 obtain⟨b,hb⟩:=yC yB (fun a=>by rw[g1];try rfl) h1
 exact C7 (tb:=4) BK (by kernel_rfl) rfl Tryz.underlying4 rfl hW' rfl (by show cZ _ _ _ [v0,v1];simp only[cZ];exact⟨v0,[v1],rfl,ha,v1,[],rfl,hb,rfl⟩) (aVO a b oF)
theorem fnDrainSession_j1:(Rows.fnDrainSessionRow.inPlace == Tryz.prog.inPlace 11)=true:=by kernel_rfl
theorem fnDrainSession_j2:(Rows.fnDrainSessionRow.unfollowed == Tryz.prog.unfollowed 11)=true:=by kernel_rfl
theorem fnDrainSession_j3:(Rows.fnDrainSessionRow.recurses == Tryz.prog.recurses 11)=true:=by kernel_rfl
theorem fnDrainSession_j4:(Rows.fnDrainSessionRow.named == Tryz.prog.varsNamed 11)=true:=by kernel_rfl
theorem fnDrainSession_j7:(Rows.fnDrainSessionRow.lifted == Tryz.prog.liftsFinal)=true:=B7
theorem fnDrainSession_j8:(Tryz.prog.make == some Rows.fnDrainSessionRow.make)=true:=CA
theorem fnDrainSession_j9:joinedFacts Tryz.prog 11 Tryz.f11 Rows.fnDrainSessionSpec Rows.fnDrainSessionRow=true:=by
 unfold joinedFacts
 rw[fnDrainSession_j1,fnDrainSession_j2,fnDrainSession_j3,fnDrainSession_j4,B6,B5,fnDrainSession_j7,fnDrainSession_j8]
 kernel_rfl
theorem fnDrainSession_holds:Rows.FnDrainSessionSaid:=
 OpenClaim.holds_of_wide 11 Tryz.f11 rfl rfl rfl rfl rfl rfl rfl ⟨rfl,rfl,rfl,rfl,rfl⟩ rfl rfl rfl rfl rfl (by kernel_rfl) Tryz.func11 fnDrainSession_j9
  (AH (by kernel_rfl)) (by unfold Func.isWrapper;first | (rw[aH (by decide +kernel)];kernel_rfl) | (rw[aE (by decide +kernel)];exact⟨rfl,rfl⟩))
  (fun os started H enc _=>fnDrainSession_lifted os started H enc)
theorem fnDrainSession_i3:false=Rows.fnDrainSessionRow.goesBy Tryz.prog:=by kernel_rfl
theorem fnDrainSession_i4:Tryz.prog.funcNamed "loop.example/prologserver/laws.FnDrainSession" = some 11:=by kernel_rfl
theorem fnDrainSession_card_holds:Rows.FnDrainSessionCardSaid:=
 Claim7.holds_tied_plain_at .later [] [.data,.data,.data] true (true, "94032daa4ea14b1a96c79b4538a5bb7bdae72593153229f10066d087018480d7") false
  fnDrainSession_holds (fun _ h=>by cases h) (by kernel_rfl) (fun _ h=>by cases h) fnDrainSession_row_tie rfl ⟨rfl,rfl⟩ B9 rfl
  (fun f fn hf hfn=>by
   obtain rfl:f=11:=jL (fnDrainSession_i4.symm.trans hf) |>.symm
   obtain rfl:fn=Tryz.f11:=(jL (Tryz.func11.symm.trans hfn)).symm
   exact⟨B8,fun j t ht=>by
    rw[Tryz.params11] at ht
    have hm:t∈[47,47]:=by simpa using sG ht
    have cS:([47,47].all fun u=> !Tryz.prog.wantsStandIn u)=true:=by kernel_rfl
    exact(show Tryz.prog.wantsStandIn t=false by simpa using eM.1 cS t hm)⟩)
  fnDrainSession_i3
end Go.Proofs.YthigelfjekcbmaaGreatDoor
