
import Derived.Test.YthigelfjekcbmaaGreatDoorRows
import Derived.Test.YthigelfjekcbmaaGreatDoorCards
import Derived.Test.YthigelfjekcbmaaGreatDoorTie
import Derived.Test.YthigelfjekcbmaaGreatDoorUzv
import Derived.Test.YthigelfjekcbmaaGreatDoorUzt
import Derived.Test.YthigelfjekcbmaaGreatDoorUzu
import Derived.LaidMore
import Derived.SevenTiedAt
namespace Go.Proofs.YthigelfjekcbmaaGreatDoor
open Go.ChangeShapes Go.WideShapes Go.ChangeAt Go.RowKit Go.AW
theorem fnSessionSame_door(os:Os)(args:Array Value):laidMetH Tryz.prog Rows.fnSessionSameRow.laid ((World.doorLaid Tryz.prog 24 os).forCall (fun _ _=>0) ⟨#[],args,[]⟩).memory:=
 laidMetH_of_parts3 (fuel:=8) (laidMet_of_run' 8 (by kernel_rfl) (by kernel_rfl)) (by kernel_rfl) (by kernel_rfl)
set_option maxRecDepth 100000 in
theorem fnSessionSame_lifted(os:Os)(started:os.Started)(H:Type)(enc:TypeId×Value→H) :
 ReturnsInHanded {} Tryz.checked os 10 .any (fun w args=>(Rows.fnSessionSameSpec.pre enc Tryz.prog Tryz.f10 [] false w args∧laidMetH Tryz.prog Rows.fnSessionSameRow.laid w)∧sizedMet enc Tryz.prog Tryz.f10 (OpenSpec.ofChange Rows.fnSessionSameSpec) false w args) (Rows.fnSessionSameSpec.post enc Tryz.prog Tryz.f10 false true false false):=by
 refine returnsInHanded_of_change_and (C:=Tryz.checked) (X:=fun w _=>laidMetH Tryz.prog Rows.fnSessionSameRow.laid w) (fun _ _ _ hh h=>h.of_heap hh) BL started (by kernel_rfl) Tryz.func10
  (ChangeSpec.witness_shaped (enc:=enc) (C:=Tryz.checked) (os:=os) (X:=fun w _=>laidMetH Tryz.prog Rows.fnSessionSameRow.laid w) false (World.doorLaid Tryz.prog 24 os) #[.slice none 0 0] 8 rfl (World.shaped_of_RefB (by kernel_rfl) (by kernel_rfl)) (by kernel_rfl) (by kernel_rfl) (by kernel_rfl) (fnSessionSame_door os _)) ?_
 intro W base args ds gs before rY hW sU _ _ _
 have kL:∀(j:Nat) t v,Tryz.f10.params[j]?=some t→args[j]?=some v→Value.okWide Tryz.prog W .any base t v:=rY
 have hW':DataW.Whole enc Tryz.prog Tryz.f10.params.toList [] false W args.toList ds gs before:=hW
 obtain⟨p,q,hA0,hV,rfl,hfz,hnd⟩:=hW
 have hA:DataW.TrodAll enc Tryz.prog W 0 (fun _=>true) true Tryz.f10.params.toList args.toList ds p:=hA0
 rw[Tryz.params10] at hA kL
 obtain⟨v0,d0,rfl,rfl,h0⟩:=trodAll_one hA
 obtain⟨rfl,rfl⟩:=trodVars_none hV
 have g0:=yN Tryz.underlying47 (kL 0 47 v0 rfl rfl)
 obtain⟨a,ha⟩:=yC yB (fun a=>by rw[g0];try rfl) h0
 exact C7 (tb:=4) BK (by kernel_rfl) rfl Tryz.underlying4 rfl hW' rfl (by show cZ _ _ _ [v0];simp only[cZ];exact⟨v0,[],rfl,ha,rfl⟩) (aVQ a oF)
theorem fnSessionSame_j1:(Rows.fnSessionSameRow.inPlace == Tryz.prog.inPlace 10)=true:=by kernel_rfl
theorem fnSessionSame_j2:(Rows.fnSessionSameRow.unfollowed == Tryz.prog.unfollowed 10)=true:=by kernel_rfl
theorem fnSessionSame_j3:(Rows.fnSessionSameRow.recurses == Tryz.prog.recurses 10)=true:=by kernel_rfl
theorem fnSessionSame_j4:(Rows.fnSessionSameRow.named == Tryz.prog.varsNamed 10)=true:=by kernel_rfl
theorem fnSessionSame_j7:(Rows.fnSessionSameRow.lifted == Tryz.prog.liftsFinal)=true:=B7
theorem fnSessionSame_j8:(Tryz.prog.make == some Rows.fnSessionSameRow.make)=true:=CA
theorem fnSessionSame_j9:joinedFacts Tryz.prog 10 Tryz.f10 Rows.fnSessionSameSpec Rows.fnSessionSameRow=true:=by
 unfold joinedFacts
 rw[fnSessionSame_j1,fnSessionSame_j2,fnSessionSame_j3,fnSessionSame_j4,B6,B5,fnSessionSame_j7,fnSessionSame_j8]
 kernel_rfl
theorem fnSessionSame_holds:Rows.FnSessionSameSaid:=
 OpenClaim.holds_of_wide 10 Tryz.f10 rfl rfl rfl rfl rfl rfl rfl ⟨rfl,rfl,rfl,rfl,rfl⟩ rfl rfl rfl rfl rfl (by kernel_rfl) Tryz.func10 fnSessionSame_j9
  (AH (by kernel_rfl)) (by unfold Func.isWrapper;first | (rw[aH (by decide +kernel)];kernel_rfl) | (rw[aE (by decide +kernel)];exact⟨rfl,rfl⟩))
  (fun os started H enc _=>fnSessionSame_lifted os started H enc)
theorem fnSessionSame_i3:false=Rows.fnSessionSameRow.goesBy Tryz.prog:=by kernel_rfl
theorem fnSessionSame_i4:Tryz.prog.funcNamed "loop.example/prologserver/laws.FnSessionSame" = some 10:=by kernel_rfl
theorem fnSessionSame_card_holds:Rows.FnSessionSameCardSaid:=
 Claim7.holds_tied_plain_at .later [] [.data,.data,.data] true (true, "94032daa4ea14b1a96c79b4538a5bb7bdae72593153229f10066d087018480d7") false
  fnSessionSame_holds (fun _ h=>by cases h) (by kernel_rfl) (fun _ h=>by cases h) fnSessionSame_row_tie rfl ⟨rfl,rfl⟩ B9 rfl
  (fun f fn hf hfn=>by
   obtain rfl:f=10:=jL (fnSessionSame_i4.symm.trans hf) |>.symm
   obtain rfl:fn=Tryz.f10:=(jL (Tryz.func10.symm.trans hfn)).symm
   exact⟨B8,fun j t ht=>by
    rw[Tryz.params10] at ht
    have hm:t∈[47]:=by simpa using sG ht
    have cS:([47].all fun u=> !Tryz.prog.wantsStandIn u)=true:=by kernel_rfl
    exact(show Tryz.prog.wantsStandIn t=false by simpa using eM.1 cS t hm)⟩)
  fnSessionSame_i3
end Go.Proofs.YthigelfjekcbmaaGreatDoor
