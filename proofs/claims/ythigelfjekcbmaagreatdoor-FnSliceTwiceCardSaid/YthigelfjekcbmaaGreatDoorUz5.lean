
import Derived.Test.YthigelfjekcbmaaGreatDoorRows
import Derived.Test.YthigelfjekcbmaaGreatDoorCards
import Derived.Test.YthigelfjekcbmaaGreatDoorTie
import Derived.Test.YthigelfjekcbmaaGreatDoorUzv
import Derived.Test.YthigelfjekcbmaaGreatDoorUzt
import Derived.Test.YthigelfjekcbmaaGreatDoorUzu
import Derived.LaidMore
import Derived.SevenTiedAt
namespace Go.Proofs.YthigelfjekcbmaaGreatDoor
open Go.ChangeShapes Go.WideShapes Go.ChangeAt Go.RowKit Go.AW
theorem fnSliceTwice_door(os:Os)(args:Array Value):laidMetH Tryz.prog Rows.fnSliceTwiceRow.laid ((World.doorLaid Tryz.prog 24 os).forCall (fun _ _=>0) ⟨#[],args,[]⟩).memory:=
 laidMetH_of_parts3 (fuel:=8) (laidMet_of_run' 8 (by kernel_rfl) (by kernel_rfl)) (by kernel_rfl) (by kernel_rfl)
set_option maxRecDepth 100000 in
theorem fnSliceTwice_lifted(os:Os)(started:os.Started)(H:Type)(enc:TypeId×Value→H) :
 ReturnsInHanded {} Tryz.checked os 9 .any (fun w args=>(Rows.fnSliceTwiceSpec.pre enc Tryz.prog Tryz.f9 [] false w args∧laidMetH Tryz.prog Rows.fnSliceTwiceRow.laid w)∧sizedMet enc Tryz.prog Tryz.f9 (OpenSpec.ofChange Rows.fnSliceTwiceSpec) false w args) (Rows.fnSliceTwiceSpec.post enc Tryz.prog Tryz.f9 false true false false):=by
 refine returnsInHanded_of_change_and (C:=Tryz.checked) (X:=fun w _=>laidMetH Tryz.prog Rows.fnSliceTwiceRow.laid w) (fun _ _ _ hh h=>h.of_heap hh) BL started (by kernel_rfl) Tryz.func9
  (ChangeSpec.witness_shaped (enc:=enc) (C:=Tryz.checked) (os:=os) (X:=fun w _=>laidMetH Tryz.prog Rows.fnSliceTwiceRow.laid w) false (World.doorLaid Tryz.prog 24 os) #[.slice none 0 0,.slice none 0 0] 8 rfl (World.shaped_of_RefB (by kernel_rfl) (by kernel_rfl)) (by kernel_rfl) (by kernel_rfl) (by kernel_rfl) (fnSliceTwice_door os _)) ?_
 intro W base args ds gs before rY hW sU _ _ _
 have kL:∀(j:Nat) t v,Tryz.f9.params[j]?=some t→args[j]?=some v→Value.okWide Tryz.prog W .any base t v:=rY
 have hW':DataW.Whole enc Tryz.prog Tryz.f9.params.toList [] false W args.toList ds gs before:=hW
 obtain⟨p,q,hA0,hV,rfl,hfz,hnd⟩:=hW
 have hA:DataW.TrodAll enc Tryz.prog W 0 (fun _=>true) true Tryz.f9.params.toList args.toList ds p:=hA0
 rw[Tryz.params9] at hA kL
 obtain⟨v0,v1,d0,d1,p0,p1,rfl,rfl,rfl,h0,h1⟩:=trodAll_two hA
 obtain⟨rfl,rfl⟩:=trodVars_none hV
 have g0:=yN Tryz.underlying47 (kL 0 47 v0 rfl rfl)
 have g1:=yN Tryz.underlying47 (kL 1 47 v1 rfl rfl)
 obtain⟨a,ha⟩:=yC yB (fun a=>by rw[g0];try rfl) h0
 obtain⟨b,hb⟩:=yC yB (fun a=>by rw[g1];try rfl) h1
 exact C7 (tb:=4) BK (by kernel_rfl) rfl Tryz.underlying4 rfl hW' rfl (by show cZ _ _ _ [v0,v1];simp only[cZ];exact⟨v0,[v1],rfl,ha,v1,[],rfl,hb,rfl⟩) (aVT a b oF)
theorem fnSliceTwice_j1:(Rows.fnSliceTwiceRow.inPlace == Tryz.prog.inPlace 9)=true:=by kernel_rfl
theorem fnSliceTwice_j2:(Rows.fnSliceTwiceRow.unfollowed == Tryz.prog.unfollowed 9)=true:=by kernel_rfl
theorem fnSliceTwice_j3:(Rows.fnSliceTwiceRow.recurses == Tryz.prog.recurses 9)=true:=by kernel_rfl
theorem fnSliceTwice_j4:(Rows.fnSliceTwiceRow.named == Tryz.prog.varsNamed 9)=true:=by kernel_rfl
theorem fnSliceTwice_j7:(Rows.fnSliceTwiceRow.lifted == Tryz.prog.liftsFinal)=true:=B7
theorem fnSliceTwice_j8:(Tryz.prog.make == some Rows.fnSliceTwiceRow.make)=true:=CA
theorem fnSliceTwice_j9:joinedFacts Tryz.prog 9 Tryz.f9 Rows.fnSliceTwiceSpec Rows.fnSliceTwiceRow=true:=by
 unfold joinedFacts
 rw[fnSliceTwice_j1,fnSliceTwice_j2,fnSliceTwice_j3,fnSliceTwice_j4,B6,B5,fnSliceTwice_j7,fnSliceTwice_j8]
 kernel_rfl
theorem fnSliceTwice_holds:Rows.FnSliceTwiceSaid:=
 OpenClaim.holds_of_wide 9 Tryz.f9 rfl rfl rfl rfl rfl rfl rfl ⟨rfl,rfl,rfl,rfl,rfl⟩ rfl rfl rfl rfl rfl (by kernel_rfl) Tryz.func9 fnSliceTwice_j9
  (AH (by kernel_rfl)) (by unfold Func.isWrapper;first | (rw[aH (by decide +kernel)];kernel_rfl) | (rw[aE (by decide +kernel)];exact⟨rfl,rfl⟩))
  (fun os started H enc _=>fnSliceTwice_lifted os started H enc)
theorem fnSliceTwice_i3:false=Rows.fnSliceTwiceRow.goesBy Tryz.prog:=by kernel_rfl
theorem fnSliceTwice_i4:Tryz.prog.funcNamed "loop.example/prologserver/laws.FnSliceTwice" = some 9:=by kernel_rfl
theorem fnSliceTwice_card_holds:Rows.FnSliceTwiceCardSaid:=
 Claim7.holds_tied_plain_at .later [] [.data,.data,.data] true (true, "94032daa4ea14b1a96c79b4538a5bb7bdae72593153229f10066d087018480d7") false
  fnSliceTwice_holds (fun _ h=>by cases h) (by kernel_rfl) (fun _ h=>by cases h) fnSliceTwice_row_tie rfl ⟨rfl,rfl⟩ B9 rfl
  (fun f fn hf hfn=>by
   obtain rfl:f=9:=jL (fnSliceTwice_i4.symm.trans hf) |>.symm
   obtain rfl:fn=Tryz.f9:=(jL (Tryz.func9.symm.trans hfn)).symm
   exact⟨B8,fun j t ht=>by
    rw[Tryz.params9] at ht
    have hm:t∈[47,47]:=by simpa using sG ht
    have cS:([47,47].all fun u=> !Tryz.prog.wantsStandIn u)=true:=by kernel_rfl
    exact(show Tryz.prog.wantsStandIn t=false by simpa using eM.1 cS t hm)⟩)
  fnSliceTwice_i3
end Go.Proofs.YthigelfjekcbmaaGreatDoor
