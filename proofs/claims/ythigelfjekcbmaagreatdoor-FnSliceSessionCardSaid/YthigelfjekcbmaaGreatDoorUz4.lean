
import Derived.Test.YthigelfjekcbmaaGreatDoorRows
import Derived.Test.YthigelfjekcbmaaGreatDoorCards
import Derived.Test.YthigelfjekcbmaaGreatDoorTie
import Derived.Test.YthigelfjekcbmaaGreatDoorUzv
import Derived.Test.YthigelfjekcbmaaGreatDoorUzt
import Derived.Test.YthigelfjekcbmaaGreatDoorUzu
import Derived.LaidMore
import Derived.SevenTiedAt
namespace Go.Proofs.YthigelfjekcbmaaGreatDoor
open Go.ChangeShapes Go.WideShapes Go.ChangeAt Go.RowKit Go.AW
theorem fnSliceSession_door(os:Os)(args:Array Value):laidMetH Tryz.prog Rows.fnSliceSessionRow.laid ((World.doorLaid Tryz.prog 24 os).forCall (fun _ _=>0) ⟨#[],args,[]⟩).memory:=
 laidMetH_of_parts3 (fuel:=8) (laidMet_of_run' 8 (by kernel_rfl) (by kernel_rfl)) (by kernel_rfl) (by kernel_rfl)
set_option maxRecDepth 100000 in
theorem fnSliceSession_lifted(os:Os)(started:os.Started)(H:Type)(enc:TypeId×Value→H) :
 ReturnsInHanded {} Tryz.checked os 8 .any (fun w args=>(Rows.fnSliceSessionSpec.pre enc Tryz.prog Tryz.f8 [] false w args∧laidMetH Tryz.prog Rows.fnSliceSessionRow.laid w)∧sizedMet enc Tryz.prog Tryz.f8 (OpenSpec.ofChange Rows.fnSliceSessionSpec) false w args) (Rows.fnSliceSessionSpec.post enc Tryz.prog Tryz.f8 false true false false):=by
 refine returnsInHanded_of_change_and (C:=Tryz.checked) (X:=fun w _=>laidMetH Tryz.prog Rows.fnSliceSessionRow.laid w) (fun _ _ _ hh h=>h.of_heap hh) BL started (by kernel_rfl) Tryz.func8
  (ChangeSpec.witness_shaped (enc:=enc) (C:=Tryz.checked) (os:=os) (X:=fun w _=>laidMetH Tryz.prog Rows.fnSliceSessionRow.laid w) false (World.doorLaid Tryz.prog 24 os) #[.slice none 0 0] 8 rfl (World.shaped_of_RefB (by kernel_rfl) (by kernel_rfl)) (by kernel_rfl) (by kernel_rfl) (by kernel_rfl) (fnSliceSession_door os _)) ?_
 intro W base args ds gs before rY hW sU _ _ _
 have kL:∀(j:Nat) t v,Tryz.f8.params[j]?=some t→args[j]?=some v→Value.okWide Tryz.prog W .any base t v:=rY
 have hW':DataW.Whole enc Tryz.prog Tryz.f8.params.toList [] false W args.toList ds gs before:=hW
 obtain⟨p,q,hA0,hV,rfl,hfz,hnd⟩:=hW
 have hA:DataW.TrodAll enc Tryz.prog W 0 (fun _=>true) true Tryz.f8.params.toList args.toList ds p:=hA0
 rw[Tryz.params8] at hA kL
 obtain⟨v0,d0,rfl,rfl,h0⟩:=trodAll_one hA
 obtain⟨rfl,rfl⟩:=trodVars_none hV
 have g0:=yN Tryz.underlying47 (kL 0 47 v0 rfl rfl)
 obtain⟨a,ha⟩:=yC yB (fun a=>by rw[g0];try rfl) h0
 exact C7 (tb:=4) BK (by kernel_rfl) rfl Tryz.underlying4 rfl hW' rfl (by show cZ _ _ _ [v0];simp only[cZ];exact⟨v0,[],rfl,ha,rfl⟩) (aVS a oF)
theorem fnSliceSession_j1:(Rows.fnSliceSessionRow.inPlace == Tryz.prog.inPlace 8)=true:=by kernel_rfl
theorem fnSliceSession_j2:(Rows.fnSliceSessionRow.unfollowed == Tryz.prog.unfollowed 8)=true:=by kernel_rfl
theorem fnSliceSession_j3:(Rows.fnSliceSessionRow.recurses == Tryz.prog.recurses 8)=true:=by kernel_rfl
theorem fnSliceSession_j4:(Rows.fnSliceSessionRow.named == Tryz.prog.varsNamed 8)=true:=by kernel_rfl
theorem fnSliceSession_j7:(Rows.fnSliceSessionRow.lifted == Tryz.prog.liftsFinal)=true:=B7
theorem fnSliceSession_j8:(Tryz.prog.make == some Rows.fnSliceSessionRow.make)=true:=CA
theorem fnSliceSession_j9:joinedFacts Tryz.prog 8 Tryz.f8 Rows.fnSliceSessionSpec Rows.fnSliceSessionRow=true:=by
 unfold joinedFacts
 rw[fnSliceSession_j1,fnSliceSession_j2,fnSliceSession_j3,fnSliceSession_j4,B6,B5,fnSliceSession_j7,fnSliceSession_j8]
 kernel_rfl
theorem fnSliceSession_holds:Rows.FnSliceSessionSaid:=
 OpenClaim.holds_of_wide 8 Tryz.f8 rfl rfl rfl rfl rfl rfl rfl ⟨rfl,rfl,rfl,rfl,rfl⟩ rfl rfl rfl rfl rfl (by kernel_rfl) Tryz.func8 fnSliceSession_j9
  (AH (by kernel_rfl)) (by unfold Func.isWrapper;first | (rw[aH (by decide +kernel)];kernel_rfl) | (rw[aE (by decide +kernel)];exact⟨rfl,rfl⟩))
  (fun os started H enc _=>fnSliceSession_lifted os started H enc)
theorem fnSliceSession_i3:false=Rows.fnSliceSessionRow.goesBy Tryz.prog:=by kernel_rfl
theorem fnSliceSession_i4:Tryz.prog.funcNamed "loop.example/prologserver/laws.FnSliceSession" = some 8:=by kernel_rfl
theorem fnSliceSession_card_holds:Rows.FnSliceSessionCardSaid:=
 Claim7.holds_tied_plain_at .later [] [.data,.data,.data] true (true, "94032daa4ea14b1a96c79b4538a5bb7bdae72593153229f10066d087018480d7") false
  fnSliceSession_holds (fun _ h=>by cases h) (by kernel_rfl) (fun _ h=>by cases h) fnSliceSession_row_tie rfl ⟨rfl,rfl⟩ B9 rfl
  (fun f fn hf hfn=>by
   obtain rfl:f=8:=jL (fnSliceSession_i4.symm.trans hf) |>.symm
   obtain rfl:fn=Tryz.f8:=(jL (Tryz.func8.symm.trans hfn)).symm
   exact⟨B8,fun j t ht=>by
    rw[Tryz.params8] at ht
    have hm:t∈[47]:=by simpa using sG ht
    have cS:([47].all fun u=> !Tryz.prog.wantsStandIn u)=true:=by kernel_rfl
    exact(show Tryz.prog.wantsStandIn t=false by simpa using eM.1 cS t hm)⟩)
  fnSliceSession_i3
end Go.Proofs.YthigelfjekcbmaaGreatDoor
