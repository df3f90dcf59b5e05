
import Derived.Test.YtlepdbmhjkmelaaGreatDoorRows
import Derived.Test.YtlepdbmhjkmelaaGreatDoorCards
import Derived.Test.YtlepdbmhjkmelaaGreatDoorTie
import Derived.Test.YtlepdbmhjkmelaaGreatDoorWqt
import Derived.LaidMore
import Derived.SevenTiedAt
namespace Go.Proofs.YtlepdbmhjkmelaaGreatDoor
open Go.ChangeShapes Go.WideShapes Go.ChangeAt Go.RowKit Go.AW
theorem Tryzown:ownKnob Tryz.prog.godebug=none:=by kernel_rfl
theorem Tryzlaid:laidOutB Tryz.prog=true:=by kernel_rfl
theorem fnExactFeedServer_door(os:Os)(args:Array Value):laidMetH Tryz.prog Rows.fnExactFeedServerRow.laid ((World.doorLaid Tryz.prog 24 os).forCall (fun _ _=>0) ⟨#[],args,[]⟩).memory:=
 laidMetH_of_parts3 (fuel:=8) (laidMet_of_run' 8 (by kernel_rfl) (by kernel_rfl)) (by kernel_rfl) (by kernel_rfl)
set_option maxRecDepth 100000 in
theorem fnExactFeedServer_lifted(os:Os)(started:os.Started)(H:Type)(enc:TypeId×Value→H) :
 ReturnsInHanded {} Tryz.checked os 3 .any (fun w args=>(Rows.fnExactFeedServerSpec.pre enc Tryz.prog Tryz.f3 [] false w args∧laidMetH Tryz.prog Rows.fnExactFeedServerRow.laid w)∧sizedMet enc Tryz.prog Tryz.f3 (OpenSpec.ofChange Rows.fnExactFeedServerSpec) false w args) (Rows.fnExactFeedServerSpec.post enc Tryz.prog Tryz.f3 false true false false):=by
 refine returnsInHanded_of_change_and (C:=Tryz.checked) (X:=fun w _=>laidMetH Tryz.prog Rows.fnExactFeedServerRow.laid w) (fun _ _ _ hh h=>h.of_heap hh) Tryzown started (by kernel_rfl) Tryz.func3
  (ChangeSpec.witness_shaped (enc:=enc) (C:=Tryz.checked) (os:=os) (X:=fun w _=>laidMetH Tryz.prog Rows.fnExactFeedServerRow.laid w) false (World.doorLaid Tryz.prog 24 os) #[.agg #[.slice none 0 0,.int .i64 0],.int .i64 0,.slice none 0 0] 8 rfl (World.shaped_of_RefB (by kernel_rfl) (by kernel_rfl)) (by kernel_rfl) (by kernel_rfl) (by kernel_rfl) (fnExactFeedServer_door os _)) ?_
 intro W base args ds gs before a36 hW yP _ _ _
 have yT:∀(j:Nat) t v,Tryz.f3.params[j]?=some t→args[j]?=some v→Value.okWide Tryz.prog W .any base t v:=a36
 have hW':DataW.Whole enc Tryz.prog Tryz.f3.params.toList [] false W args.toList ds gs before:=hW
 obtain⟨p,q,hA0,hV,rfl,hfz,hnd⟩:=hW
 have hA:DataW.TrodAll enc Tryz.prog W 0 (fun _=>true) true Tryz.f3.params.toList args.toList ds p:=hA0
 rw[Tryz.params3] at hA yT
 obtain⟨v0,v1,v2,d0,d1,d2,p0,p1,p2,rfl,rfl,rfl,h0,h1,h2⟩:=trodAll_three hA
 obtain⟨rfl,rfl⟩:=trodVars_none hV
 have g0:=bAV Tryz.underlying24 (yT 0 24 v0 rfl rfl)
 have g1:=bAW (yT 1 3 v1 rfl rfl)
 have g2:=bAX Tryz.underlying25 (yT 2 25 v2 rfl rfl)
 obtain⟨a,ha⟩:=TK a7I (fun a=>by rw[g0];try rfl) h0
 obtain⟨b,hb⟩:=TK EO (fun a=>by rw[g1];try rfl) h1
 obtain⟨c,hc⟩:=TK aNJ (fun a=>by rw[g2];try rfl) h2
 exact a42 (tb:=4) Tryzlaid (by kernel_rfl) rfl Tryz.underlying4 rfl hW' rfl (by show cT _ _ _ [v0,v1,v2];simp only[cT];exact⟨v0,[v1,v2],rfl,ha,v1,[v2],rfl,hb,v2,[],rfl,hc,rfl⟩) (aTQ a b c qD)
theorem fnExactFeedServer_j1:(Rows.fnExactFeedServerRow.inPlace == Tryz.prog.inPlace 3)=true:=by kernel_rfl
theorem fnExactFeedServer_j2:(Rows.fnExactFeedServerRow.unfollowed == Tryz.prog.unfollowed 3)=true:=by kernel_rfl
theorem fnExactFeedServer_j3:(Rows.fnExactFeedServerRow.recurses == Tryz.prog.recurses 3)=true:=by kernel_rfl
theorem fnExactFeedServer_j4:(Rows.fnExactFeedServerRow.named == Tryz.prog.varsNamed 3)=true:=by kernel_rfl
theorem fnExactFeedServer_j5:Tryz.prog.stopsHeard=true:=by kernel_rfl
theorem fnExactFeedServer_j6:Tryz.prog.mayEnter=true:=by kernel_rfl
theorem fnExactFeedServer_j7:(Rows.fnExactFeedServerRow.lifted == Tryz.prog.liftsFinal)=true:=by kernel_rfl
theorem fnExactFeedServer_j8:(Tryz.prog.make == some Rows.fnExactFeedServerRow.make)=true:=by kernel_rfl
theorem fnExactFeedServer_j9:joinedFacts Tryz.prog 3 Tryz.f3 Rows.fnExactFeedServerSpec Rows.fnExactFeedServerRow=true:=by
 unfold joinedFacts
 rw[fnExactFeedServer_j1,fnExactFeedServer_j2,fnExactFeedServer_j3,fnExactFeedServer_j4,fnExactFeedServer_j5,fnExactFeedServer_j6,fnExactFeedServer_j7,fnExactFeedServer_j8]
 kernel_rfl
theorem fnExactFeedServer_holds:Rows.FnExactFeedServerSaid:=
 OpenClaim.holds_of_wide 3 Tryz.f3 rfl rfl rfl rfl rfl rfl rfl ⟨rfl,rfl,rfl,rfl,rfl⟩ rfl rfl rfl rfl rfl (by kernel_rfl) Tryz.func3 fnExactFeedServer_j9
  (of_decide_eq_true (by kernel_rfl)) (by unfold Func.isWrapper;first | (rw[aN (by decide +kernel)];kernel_rfl) | (rw[aK (by decide +kernel)];exact⟨rfl,rfl⟩))
  (fun os started H enc _=>fnExactFeedServer_lifted os started H enc)
theorem fnExactFeedServer_i1:Tryz.prog.mainIs=some (true, "448abcfe084a66b735c0e5d78961acf9ce42c70b80a6690f7dc58893ff70e9b8".toList):=by kernel_rfl
theorem fnExactFeedServer_i2:false=Tryz.prog.looks []:=by kernel_rfl
theorem fnExactFeedServer_i3:false=Rows.fnExactFeedServerRow.goesBy Tryz.prog:=by kernel_rfl
theorem fnExactFeedServer_i4:Tryz.prog.funcNamed "loop.example/prologserver/laws.FnExactFeedServer" = some 3:=by kernel_rfl
theorem fnExactFeedServer_card_holds:Rows.FnExactFeedServerCardSaid:=
 Claim7.holds_tied_plain_at .later [] [.data,.data,.data] true (true, "448abcfe084a66b735c0e5d78961acf9ce42c70b80a6690f7dc58893ff70e9b8") false
  fnExactFeedServer_holds (fun _ h=>by cases h) (by kernel_rfl) (fun _ h=>by cases h) fnExactFeedServer_row_tie rfl ⟨rfl,rfl⟩ fnExactFeedServer_i1 rfl
  (fun f fn hf hfn=>by
   obtain rfl:f=3:=nP (fnExactFeedServer_i4.symm.trans hf) |>.symm
   obtain rfl:fn=Tryz.f3:=(nP (Tryz.func3.symm.trans hfn)).symm
   exact⟨fnExactFeedServer_i2,fun j t ht=>by
    rw[Tryz.params3] at ht
    have hm:t∈[24,3,25]:=by simpa using B6 ht
    have dN:([24,3,25].all fun u=> !Tryz.prog.wantsStandIn u)=true:=by kernel_rfl
    exact(show Tryz.prog.wantsStandIn t=false by simpa using fU.1 dN t hm)⟩)
  fnExactFeedServer_i3
end Go.Proofs.YtlepdbmhjkmelaaGreatDoor
