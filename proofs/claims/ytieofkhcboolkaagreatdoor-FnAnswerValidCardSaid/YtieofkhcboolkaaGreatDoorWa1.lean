
import Derived.Test.YtieofkhcboolkaaGreatDoorRows
import Derived.Test.YtieofkhcboolkaaGreatDoorCards
import Derived.Test.YtieofkhcboolkaaGreatDoorTie
import Derived.Test.YtieofkhcboolkaaGreatDoorWas
import Derived.Test.YtieofkhcboolkaaGreatDoorWau
import Derived.LaidMore
import Derived.SevenTiedAt
namespace Go.Proofs.YtieofkhcboolkaaGreatDoor
open Go.ChangeShapes Go.WideShapes Go.ChangeAt Go.RowKit Go.AW
theorem fnAnswerValid_door(os:Os)(args:Array Value):laidMetH Tryz.prog Rows.fnAnswerValidRow.laid ((World.doorLaid Tryz.prog 24 os).forCall (fun _ _=>0) ⟨#[],args,[]⟩).memory:=
 laidMetH_of_parts3 (fuel:=8) (laidMet_of_run' 8 (by kernel_rfl) (by kernel_rfl)) (by kernel_rfl) (by kernel_rfl)
set_option maxRecDepth 100000 in
theorem fnAnswerValid_lifted(os:Os)(started:os.Started)(H:Type)(enc:TypeId×Value→H) :
 ReturnsInHanded {} Tryz.checked os 5 .any (fun w args=>(Rows.fnAnswerValidSpec.pre enc Tryz.prog Tryz.f5 [] false w args∧laidMetH Tryz.prog Rows.fnAnswerValidRow.laid w)∧sizedMet enc Tryz.prog Tryz.f5 (OpenSpec.ofChange Rows.fnAnswerValidSpec) false w args) (Rows.fnAnswerValidSpec.post enc Tryz.prog Tryz.f5 false true false false):=by
 refine returnsInHanded_of_change_and (C:=Tryz.checked) (X:=fun w _=>laidMetH Tryz.prog Rows.fnAnswerValidRow.laid w) (fun _ _ _ hh h=>h.of_heap hh) VF started (by kernel_rfl) Tryz.func5
  (ChangeSpec.witness_shaped (enc:=enc) (C:=Tryz.checked) (os:=os) (X:=fun w _=>laidMetH Tryz.prog Rows.fnAnswerValidRow.laid w) false (World.doorLaid Tryz.prog 24 os) #[.slice none 0 0] 8 rfl (World.shaped_of_RefB (by kernel_rfl) (by kernel_rfl)) (by kernel_rfl) (by kernel_rfl) (by kernel_rfl) (fnAnswerValid_door os _)) ?_
 intro W base args ds gs before Q8 hW wG _ QW _
 have tE:∀(j:Nat) t v,Tryz.f5.params[j]?=some t→args[j]?=some v→Value.okWide Tryz.prog W .any base t v:=Q8
 have hW':DataW.Whole enc Tryz.prog Tryz.f5.params.toList [] false W args.toList ds gs before:=hW
 obtain⟨p,q,hA0,hV,rfl,hfz,hnd⟩:=hW
 have hA:DataW.TrodAll enc Tryz.prog W 0 (fun _=>true) true Tryz.f5.params.toList args.toList ds p:=hA0
 rw[Tryz.params5] at hA tE
 obtain⟨tT,htT⟩:=aMJ (laidMetH.filter (fun x=>x.1 == SK) QW)
 have P8:=aM2 htT
 obtain⟨v0,d0,rfl,rfl,h0⟩:=trodAll_one hA
 obtain⟨rfl,rfl⟩:=trodVars_none hV
 have g0:=aPW Tryz.underlying22 (tE 0 22 v0 rfl rfl)
 obtain⟨a,ha⟩:=aMP (aMO P8) (fun a=>by rw[g0];try rfl) h0
 exact aLL (tb:=4) VD (by kernel_rfl) rfl Tryz.underlying4 rfl hW' rfl ⟨tT,htT⟩ (by show dA _ _ _ [v0];simp only[dA];exact⟨v0,[],rfl,ha,rfl⟩) (aSO a _ (aNO _ _))
theorem fnAnswerValid_j1:(Rows.fnAnswerValidRow.inPlace == Tryz.prog.inPlace 5)=true:=by kernel_rfl
theorem fnAnswerValid_j2:(Rows.fnAnswerValidRow.unfollowed == Tryz.prog.unfollowed 5)=true:=by kernel_rfl
theorem fnAnswerValid_j3:(Rows.fnAnswerValidRow.recurses == Tryz.prog.recurses 5)=true:=by kernel_rfl
theorem fnAnswerValid_j4:(Rows.fnAnswerValidRow.named == Tryz.prog.varsNamed 5)=true:=by kernel_rfl
theorem fnAnswerValid_j7:(Rows.fnAnswerValidRow.lifted == Tryz.prog.liftsFinal)=true:=Y1
theorem fnAnswerValid_j8:(Tryz.prog.make == some Rows.fnAnswerValidRow.make)=true:=Y4
theorem fnAnswerValid_j9:joinedFacts Tryz.prog 5 Tryz.f5 Rows.fnAnswerValidSpec Rows.fnAnswerValidRow=true:=by
 unfold joinedFacts
 rw[fnAnswerValid_j1,fnAnswerValid_j2,fnAnswerValid_j3,fnAnswerValid_j4,Y0,YZ,fnAnswerValid_j7,fnAnswerValid_j8]
 kernel_rfl
theorem fnAnswerValid_holds:Rows.FnAnswerValidSaid:=
 OpenClaim.holds_of_wide 5 Tryz.f5 rfl rfl rfl rfl rfl rfl rfl ⟨rfl,rfl,rfl,rfl,rfl⟩ rfl rfl rfl rfl rfl (by kernel_rfl) Tryz.func5 fnAnswerValid_j9
  (of_decide_eq_true (by kernel_rfl)) (by unfold Func.isWrapper;first | (rw[aJ (by decide +kernel)];kernel_rfl) | (rw[aF (by decide +kernel)];exact⟨rfl,rfl⟩))
  (fun os started H enc _=>fnAnswerValid_lifted os started H enc)
theorem fnAnswerValid_i3:false=Rows.fnAnswerValidRow.goesBy Tryz.prog:=by kernel_rfl
theorem fnAnswerValid_i4:Tryz.prog.funcNamed "loop.example/prologserver/laws.FnAnswerValid" = some 5:=by kernel_rfl
theorem fnAnswerValid_card_holds:Rows.FnAnswerValidCardSaid:=
 Claim7.holds_tied_plain_at .later [] [.data,.data,.data] true (true, "5ac40d088460fd31efcb4e8be2bfc96a53873949d201157e5bb18c952d020935") false
  fnAnswerValid_holds (fun _ h=>by cases h) (by kernel_rfl) (fun _ h=>by cases h) fnAnswerValid_row_tie rfl ⟨rfl,rfl⟩ Y3 rfl
  (fun f fn hf hfn=>by
   obtain rfl:f=5:=kZ (fnAnswerValid_i4.symm.trans hf) |>.symm
   obtain rfl:fn=Tryz.f5:=(kZ (Tryz.func5.symm.trans hfn)).symm
   exact⟨Y2,fun j t ht=>by
    rw[Tryz.params5] at ht
    have hm:t∈[22]:=by simpa using zD ht
    have dJ:([22].all fun u=> !Tryz.prog.wantsStandIn u)=true:=by kernel_rfl
    exact(show Tryz.prog.wantsStandIn t=false by simpa using dQ.1 dJ t hm)⟩)
  fnAnswerValid_i3
end Go.Proofs.YtieofkhcboolkaaGreatDoor
