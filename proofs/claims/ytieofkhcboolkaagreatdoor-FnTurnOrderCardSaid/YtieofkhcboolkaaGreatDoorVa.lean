
import Derived.Test.YtieofkhcboolkaaGreatDoorRows
import Derived.Test.YtieofkhcboolkaaGreatDoorCards
import Derived.Test.YtieofkhcboolkaaGreatDoorTie
import Derived.Test.YtieofkhcboolkaaGreatDoorVas
import Derived.Test.YtieofkhcboolkaaGreatDoorVau
import Derived.LaidMore
import Derived.SevenTiedAt
namespace Go.Proofs.YtieofkhcboolkaaGreatDoor
open Go.ChangeShapes Go.WideShapes Go.ChangeAt Go.RowKit Go.AW
theorem fnTurnOrder_door(os:Os)(args:Array Value):laidMetH Tryz.prog Rows.fnTurnOrderRow.laid ((World.doorLaid Tryz.prog 24 os).forCall (fun _ _=>0) ⟨#[],args,[]⟩).memory:=
 laidMetH_of_parts3 (fuel:=8) (laidMet_of_run' 8 (by kernel_rfl) (by kernel_rfl)) (by kernel_rfl) (by kernel_rfl)
set_option maxRecDepth 100000 in
theorem fnTurnOrder_lifted(os:Os)(started:os.Started)(H:Type)(enc:TypeId×Value→H) :
 ReturnsInHanded {} Tryz.checked os 3 .any (fun w args=>(Rows.fnTurnOrderSpec.pre enc Tryz.prog Tryz.f3 [] false w args∧laidMetH Tryz.prog Rows.fnTurnOrderRow.laid w)∧sizedMet enc Tryz.prog Tryz.f3 (OpenSpec.ofChange Rows.fnTurnOrderSpec) false w args) (Rows.fnTurnOrderSpec.post enc Tryz.prog Tryz.f3 false true false false):=by
 refine returnsInHanded_of_change_and (C:=Tryz.checked) (X:=fun w _=>laidMetH Tryz.prog Rows.fnTurnOrderRow.laid w) (fun _ _ _ hh h=>h.of_heap hh) aSW started (by kernel_rfl) Tryz.func3
  (ChangeSpec.witness_shaped (enc:=enc) (C:=Tryz.checked) (os:=os) (X:=fun w _=>laidMetH Tryz.prog Rows.fnTurnOrderRow.laid w) false (World.doorLaid Tryz.prog 24 os) #[.slice none 0 0] 8 rfl (World.shaped_of_RefB (by kernel_rfl) (by kernel_rfl)) (by kernel_rfl) (by kernel_rfl) (by kernel_rfl) (fnTurnOrder_door os _)) ?_
 intro W base args ds gs before a5X hW zO _ a41 _
 have E3:∀(j:Nat) t v,Tryz.f3.params[j]?=some t→args[j]?=some v→Value.okWide Tryz.prog W .any base t v:=a5X
 have hW':DataW.Whole enc Tryz.prog Tryz.f3.params.toList [] false W args.toList ds gs before:=hW
 obtain⟨p,q,hA0,hV,rfl,hfz,hnd⟩:=hW
 have hA:DataW.TrodAll enc Tryz.prog W 0 (fun _=>true) true Tryz.f3.params.toList args.toList ds p:=hA0
 rw[Tryz.params3] at hA E3
 obtain⟨tT,htT⟩:=a8O (laidMetH.filter (fun x=>x.1 == aOR) a41)
 have a3N:=a9X htT
 obtain⟨v0,d0,rfl,rfl,h0⟩:=trodAll_one hA
 obtain⟨rfl,rfl⟩:=trodVars_none hV
 have g0:=bCW Tryz.underlying22 (E3 0 22 v0 rfl rfl)
 obtain⟨a,ha⟩:=a9D (a9B a3N) (fun a=>by rw[g0];try rfl) h0
 exact a6Y (tb:=4) aSV (by kernel_rfl) rfl Tryz.underlying4 rfl hW' rfl ⟨tT,htT⟩ (by show dB _ _ _ [v0];simp only[dB];exact⟨v0,[],rfl,ha,rfl⟩) (aVJ a _ (bAS _ _))
theorem fnTurnOrder_j1:(Rows.fnTurnOrderRow.inPlace == Tryz.prog.inPlace 3)=true:=by kernel_rfl
theorem fnTurnOrder_j2:(Rows.fnTurnOrderRow.unfollowed == Tryz.prog.unfollowed 3)=true:=by kernel_rfl
theorem fnTurnOrder_j3:(Rows.fnTurnOrderRow.recurses == Tryz.prog.recurses 3)=true:=by kernel_rfl
theorem fnTurnOrder_j4:(Rows.fnTurnOrderRow.named == Tryz.prog.varsNamed 3)=true:=by kernel_rfl
theorem fnTurnOrder_j7:(Rows.fnTurnOrderRow.lifted == Tryz.prog.liftsFinal)=true:=aZD
theorem fnTurnOrder_j8:(Tryz.prog.make == some Rows.fnTurnOrderRow.make)=true:=aZG
theorem fnTurnOrder_j9:joinedFacts Tryz.prog 3 Tryz.f3 Rows.fnTurnOrderSpec Rows.fnTurnOrderRow=true:=by
 unfold joinedFacts
 rw[fnTurnOrder_j1,fnTurnOrder_j2,fnTurnOrder_j3,fnTurnOrder_j4,aZC,aZB,fnTurnOrder_j7,fnTurnOrder_j8]
 kernel_rfl
theorem fnTurnOrder_holds:Rows.FnTurnOrderSaid:=
 OpenClaim.holds_of_wide 3 Tryz.f3 rfl rfl rfl rfl rfl rfl rfl ⟨rfl,rfl,rfl,rfl,rfl⟩ rfl rfl rfl rfl rfl (by kernel_rfl) Tryz.func3 fnTurnOrder_j9
  (of_decide_eq_true (by kernel_rfl)) (by unfold Func.isWrapper;first | (rw[aG (by decide +kernel)];kernel_rfl) | (rw[aE (by decide +kernel)];exact⟨rfl,rfl⟩))
  (fun os started H enc _=>fnTurnOrder_lifted os started H enc)
theorem fnTurnOrder_i3:false=Rows.fnTurnOrderRow.goesBy Tryz.prog:=by kernel_rfl
theorem fnTurnOrder_i4:Tryz.prog.funcNamed "loop.example/prologserver/laws.FnTurnOrder" = some 3:=by kernel_rfl
theorem fnTurnOrder_card_holds:Rows.FnTurnOrderCardSaid:=
 Claim7.holds_tied_plain_at .later [] [.data,.data,.data] true (true, "5ac40d088460fd31efcb4e8be2bfc96a53873949d201157e5bb18c952d020935") false
  fnTurnOrder_holds (fun _ h=>by cases h) (by kernel_rfl) (fun _ h=>by cases h) fnTurnOrder_row_tie rfl ⟨rfl,rfl⟩ aZF rfl
  (fun f fn hf hfn=>by
   obtain rfl:f=3:=mD (fnTurnOrder_i4.symm.trans hf) |>.symm
   obtain rfl:fn=Tryz.f3:=(mD (Tryz.func3.symm.trans hfn)).symm
   exact⟨aZE,fun j t ht=>by
    rw[Tryz.params3] at ht
    have hm:t∈[22]:=by simpa using DC ht
    have dV:([22].all fun u=> !Tryz.prog.wantsStandIn u)=true:=by kernel_rfl
    exact(show Tryz.prog.wantsStandIn t=false by simpa using dW.1 dV t hm)⟩)
  fnTurnOrder_i3
end Go.Proofs.YtieofkhcboolkaaGreatDoor
