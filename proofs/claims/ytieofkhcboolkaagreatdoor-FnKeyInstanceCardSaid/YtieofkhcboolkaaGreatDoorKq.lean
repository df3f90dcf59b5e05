
import Derived.Test.YtieofkhcboolkaaGreatDoorRows
import Derived.Test.YtieofkhcboolkaaGreatDoorCards
import Derived.Test.YtieofkhcboolkaaGreatDoorTie
import Derived.Test.YtieofkhcboolkaaGreatDoorKqm
import Derived.Test.YtieofkhcboolkaaGreatDoorKqo
import Derived.LaidMore
import Derived.SevenTiedAt
namespace Go.Proofs.YtieofkhcboolkaaGreatDoor
open Go.ChangeShapes Go.WideShapes Go.ChangeAt Go.RowKit Go.AW
theorem fnKeyInstance_door(os:Os)(args:Array Value):laidMetH Tryz.prog Rows.fnKeyInstanceRow.laid ((World.doorLaid Tryz.prog 24 os).forCall (fun _ _=>0) ⟨#[],args,[]⟩).memory:=
 laidMetH_of_parts3 (fuel:=8) (laidMet_of_run' 8 (by kernel_rfl) (by kernel_rfl)) (by kernel_rfl) (by kernel_rfl)
set_option maxRecDepth 100000 in
theorem fnKeyInstance_lifted(os:Os)(started:os.Started)(H:Type)(enc:TypeId×Value→H) :
 ReturnsInHanded {} Tryz.checked os 6 .any (fun w args=>(Rows.fnKeyInstanceSpec.pre enc Tryz.prog Tryz.f6 [] false w args∧laidMetH Tryz.prog Rows.fnKeyInstanceRow.laid w)∧sizedMet enc Tryz.prog Tryz.f6 (OpenSpec.ofChange Rows.fnKeyInstanceSpec) false w args) (Rows.fnKeyInstanceSpec.post enc Tryz.prog Tryz.f6 false true false false):=by
 refine returnsInHanded_of_change_and (C:=Tryz.checked) (X:=fun w _=>laidMetH Tryz.prog Rows.fnKeyInstanceRow.laid w) (fun _ _ _ hh h=>h.of_heap hh) UX started (by kernel_rfl) Tryz.func6
  (ChangeSpec.witness_shaped (enc:=enc) (C:=Tryz.checked) (os:=os) (X:=fun w _=>laidMetH Tryz.prog Rows.fnKeyInstanceRow.laid w) false (World.doorLaid Tryz.prog 24 os) #[.slice none 0 0,.slice none 0 0] 8 rfl (World.shaped_of_RefB (by kernel_rfl) (by kernel_rfl)) (by kernel_rfl) (by kernel_rfl) (by kernel_rfl) (fnKeyInstance_door os _)) ?_
 intro W base args ds gs before aCP hW QU _ aB9 _
 have CF:∀(j:Nat) t v,Tryz.f6.params[j]?=some t→args[j]?=some v→Value.okWide Tryz.prog W .any base t v:=aCP
 have hW':DataW.Whole enc Tryz.prog Tryz.f6.params.toList [] false W args.toList ds gs before:=hW
 obtain⟨p,q,hA0,hV,rfl,hfz,hnd⟩:=hW
 have hA:DataW.TrodAll enc Tryz.prog W 0 (fun _=>true) true Tryz.f6.params.toList args.toList ds p:=hA0
 rw[Tryz.params6] at hA CF
 obtain⟨tT,htT⟩:=aEB (laidMetH.filter (fun x=>x.1 == SF) aB9)
 have QO:=aET htT
 obtain⟨v0,v1,d0,d1,p0,p1,rfl,rfl,rfl,h0,h1⟩:=trodAll_two hA
 obtain⟨rfl,rfl⟩:=trodVars_none hV
 have g0:=UP Tryz.underlying22 (CF 0 22 v0 rfl rfl)
 have g1:=UP Tryz.underlying22 (CF 1 22 v1 rfl rfl)
 obtain⟨a,ha⟩:=SH (SG QO) (fun a=>by rw[g0];try rfl) h0
 obtain⟨b,hb⟩:=SH (SG QO) (fun a=>by rw[g1];try rfl) h1
 exact aC7 (tb:=4) UW (by kernel_rfl) rfl Tryz.underlying4 rfl hW' rfl ⟨tT,htT⟩ (by show cF _ _ _ [v0,v1];simp only[cF];exact⟨v0,[v1],rfl,ha,v1,[],rfl,hb,rfl⟩) (WV a b _ (aFB _ _))
theorem fnKeyInstance_j1:(Rows.fnKeyInstanceRow.inPlace == Tryz.prog.inPlace 6)=true:=by kernel_rfl
theorem fnKeyInstance_j2:(Rows.fnKeyInstanceRow.unfollowed == Tryz.prog.unfollowed 6)=true:=by kernel_rfl
theorem fnKeyInstance_j3:(Rows.fnKeyInstanceRow.recurses == Tryz.prog.recurses 6)=true:=by kernel_rfl
theorem fnKeyInstance_j4:(Rows.fnKeyInstanceRow.named == Tryz.prog.varsNamed 6)=true:=by kernel_rfl
theorem fnKeyInstance_j7:(Rows.fnKeyInstanceRow.lifted == Tryz.prog.liftsFinal)=true:=Y9
theorem fnKeyInstance_j8:(Tryz.prog.make == some Rows.fnKeyInstanceRow.make)=true:=ZC
theorem fnKeyInstance_j9:joinedFacts Tryz.prog 6 Tryz.f6 Rows.fnKeyInstanceSpec Rows.fnKeyInstanceRow=true:=by
 unfold joinedFacts
 rw[fnKeyInstance_j1,fnKeyInstance_j2,fnKeyInstance_j3,fnKeyInstance_j4,Y8,Y7,fnKeyInstance_j7,fnKeyInstance_j8]
 kernel_rfl
theorem fnKeyInstance_holds:Rows.FnKeyInstanceSaid:=
 OpenClaim.holds_of_wide 6 Tryz.f6 rfl rfl rfl rfl rfl rfl rfl ⟨rfl,rfl,rfl,rfl,rfl⟩ rfl rfl rfl rfl rfl (by kernel_rfl) Tryz.func6 fnKeyInstance_j9
  (of_decide_eq_true (by kernel_rfl)) (by unfold Func.isWrapper;first | (rw[aU (by decide +kernel)];kernel_rfl) | (rw[aS (by decide +kernel)];exact⟨rfl,rfl⟩))
  (fun os started H enc _=>fnKeyInstance_lifted os started H enc)
theorem fnKeyInstance_i3:false=Rows.fnKeyInstanceRow.goesBy Tryz.prog:=by kernel_rfl
theorem fnKeyInstance_i4:Tryz.prog.funcNamed "loop.example/prologserver/laws.FnKeyInstance" = some 6:=by kernel_rfl
theorem fnKeyInstance_card_holds:Rows.FnKeyInstanceCardSaid:=
 Claim7.holds_tied_plain_at .later [] [.data,.data,.data] true (true, "5ac40d088460fd31efcb4e8be2bfc96a53873949d201157e5bb18c952d020935") false
  fnKeyInstance_holds (fun _ h=>by cases h) (by kernel_rfl) (fun _ h=>by cases h) fnKeyInstance_row_tie rfl ⟨rfl,rfl⟩ ZB rfl
  (fun f fn hf hfn=>by
   obtain rfl:f=6:=m8 (fnKeyInstance_i4.symm.trans hf) |>.symm
   obtain rfl:fn=Tryz.f6:=(m8 (Tryz.func6.symm.trans hfn)).symm
   exact⟨ZA,fun j t ht=>by
    rw[Tryz.params6] at ht
    have hm:t∈[22,22]:=by simpa using tF ht
    have cX:([22,22].all fun u=> !Tryz.prog.wantsStandIn u)=true:=by kernel_rfl
    exact(show Tryz.prog.wantsStandIn t=false by simpa using dY.1 cX t hm)⟩)
  fnKeyInstance_i3
end Go.Proofs.YtieofkhcboolkaaGreatDoor
