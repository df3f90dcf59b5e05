
import Derived.Test.YtimfffmcljmfgaaGreatDoorRows
import Derived.Test.YtimfffmcljmfgaaGreatDoorCards
import Derived.Test.YtimfffmcljmfgaaGreatDoorTie
import Derived.Test.YtimfffmcljmfgaaGreatDoorUzs
import Derived.Test.YtimfffmcljmfgaaGreatDoorUzu
import Derived.LaidMore
import Derived.SevenTiedAt
namespace Go.Proofs.YtimfffmcljmfgaaGreatDoor
open Go.ChangeShapes Go.WideShapes Go.ChangeAt Go.RowKit Go.AW
theorem fnExactSolveIndexed_door(os:Os)(args:Array Value):laidMetH Tryz.prog Rows.fnExactSolveIndexedRow.laid ((World.doorLaid Tryz.prog 24 os).forCall (fun _ _=>0) ⟨#[],args,[]⟩).memory:=
 laidMetH_of_parts3 (fuel:=8) (laidMet_of_run' 8 (by kernel_rfl) (by kernel_rfl)) (by kernel_rfl) (by kernel_rfl)
set_option maxRecDepth 100000 in
theorem fnExactSolveIndexed_lifted(os:Os)(started:os.Started)(H:Type)(enc:TypeId×Value→H) :
 ReturnsInHanded {} Tryz.checked os 3 .any (fun w args=>(Rows.fnExactSolveIndexedSpec.pre enc Tryz.prog Tryz.f3 [] false w args∧laidMetH Tryz.prog Rows.fnExactSolveIndexedRow.laid w)∧sizedMet enc Tryz.prog Tryz.f3 (OpenSpec.ofChange Rows.fnExactSolveIndexedSpec) false w args) (Rows.fnExactSolveIndexedSpec.post enc Tryz.prog Tryz.f3 false true false false):=by
 refine returnsInHanded_of_change_and (C:=Tryz.checked) (X:=fun w _=>laidMetH Tryz.prog Rows.fnExactSolveIndexedRow.laid w) (fun _ _ _ hh h=>h.of_heap hh) X7 started (by kernel_rfl) Tryz.func3
  (ChangeSpec.witness_shaped (enc:=enc) (C:=Tryz.checked) (os:=os) (X:=fun w _=>laidMetH Tryz.prog Rows.fnExactSolveIndexedRow.laid w) false (World.doorLaid Tryz.prog 24 os) #[.slice none 0 0,.slice none 0 0,.int .i64 0,.int .i64 0] 8 rfl (World.shaped_of_RefB (by kernel_rfl) (by kernel_rfl)) (by kernel_rfl) (by kernel_rfl) (by kernel_rfl) (fnExactSolveIndexed_door os _)) ?_
 intro W base args ds gs before UE hW xU _ TT _
 have sN:∀(j:Nat) t v,Tryz.f3.params[j]?=some t→args[j]?=some v→Value.okWide Tryz.prog W .any base t v:=UE
 have hW':DataW.Whole enc Tryz.prog Tryz.f3.params.toList [] false W args.toList ds gs before:=hW
 obtain⟨p,q,hA0,hV,rfl,hfz,hnd⟩:=hW
 have hA:DataW.TrodAll enc Tryz.prog W 0 (fun _=>true) true Tryz.f3.params.toList args.toList ds p:=hA0
 rw[Tryz.params3] at hA sN
 obtain⟨tT,htT⟩:=aPZ (laidMetH.filter (fun x=>x.1 == VL) TT)
 have MZ:=aQI htT
 obtain⟨v0,v1,v2,v3,d0,d1,d2,d3,p0,p1,p2,p3,rfl,rfl,rfl,h0,h1,h2,h3⟩:=trodAll_four hA
 obtain⟨rfl,rfl⟩:=trodVars_none hV
 have g0:=XO Tryz.underlying22 (sN 0 22 v0 rfl rfl)
 have g1:=XO Tryz.underlying23 (sN 1 23 v1 rfl rfl)
 have g2:=aTB (sN 2 3 v2 rfl rfl)
 have g3:=aTB (sN 3 3 v3 rfl rfl)
 obtain⟨a,ha⟩:=JF (a55 MZ) (fun a=>by rw[g0];try rfl) h0
 obtain⟨b,hb⟩:=JF (aP5 MZ) (fun a=>by rw[g1];try rfl) h1
 obtain⟨c,hc⟩:=JF (s0:=pN j6 nU) aP6 (fun a=>by rw[g2];try rfl) h2
 obtain⟨d,hd⟩:=JF (s0:=pN j6 nU) aP6 (fun a=>by rw[g3];try rfl) h3
 exact aOR (tb:=4) X6 (by kernel_rfl) rfl Tryz.underlying4 rfl hW' rfl ⟨tT,htT⟩ (by show dC _ _ _ [v0,v1,v2,v3];simp only[dC];exact⟨v0,[v1,v2,v3],rfl,ha,v1,[v2,v3],rfl,hb,v2,[v3],rfl,hc,v3,[],rfl,hd,rfl⟩) (aVI a b c d _ (OB _ _))
theorem fnExactSolveIndexed_j1:(Rows.fnExactSolveIndexedRow.inPlace == Tryz.prog.inPlace 3)=true:=by kernel_rfl
theorem fnExactSolveIndexed_j2:(Rows.fnExactSolveIndexedRow.unfollowed == Tryz.prog.unfollowed 3)=true:=by kernel_rfl
theorem fnExactSolveIndexed_j3:(Rows.fnExactSolveIndexedRow.recurses == Tryz.prog.recurses 3)=true:=by kernel_rfl
theorem fnExactSolveIndexed_j4:(Rows.fnExactSolveIndexedRow.named == Tryz.prog.varsNamed 3)=true:=by kernel_rfl
theorem fnExactSolveIndexed_j7:(Rows.fnExactSolveIndexedRow.lifted == Tryz.prog.liftsFinal)=true:=aBR
theorem fnExactSolveIndexed_j8:(Tryz.prog.make == some Rows.fnExactSolveIndexedRow.make)=true:=aBU
theorem fnExactSolveIndexed_j9:joinedFacts Tryz.prog 3 Tryz.f3 Rows.fnExactSolveIndexedSpec Rows.fnExactSolveIndexedRow=true:=by
 unfold joinedFacts
 rw[fnExactSolveIndexed_j1,fnExactSolveIndexed_j2,fnExactSolveIndexed_j3,fnExactSolveIndexed_j4,aBQ,aBP,fnExactSolveIndexed_j7,fnExactSolveIndexed_j8]
 kernel_rfl
theorem fnExactSolveIndexed_holds:Rows.FnExactSolveIndexedSaid:=
 OpenClaim.holds_of_wide 3 Tryz.f3 rfl rfl rfl rfl rfl rfl rfl ⟨rfl,rfl,rfl,rfl,rfl⟩ rfl rfl rfl rfl rfl (by kernel_rfl) Tryz.func3 fnExactSolveIndexed_j9
  (I5 (by kernel_rfl)) (by unfold Func.isWrapper;first | (rw[aH (by decide +kernel)];kernel_rfl) | (rw[aE (by decide +kernel)];exact⟨rfl,rfl⟩))
  (fun os started H enc _=>fnExactSolveIndexed_lifted os started H enc)
theorem fnExactSolveIndexed_i3:false=Rows.fnExactSolveIndexedRow.goesBy Tryz.prog:=by kernel_rfl
theorem fnExactSolveIndexed_i4:Tryz.prog.funcNamed "loop.example/prologserver/laws.FnExactSolveIndexed" = some 3:=by kernel_rfl
theorem fnExactSolveIndexed_card_holds:Rows.FnExactSolveIndexedCardSaid:=
 Claim7.holds_tied_plain_at .later [] [.data,.data,.data] true (true, "35a9d5ba51d683bf6a5ce4e922c04c75025bcab1a1de1b217ce7602da35b80a8") false
  fnExactSolveIndexed_holds (fun _ h=>by cases h) (by kernel_rfl) (fun _ h=>by cases h) fnExactSolveIndexed_row_tie rfl ⟨rfl,rfl⟩ aBT rfl
  (fun f fn hf hfn=>by
   obtain rfl:f=3:=lL (fnExactSolveIndexed_i4.symm.trans hf) |>.symm
   obtain rfl:fn=Tryz.f3:=(lL (Tryz.func3.symm.trans hfn)).symm
   exact⟨aBS,fun j t ht=>by
    rw[Tryz.params3] at ht
    have hm:t∈[22,23,3,3]:=by simpa using A8 ht
    have dN:([22,23,3,3].all fun u=> !Tryz.prog.wantsStandIn u)=true:=by kernel_rfl
    exact(show Tryz.prog.wantsStandIn t=false by simpa using eW.1 dN t hm)⟩)
  fnExactSolveIndexed_i3
end Go.Proofs.YtimfffmcljmfgaaGreatDoor
