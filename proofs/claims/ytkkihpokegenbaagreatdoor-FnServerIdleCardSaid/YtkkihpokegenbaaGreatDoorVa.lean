
import Derived.Test.YtkkihpokegenbaaGreatDoorRows
import Derived.Test.YtkkihpokegenbaaGreatDoorCards
import Derived.Test.YtkkihpokegenbaaGreatDoorTie
import Derived.Test.YtkkihpokegenbaaGreatDoorVaq
import Derived.Test.YtkkihpokegenbaaGreatDoorVar
import Derived.Test.YtkkihpokegenbaaGreatDoorVas
import Derived.LaidMore
import Derived.Lay
import Derived.MakeChecks
import Derived.SevenTiedAt
namespace Go.Proofs.YtkkihpokegenbaaGreatDoor
open Go.ChangeShapes Go.WideShapes Go.ChangeAt Go.RowKit Go.AW
set_option maxRecDepth 100000 in
theorem fnServerIdle_door(os:Os)(args:Array Value):laidMetH Tryz.prog Rows.fnServerIdleRow.laid ((World.laidAll Tryz.prog os Rows.fnServerIdleRow.laid).forCall (fun _ _=>0) ⟨#[],args,[]⟩).memory:=by
 rw[MakeChecks.laidMetH_plain _ _ _ (by kernel_rfl)]
 exact laidMet_laidAll _ (by kernel_rfl) (by kernel_rfl)
set_option maxRecDepth 100000 in
theorem fnServerIdle_lifted(os:Os)(started:os.Started)(H:Type)(enc:TypeId×Value→H) :
 ReturnsInHanded {} Tryz.checked os 3 .any (fun w args=>(Rows.fnServerIdleSpec.pre enc Tryz.prog Tryz.f3 [] false w args∧laidMetH Tryz.prog Rows.fnServerIdleRow.laid w)∧sizedMet enc Tryz.prog Tryz.f3 (OpenSpec.ofChange Rows.fnServerIdleSpec) false w args) (Rows.fnServerIdleSpec.post enc Tryz.prog Tryz.f3 false true false false):=by
 refine returnsInHanded_of_change_and (C:=Tryz.checked) (X:=fun w _=>laidMetH Tryz.prog Rows.fnServerIdleRow.laid w) (fun _ _ _ hh h=>h.of_heap hh) aL6 started (by kernel_rfl) Tryz.func3
  (ChangeSpec.witness_shaped (enc:=enc) (C:=Tryz.checked) (os:=os) (X:=fun w _=>laidMetH Tryz.prog Rows.fnServerIdleRow.laid w) false (World.laidAll Tryz.prog os Rows.fnServerIdleRow.laid) #[.slice none 0 0,.slice none 0 0] 8 (World.laidAll_os _ _ _) (World.shaped_of_ZipB (by kernel_rfl) (by kernel_rfl)) (by kernel_rfl) (by kernel_rfl) (by kernel_rfl) (fnServerIdle_door os _)) ?_
 intro W base args ds gs before aXX hW a4T _ _ _
 have vK:∀(j:Nat) t v,Tryz.f3.params[j]?=some t→args[j]?=some v→Value.okWide Tryz.prog W .any base t v:=aXX
 have hW':DataW.Whole enc Tryz.prog Tryz.f3.params.toList [] false W args.toList ds gs before:=hW
 obtain⟨p,q,hA0,hV,rfl,hfz,hnd⟩:=hW
 have hA:DataW.TrodAll enc Tryz.prog W 0 (fun _=>true) true Tryz.f3.params.toList args.toList ds p:=hA0
 rw[Tryz.params3] at hA vK
 obtain⟨v0,v1,d0,d1,p0,p1,rfl,rfl,rfl,h0,h1⟩:=trodAll_two hA
 obtain⟨rfl,rfl⟩:=trodVars_none hV
 have g0:=aLQ Tryz.underlying22 (vK 0 22 v0 rfl rfl)
 have g1:=aLQ Tryz.underlying22 (vK 1 22 v1 rfl rfl)
 obtain⟨a,ha⟩:=aIK aIJ (fun a=>by rw[g0];try rfl) h0
 obtain⟨b,hb⟩:=aIK aIJ (fun a=>by rw[g1];try rfl) h1
 exact aYJ (tb:=4) aL5 (by kernel_rfl) rfl Tryz.underlying4 rfl hW' rfl (by show cO _ _ _ [v0,v1];simp only[cO];exact⟨v0,[v1],rfl,ha,v1,[],rfl,hb,rfl⟩) (aOW a b sA)
theorem fnServerIdle_j1:(Rows.fnServerIdleRow.inPlace == Tryz.prog.inPlace 3)=true:=by kernel_rfl
theorem fnServerIdle_j2:(Rows.fnServerIdleRow.unfollowed == Tryz.prog.unfollowed 3)=true:=by kernel_rfl
theorem fnServerIdle_j3:(Rows.fnServerIdleRow.recurses == Tryz.prog.recurses 3)=true:=by kernel_rfl
theorem fnServerIdle_j4:(Rows.fnServerIdleRow.named == Tryz.prog.varsNamed 3)=true:=by kernel_rfl
theorem fnServerIdle_j7:(Rows.fnServerIdleRow.lifted == Tryz.prog.liftsFinal)=true:=aSG
theorem fnServerIdle_j8:(Tryz.prog.make == some Rows.fnServerIdleRow.make)=true:=aSJ
theorem fnServerIdle_j9:joinedFacts Tryz.prog 3 Tryz.f3 Rows.fnServerIdleSpec Rows.fnServerIdleRow=true:=by
 unfold joinedFacts
 rw[fnServerIdle_j1,fnServerIdle_j2,fnServerIdle_j3,fnServerIdle_j4,aSF,aSE,fnServerIdle_j7,fnServerIdle_j8]
 kernel_rfl
theorem fnServerIdle_holds:Rows.FnServerIdleSaid:=
 OpenClaim.holds_of_wide 3 Tryz.f3 rfl rfl rfl rfl rfl rfl rfl ⟨rfl,rfl,rfl,rfl,rfl⟩ rfl rfl rfl rfl rfl (by kernel_rfl) Tryz.func3 fnServerIdle_j9
  (of_decide_eq_true (by kernel_rfl)) (by unfold Func.isWrapper;first | (rw[aN (by decide +kernel)];kernel_rfl) | (rw[aK (by decide +kernel)];exact⟨rfl,rfl⟩))
  (fun os started H enc _=>fnServerIdle_lifted os started H enc)
theorem fnServerIdle_i3:false=Rows.fnServerIdleRow.goesBy Tryz.prog:=by kernel_rfl
theorem fnServerIdle_i4:Tryz.prog.funcNamed "loop.example/prologserver/laws.FnServerIdle" = some 3:=by kernel_rfl
theorem fnServerIdle_card_holds:Rows.FnServerIdleCardSaid:=
 Claim7.holds_tied_plain_at .later [] [.data,.data,.data,.data,.sentinel,.sentinel,.pinned] true (true, "4ad571dafbe78088b2e532e3ee7d23d23306b8c0b38d0f8507fefad3b79c782c") true
  fnServerIdle_holds (fun _ h=>by cases h) (by kernel_rfl) (fun _ h=>by cases h) fnServerIdle_row_tie rfl ⟨rfl,rfl⟩ aSI rfl
  (fun f fn hf hfn=>by
   obtain rfl:f=3:=mL (fnServerIdle_i4.symm.trans hf) |>.symm
   obtain rfl:fn=Tryz.f3:=(mL (Tryz.func3.symm.trans hfn)).symm
   exact⟨aSH,fun j t ht=>by
    rw[Tryz.params3] at ht
    have hm:t∈[22,22]:=by simpa using z9 ht
    have c9:([22,22].all fun u=> !Tryz.prog.wantsStandIn u)=true:=by kernel_rfl
    exact(show Tryz.prog.wantsStandIn t=false by simpa using c6.1 c9 t hm)⟩)
  fnServerIdle_i3
end Go.Proofs.YtkkihpokegenbaaGreatDoor
