import Derived.Test.YtkkihpokegenbaaGreatDoorVaq
import Derived.Test.YtkkihpokegenbaaGreatDoorVai
import Derived.Test.YtkkihpokegenbaaGreatDoorVah
import Derived.Test.YtkkihpokegenbaaGreatDoorVar
set_option linter.unusedSimpArgs false
set_option linter.unusedVariables false
set_option maxRecDepth 100000
namespace Go.AW
open Go.Proofs.Tryz
section
variable {H:Type} {enc:TypeId×Value→H} {w:World}
theorem aR9:prog.cellsOf 5=1:=by kernel_rfl
theorem a0Q(n:Nat):Reads enc prog w 5 n bJ:=by
 intro cs x h
 obtain⟨k,rfl,_,hw⟩:=DataW.trod_int Q7 h
 simp only[Lit.wf,IntKind.min,IntKind.max,IntKind.signed,IntKind.bits,bD,bA] at hw
 refine⟨⟨k.toNat,?_⟩,?_⟩
 · simp at hw;omega
 · have:(((k.toNat:Nat)):Int)=k:=by simp at hw;omega
   simp only[bJ,this,VC]
theorem aIJ(n:Nat):Reads enc prog w 22 n (fun l:List Bt=>.slice (l.map bJ)):=
 a0R Q6 aR9 (by omega) HX fun m _=>a0Q m
end
section
variable {H:Type} {enc:TypeId×Value→H} {w:World}
theorem aLQ{r:Reach}{b0:Nat}{t e:TypeId}{v:Value}(ht:prog.underlying t=some (.slice e))(h:Value.okWide prog w r b0 t v):jY v=false:=by
 cases v<;>first | rfl | (simp [Value.okWide,ht,Cell.okWide,Cell.ok] at h)
end
end Go.AW
