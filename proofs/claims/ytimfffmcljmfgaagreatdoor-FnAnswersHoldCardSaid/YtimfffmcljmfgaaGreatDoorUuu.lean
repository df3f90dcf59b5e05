import Derived.Test.YtimfffmcljmfgaaGreatDoorUus
import Derived.Test.YtimfffmcljmfgaaGreatDoorUuk
import Derived.Test.YtimfffmcljmfgaaGreatDoorUuh
import Derived.Test.YtimfffmcljmfgaaGreatDoorUut
set_option linter.unusedSimpArgs false
set_option linter.unusedVariables false
set_option maxRecDepth 100000
namespace Go.AW
open Go.Proofs.Tryz
section
variable {H:Type} {enc:TypeId×Value→H} {w:World}
theorem aUI:prog.cellsOf 5=1:=by kernel_rfl
theorem a1U(n:Nat):Reads enc prog w 5 n iQ:=by
 intro cs x h
 obtain⟨k,rfl,_,hw⟩:=DataW.trod_int lM h
 simp only[Lit.wf,IntKind.min,IntKind.max,IntKind.signed,IntKind.bits,cA,bJ] at hw
 refine⟨⟨k.toNat,?_⟩,?_⟩
 · simp at hw;omega
 · have:(((k.toNat:Nat)):Int)=k:=by simp at hw;omega
   simp only[iQ,this,VC]
theorem aL0(n:Nat):Reads enc prog w 40 n (fun l:List Bt=>.slice (l.map iQ)):=
 a1V yN aUI (by omega) JP fun m _=>a1U m
end
section
variable {H:Type} {enc:TypeId×Value→H} {w:World}
theorem aOZ{r:Reach}{b0:Nat}{t e:TypeId}{v:Value}(ht:prog.underlying t=some (.slice e))(h:Value.okWide prog w r b0 t v):mB v=false:=by
 cases v<;>first | rfl | (simp [Value.okWide,ht,Cell.okWide,Cell.ok] at h)
end
end Go.AW
