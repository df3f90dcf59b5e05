import Derived.Test.YtimfffmcljmfgaaGreatDoorUxt
import Derived.Test.YtimfffmcljmfgaaGreatDoorUxi
import Derived.Test.YtimfffmcljmfgaaGreatDoorUxh
import Derived.Test.YtimfffmcljmfgaaGreatDoorUxr
import Derived.Test.YtimfffmcljmfgaaGreatDoorUxs
import Derived.Test.YtimfffmcljmfgaaGreatDoorUxu
set_option linter.unusedSimpArgs false
set_option linter.unusedVariables false
set_option maxRecDepth 100000
namespace Go.AW
open Go.Proofs.Tryz
section
variable {H:Type} {enc:TypeId×Value→H} {w:World}
theorem a0Q:prog.cellsOf 5=1:=by kernel_rfl
theorem a8H(n:Nat):Reads enc prog w 5 n iZ:=by
 intro cs x h
 obtain⟨k,rfl,_,hw⟩:=DataW.trod_int m6 h
 simp only[Lit.wf,IntKind.min,IntKind.max,IntKind.signed,IntKind.bits,cF,bK] at hw
 refine⟨⟨k.toNat,?_⟩,?_⟩
 · simp at hw;omega
 · have:(((k.toNat:Nat)):Int)=k:=by simp at hw;omega
   simp only[iZ,this,VC]
theorem WR(n:Nat):Reads enc prog w 40 n (fun l:List Bt=>.slice (l.map iZ)):=
 a8I zH a0Q (by omega) MK fun m _=>a8H m
end
section
variable {H:Type} {enc:TypeId×Value→H} {w:World}
theorem YM{r:Reach}{b0:Nat}{t e:TypeId}{v:Value}(ht:prog.underlying t=some (.slice e))(h:Value.okWide prog w r b0 t v):kI v=false:=by
 cases v<;>first | rfl | (simp [Value.okWide,ht,Cell.okWide,Cell.ok] at h)
end
end Go.AW
