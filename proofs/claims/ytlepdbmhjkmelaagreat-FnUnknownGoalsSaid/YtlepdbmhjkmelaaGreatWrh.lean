/- Closed facts on the types of the program. -/
import Derived.Test.YtlepdbmhjkmelaaGreatProg
import Derived.Test.YtlepdbmhjkmelaaGreatWrg
import Derived.KernelRfl
set_option linter.unusedSimpArgs false
set_option linter.unusedVariables false
set_option maxRecDepth 100000
namespace Go.AW
open Go.Proofs.Tryz
theorem tI_2:tI prog 2=some (false,1):=by kernel_rfl
theorem zI_2:zI prog 2=some [.int .i64 0]:=by kernel_rfl
theorem tI_3:tI prog 3=some (false,1):=by kernel_rfl
theorem zI_3:zI prog 3=some [.int .i64 0]:=by kernel_rfl
theorem tI_4:tI prog 4=some (false,1):=by kernel_rfl
theorem zI_4:zI prog 4=some [.bool false]:=by kernel_rfl
theorem tI_5:tI prog 5=some (false,1):=by kernel_rfl
theorem zI_5:zI prog 5=some [.int .u8 0]:=by kernel_rfl
theorem tI_6:tI prog 6=some (false,1):=by kernel_rfl
theorem zI_6:zI prog 6=some [.int .u8 0]:=by kernel_rfl
theorem tI_8:tI prog 8=some (true,4):=by kernel_rfl
theorem zI_8:zI prog 8=some [.int .i64 0,.int .i64 0,.bool false,.int .u8 0]:=by kernel_rfl
theorem WJ:fI prog 8 0=some (0,false,1):=by kernel_rfl
theorem WK:fI prog 8 1=some (1,false,1):=by kernel_rfl
theorem WL:fI prog 8 2=some (2,false,1):=by kernel_rfl
theorem WM:fI prog 8 3=some (3,false,1):=by kernel_rfl
theorem R6:bI prog 8=some [(0,1),(1,1),(2,1),(3,1)]:=by kernel_rfl
theorem tI_9:tI prog 9=some (false,1):=by kernel_rfl
theorem zI_9:zI prog 9=some [.str ⟨#[]⟩]:=by kernel_rfl
theorem tI_10:tI prog 10=some (false,1):=by kernel_rfl
theorem zI_10:zI prog 10=some [.str ⟨#[]⟩]:=by kernel_rfl
theorem tI_22:tI prog 22=some (false,1):=by kernel_rfl
theorem zI_22:zI prog 22=some [.fslice []]:=by kernel_rfl
theorem r5:eI prog 22=some (false,1):=by kernel_rfl
theorem UY:eB prog 22=some 1:=by kernel_rfl
theorem U1:eZ prog 22=some [.int .u8 0]:=by kernel_rfl
theorem tI_23:tI prog 23=some (false,1):=by kernel_rfl
theorem zI_23:zI prog 23=some [.fslice []]:=by kernel_rfl
theorem i9:eI prog 23=some (true,5):=by kernel_rfl
theorem rZ:eB prog 23=some 80:=by kernel_rfl
theorem r6:eZ prog 23=some [.int .i64 0,.int .i64 0,.str ⟨#[]⟩,.fslice [],.fslice []]:=by kernel_rfl
theorem tI_25:tI prog 25=some (false,1):=by kernel_rfl
theorem zI_25:zI prog 25=some [.fslice []]:=by kernel_rfl
theorem cH:eI prog 25=some (true,4):=by kernel_rfl
theorem fT:eB prog 25=some 56:=by kernel_rfl
theorem fU:eZ prog 25=some [.int .i64 0,.int .i64 0,.str ⟨#[]⟩,.fslice []]:=by kernel_rfl
theorem tI_28:tI prog 28=some (false,1):=by kernel_rfl
theorem zI_28:zI prog 28=some [.fslice []]:=by kernel_rfl
theorem uJ:eI prog 28=some (false,1):=by kernel_rfl
theorem yB:eB prog 28=some 8:=by kernel_rfl
theorem yC:eZ prog 28=some [.int .i64 0]:=by kernel_rfl
theorem tI_30:tI prog 30=some (true,4):=by kernel_rfl
theorem zI_30:zI prog 30=some [.int .i64 0,.int .i64 0,.str ⟨#[]⟩,.fslice []]:=by kernel_rfl
theorem V3:fI prog 30 0=some (0,false,1):=by kernel_rfl
theorem V4:fI prog 30 1=some (1,false,1):=by kernel_rfl
theorem V5:fI prog 30 2=some (2,false,1):=by kernel_rfl
theorem V6:fI prog 30 3=some (3,false,1):=by kernel_rfl
theorem RV:bI prog 30=some [(0,1),(1,1),(2,1),(3,1)]:=by kernel_rfl
theorem tI_31:tI prog 31=some (true,4):=by kernel_rfl
theorem zI_31:zI prog 31=some [.int .i64 0,.int .i64 0,.str ⟨#[]⟩,.fslice []]:=by kernel_rfl
theorem V7:fI prog 31 0=some (0,false,1):=by kernel_rfl
theorem V8:fI prog 31 1=some (1,false,1):=by kernel_rfl
theorem V9:fI prog 31 2=some (2,false,1):=by kernel_rfl
theorem WA:fI prog 31 3=some (3,false,1):=by kernel_rfl
theorem RW:bI prog 31=some [(0,1),(1,1),(2,1),(3,1)]:=by kernel_rfl
theorem tI_44:tI prog 44=some (true,2):=by kernel_rfl
theorem zI_44:zI prog 44=some [.int .i64 0,.str ⟨#[]⟩]:=by kernel_rfl
theorem WB:fI prog 44 0=some (0,false,1):=by kernel_rfl
theorem WC:fI prog 44 1=some (1,false,1):=by kernel_rfl
theorem RX:bI prog 44=some [(0,1),(1,1)]:=by kernel_rfl
theorem tI_50:tI prog 50=some (true,5):=by kernel_rfl
theorem zI_50:zI prog 50=some [.int .i64 0,.int .i64 0,.str ⟨#[]⟩,.fslice [],.fslice []]:=by kernel_rfl
theorem WD:fI prog 50 0=some (0,true,4):=by kernel_rfl
theorem WE:fI prog 50 1=some (4,false,1):=by kernel_rfl
theorem RY:bI prog 50=some [(0,4),(4,1)]:=by kernel_rfl
theorem tI_51:tI prog 51=some (true,5):=by kernel_rfl
theorem zI_51:zI prog 51=some [.int .i64 0,.int .i64 0,.str ⟨#[]⟩,.fslice [],.fslice []]:=by kernel_rfl
theorem WF:fI prog 51 0=some (0,true,4):=by kernel_rfl
theorem WG:fI prog 51 1=some (4,false,1):=by kernel_rfl
theorem RZ:bI prog 51=some [(0,4),(4,1)]:=by kernel_rfl
theorem tI_61:tI prog 61=some (false,1):=by kernel_rfl
theorem zI_61:zI prog 61=some [.nilptr]:=by kernel_rfl
theorem tI_65:tI prog 65=some (false,1):=by kernel_rfl
theorem zI_65:zI prog 65=some [.fslice []]:=by kernel_rfl
theorem lC:eI prog 65=some (false,1):=by kernel_rfl
theorem CU:eB prog 65=some 16:=by kernel_rfl
theorem CV:eZ prog 65=some [.str ⟨#[]⟩]:=by kernel_rfl
theorem tI_72:tI prog 72=some (true,2):=by kernel_rfl
theorem zI_72:zI prog 72=some [.str ⟨#[]⟩,.int .i64 0]:=by kernel_rfl
theorem WH:fI prog 72 0=some (0,false,1):=by kernel_rfl
theorem WI:fI prog 72 1=some (1,false,1):=by kernel_rfl
theorem R5:bI prog 72=some [(0,1),(1,1)]:=by kernel_rfl
theorem tI_93:tI prog 93=some (true,4):=by kernel_rfl
theorem zI_93:zI prog 93=some [.int .i64 0,.int .i64 0,.int .i64 0,.str ⟨#[]⟩]:=by kernel_rfl
theorem WN:fI prog 93 0=some (0,false,1):=by kernel_rfl
theorem WO:fI prog 93 1=some (1,false,1):=by kernel_rfl
theorem WP:fI prog 93 2=some (2,false,1):=by kernel_rfl
theorem WQ:fI prog 93 3=some (3,false,1):=by kernel_rfl
theorem R7:bI prog 93=some [(0,1),(1,1),(2,1),(3,1)]:=by kernel_rfl
theorem tI_114:tI prog 114=some (true,4):=by kernel_rfl
theorem zI_114:zI prog 114=some [.nilptr,.nilmap,.nilmap,.int .i64 0]:=by kernel_rfl
theorem VS:fI prog 114 0=some (0,false,1):=by kernel_rfl
theorem VT:fI prog 114 1=some (1,false,1):=by kernel_rfl
theorem VU:fI prog 114 2=some (2,false,1):=by kernel_rfl
theorem VV:fI prog 114 3=some (3,false,1):=by kernel_rfl
theorem RS:bI prog 114=some [(0,1),(1,1),(2,1),(3,1)]:=by kernel_rfl
theorem tI_127:tI prog 127=some (true,2):=by kernel_rfl
theorem zI_127:zI prog 127=some [.fslice [],.int .i64 0]:=by kernel_rfl
theorem VW:fI prog 127 0=some (0,false,1):=by kernel_rfl
theorem VX:fI prog 127 1=some (1,false,1):=by kernel_rfl
theorem RT:bI prog 127=some [(0,1),(1,1)]:=by kernel_rfl
theorem tI_138:tI prog 138=some (false,1):=by kernel_rfl
theorem zI_138:zI prog 138=some [.nilptr]:=by kernel_rfl
theorem tI_272:tI prog 272=some (false,1):=by kernel_rfl
theorem zI_272:zI prog 272=some [.fslice []]:=by kernel_rfl
theorem U0:eI prog 272=some (true,5):=by kernel_rfl
theorem UZ:eB prog 272=some 64:=by kernel_rfl
theorem U2:eZ prog 272=some [.int .i64 0,.int .i64 0,.str ⟨#[]⟩,.fslice [],.int .i64 0]:=by kernel_rfl
theorem tI_285:tI prog 285=some (true,5):=by kernel_rfl
theorem zI_285:zI prog 285=some [.int .i64 0,.int .i64 0,.str ⟨#[]⟩,.fslice [],.int .i64 0]:=by kernel_rfl
theorem VY:fI prog 285 0=some (0,true,4):=by kernel_rfl
theorem VZ:fI prog 285 1=some (4,false,1):=by kernel_rfl
theorem RU:bI prog 285=some [(0,4),(4,1)]:=by kernel_rfl
abbrev aAC:=zi tI_2 (zi zI_2 Go.Proofs.Tryz.underlying2)
abbrev a7:=zi tI_3 (zi zI_3 Go.Proofs.Tryz.underlying3)
abbrev cC:=zi tI_4 (zi zI_4 Go.Proofs.Tryz.underlying4)
abbrev gE:=zi tI_5 (zi zI_5 Go.Proofs.Tryz.underlying5)
abbrev aAG:=zi tI_6 (zi zI_6 Go.Proofs.Tryz.underlying6)
abbrev nU:=zi tI_8 (zi zI_8 (zi WJ (zi WK (zi WL (zi WM R6)))))
abbrev bW:=zi tI_9 (zi zI_9 Go.Proofs.Tryz.underlying9)
abbrev aAA:=zi tI_10 (zi zI_10 Go.Proofs.Tryz.underlying10)
abbrev q8:=zi tI_22 (zi zI_22 (zi r5 (zi UY (zi U1 Go.Proofs.Tryz.underlying22))))
abbrev jI:=zi tI_23 (zi zI_23 (zi i9 (zi rZ (zi r6 Go.Proofs.Tryz.underlying23))))
abbrev b8:=zi tI_25 (zi zI_25 (zi cH (zi fT (zi fU Go.Proofs.Tryz.underlying25))))
abbrev lK:=zi tI_28 (zi zI_28 (zi uJ (zi yB (zi yC Go.Proofs.Tryz.underlying28))))
abbrev vW:=zi tI_30 (zi zI_30 (zi V3 (zi V4 (zi V5 (zi V6 RV)))))
abbrev bN:=zi tI_31 (zi zI_31 (zi V7 (zi V8 (zi V9 (zi WA RW)))))
abbrev P4:=zi tI_44 (zi zI_44 (zi WB (zi WC RX)))
abbrev aAF:=zi tI_50 (zi zI_50 (zi WD (zi WE RY)))
abbrev gQ:=zi tI_51 (zi zI_51 (zi WF (zi WG RZ)))
abbrev kP:=zi tI_61 zI_61
abbrev iT:=zi tI_65 (zi zI_65 (zi lC (zi CU (zi CV Go.Proofs.Tryz.underlying65))))
abbrev vX:=zi tI_72 (zi zI_72 (zi WH (zi WI R5)))
abbrev P5:=zi tI_93 (zi zI_93 (zi WN (zi WO (zi WP (zi WQ R7)))))
abbrev aAB:=zi tI_114 (zi zI_114 (zi VS (zi VT (zi VU (zi VV RS)))))
abbrev P3:=zi tI_127 (zi zI_127 (zi VW (zi VX RT)))
abbrev AG:=zi tI_138 zI_138
abbrev aAD:=zi tI_272 (zi zI_272 (zi U0 (zi UZ (zi U2 Go.Proofs.Tryz.underlying272))))
abbrev aAE:=zi tI_285 (zi zI_285 (zi VY (zi VZ RU)))
theorem mixed:prog.follows .mixedOrders=true:=by kernel_rfl
theorem wF{P:Program}{g:FuncId}{fn:Func}{c:Code}{args:List AV}{st:aA}{N:Nat}{rs:List ResultVar}{K:AV→aA→Prop}(mt:List Nat)(k:Nat)(hf:P.funcs[g]?=some fn)(hN:fn.ntmps=N)(hr:fn.results=rs.toArray)(hb:fn.body=some c)(e:cS args→cX P N mt c (sX P rs.toArray K) (k0 0 args) st)(hn:(fn.name == "runtime.NumGoroutine")=false:=by kernel_rfl) (hok:codeOk N c=true:=by decide +kernel) (ha:args.length=k:=by rfl) (hk:k≤N:=by decide +kernel):aD P g args st K:=
 zw6 mt hf hN hr hb hn hok (by rw[ha];exact hk) e
theorem wP{P:Program}{N:Nat}{id:Nat}{l:List Oper}{Q:Exit→AF→aA→Prop}{φ:AF}{st:aA}(p:List (Nat×Nat))(S:List Nat)(hm:P.follows .mixedOrders=true)(h:eG P l.toArray (Q .normal) p φ st)(hok:mL N l.toArray=true:=by decide +kernel)(hl:p.length=l.length:=by decide +kernel)(hB:kL l.toArray S p (Array.replicate l.length false)=true:=by decide +kernel):dL P N (.region id l.toArray true) Q φ st:=
 zx5 p S hm hok hl hB h
theorem wX{P:Program}{N:Nat}{id:Nat}{l:List Oper}{Q:Exit→AF→aA→Prop}{φ:AF}{st:aA}(p:List (Nat×Nat))(S:List Nat)(s0:aA)(hm:P.follows .mixedOrders=true)(hf:qO p=true)(hs:dI s0 st)(h:d8 P l.toArray s0 (Q .normal) p φ st)(hok:mL N l.toArray=true:=by decide +kernel)(hl:p.length=l.length:=by decide +kernel)(hB:kM l.toArray S p (Array.replicate l.length false)=true:=by decide +kernel):dL P N (.region id l.toArray true) Q φ st:=
 q9 p S s0 hm hok hl hB hf hs h
theorem eS{sz:Nat}{x:AV}(h1:x.width=sz)(h2:x.cells.all AV.storable=true):pV sz [x]:=by intro e he;simp only[iG,pE,or_false] at he;subst he;exact⟨h1,h2⟩
theorem bB{n:Int}(h1: -9223372036854775808≤n:=by omega)(h2:n≤9223372036854775807:=by omega):IntKind.wrap .i64 n=n:=wrap64 h1 h2
theorem uU5:type_of% @Go.Proofs.Tryz.underlying5:=@Go.Proofs.Tryz.underlying5
theorem jX:type_of% @Go.Proofs.Tryz.underlying9:=@Go.Proofs.Tryz.underlying9
theorem aAN:type_of% @Go.Proofs.Tryz.underlying22:=@Go.Proofs.Tryz.underlying22
theorem AN:type_of% @Go.Proofs.Tryz.underlying25:=@Go.Proofs.Tryz.underlying25
end Go.AW
