/- Closed facts on the types of the program. -/
import Derived.Test.YtieofkhcboolkaaGreatDoorProg
import Derived.Test.YtieofkhcboolkaaGreatDoorKqg
import Derived.KernelRfl
set_option linter.unusedSimpArgs false
set_option linter.unusedVariables false
set_option maxRecDepth 100000
namespace Go.AW
open Go.Proofs.Tryz
theorem tI_2:tI prog 2=some (false,1):=by kernel_rfl
theorem zI_2:zI prog 2=some [.int .i64 0]:=by kernel_rfl
theorem tI_3:tI prog 3=some (false,1):=by kernel_rfl
theorem zI_3:zI prog 3=some [.int .i64 0]:=by kernel_rfl
theorem tI_4:tI prog 4=some (false,1):=by kernel_rfl
theorem zI_4:zI prog 4=some [.bool false]:=by kernel_rfl
theorem tI_5:tI prog 5=some (false,1):=by kernel_rfl
theorem zI_5:zI prog 5=some [.int .u8 0]:=by kernel_rfl
theorem tI_6:tI prog 6=some (false,1):=by kernel_rfl
theorem zI_6:zI prog 6=some [.int .u8 0]:=by kernel_rfl
theorem tI_8:tI prog 8=some (true,4):=by kernel_rfl
theorem zI_8:zI prog 8=some [.int .i64 0,.int .i64 0,.bool false,.int .u8 0]:=by kernel_rfl
theorem aA1:fI prog 8 0=some (0,false,1):=by kernel_rfl
theorem aA2:fI prog 8 1=some (1,false,1):=by kernel_rfl
theorem aA3:fI prog 8 2=some (2,false,1):=by kernel_rfl
theorem aA4:fI prog 8 3=some (3,false,1):=by kernel_rfl
theorem V7:bI prog 8=some [(0,1),(1,1),(2,1),(3,1)]:=by kernel_rfl
theorem tI_9:tI prog 9=some (false,1):=by kernel_rfl
theorem zI_9:zI prog 9=some [.str ⟨#[]⟩]:=by kernel_rfl
theorem tI_10:tI prog 10=some (false,1):=by kernel_rfl
theorem zI_10:zI prog 10=some [.str ⟨#[]⟩]:=by kernel_rfl
theorem tI_22:tI prog 22=some (false,1):=by kernel_rfl
theorem zI_22:zI prog 22=some [.fslice []]:=by kernel_rfl
theorem uL:eI prog 22=some (false,1):=by kernel_rfl
theorem ZO:eB prog 22=some 1:=by kernel_rfl
theorem ZR:eZ prog 22=some [.int .u8 0]:=by kernel_rfl
theorem tI_26:tI prog 26=some (false,1):=by kernel_rfl
theorem zI_26:zI prog 26=some [.fslice []]:=by kernel_rfl
theorem jD:eI prog 26=some (false,1):=by kernel_rfl
theorem xL:eB prog 26=some 8:=by kernel_rfl
theorem uM:eZ prog 26=some [.int .i64 0]:=by kernel_rfl
theorem tI_33:tI prog 33=some (false,1):=by kernel_rfl
theorem zI_33:zI prog 33=some [.fslice []]:=by kernel_rfl
theorem j4:eI prog 33=some (true,5):=by kernel_rfl
theorem xM:eB prog 33=some 80:=by kernel_rfl
theorem xO:eZ prog 33=some [.int .i64 0,.int .i64 0,.str ⟨#[]⟩,.fslice [],.fslice []]:=by kernel_rfl
theorem tI_34:tI prog 34=some (false,1):=by kernel_rfl
theorem zI_34:zI prog 34=some [.fslice []]:=by kernel_rfl
theorem cS:eI prog 34=some (true,4):=by kernel_rfl
theorem gG:eB prog 34=some 56:=by kernel_rfl
theorem gH:eZ prog 34=some [.int .i64 0,.int .i64 0,.str ⟨#[]⟩,.fslice []]:=by kernel_rfl
theorem tI_46:tI prog 46=some (true,4):=by kernel_rfl
theorem zI_46:zI prog 46=some [.int .i64 0,.int .i64 0,.str ⟨#[]⟩,.fslice []]:=by kernel_rfl
theorem aAT:fI prog 46 0=some (0,false,1):=by kernel_rfl
theorem aAU:fI prog 46 1=some (1,false,1):=by kernel_rfl
theorem aAV:fI prog 46 2=some (2,false,1):=by kernel_rfl
theorem aAW:fI prog 46 3=some (3,false,1):=by kernel_rfl
theorem V5:bI prog 46=some [(0,1),(1,1),(2,1),(3,1)]:=by kernel_rfl
theorem tI_47:tI prog 47=some (true,4):=by kernel_rfl
theorem zI_47:zI prog 47=some [.int .i64 0,.int .i64 0,.str ⟨#[]⟩,.fslice []]:=by kernel_rfl
theorem aAX:fI prog 47 0=some (0,false,1):=by kernel_rfl
theorem aAY:fI prog 47 1=some (1,false,1):=by kernel_rfl
theorem aAZ:fI prog 47 2=some (2,false,1):=by kernel_rfl
theorem aA0:fI prog 47 3=some (3,false,1):=by kernel_rfl
theorem V6:bI prog 47=some [(0,1),(1,1),(2,1),(3,1)]:=by kernel_rfl
theorem tI_57:tI prog 57=some (false,1):=by kernel_rfl
theorem zI_57:zI prog 57=some [.fslice []]:=by kernel_rfl
theorem xN:eI prog 57=some (true,5):=by kernel_rfl
theorem F6:eB prog 57=some 64:=by kernel_rfl
theorem F8:eZ prog 57=some [.int .i64 0,.int .i64 0,.int .i64 0,.str ⟨#[]⟩,.fslice []]:=by kernel_rfl
theorem tI_79:tI prog 79=some (false,1):=by kernel_rfl
theorem zI_79:zI prog 79=some [.nilptr]:=by kernel_rfl
theorem tI_91:tI prog 91=some (true,4):=by kernel_rfl
theorem zI_91:zI prog 91=some [.fslice [],.fslice [],.fslice [],.fslice []]:=by kernel_rfl
theorem aA5:fI prog 91 0=some (0,false,1):=by kernel_rfl
theorem aA6:fI prog 91 1=some (1,false,1):=by kernel_rfl
theorem aA7:fI prog 91 2=some (2,false,1):=by kernel_rfl
theorem aA8:fI prog 91 3=some (3,false,1):=by kernel_rfl
theorem V8:bI prog 91=some [(0,1),(1,1),(2,1),(3,1)]:=by kernel_rfl
theorem tI_104:tI prog 104=some (true,5):=by kernel_rfl
theorem zI_104:zI prog 104=some [.int .i64 0,.int .i64 0,.int .i64 0,.str ⟨#[]⟩,.fslice []]:=by kernel_rfl
theorem aAD:fI prog 104 0=some (0,false,1):=by kernel_rfl
theorem aAE:fI prog 104 1=some (1,true,4):=by kernel_rfl
theorem VY:bI prog 104=some [(0,1),(1,4)]:=by kernel_rfl
theorem tI_124:tI prog 124=some (true,2):=by kernel_rfl
theorem zI_124:zI prog 124=some [.fslice [],.bool false]:=by kernel_rfl
theorem aAF:fI prog 124 0=some (0,false,1):=by kernel_rfl
theorem aAG:fI prog 124 1=some (1,false,1):=by kernel_rfl
theorem VZ:bI prog 124=some [(0,1),(1,1)]:=by kernel_rfl
theorem tI_138:tI prog 138=some (true,2):=by kernel_rfl
theorem zI_138:zI prog 138=some [.fslice [],.int .i64 0]:=by kernel_rfl
theorem aAH:fI prog 138 0=some (0,false,1):=by kernel_rfl
theorem aAI:fI prog 138 1=some (1,false,1):=by kernel_rfl
theorem V0:bI prog 138=some [(0,1),(1,1)]:=by kernel_rfl
theorem tI_148:tI prog 148=some (false,1):=by kernel_rfl
theorem zI_148:zI prog 148=some [.fslice []]:=by kernel_rfl
theorem nN:eI prog 148=some (false,1):=by kernel_rfl
theorem F5:eB prog 148=some 16:=by kernel_rfl
theorem F7:eZ prog 148=some [.str ⟨#[]⟩]:=by kernel_rfl
theorem tI_158:tI prog 158=some (false,1):=by kernel_rfl
theorem zI_158:zI prog 158=some [.fslice []]:=by kernel_rfl
theorem ZP:eI prog 158=some (true,5):=by kernel_rfl
theorem ZN:eB prog 158=some 64:=by kernel_rfl
theorem ZQ:eZ prog 158=some [.int .i64 0,.int .i64 0,.str ⟨#[]⟩,.fslice [],.int .i64 0]:=by kernel_rfl
theorem tI_175:tI prog 175=some (false,1):=by kernel_rfl
theorem zI_175:zI prog 175=some [.nilptr]:=by kernel_rfl
theorem tI_177:tI prog 177=some (true,5):=by kernel_rfl
theorem zI_177:zI prog 177=some [.int .i64 0,.int .i64 0,.str ⟨#[]⟩,.fslice [],.fslice []]:=by kernel_rfl
theorem aAJ:fI prog 177 0=some (0,true,4):=by kernel_rfl
theorem aAK:fI prog 177 1=some (4,false,1):=by kernel_rfl
theorem V1:bI prog 177=some [(0,4),(4,1)]:=by kernel_rfl
theorem tI_191:tI prog 191=some (true,2):=by kernel_rfl
theorem zI_191:zI prog 191=some [.str ⟨#[]⟩,.int .i64 0]:=by kernel_rfl
theorem aAL:fI prog 191 0=some (0,false,1):=by kernel_rfl
theorem aAM:fI prog 191 1=some (1,false,1):=by kernel_rfl
theorem V2:bI prog 191=some [(0,1),(1,1)]:=by kernel_rfl
theorem tI_251:tI prog 251=some (true,5):=by kernel_rfl
theorem zI_251:zI prog 251=some [.int .i64 0,.int .i64 0,.str ⟨#[]⟩,.fslice [],.int .i64 0]:=by kernel_rfl
theorem aAN:fI prog 251 0=some (0,true,4):=by kernel_rfl
theorem aAO:fI prog 251 1=some (4,false,1):=by kernel_rfl
theorem V3:bI prog 251=some [(0,4),(4,1)]:=by kernel_rfl
theorem tI_262:tI prog 262=some (false,1):=by kernel_rfl
theorem zI_262:zI prog 262=some [.nilptr]:=by kernel_rfl
theorem tI_311:tI prog 311=some (true,7):=by kernel_rfl
theorem zI_311:zI prog 311=some [.int .i64 0,.int .i64 0,.str ⟨#[]⟩,.fslice [],.int .i64 0,.int .i64 0,.nilptr]:=by kernel_rfl
theorem aAP:fI prog 311 0=some (0,true,4):=by kernel_rfl
theorem aAQ:fI prog 311 1=some (4,false,1):=by kernel_rfl
theorem aAR:fI prog 311 2=some (5,false,1):=by kernel_rfl
theorem aAS:fI prog 311 3=some (6,false,1):=by kernel_rfl
theorem V4:bI prog 311=some [(0,4),(4,1),(5,1),(6,1)]:=by kernel_rfl
abbrev TX:=zi tI_2 (zi zI_2 Go.Proofs.Tryz.underlying2)
abbrev aZ:=zi tI_3 (zi zI_3 Go.Proofs.Tryz.underlying3)
abbrev cB:=zi tI_4 (zi zI_4 Go.Proofs.Tryz.underlying4)
abbrev hY:=zi tI_5 (zi zI_5 Go.Proofs.Tryz.underlying5)
abbrev aF7:=zi tI_6 (zi zI_6 Go.Proofs.Tryz.underlying6)
abbrev pF:=zi tI_8 (zi zI_8 (zi aA1 (zi aA2 (zi aA3 (zi aA4 V7)))))
abbrev b7:=zi tI_9 (zi zI_9 Go.Proofs.Tryz.underlying9)
abbrev aF1:=zi tI_10 (zi zI_10 Go.Proofs.Tryz.underlying10)
abbrev pE:=zi tI_22 (zi zI_22 (zi uL (zi ZO (zi ZR Go.Proofs.Tryz.underlying22))))
abbrev fV:=zi tI_26 (zi zI_26 (zi jD (zi xL (zi uM Go.Proofs.Tryz.underlying26))))
abbrev hQ:=zi tI_33 (zi zI_33 (zi j4 (zi xM (zi xO Go.Proofs.Tryz.underlying33))))
abbrev cE:=zi tI_34 (zi zI_34 (zi cS (zi gG (zi gH Go.Proofs.Tryz.underlying34))))
abbrev zA:=zi tI_46 (zi zI_46 (zi aAT (zi aAU (zi aAV (zi aAW V5)))))
abbrev bH:=zi tI_47 (zi zI_47 (zi aAX (zi aAY (zi aAZ (zi aA0 V6)))))
abbrev tD:=zi tI_57 (zi zI_57 (zi xN (zi F6 (zi F8 Go.Proofs.Tryz.underlying57))))
abbrev iV:=zi tI_79 zI_79
abbrev aF8:=zi tI_91 (zi zI_91 (zi aA5 (zi aA6 (zi aA7 (zi aA8 V8)))))
abbrev tC:=zi tI_104 (zi zI_104 (zi aAD (zi aAE VY)))
abbrev aF2:=zi tI_124 (zi zI_124 (zi aAF (zi aAG VZ)))
abbrev TW:=zi tI_138 (zi zI_138 (zi aAH (zi aAI V0)))
abbrev jK:=zi tI_148 (zi zI_148 (zi nN (zi F5 (zi F7 Go.Proofs.Tryz.underlying148))))
abbrev aF3:=zi tI_158 (zi zI_158 (zi ZP (zi ZN (zi ZQ Go.Proofs.Tryz.underlying158))))
abbrev DM:=zi tI_175 zI_175
abbrev hO:=zi tI_177 (zi zI_177 (zi aAJ (zi aAK V1)))
abbrev DN:=zi tI_191 (zi zI_191 (zi aAL (zi aAM V2)))
abbrev aF4:=zi tI_251 (zi zI_251 (zi aAN (zi aAO V3)))
abbrev aF5:=zi tI_262 zI_262
abbrev aF6:=zi tI_311 (zi zI_311 (zi aAP (zi aAQ (zi aAR (zi aAS V4)))))
theorem mixed:prog.follows .mixedOrders=true:=by kernel_rfl
theorem wF{P:Program}{g:FuncId}{fn:Func}{c:Code}{args:List AV}{st:aA}{N:Nat}{rs:List ResultVar}{K:AV→aA→Prop}(mt:List Nat)(k:Nat)(hf:P.funcs[g]?=some fn)(hN:fn.ntmps=N)(hr:fn.results=rs.toArray)(hb:fn.body=some c)(e:dG args→dD P N mt c (vI P rs.toArray K) (mC 0 args) st)(hn:(fn.name == "runtime.NumGoroutine")=false:=by kernel_rfl) (hok:codeOk N c=true:=by decide +kernel) (ha:args.length=k:=by rfl) (hk:k≤N:=by decide +kernel):aD P g args st K:=
 zw6 mt hf hN hr hb hn hok (by rw[ha];exact hk) e
theorem wP{P:Program}{N:Nat}{id:Nat}{l:List Oper}{Q:Exit→AF→aA→Prop}{φ:AF}{st:aA}(p:List (Nat×Nat))(S:List Nat)(hm:P.follows .mixedOrders=true)(h:eY P l.toArray (Q .normal) p φ st)(hok:lQ N l.toArray=true:=by decide +kernel)(hl:p.length=l.length:=by decide +kernel)(hB:lR l.toArray S p (Array.replicate l.length false)=true:=by decide +kernel):dT P N (.region id l.toArray true) Q φ st:=
 zx5 p S hm hok hl hB h
theorem wX{P:Program}{N:Nat}{id:Nat}{l:List Oper}{Q:Exit→AF→aA→Prop}{φ:AF}{st:aA}(p:List (Nat×Nat))(S:List Nat)(s0:aA)(hm:P.follows .mixedOrders=true)(hf:sJ p=true)(hs:dU s0 st)(h:eN P l.toArray s0 (Q .normal) p φ st)(hok:lQ N l.toArray=true:=by decide +kernel)(hl:p.length=l.length:=by decide +kernel)(hB:lS l.toArray S p (Array.replicate l.length false)=true:=by decide +kernel):dT P N (.region id l.toArray true) Q φ st:=
 k0 p S s0 hm hok hl hB hf hs h
theorem eR{sz:Nat}{x:AV}(h1:x.width=sz)(h2:x.cells.all AV.storable=true):uC sz [x]:=by intro e he;simp only[dS,gB,fU] at he;subst he;exact⟨h1,h2⟩
theorem bO{n:Int}(h1: -9223372036854775808≤n:=by omega)(h2:n≤9223372036854775807:=by omega):IntKind.wrap .i64 n=n:=wrap64 h1 h2
theorem uU3:type_of% @Go.Proofs.Tryz.underlying3:=@Go.Proofs.Tryz.underlying3
theorem uU4:type_of% @Go.Proofs.Tryz.underlying4:=@Go.Proofs.Tryz.underlying4
theorem uU5:type_of% @Go.Proofs.Tryz.underlying5:=@Go.Proofs.Tryz.underlying5
theorem kZ:type_of% @Go.Proofs.Tryz.underlying9:=@Go.Proofs.Tryz.underlying9
theorem aGF:type_of% @Go.Proofs.Tryz.underlying22:=@Go.Proofs.Tryz.underlying22
theorem aGG:type_of% @Go.Proofs.Tryz.underlying26:=@Go.Proofs.Tryz.underlying26
theorem zR:type_of% @Go.Proofs.Tryz.underlying34:=@Go.Proofs.Tryz.underlying34
end Go.AW
