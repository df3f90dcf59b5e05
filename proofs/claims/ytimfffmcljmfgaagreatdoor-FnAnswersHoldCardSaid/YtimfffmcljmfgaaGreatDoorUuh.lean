/- Closed facts on the types of the program. -/
import Derived.Test.YtimfffmcljmfgaaGreatDoorProg
import Derived.Test.YtimfffmcljmfgaaGreatDoorUug
import Derived.KernelRfl
set_option linter.unusedSimpArgs false
set_option linter.unusedVariables false
set_option maxRecDepth 100000
namespace Go.AW
open Go.Proofs.Tryz
theorem tI_2:tI prog 2=some (false,1):=by kernel_rfl
theorem zI_2:zI prog 2=some [.int .i64 0]:=by kernel_rfl
theorem tI_3:tI prog 3=some (false,1):=by kernel_rfl
theorem zI_3:zI prog 3=some [.int .i64 0]:=by kernel_rfl
theorem tI_4:tI prog 4=some (false,1):=by kernel_rfl
theorem zI_4:zI prog 4=some [.bool false]:=by kernel_rfl
theorem a48:zV prog 4=some (.bool false):=by kernel_rfl
theorem tI_5:tI prog 5=some (false,1):=by kernel_rfl
theorem zI_5:zI prog 5=some [.int .u8 0]:=by kernel_rfl
theorem tI_6:tI prog 6=some (false,1):=by kernel_rfl
theorem zI_6:zI prog 6=some [.int .u8 0]:=by kernel_rfl
theorem tI_8:tI prog 8=some (true,4):=by kernel_rfl
theorem zI_8:zI prog 8=some [.int .i64 0,.int .i64 0,.bool false,.int .u8 0]:=by kernel_rfl
theorem xQ:fI prog 8 0=some (0,false,1):=by kernel_rfl
theorem xR:fI prog 8 1=some (1,false,1):=by kernel_rfl
theorem xS:fI prog 8 2=some (2,false,1):=by kernel_rfl
theorem xT:fI prog 8 3=some (3,false,1):=by kernel_rfl
theorem xG:bI prog 8=some [(0,1),(1,1),(2,1),(3,1)]:=by kernel_rfl
theorem tI_9:tI prog 9=some (false,1):=by kernel_rfl
theorem zI_9:zI prog 9=some [.str ⟨#[]⟩]:=by kernel_rfl
theorem tI_10:tI prog 10=some (false,1):=by kernel_rfl
theorem zI_10:zI prog 10=some [.str ⟨#[]⟩]:=by kernel_rfl
theorem tI_23:tI prog 23=some (false,1):=by kernel_rfl
theorem zI_23:zI prog 23=some [.fslice []]:=by kernel_rfl
theorem X9:eI prog 23=some (true,4):=by kernel_rfl
theorem X6:eB prog 23=some 56:=by kernel_rfl
theorem YB:eZ prog 23=some [.int .i64 0,.int .i64 0,.str ⟨#[]⟩,.fslice []]:=by kernel_rfl
theorem tI_26:tI prog 26=some (false,1):=by kernel_rfl
theorem zI_26:zI prog 26=some [.fslice []]:=by kernel_rfl
theorem rA:eI prog 26=some (true,1):=by kernel_rfl
theorem vL:eB prog 26=some 24:=by kernel_rfl
theorem vN:eZ prog 26=some [.fslice []]:=by kernel_rfl
theorem tI_29:tI prog 29=some (false,1):=by kernel_rfl
theorem zI_29:zI prog 29=some [.fslice []]:=by kernel_rfl
theorem gW:eI prog 29=some (true,5):=by kernel_rfl
theorem kA:eB prog 29=some 80:=by kernel_rfl
theorem kB:eZ prog 29=some [.int .i64 0,.int .i64 0,.str ⟨#[]⟩,.fslice [],.fslice []]:=by kernel_rfl
theorem tI_31:tI prog 31=some (false,1):=by kernel_rfl
theorem zI_31:zI prog 31=some [.fslice []]:=by kernel_rfl
theorem aN:eI prog 31=some (true,4):=by kernel_rfl
theorem bG:eB prog 31=some 56:=by kernel_rfl
theorem bH:eZ prog 31=some [.int .i64 0,.int .i64 0,.str ⟨#[]⟩,.fslice []]:=by kernel_rfl
theorem tI_40:tI prog 40=some (false,1):=by kernel_rfl
theorem zI_40:zI prog 40=some [.fslice []]:=by kernel_rfl
theorem sH:eI prog 40=some (false,1):=by kernel_rfl
theorem zS:eB prog 40=some 1:=by kernel_rfl
theorem zW:eZ prog 40=some [.int .u8 0]:=by kernel_rfl
theorem tI_44:tI prog 44=some (false,1):=by kernel_rfl
theorem zI_44:zI prog 44=some [.fslice []]:=by kernel_rfl
theorem YA:eI prog 44=some (true,6):=by kernel_rfl
theorem X7:eB prog 44=some 80:=by kernel_rfl
theorem YC:eZ prog 44=some [.fslice [],.fslice [],.int .i64 0,.int .i64 0,.int .i64 0,.int .i64 0]:=by kernel_rfl
theorem tI_46:tI prog 46=some (false,1):=by kernel_rfl
theorem zI_46:zI prog 46=some [.fslice []]:=by kernel_rfl
theorem dH:eI prog 46=some (false,1):=by kernel_rfl
theorem fA:eB prog 46=some 8:=by kernel_rfl
theorem eX:eZ prog 46=some [.int .i64 0]:=by kernel_rfl
theorem tI_58:tI prog 58=some (true,1):=by kernel_rfl
theorem zI_58:zI prog 58=some [.fslice []]:=by kernel_rfl
theorem aV9:fI prog 58 0=some (0,false,1):=by kernel_rfl
theorem aQT:bI prog 58=some [(0,1)]:=by kernel_rfl
theorem tI_59:tI prog 59=some (true,1):=by kernel_rfl
theorem zI_59:zI prog 59=some [.fslice []]:=by kernel_rfl
theorem t8:fI prog 59 0=some (0,false,1):=by kernel_rfl
theorem tW:bI prog 59=some [(0,1)]:=by kernel_rfl
theorem tI_66:tI prog 66=some (true,4):=by kernel_rfl
theorem zI_66:zI prog 66=some [.int .i64 0,.int .i64 0,.str ⟨#[]⟩,.fslice []]:=by kernel_rfl
theorem a49:zV prog 66=some (.agg [.int .i64 0,.int .i64 0,.str ⟨#[]⟩,.fslice []]):=by kernel_rfl
theorem bQ:fI prog 66 0=some (0,false,1):=by kernel_rfl
theorem bR:fI prog 66 1=some (1,false,1):=by kernel_rfl
theorem bS:fI prog 66 2=some (2,false,1):=by kernel_rfl
theorem bT:fI prog 66 3=some (3,false,1):=by kernel_rfl
theorem bP:bI prog 66=some [(0,1),(1,1),(2,1),(3,1)]:=by kernel_rfl
theorem tI_70:tI prog 70=some (false,1):=by kernel_rfl
theorem zI_70:zI prog 70=some [.fslice []]:=by kernel_rfl
theorem aVB:eI prog 70=some (true,5):=by kernel_rfl
theorem aVA:eB prog 70=some 64:=by kernel_rfl
theorem aVD:eZ prog 70=some [.int .i64 0,.int .i64 0,.int .i64 0,.str ⟨#[]⟩,.fslice []]:=by kernel_rfl
theorem tI_84:tI prog 84=some (true,5):=by kernel_rfl
theorem zI_84:zI prog 84=some [.int .i64 0,.int .i64 0,.str ⟨#[]⟩,.fslice [],.fslice []]:=by kernel_rfl
theorem kV:fI prog 84 0=some (0,true,4):=by kernel_rfl
theorem kW:fI prog 84 1=some (4,false,1):=by kernel_rfl
theorem kU:bI prog 84=some [(0,4),(4,1)]:=by kernel_rfl
theorem tI_90:tI prog 90=some (true,4):=by kernel_rfl
theorem zI_90:zI prog 90=some [.int .i64 0,.int .i64 0,.str ⟨#[]⟩,.fslice []]:=by kernel_rfl
theorem aIT:fI prog 90 0=some (0,false,1):=by kernel_rfl
theorem aIU:fI prog 90 1=some (1,false,1):=by kernel_rfl
theorem aIV:fI prog 90 2=some (2,false,1):=by kernel_rfl
theorem aIW:fI prog 90 3=some (3,false,1):=by kernel_rfl
theorem VM:bI prog 90=some [(0,1),(1,1),(2,1),(3,1)]:=by kernel_rfl
theorem tI_91:tI prog 91=some (true,5):=by kernel_rfl
theorem zI_91:zI prog 91=some [.int .i64 0,.int .i64 0,.str ⟨#[]⟩,.fslice [],.fslice []]:=by kernel_rfl
theorem aWA:fI prog 91 0=some (0,true,4):=by kernel_rfl
theorem aWB:fI prog 91 1=some (4,false,1):=by kernel_rfl
theorem aQU:bI prog 91=some [(0,4),(4,1)]:=by kernel_rfl
theorem tI_116:tI prog 116=some (false,1):=by kernel_rfl
theorem zI_116:zI prog 116=some [.nilptr]:=by kernel_rfl
theorem tI_129:tI prog 129=some (true,5):=by kernel_rfl
theorem zI_129:zI prog 129=some [.int .i64 0,.int .i64 0,.int .i64 0,.str ⟨#[]⟩,.fslice []]:=by kernel_rfl
theorem aV2:fI prog 129 0=some (0,false,1):=by kernel_rfl
theorem aV3:fI prog 129 1=some (1,true,4):=by kernel_rfl
theorem aQR:bI prog 129=some [(0,1),(1,4)]:=by kernel_rfl
theorem tI_141:tI prog 141=some (false,1):=by kernel_rfl
theorem zI_141:zI prog 141=some [.nilmap]:=by kernel_rfl
theorem tI_147:tI prog 147=some (false,1):=by kernel_rfl
theorem zI_147:zI prog 147=some [.fslice []]:=by kernel_rfl
theorem iR:eI prog 147=some (false,1):=by kernel_rfl
theorem lS:eB prog 147=some 16:=by kernel_rfl
theorem lT:eZ prog 147=some [.str ⟨#[]⟩]:=by kernel_rfl
theorem tI_163:tI prog 163=some (false,1):=by kernel_rfl
theorem zI_163:zI prog 163=some [.fslice []]:=by kernel_rfl
theorem vM:eI prog 163=some (true,5):=by kernel_rfl
theorem zR:eB prog 163=some 64:=by kernel_rfl
theorem zU:eZ prog 163=some [.int .i64 0,.int .i64 0,.str ⟨#[]⟩,.fslice [],.int .i64 0]:=by kernel_rfl
theorem tI_164:tI prog 164=some (false,1):=by kernel_rfl
theorem zI_164:zI prog 164=some [.fslice []]:=by kernel_rfl
theorem xO:eI prog 164=some (true,7):=by kernel_rfl
theorem F1:eB prog 164=some 128:=by kernel_rfl
theorem F3:eZ prog 164=some [.int .i64 0,.int .i64 0,.str ⟨#[]⟩,.fslice [],.fslice [],.fslice [],.fslice []]:=by kernel_rfl
theorem tI_166:tI prog 166=some (true,3):=by kernel_rfl
theorem zI_166:zI prog 166=some [.fslice [],.fslice [],.fslice []]:=by kernel_rfl
theorem F4:fI prog 166 0=some (0,false,1):=by kernel_rfl
theorem F5:fI prog 166 1=some (1,false,1):=by kernel_rfl
theorem F6:fI prog 166 2=some (2,false,1):=by kernel_rfl
theorem FN:bI prog 166=some [(0,1),(1,1),(2,1)]:=by kernel_rfl
theorem tI_174:tI prog 174=some (false,1):=by kernel_rfl
theorem zI_174:zI prog 174=some [.nilptr]:=by kernel_rfl
theorem tI_184:tI prog 184=some (true,2):=by kernel_rfl
theorem zI_184:zI prog 184=some [.fslice [],.int .i64 0]:=by kernel_rfl
theorem aIC:fI prog 184 0=some (0,false,1):=by kernel_rfl
theorem aID:fI prog 184 1=some (1,false,1):=by kernel_rfl
theorem VH:bI prog 184=some [(0,1),(1,1)]:=by kernel_rfl
theorem tI_199:tI prog 199=some (true,2):=by kernel_rfl
theorem zI_199:zI prog 199=some [.str ⟨#[]⟩,.int .i64 0]:=by kernel_rfl
theorem PM:fI prog 199 0=some (0,false,1):=by kernel_rfl
theorem PN:fI prog 199 1=some (1,false,1):=by kernel_rfl
theorem OA:bI prog 199=some [(0,1),(1,1)]:=by kernel_rfl
theorem tI_202:tI prog 202=some (false,1):=by kernel_rfl
theorem zI_202:zI prog 202=some [.nilptr]:=by kernel_rfl
theorem tI_210:tI prog 210=some (false,1):=by kernel_rfl
theorem zI_210:zI prog 210=some [.fslice []]:=by kernel_rfl
theorem X8:eI prog 210=some (false,1):=by kernel_rfl
theorem aU9:eB prog 210=some 24:=by kernel_rfl
theorem aVC:eZ prog 210=some [.fslice []]:=by kernel_rfl
theorem tI_227:tI prog 227=some (false,1):=by kernel_rfl
theorem zI_227:zI prog 227=some [.nilptr]:=by kernel_rfl
theorem tI_254:tI prog 254=some (true,7):=by kernel_rfl
theorem zI_254:zI prog 254=some [.int .i64 0,.int .i64 0,.str ⟨#[]⟩,.fslice [],.fslice [],.fslice [],.fslice []]:=by kernel_rfl
theorem PO:fI prog 254 0=some (0,true,4):=by kernel_rfl
theorem PP:fI prog 254 1=some (4,false,1):=by kernel_rfl
theorem PQ:fI prog 254 2=some (5,false,1):=by kernel_rfl
theorem PR:fI prog 254 3=some (6,false,1):=by kernel_rfl
theorem OB:bI prog 254=some [(0,4),(4,1),(5,1),(6,1)]:=by kernel_rfl
theorem tI_256:tI prog 256=some (false,1):=by kernel_rfl
theorem zI_256:zI prog 256=some [.nilptr]:=by kernel_rfl
theorem tI_257:tI prog 257=some (false,1):=by kernel_rfl
theorem zI_257:zI prog 257=some [.fslice []]:=by kernel_rfl
theorem zT:eI prog 257=some (true,9):=by kernel_rfl
theorem KA:eB prog 257=some 112:=by kernel_rfl
theorem KC:eZ prog 257=some [.int .i64 0,.int .i64 0,.str ⟨#[]⟩,.fslice [],.int .i64 0,.nilptr,.fslice [],.int .i64 0,.int .i64 0]:=by kernel_rfl
theorem tI_258:tI prog 258=some (false,1):=by kernel_rfl
theorem zI_258:zI prog 258=some [.fslice []]:=by kernel_rfl
theorem CT:eI prog 258=some (true,6):=by kernel_rfl
theorem KB:eB prog 258=some 72:=by kernel_rfl
theorem KD:eZ prog 258=some [.int .i64 0,.int .i64 0,.str ⟨#[]⟩,.fslice [],.int .i64 0,.int .i64 0]:=by kernel_rfl
theorem tI_260:tI prog 260=some (true,12):=by kernel_rfl
theorem zI_260:zI prog 260=some [.nilptr,.fslice [],.fslice [],.bool false,.bool false,.int .i64 0,.int .i64 0,.int .i64 0,.nilptr,.fslice [],.fslice [],.int .i64 0]:=by kernel_rfl
theorem F7:fI prog 260 0=some (0,false,1):=by kernel_rfl
theorem F8:fI prog 260 1=some (1,false,1):=by kernel_rfl
theorem GB:fI prog 260 2=some (2,false,1):=by kernel_rfl
theorem GC:fI prog 260 3=some (3,false,1):=by kernel_rfl
theorem GD:fI prog 260 4=some (4,false,1):=by kernel_rfl
theorem GE:fI prog 260 5=some (5,false,1):=by kernel_rfl
theorem GF:fI prog 260 6=some (6,false,1):=by kernel_rfl
theorem GG:fI prog 260 7=some (7,false,1):=by kernel_rfl
theorem GH:fI prog 260 8=some (8,false,1):=by kernel_rfl
theorem GI:fI prog 260 9=some (9,false,1):=by kernel_rfl
theorem F9:fI prog 260 10=some (10,false,1):=by kernel_rfl
theorem GA:fI prog 260 11=some (11,false,1):=by kernel_rfl
theorem FO:bI prog 260=some [(0,1),(1,1),(2,1),(3,1),(4,1),(5,1),(6,1),(7,1),(8,1),(9,1),(10,1),(11,1)]:=by kernel_rfl
theorem tI_286:tI prog 286=some (true,5):=by kernel_rfl
theorem zI_286:zI prog 286=some [.int .i64 0,.int .i64 0,.str ⟨#[]⟩,.fslice [],.int .i64 0]:=by kernel_rfl
theorem aIE:fI prog 286 0=some (0,true,4):=by kernel_rfl
theorem aIF:fI prog 286 1=some (4,false,1):=by kernel_rfl
theorem VI:bI prog 286=some [(0,4),(4,1)]:=by kernel_rfl
theorem tI_300:tI prog 300=some (true,5):=by kernel_rfl
theorem zI_300:zI prog 300=some [.str ⟨#[]⟩,.fslice [],.fslice [],.int .i64 0,.fslice []]:=by kernel_rfl
theorem aV4:fI prog 300 0=some (0,false,1):=by kernel_rfl
theorem aV5:fI prog 300 1=some (1,false,1):=by kernel_rfl
theorem aV6:fI prog 300 2=some (2,false,1):=by kernel_rfl
theorem aV7:fI prog 300 3=some (3,false,1):=by kernel_rfl
theorem aV8:fI prog 300 4=some (4,false,1):=by kernel_rfl
theorem aQS:bI prog 300=some [(0,1),(1,1),(2,1),(3,1),(4,1)]:=by kernel_rfl
theorem tI_304:tI prog 304=some (true,2):=by kernel_rfl
theorem zI_304:zI prog 304=some [.nilmap,.fslice []]:=by kernel_rfl
theorem CU:fI prog 304 0=some (0,false,1):=by kernel_rfl
theorem CV:fI prog 304 1=some (1,false,1):=by kernel_rfl
theorem CH:bI prog 304=some [(0,1),(1,1)]:=by kernel_rfl
theorem tI_321:tI prog 321=some (true,7):=by kernel_rfl
theorem zI_321:zI prog 321=some [.int .i64 0,.int .i64 0,.str ⟨#[]⟩,.fslice [],.int .i64 0,.int .i64 0,.nilptr]:=by kernel_rfl
theorem aIG:fI prog 321 0=some (0,true,4):=by kernel_rfl
theorem aIH:fI prog 321 1=some (4,false,1):=by kernel_rfl
theorem aII:fI prog 321 2=some (5,false,1):=by kernel_rfl
theorem aIJ:fI prog 321 3=some (6,false,1):=by kernel_rfl
theorem VJ:bI prog 321=some [(0,4),(4,1),(5,1),(6,1)]:=by kernel_rfl
theorem tI_324:tI prog 324=some (true,6):=by kernel_rfl
theorem zI_324:zI prog 324=some [.int .i64 0,.int .i64 0,.str ⟨#[]⟩,.fslice [],.int .i64 0,.int .i64 0]:=by kernel_rfl
theorem aIK:fI prog 324 0=some (0,true,4):=by kernel_rfl
theorem aIL:fI prog 324 1=some (4,false,1):=by kernel_rfl
theorem aIM:fI prog 324 2=some (5,false,1):=by kernel_rfl
theorem VK:bI prog 324=some [(0,4),(4,1),(5,1)]:=by kernel_rfl
theorem tI_327:tI prog 327=some (true,9):=by kernel_rfl
theorem zI_327:zI prog 327=some [.int .i64 0,.int .i64 0,.str ⟨#[]⟩,.fslice [],.int .i64 0,.nilptr,.fslice [],.int .i64 0,.int .i64 0]:=by kernel_rfl
theorem aIN:fI prog 327 0=some (0,true,4):=by kernel_rfl
theorem aIO:fI prog 327 1=some (4,false,1):=by kernel_rfl
theorem aIP:fI prog 327 2=some (5,false,1):=by kernel_rfl
theorem aIQ:fI prog 327 3=some (6,false,1):=by kernel_rfl
theorem aIR:fI prog 327 4=some (7,false,1):=by kernel_rfl
theorem aIS:fI prog 327 5=some (8,false,1):=by kernel_rfl
theorem VL:bI prog 327=some [(0,4),(4,1),(5,1),(6,1),(7,1),(8,1)]:=by kernel_rfl
theorem tI_390:tI prog 390=some (false,1):=by kernel_rfl
theorem zI_390:zI prog 390=some [.nilmap]:=by kernel_rfl
theorem tI_406:tI prog 406=some (false,1):=by kernel_rfl
theorem zI_406:zI prog 406=some [.int .u8 0]:=by kernel_rfl
theorem mixed:prog.follows .mixedOrders=true:=by kernel_rfl
theorem wF{P:Program}{g:FuncId}{fn:Func}{c:Code}{args:List AV}{st:aB}{N:Nat}{rs:List ResultVar}{K:AV→aB→Prop}(mt:List Nat)(k:Nat)(hf:P.funcs[g]?=some fn)(hN:fn.ntmps=N)(hr:fn.results=rs.toArray)(hb:fn.body=some c)(e:eC args→gG P N mt c (HP P rs.toArray K) (tU 0 args) st)(hn:(fn.name == "runtime.NumGoroutine")=false:=by kernel_rfl) (hok:codeOk N c=true:=by decide +kernel) (ha:args.length=k:=by rfl) (hk:k≤N:=by decide +kernel):aD P g args st K:=
 zw6 mt hf hN hr hb hn hok (by rw[ha];exact hk) e
theorem wP{P:Program}{N:Nat}{id:Nat}{l:List Oper}{Q:Exit→AF→aB→Prop}{φ:AF}{st:aB}(p:List (Nat×Nat))(S:List Nat)(hm:P.follows .mixedOrders=true)(h:jU P l.toArray (Q .normal) p φ st)(hok:qL N l.toArray=true:=by decide +kernel)(hl:p.length=l.length:=by decide +kernel)(hB:sW l.toArray S p (Array.replicate l.length false)=true:=by decide +kernel):gO P N (.region id l.toArray true) Q φ st:=
 zx5 p S hm hok hl hB h
theorem wX{P:Program}{N:Nat}{id:Nat}{l:List Oper}{Q:Exit→AF→aB→Prop}{φ:AF}{st:aB}(p:List (Nat×Nat))(S:List Nat)(s0:aB)(hm:P.follows .mixedOrders=true)(hf:DP p=true)(hs:fW s0 st)(h:jO P l.toArray s0 (Q .normal) p φ st)(hok:qL N l.toArray=true:=by decide +kernel)(hl:p.length=l.length:=by decide +kernel)(hB:sX l.toArray S p (Array.replicate l.length false)=true:=by decide +kernel):gO P N (.region id l.toArray true) Q φ st:=
 ET p S s0 hm hok hl hB hf hs h
theorem fM{sz:Nat}{x:AV}(h1:x.width=sz)(h2:x.cells.all AV.storable=true):vB sz [x]:=by intro e he;simp only[cX,dN,dV] at he;subst he;exact⟨h1,h2⟩
theorem bO{n:Int}(h1: -9223372036854775808≤n:=by omega)(h2:n≤9223372036854775807:=by omega):IntKind.wrap .i64 n=n:=wrap64 h1 h2
theorem M1:type_of% @Go.Proofs.Tryz.underlying2:=@Go.Proofs.Tryz.underlying2
theorem aX:type_of% @Go.Proofs.Tryz.underlying3:=@Go.Proofs.Tryz.underlying3
theorem cE:type_of% @Go.Proofs.Tryz.underlying4:=@Go.Proofs.Tryz.underlying4
theorem lM:type_of% @Go.Proofs.Tryz.underlying5:=@Go.Proofs.Tryz.underlying5
theorem uU6:type_of% @Go.Proofs.Tryz.underlying6:=@Go.Proofs.Tryz.underlying6
theorem cI:type_of% @Go.Proofs.Tryz.underlying9:=@Go.Proofs.Tryz.underlying9
theorem a4J:type_of% @Go.Proofs.Tryz.underlying10:=@Go.Proofs.Tryz.underlying10
theorem aOM:type_of% @Go.Proofs.Tryz.underlying23:=@Go.Proofs.Tryz.underlying23
theorem BH:type_of% @Go.Proofs.Tryz.underlying26:=@Go.Proofs.Tryz.underlying26
theorem lL:type_of% @Go.Proofs.Tryz.underlying29:=@Go.Proofs.Tryz.underlying29
theorem b9:type_of% @Go.Proofs.Tryz.underlying31:=@Go.Proofs.Tryz.underlying31
theorem yN:type_of% @Go.Proofs.Tryz.underlying40:=@Go.Proofs.Tryz.underlying40
theorem aON:type_of% @Go.Proofs.Tryz.underlying44:=@Go.Proofs.Tryz.underlying44
theorem fB:type_of% @Go.Proofs.Tryz.underlying46:=@Go.Proofs.Tryz.underlying46
theorem a4N:type_of% @Go.Proofs.Tryz.underlying70:=@Go.Proofs.Tryz.underlying70
theorem BG:type_of% @Go.Proofs.Tryz.underlying141:=@Go.Proofs.Tryz.underlying141
theorem mR:type_of% @Go.Proofs.Tryz.underlying147:=@Go.Proofs.Tryz.underlying147
theorem IK:type_of% @Go.Proofs.Tryz.underlying163:=@Go.Proofs.Tryz.underlying163
theorem TN:type_of% @Go.Proofs.Tryz.underlying164:=@Go.Proofs.Tryz.underlying164
theorem a4K:type_of% @Go.Proofs.Tryz.underlying210:=@Go.Proofs.Tryz.underlying210
theorem TO:type_of% @Go.Proofs.Tryz.underlying257:=@Go.Proofs.Tryz.underlying257
theorem TP:type_of% @Go.Proofs.Tryz.underlying258:=@Go.Proofs.Tryz.underlying258
theorem IL:type_of% @Go.Proofs.Tryz.underlying390:=@Go.Proofs.Tryz.underlying390
theorem a4L:type_of% @Go.Proofs.Tryz.underlying406:=@Go.Proofs.Tryz.underlying406
end Go.AW
