/- Closed facts on the types of the program. -/
import Derived.Test.YtimfffmcljmfgaaGreatDoorProg
import Derived.Test.YtimfffmcljmfgaaGreatDoorUyh
import Derived.KernelRfl
set_option linter.unusedSimpArgs false
set_option linter.unusedVariables false
set_option maxRecDepth 100000
namespace Go.AW
open Go.Proofs.Tryz
theorem tI_2:tI prog 2=some (false,1):=by kernel_rfl
theorem zI_2:zI prog 2=some [.int .i64 0]:=by kernel_rfl
theorem tI_3:tI prog 3=some (false,1):=by kernel_rfl
theorem zI_3:zI prog 3=some [.int .i64 0]:=by kernel_rfl
theorem tI_4:tI prog 4=some (false,1):=by kernel_rfl
theorem zI_4:zI prog 4=some [.bool false]:=by kernel_rfl
theorem a4B:zV prog 4=some (.bool false):=by kernel_rfl
theorem tI_5:tI prog 5=some (false,1):=by kernel_rfl
theorem zI_5:zI prog 5=some [.int .u8 0]:=by kernel_rfl
theorem tI_6:tI prog 6=some (false,1):=by kernel_rfl
theorem zI_6:zI prog 6=some [.int .u8 0]:=by kernel_rfl
theorem tI_9:tI prog 9=some (false,1):=by kernel_rfl
theorem zI_9:zI prog 9=some [.str ⟨#[]⟩]:=by kernel_rfl
theorem tI_22:tI prog 22=some (false,1):=by kernel_rfl
theorem zI_22:zI prog 22=some [.fslice []]:=by kernel_rfl
theorem B2:eI prog 22=some (true,5):=by kernel_rfl
theorem I1:eB prog 22=some 80:=by kernel_rfl
theorem I5:eZ prog 22=some [.int .i64 0,.int .i64 0,.str ⟨#[]⟩,.fslice [],.fslice []]:=by kernel_rfl
theorem tI_23:tI prog 23=some (false,1):=by kernel_rfl
theorem zI_23:zI prog 23=some [.fslice []]:=by kernel_rfl
theorem rD:eI prog 23=some (true,4):=by kernel_rfl
theorem tP:eB prog 23=some 56:=by kernel_rfl
theorem tQ:eZ prog 23=some [.int .i64 0,.int .i64 0,.str ⟨#[]⟩,.fslice []]:=by kernel_rfl
theorem tI_26:tI prog 26=some (false,1):=by kernel_rfl
theorem zI_26:zI prog 26=some [.fslice []]:=by kernel_rfl
theorem gC:eI prog 26=some (true,1):=by kernel_rfl
theorem kM:eB prog 26=some 24:=by kernel_rfl
theorem kN:eZ prog 26=some [.fslice []]:=by kernel_rfl
theorem tI_29:tI prog 29=some (false,1):=by kernel_rfl
theorem zI_29:zI prog 29=some [.fslice []]:=by kernel_rfl
theorem eP:eI prog 29=some (true,5):=by kernel_rfl
theorem gO:eB prog 29=some 80:=by kernel_rfl
theorem gP:eZ prog 29=some [.int .i64 0,.int .i64 0,.str ⟨#[]⟩,.fslice [],.fslice []]:=by kernel_rfl
theorem tI_31:tI prog 31=some (false,1):=by kernel_rfl
theorem zI_31:zI prog 31=some [.fslice []]:=by kernel_rfl
theorem aR:eI prog 31=some (true,4):=by kernel_rfl
theorem bO:eB prog 31=some 56:=by kernel_rfl
theorem bP:eZ prog 31=some [.int .i64 0,.int .i64 0,.str ⟨#[]⟩,.fslice []]:=by kernel_rfl
theorem tI_40:tI prog 40=some (false,1):=by kernel_rfl
theorem zI_40:zI prog 40=some [.fslice []]:=by kernel_rfl
theorem aT3:eI prog 40=some (false,1):=by kernel_rfl
theorem aT1:eB prog 40=some 1:=by kernel_rfl
theorem aT5:eZ prog 40=some [.int .u8 0]:=by kernel_rfl
theorem tI_44:tI prog 44=some (false,1):=by kernel_rfl
theorem zI_44:zI prog 44=some [.fslice []]:=by kernel_rfl
theorem I4:eI prog 44=some (true,6):=by kernel_rfl
theorem W1:eB prog 44=some 80:=by kernel_rfl
theorem W2:eZ prog 44=some [.fslice [],.fslice [],.int .i64 0,.int .i64 0,.int .i64 0,.int .i64 0]:=by kernel_rfl
theorem tI_46:tI prog 46=some (false,1):=by kernel_rfl
theorem zI_46:zI prog 46=some [.fslice []]:=by kernel_rfl
theorem cW:eI prog 46=some (false,1):=by kernel_rfl
theorem eJ:eB prog 46=some 8:=by kernel_rfl
theorem eF:eZ prog 46=some [.int .i64 0]:=by kernel_rfl
theorem tI_49:tI prog 49=some (false,1):=by kernel_rfl
theorem zI_49:zI prog 49=some [.fslice []]:=by kernel_rfl
theorem j7:eI prog 49=some (true,6):=by kernel_rfl
theorem rC:eB prog 49=some 80:=by kernel_rfl
theorem rF:eZ prog 49=some [.fslice [],.fslice [],.int .i64 0,.int .i64 0,.int .i64 0,.int .i64 0]:=by kernel_rfl
theorem tI_59:tI prog 59=some (true,1):=by kernel_rfl
theorem zI_59:zI prog 59=some [.fslice []]:=by kernel_rfl
theorem tT:fI prog 59 0=some (0,false,1):=by kernel_rfl
theorem tK:bI prog 59=some [(0,1)]:=by kernel_rfl
theorem tI_62:tI prog 62=some (true,6):=by kernel_rfl
theorem zI_62:zI prog 62=some [.fslice [],.fslice [],.int .i64 0,.int .i64 0,.int .i64 0,.int .i64 0]:=by kernel_rfl
theorem kX:fI prog 62 0=some (0,false,1):=by kernel_rfl
theorem kY:fI prog 62 1=some (1,false,1):=by kernel_rfl
theorem kZ:fI prog 62 2=some (2,false,1):=by kernel_rfl
theorem k8:fI prog 62 3=some (3,false,1):=by kernel_rfl
theorem k9:fI prog 62 4=some (4,false,1):=by kernel_rfl
theorem lA:fI prog 62 5=some (5,false,1):=by kernel_rfl
theorem kU:bI prog 62=some [(0,1),(1,1),(2,1),(3,1),(4,1),(5,1)]:=by kernel_rfl
theorem tI_66:tI prog 66=some (true,4):=by kernel_rfl
theorem zI_66:zI prog 66=some [.int .i64 0,.int .i64 0,.str ⟨#[]⟩,.fslice []]:=by kernel_rfl
theorem a4C:zV prog 66=some (.agg [.int .i64 0,.int .i64 0,.str ⟨#[]⟩,.fslice []]):=by kernel_rfl
theorem b9:fI prog 66 0=some (0,false,1):=by kernel_rfl
theorem cA:fI prog 66 1=some (1,false,1):=by kernel_rfl
theorem cB:fI prog 66 2=some (2,false,1):=by kernel_rfl
theorem cC:fI prog 66 3=some (3,false,1):=by kernel_rfl
theorem bZ:bI prog 66=some [(0,1),(1,1),(2,1),(3,1)]:=by kernel_rfl
theorem tI_70:tI prog 70=some (false,1):=by kernel_rfl
theorem zI_70:zI prog 70=some [.fslice []]:=by kernel_rfl
theorem aT4:eI prog 70=some (true,5):=by kernel_rfl
theorem aT2:eB prog 70=some 64:=by kernel_rfl
theorem aT6:eZ prog 70=some [.int .i64 0,.int .i64 0,.int .i64 0,.str ⟨#[]⟩,.fslice []]:=by kernel_rfl
theorem tI_84:tI prog 84=some (true,5):=by kernel_rfl
theorem zI_84:zI prog 84=some [.int .i64 0,.int .i64 0,.str ⟨#[]⟩,.fslice [],.fslice []]:=by kernel_rfl
theorem lB:fI prog 84 0=some (0,true,4):=by kernel_rfl
theorem lC:fI prog 84 1=some (4,false,1):=by kernel_rfl
theorem kV:bI prog 84=some [(0,4),(4,1)]:=by kernel_rfl
theorem tI_90:tI prog 90=some (true,4):=by kernel_rfl
theorem zI_90:zI prog 90=some [.int .i64 0,.int .i64 0,.str ⟨#[]⟩,.fslice []]:=by kernel_rfl
theorem w6:fI prog 90 0=some (0,false,1):=by kernel_rfl
theorem w7:fI prog 90 1=some (1,false,1):=by kernel_rfl
theorem w8:fI prog 90 2=some (2,false,1):=by kernel_rfl
theorem w9:fI prog 90 3=some (3,false,1):=by kernel_rfl
theorem wR:bI prog 90=some [(0,1),(1,1),(2,1),(3,1)]:=by kernel_rfl
theorem tI_92:tI prog 92=some (true,5):=by kernel_rfl
theorem zI_92:zI prog 92=some [.int .i64 0,.int .i64 0,.str ⟨#[]⟩,.fslice [],.fslice []]:=by kernel_rfl
theorem JK:fI prog 92 0=some (0,true,4):=by kernel_rfl
theorem JL:fI prog 92 1=some (4,false,1):=by kernel_rfl
theorem H9:bI prog 92=some [(0,4),(4,1)]:=by kernel_rfl
theorem tI_105:tI prog 105=some (true,6):=by kernel_rfl
theorem zI_105:zI prog 105=some [.fslice [],.fslice [],.int .i64 0,.int .i64 0,.int .i64 0,.int .i64 0]:=by kernel_rfl
theorem JE:fI prog 105 0=some (0,false,1):=by kernel_rfl
theorem JF:fI prog 105 1=some (1,false,1):=by kernel_rfl
theorem JG:fI prog 105 2=some (2,false,1):=by kernel_rfl
theorem JH:fI prog 105 3=some (3,false,1):=by kernel_rfl
theorem JI:fI prog 105 4=some (4,false,1):=by kernel_rfl
theorem JJ:fI prog 105 5=some (5,false,1):=by kernel_rfl
theorem H8:bI prog 105=some [(0,1),(1,1),(2,1),(3,1),(4,1),(5,1)]:=by kernel_rfl
theorem tI_108:tI prog 108=some (true,4):=by kernel_rfl
theorem zI_108:zI prog 108=some [.fslice [],.fslice [],.fslice [],.fslice []]:=by kernel_rfl
theorem aG3:fI prog 108 0=some (0,false,1):=by kernel_rfl
theorem aG4:fI prog 108 1=some (1,false,1):=by kernel_rfl
theorem aG5:fI prog 108 2=some (2,false,1):=by kernel_rfl
theorem aG6:fI prog 108 3=some (3,false,1):=by kernel_rfl
theorem UR:bI prog 108=some [(0,1),(1,1),(2,1),(3,1)]:=by kernel_rfl
theorem tI_116:tI prog 116=some (false,1):=by kernel_rfl
theorem zI_116:zI prog 116=some [.nilptr]:=by kernel_rfl
theorem tI_129:tI prog 129=some (true,5):=by kernel_rfl
theorem zI_129:zI prog 129=some [.int .i64 0,.int .i64 0,.int .i64 0,.str ⟨#[]⟩,.fslice []]:=by kernel_rfl
theorem aUU:fI prog 129 0=some (0,false,1):=by kernel_rfl
theorem aUV:fI prog 129 1=some (1,true,4):=by kernel_rfl
theorem aPR:bI prog 129=some [(0,1),(1,4)]:=by kernel_rfl
theorem tI_141:tI prog 141=some (false,1):=by kernel_rfl
theorem zI_141:zI prog 141=some [.nilmap]:=by kernel_rfl
theorem tI_147:tI prog 147=some (false,1):=by kernel_rfl
theorem zI_147:zI prog 147=some [.fslice []]:=by kernel_rfl
theorem wW:eI prog 147=some (false,1):=by kernel_rfl
theorem B1:eB prog 147=some 16:=by kernel_rfl
theorem B4:eZ prog 147=some [.str ⟨#[]⟩]:=by kernel_rfl
theorem tI_163:tI prog 163=some (false,1):=by kernel_rfl
theorem zI_163:zI prog 163=some [.fslice []]:=by kernel_rfl
theorem u9:eI prog 163=some (true,5):=by kernel_rfl
theorem yU:eB prog 163=some 64:=by kernel_rfl
theorem yW:eZ prog 163=some [.int .i64 0,.int .i64 0,.str ⟨#[]⟩,.fslice [],.int .i64 0]:=by kernel_rfl
theorem tI_164:tI prog 164=some (false,1):=by kernel_rfl
theorem zI_164:zI prog 164=some [.fslice []]:=by kernel_rfl
theorem wY:eI prog 164=some (true,7):=by kernel_rfl
theorem E2:eB prog 164=some 128:=by kernel_rfl
theorem E3:eZ prog 164=some [.int .i64 0,.int .i64 0,.str ⟨#[]⟩,.fslice [],.fslice [],.fslice [],.fslice []]:=by kernel_rfl
theorem tI_166:tI prog 166=some (true,3):=by kernel_rfl
theorem zI_166:zI prog 166=some [.fslice [],.fslice [],.fslice []]:=by kernel_rfl
theorem E4:fI prog 166 0=some (0,false,1):=by kernel_rfl
theorem E5:fI prog 166 1=some (1,false,1):=by kernel_rfl
theorem E6:fI prog 166 2=some (2,false,1):=by kernel_rfl
theorem EO:bI prog 166=some [(0,1),(1,1),(2,1)]:=by kernel_rfl
theorem tI_174:tI prog 174=some (false,1):=by kernel_rfl
theorem zI_174:zI prog 174=some [.nilptr]:=by kernel_rfl
theorem tI_199:tI prog 199=some (true,2):=by kernel_rfl
theorem zI_199:zI prog 199=some [.str ⟨#[]⟩,.int .i64 0]:=by kernel_rfl
theorem OF:fI prog 199 0=some (0,false,1):=by kernel_rfl
theorem OG:fI prog 199 1=some (1,false,1):=by kernel_rfl
theorem NN:bI prog 199=some [(0,1),(1,1)]:=by kernel_rfl
theorem tI_202:tI prog 202=some (false,1):=by kernel_rfl
theorem zI_202:zI prog 202=some [.nilptr]:=by kernel_rfl
theorem tI_227:tI prog 227=some (false,1):=by kernel_rfl
theorem zI_227:zI prog 227=some [.nilptr]:=by kernel_rfl
theorem tI_254:tI prog 254=some (true,7):=by kernel_rfl
theorem zI_254:zI prog 254=some [.int .i64 0,.int .i64 0,.str ⟨#[]⟩,.fslice [],.fslice [],.fslice [],.fslice []]:=by kernel_rfl
theorem OH:fI prog 254 0=some (0,true,4):=by kernel_rfl
theorem OI:fI prog 254 1=some (4,false,1):=by kernel_rfl
theorem OJ:fI prog 254 2=some (5,false,1):=by kernel_rfl
theorem OK:fI prog 254 3=some (6,false,1):=by kernel_rfl
theorem NO:bI prog 254=some [(0,4),(4,1),(5,1),(6,1)]:=by kernel_rfl
theorem tI_256:tI prog 256=some (false,1):=by kernel_rfl
theorem zI_256:zI prog 256=some [.nilptr]:=by kernel_rfl
theorem tI_257:tI prog 257=some (false,1):=by kernel_rfl
theorem zI_257:zI prog 257=some [.fslice []]:=by kernel_rfl
theorem yV:eI prog 257=some (true,9):=by kernel_rfl
theorem I2:eB prog 257=some 112:=by kernel_rfl
theorem I6:eZ prog 257=some [.int .i64 0,.int .i64 0,.str ⟨#[]⟩,.fslice [],.int .i64 0,.nilptr,.fslice [],.int .i64 0,.int .i64 0]:=by kernel_rfl
theorem tI_258:tI prog 258=some (false,1):=by kernel_rfl
theorem zI_258:zI prog 258=some [.fslice []]:=by kernel_rfl
theorem B3:eI prog 258=some (true,6):=by kernel_rfl
theorem I3:eB prog 258=some 72:=by kernel_rfl
theorem I7:eZ prog 258=some [.int .i64 0,.int .i64 0,.str ⟨#[]⟩,.fslice [],.int .i64 0,.int .i64 0]:=by kernel_rfl
theorem tI_260:tI prog 260=some (true,12):=by kernel_rfl
theorem zI_260:zI prog 260=some [.nilptr,.fslice [],.fslice [],.bool false,.bool false,.int .i64 0,.int .i64 0,.int .i64 0,.nilptr,.fslice [],.fslice [],.int .i64 0]:=by kernel_rfl
theorem E7:fI prog 260 0=some (0,false,1):=by kernel_rfl
theorem E8:fI prog 260 1=some (1,false,1):=by kernel_rfl
theorem FB:fI prog 260 2=some (2,false,1):=by kernel_rfl
theorem FC:fI prog 260 3=some (3,false,1):=by kernel_rfl
theorem FD:fI prog 260 4=some (4,false,1):=by kernel_rfl
theorem FF:fI prog 260 5=some (5,false,1):=by kernel_rfl
theorem FG:fI prog 260 6=some (6,false,1):=by kernel_rfl
theorem FH:fI prog 260 7=some (7,false,1):=by kernel_rfl
theorem FI:fI prog 260 8=some (8,false,1):=by kernel_rfl
theorem FJ:fI prog 260 9=some (9,false,1):=by kernel_rfl
theorem E9:fI prog 260 10=some (10,false,1):=by kernel_rfl
theorem FA:fI prog 260 11=some (11,false,1):=by kernel_rfl
theorem EP:bI prog 260=some [(0,1),(1,1),(2,1),(3,1),(4,1),(5,1),(6,1),(7,1),(8,1),(9,1),(10,1),(11,1)]:=by kernel_rfl
theorem tI_286:tI prog 286=some (true,5):=by kernel_rfl
theorem zI_286:zI prog 286=some [.int .i64 0,.int .i64 0,.str ⟨#[]⟩,.fslice [],.int .i64 0]:=by kernel_rfl
theorem aG7:fI prog 286 0=some (0,true,4):=by kernel_rfl
theorem aG8:fI prog 286 1=some (4,false,1):=by kernel_rfl
theorem US:bI prog 286=some [(0,4),(4,1)]:=by kernel_rfl
theorem tI_300:tI prog 300=some (true,5):=by kernel_rfl
theorem zI_300:zI prog 300=some [.str ⟨#[]⟩,.fslice [],.fslice [],.int .i64 0,.fslice []]:=by kernel_rfl
theorem aUW:fI prog 300 0=some (0,false,1):=by kernel_rfl
theorem aUX:fI prog 300 1=some (1,false,1):=by kernel_rfl
theorem aUY:fI prog 300 2=some (2,false,1):=by kernel_rfl
theorem aUZ:fI prog 300 3=some (3,false,1):=by kernel_rfl
theorem aU0:fI prog 300 4=some (4,false,1):=by kernel_rfl
theorem aPS:bI prog 300=some [(0,1),(1,1),(2,1),(3,1),(4,1)]:=by kernel_rfl
theorem tI_304:tI prog 304=some (true,2):=by kernel_rfl
theorem zI_304:zI prog 304=some [.nilmap,.fslice []]:=by kernel_rfl
theorem B9:fI prog 304 0=some (0,false,1):=by kernel_rfl
theorem CA:fI prog 304 1=some (1,false,1):=by kernel_rfl
theorem BR:bI prog 304=some [(0,1),(1,1)]:=by kernel_rfl
theorem tI_321:tI prog 321=some (true,7):=by kernel_rfl
theorem zI_321:zI prog 321=some [.int .i64 0,.int .i64 0,.str ⟨#[]⟩,.fslice [],.int .i64 0,.int .i64 0,.nilptr]:=by kernel_rfl
theorem aG9:fI prog 321 0=some (0,true,4):=by kernel_rfl
theorem aHA:fI prog 321 1=some (4,false,1):=by kernel_rfl
theorem aHB:fI prog 321 2=some (5,false,1):=by kernel_rfl
theorem aHC:fI prog 321 3=some (6,false,1):=by kernel_rfl
theorem UT:bI prog 321=some [(0,4),(4,1),(5,1),(6,1)]:=by kernel_rfl
theorem tI_324:tI prog 324=some (true,6):=by kernel_rfl
theorem zI_324:zI prog 324=some [.int .i64 0,.int .i64 0,.str ⟨#[]⟩,.fslice [],.int .i64 0,.int .i64 0]:=by kernel_rfl
theorem aHD:fI prog 324 0=some (0,true,4):=by kernel_rfl
theorem aHE:fI prog 324 1=some (4,false,1):=by kernel_rfl
theorem aHF:fI prog 324 2=some (5,false,1):=by kernel_rfl
theorem UU:bI prog 324=some [(0,4),(4,1),(5,1)]:=by kernel_rfl
theorem tI_327:tI prog 327=some (true,9):=by kernel_rfl
theorem zI_327:zI prog 327=some [.int .i64 0,.int .i64 0,.str ⟨#[]⟩,.fslice [],.int .i64 0,.nilptr,.fslice [],.int .i64 0,.int .i64 0]:=by kernel_rfl
theorem aHG:fI prog 327 0=some (0,true,4):=by kernel_rfl
theorem aHH:fI prog 327 1=some (4,false,1):=by kernel_rfl
theorem aHI:fI prog 327 2=some (5,false,1):=by kernel_rfl
theorem aHJ:fI prog 327 3=some (6,false,1):=by kernel_rfl
theorem aHK:fI prog 327 4=some (7,false,1):=by kernel_rfl
theorem aHL:fI prog 327 5=some (8,false,1):=by kernel_rfl
theorem UV:bI prog 327=some [(0,4),(4,1),(5,1),(6,1),(7,1),(8,1)]:=by kernel_rfl
theorem tI_390:tI prog 390=some (false,1):=by kernel_rfl
theorem zI_390:zI prog 390=some [.nilmap]:=by kernel_rfl
theorem tI_406:tI prog 406=some (false,1):=by kernel_rfl
theorem zI_406:zI prog 406=some [.int .u8 0]:=by kernel_rfl
theorem mixed:prog.follows .mixedOrders=true:=by kernel_rfl
theorem wF{P:Program}{g:FuncId}{fn:Func}{c:Code}{args:List AV}{st:aA}{N:Nat}{rs:List ResultVar}{K:AV→aA→Prop}(mt:List Nat)(k:Nat)(hf:P.funcs[g]?=some fn)(hN:fn.ntmps=N)(hr:fn.results=rs.toArray)(hb:fn.body=some c)(e:dK args→fT P N mt c (DA P rs.toArray K) (qW 0 args) st)(hn:(fn.name == "runtime.NumGoroutine")=false:=by kernel_rfl) (hok:codeOk N c=true:=by decide +kernel) (ha:args.length=k:=by rfl) (hk:k≤N:=by decide +kernel):aD P g args st K:=
 zw6 mt hf hN hr hb hn hok (by rw[ha];exact hk) e
theorem wP{P:Program}{N:Nat}{id:Nat}{l:List Oper}{Q:Exit→AF→aA→Prop}{φ:AF}{st:aA}(p:List (Nat×Nat))(S:List Nat)(hm:P.follows .mixedOrders=true)(h:jL P l.toArray (Q .normal) p φ st)(hok:qA N l.toArray=true:=by decide +kernel)(hl:p.length=l.length:=by decide +kernel)(hB:sV l.toArray S p (Array.replicate l.length false)=true:=by decide +kernel):fC P N (.region id l.toArray true) Q φ st:=
 zx5 p S hm hok hl hB h
theorem wX{P:Program}{N:Nat}{id:Nat}{l:List Oper}{Q:Exit→AF→aA→Prop}{φ:AF}{st:aA}(p:List (Nat×Nat))(S:List Nat)(s0:aA)(hm:P.follows .mixedOrders=true)(hf:CR p=true)(hs:fJ s0 st)(h:i8 P l.toArray s0 (Q .normal) p φ st)(hok:qA N l.toArray=true:=by decide +kernel)(hl:p.length=l.length:=by decide +kernel)(hB:sW l.toArray S p (Array.replicate l.length false)=true:=by decide +kernel):fC P N (.region id l.toArray true) Q φ st:=
 xZ p S s0 hm hok hl hB hf hs h
theorem g9{sz:Nat}{x:AV}(h1:x.width=sz)(h2:x.cells.all AV.storable=true):uV sz [x]:=by intro e he;simp only[cQ,dD,dN] at he;subst he;exact⟨h1,h2⟩
theorem bG{n:Int}(h1: -9223372036854775808≤n:=by omega)(h2:n≤9223372036854775807:=by omega):IntKind.wrap .i64 n=n:=wrap64 h1 h2
theorem MC:type_of% @Go.Proofs.Tryz.underlying2:=@Go.Proofs.Tryz.underlying2
theorem a7:type_of% @Go.Proofs.Tryz.underlying3:=@Go.Proofs.Tryz.underlying3
theorem cL:type_of% @Go.Proofs.Tryz.underlying4:=@Go.Proofs.Tryz.underlying4
theorem S3:type_of% @Go.Proofs.Tryz.underlying5:=@Go.Proofs.Tryz.underlying5
theorem uU6:type_of% @Go.Proofs.Tryz.underlying6:=@Go.Proofs.Tryz.underlying6
theorem d9:type_of% @Go.Proofs.Tryz.underlying9:=@Go.Proofs.Tryz.underlying9
theorem HC:type_of% @Go.Proofs.Tryz.underlying22:=@Go.Proofs.Tryz.underlying22
theorem rU:type_of% @Go.Proofs.Tryz.underlying23:=@Go.Proofs.Tryz.underlying23
theorem mA:type_of% @Go.Proofs.Tryz.underlying26:=@Go.Proofs.Tryz.underlying26
theorem gV:type_of% @Go.Proofs.Tryz.underlying29:=@Go.Proofs.Tryz.underlying29
theorem cF:type_of% @Go.Proofs.Tryz.underlying31:=@Go.Proofs.Tryz.underlying31
theorem a3H:type_of% @Go.Proofs.Tryz.underlying40:=@Go.Proofs.Tryz.underlying40
theorem aNN:type_of% @Go.Proofs.Tryz.underlying44:=@Go.Proofs.Tryz.underlying44
theorem eY:type_of% @Go.Proofs.Tryz.underlying46:=@Go.Proofs.Tryz.underlying46
theorem rV:type_of% @Go.Proofs.Tryz.underlying49:=@Go.Proofs.Tryz.underlying49
theorem a3K:type_of% @Go.Proofs.Tryz.underlying70:=@Go.Proofs.Tryz.underlying70
theorem a3L:type_of% @Go.Proofs.Tryz.underlying90:=@Go.Proofs.Tryz.underlying90
theorem a3M:type_of% @Go.Proofs.Tryz.underlying92:=@Go.Proofs.Tryz.underlying92
theorem a3G:type_of% @Go.Proofs.Tryz.underlying105:=@Go.Proofs.Tryz.underlying105
theorem AJ:type_of% @Go.Proofs.Tryz.underlying141:=@Go.Proofs.Tryz.underlying141
theorem DS:type_of% @Go.Proofs.Tryz.underlying147:=@Go.Proofs.Tryz.underlying147
theorem HB:type_of% @Go.Proofs.Tryz.underlying163:=@Go.Proofs.Tryz.underlying163
theorem SX:type_of% @Go.Proofs.Tryz.underlying164:=@Go.Proofs.Tryz.underlying164
theorem SY:type_of% @Go.Proofs.Tryz.underlying257:=@Go.Proofs.Tryz.underlying257
theorem SZ:type_of% @Go.Proofs.Tryz.underlying258:=@Go.Proofs.Tryz.underlying258
theorem HD:type_of% @Go.Proofs.Tryz.underlying390:=@Go.Proofs.Tryz.underlying390
theorem a3I:type_of% @Go.Proofs.Tryz.underlying406:=@Go.Proofs.Tryz.underlying406
end Go.AW
