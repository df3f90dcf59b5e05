/- Closed facts on the types of the program. -/
import Derived.Test.YthigelfjekcbmaaGreatDoorProg
import Derived.Test.YthigelfjekcbmaaGreatDoorDrsh
import Derived.KernelRfl
set_option linter.unusedSimpArgs false
set_option linter.unusedVariables false
set_option maxRecDepth 100000
namespace Go.AW
open Go.Proofs.Tryz
theorem tI_2:tI prog 2=some (false,1):=by kernel_rfl
theorem zI_2:zI prog 2=some [.int .i64 0]:=by kernel_rfl
theorem tI_3:tI prog 3=some (false,1):=by kernel_rfl
theorem zI_3:zI prog 3=some [.int .i64 0]:=by kernel_rfl
theorem tI_4:tI prog 4=some (false,1):=by kernel_rfl
theorem zI_4:zI prog 4=some [.bool false]:=by kernel_rfl
theorem aX4:zV prog 4=some (.bool false):=by kernel_rfl
theorem tI_5:tI prog 5=some (false,1):=by kernel_rfl
theorem zI_5:zI prog 5=some [.int .u8 0]:=by kernel_rfl
theorem tI_6:tI prog 6=some (false,1):=by kernel_rfl
theorem zI_6:zI prog 6=some [.int .u8 0]:=by kernel_rfl
theorem tI_9:tI prog 9=some (false,1):=by kernel_rfl
theorem zI_9:zI prog 9=some [.str ⟨#[]⟩]:=by kernel_rfl
theorem tI_22:tI prog 22=some (false,1):=by kernel_rfl
theorem zI_22:zI prog 22=some [.fslice []]:=by kernel_rfl
theorem AL:eI prog 22=some (true,5):=by kernel_rfl
theorem HC:eB prog 22=some 80:=by kernel_rfl
theorem HF:eZ prog 22=some [.int .i64 0,.int .i64 0,.str ⟨#[]⟩,.fslice [],.fslice []]:=by kernel_rfl
theorem tI_23:tI prog 23=some (false,1):=by kernel_rfl
theorem zI_23:zI prog 23=some [.fslice []]:=by kernel_rfl
theorem pZ:eI prog 23=some (true,4):=by kernel_rfl
theorem sN:eB prog 23=some 56:=by kernel_rfl
theorem sP:eZ prog 23=some [.int .i64 0,.int .i64 0,.str ⟨#[]⟩,.fslice []]:=by kernel_rfl
theorem tI_25:tI prog 25=some (true,6):=by kernel_rfl
theorem zI_25:zI prog 25=some [.fslice [],.fslice [],.int .i64 0,.int .i64 0,.int .i64 0,.int .i64 0]:=by kernel_rfl
theorem HN:fI prog 25 0=some (0,false,1):=by kernel_rfl
theorem HO:fI prog 25 1=some (1,false,1):=by kernel_rfl
theorem HP:fI prog 25 2=some (2,false,1):=by kernel_rfl
theorem HQ:fI prog 25 3=some (3,false,1):=by kernel_rfl
theorem HR:fI prog 25 4=some (4,false,1):=by kernel_rfl
theorem HS:fI prog 25 5=some (5,false,1):=by kernel_rfl
theorem GV:bI prog 25=some [(0,1),(1,1),(2,1),(3,1),(4,1),(5,1)]:=by kernel_rfl
theorem tI_27:tI prog 27=some (false,1):=by kernel_rfl
theorem zI_27:zI prog 27=some [.fslice []]:=by kernel_rfl
theorem eT:eI prog 27=some (true,5):=by kernel_rfl
theorem gO:eB prog 27=some 80:=by kernel_rfl
theorem gP:eZ prog 27=some [.int .i64 0,.int .i64 0,.str ⟨#[]⟩,.fslice [],.fslice []]:=by kernel_rfl
theorem tI_28:tI prog 28=some (false,1):=by kernel_rfl
theorem zI_28:zI prog 28=some [.fslice []]:=by kernel_rfl
theorem aQ:eI prog 28=some (true,4):=by kernel_rfl
theorem bM:eB prog 28=some 56:=by kernel_rfl
theorem bO:eZ prog 28=some [.int .i64 0,.int .i64 0,.str ⟨#[]⟩,.fslice []]:=by kernel_rfl
theorem tI_30:tI prog 30=some (true,6):=by kernel_rfl
theorem zI_30:zI prog 30=some [.fslice [],.fslice [],.int .i64 0,.int .i64 0,.int .i64 0,.int .i64 0]:=by kernel_rfl
theorem lM:fI prog 30 0=some (0,false,1):=by kernel_rfl
theorem lN:fI prog 30 1=some (1,false,1):=by kernel_rfl
theorem lO:fI prog 30 2=some (2,false,1):=by kernel_rfl
theorem lP:fI prog 30 3=some (3,false,1):=by kernel_rfl
theorem lQ:fI prog 30 4=some (4,false,1):=by kernel_rfl
theorem lR:fI prog 30 5=some (5,false,1):=by kernel_rfl
theorem lK:bI prog 30=some [(0,1),(1,1),(2,1),(3,1),(4,1),(5,1)]:=by kernel_rfl
theorem tI_31:tI prog 31=some (false,1):=by kernel_rfl
theorem zI_31:zI prog 31=some [.fslice []]:=by kernel_rfl
theorem fA:eI prog 31=some (true,1):=by kernel_rfl
theorem gY:eB prog 31=some 24:=by kernel_rfl
theorem gZ:eZ prog 31=some [.fslice []]:=by kernel_rfl
theorem tI_40:tI prog 40=some (false,1):=by kernel_rfl
theorem zI_40:zI prog 40=some [.fslice []]:=by kernel_rfl
theorem dC:eI prog 40=some (false,1):=by kernel_rfl
theorem fH:eB prog 40=some 8:=by kernel_rfl
theorem fJ:eZ prog 40=some [.int .i64 0]:=by kernel_rfl
theorem tI_47:tI prog 47=some (false,1):=by kernel_rfl
theorem zI_47:zI prog 47=some [.fslice []]:=by kernel_rfl
theorem aPU:eI prog 47=some (false,1):=by kernel_rfl
theorem aPT:eB prog 47=some 1:=by kernel_rfl
theorem aPV:eZ prog 47=some [.int .u8 0]:=by kernel_rfl
theorem tI_52:tI prog 52=some (true,4):=by kernel_rfl
theorem zI_52:zI prog 52=some [.int .i64 0,.int .i64 0,.str ⟨#[]⟩,.fslice []]:=by kernel_rfl
theorem aX5:zV prog 52=some (.agg [.int .i64 0,.int .i64 0,.str ⟨#[]⟩,.fslice []]):=by kernel_rfl
theorem bX:fI prog 52 0=some (0,false,1):=by kernel_rfl
theorem bY:fI prog 52 1=some (1,false,1):=by kernel_rfl
theorem bZ:fI prog 52 2=some (2,false,1):=by kernel_rfl
theorem b7:fI prog 52 3=some (3,false,1):=by kernel_rfl
theorem bV:bI prog 52=some [(0,1),(1,1),(2,1),(3,1)]:=by kernel_rfl
theorem tI_55:tI prog 55=some (true,1):=by kernel_rfl
theorem zI_55:zI prog 55=some [.fslice []]:=by kernel_rfl
theorem v7:fI prog 55 0=some (0,false,1):=by kernel_rfl
theorem vR:bI prog 55=some [(0,1)]:=by kernel_rfl
theorem tI_91:tI prog 91=some (false,1):=by kernel_rfl
theorem zI_91:zI prog 91=some [.nilptr]:=by kernel_rfl
theorem tI_111:tI prog 111=some (true,5):=by kernel_rfl
theorem zI_111:zI prog 111=some [.int .i64 0,.int .i64 0,.str ⟨#[]⟩,.fslice [],.fslice []]:=by kernel_rfl
theorem kS:fI prog 111 0=some (0,true,4):=by kernel_rfl
theorem kT:fI prog 111 1=some (4,false,1):=by kernel_rfl
theorem kQ:bI prog 111=some [(0,4),(4,1)]:=by kernel_rfl
theorem tI_118:tI prog 118=some (true,4):=by kernel_rfl
theorem zI_118:zI prog 118=some [.int .i64 0,.int .i64 0,.str ⟨#[]⟩,.fslice []]:=by kernel_rfl
theorem v3:fI prog 118 0=some (0,false,1):=by kernel_rfl
theorem v4:fI prog 118 1=some (1,false,1):=by kernel_rfl
theorem v5:fI prog 118 2=some (2,false,1):=by kernel_rfl
theorem v6:fI prog 118 3=some (3,false,1):=by kernel_rfl
theorem vQ:bI prog 118=some [(0,1),(1,1),(2,1),(3,1)]:=by kernel_rfl
theorem tI_120:tI prog 120=some (true,5):=by kernel_rfl
theorem zI_120:zI prog 120=some [.int .i64 0,.int .i64 0,.str ⟨#[]⟩,.fslice [],.fslice []]:=by kernel_rfl
theorem AU:fI prog 120 0=some (0,true,4):=by kernel_rfl
theorem AX:fI prog 120 1=some (4,false,1):=by kernel_rfl
theorem AA:bI prog 120=some [(0,4),(4,1)]:=by kernel_rfl
theorem tI_138:tI prog 138=some (false,1):=by kernel_rfl
theorem zI_138:zI prog 138=some [.fslice []]:=by kernel_rfl
theorem vX:eI prog 138=some (false,1):=by kernel_rfl
theorem AJ:eB prog 138=some 16:=by kernel_rfl
theorem AM:eZ prog 138=some [.str ⟨#[]⟩]:=by kernel_rfl
theorem tI_150:tI prog 150=some (false,1):=by kernel_rfl
theorem zI_150:zI prog 150=some [.nilptr]:=by kernel_rfl
theorem tI_156:tI prog 156=some (false,1):=by kernel_rfl
theorem zI_156:zI prog 156=some [.fslice []]:=by kernel_rfl
theorem tZ:eI prog 156=some (true,5):=by kernel_rfl
theorem xL:eB prog 156=some 64:=by kernel_rfl
theorem xN:eZ prog 156=some [.int .i64 0,.int .i64 0,.str ⟨#[]⟩,.fslice [],.int .i64 0]:=by kernel_rfl
theorem tI_157:tI prog 157=some (false,1):=by kernel_rfl
theorem zI_157:zI prog 157=some [.fslice []]:=by kernel_rfl
theorem vY:eI prog 157=some (true,7):=by kernel_rfl
theorem DM:eB prog 157=some 128:=by kernel_rfl
theorem DN:eZ prog 157=some [.int .i64 0,.int .i64 0,.str ⟨#[]⟩,.fslice [],.fslice [],.fslice [],.fslice []]:=by kernel_rfl
theorem tI_159:tI prog 159=some (true,3):=by kernel_rfl
theorem zI_159:zI prog 159=some [.fslice [],.fslice [],.fslice []]:=by kernel_rfl
theorem DO:fI prog 159 0=some (0,false,1):=by kernel_rfl
theorem DP:fI prog 159 1=some (1,false,1):=by kernel_rfl
theorem DQ:fI prog 159 2=some (2,false,1):=by kernel_rfl
theorem C7:bI prog 159=some [(0,1),(1,1),(2,1)]:=by kernel_rfl
theorem tI_178:tI prog 178=some (false,1):=by kernel_rfl
theorem zI_178:zI prog 178=some [.nilptr]:=by kernel_rfl
theorem tI_180:tI prog 180=some (false,1):=by kernel_rfl
theorem zI_180:zI prog 180=some [.nilptr]:=by kernel_rfl
theorem tI_181:tI prog 181=some (false,1):=by kernel_rfl
theorem zI_181:zI prog 181=some [.fslice []]:=by kernel_rfl
theorem xM:eI prog 181=some (true,9):=by kernel_rfl
theorem HA:eB prog 181=some 112:=by kernel_rfl
theorem HD:eZ prog 181=some [.int .i64 0,.int .i64 0,.str ⟨#[]⟩,.fslice [],.int .i64 0,.nilptr,.fslice [],.int .i64 0,.int .i64 0]:=by kernel_rfl
theorem tI_182:tI prog 182=some (false,1):=by kernel_rfl
theorem zI_182:zI prog 182=some [.fslice []]:=by kernel_rfl
theorem AK:eI prog 182=some (true,6):=by kernel_rfl
theorem HB:eB prog 182=some 72:=by kernel_rfl
theorem HE:eZ prog 182=some [.int .i64 0,.int .i64 0,.str ⟨#[]⟩,.fslice [],.int .i64 0,.int .i64 0]:=by kernel_rfl
theorem tI_184:tI prog 184=some (true,12):=by kernel_rfl
theorem zI_184:zI prog 184=some [.nilptr,.fslice [],.fslice [],.bool false,.bool false,.int .i64 0,.int .i64 0,.int .i64 0,.nilptr,.fslice [],.fslice [],.int .i64 0]:=by kernel_rfl
theorem DR:fI prog 184 0=some (0,false,1):=by kernel_rfl
theorem DS:fI prog 184 1=some (1,false,1):=by kernel_rfl
theorem DV:fI prog 184 2=some (2,false,1):=by kernel_rfl
theorem DW:fI prog 184 3=some (3,false,1):=by kernel_rfl
theorem DX:fI prog 184 4=some (4,false,1):=by kernel_rfl
theorem DY:fI prog 184 5=some (5,false,1):=by kernel_rfl
theorem DZ:fI prog 184 6=some (6,false,1):=by kernel_rfl
theorem D0:fI prog 184 7=some (7,false,1):=by kernel_rfl
theorem D1:fI prog 184 8=some (8,false,1):=by kernel_rfl
theorem D3:fI prog 184 9=some (9,false,1):=by kernel_rfl
theorem DT:fI prog 184 10=some (10,false,1):=by kernel_rfl
theorem DU:fI prog 184 11=some (11,false,1):=by kernel_rfl
theorem C8:bI prog 184=some [(0,1),(1,1),(2,1),(3,1),(4,1),(5,1),(6,1),(7,1),(8,1),(9,1),(10,1),(11,1)]:=by kernel_rfl
theorem tI_193:tI prog 193=some (true,5):=by kernel_rfl
theorem zI_193:zI prog 193=some [.int .i64 0,.int .i64 0,.str ⟨#[]⟩,.fslice [],.int .i64 0]:=by kernel_rfl
theorem aEH:fI prog 193 0=some (0,true,4):=by kernel_rfl
theorem aEI:fI prog 193 1=some (4,false,1):=by kernel_rfl
theorem RW:bI prog 193=some [(0,4),(4,1)]:=by kernel_rfl
theorem tI_199:tI prog 199=some (true,7):=by kernel_rfl
theorem zI_199:zI prog 199=some [.int .i64 0,.int .i64 0,.str ⟨#[]⟩,.fslice [],.fslice [],.fslice [],.fslice []]:=by kernel_rfl
theorem MO:fI prog 199 0=some (0,true,4):=by kernel_rfl
theorem MP:fI prog 199 1=some (4,false,1):=by kernel_rfl
theorem MQ:fI prog 199 2=some (5,false,1):=by kernel_rfl
theorem MR:fI prog 199 3=some (6,false,1):=by kernel_rfl
theorem LS:bI prog 199=some [(0,4),(4,1),(5,1),(6,1)]:=by kernel_rfl
theorem tI_207:tI prog 207=some (false,1):=by kernel_rfl
theorem zI_207:zI prog 207=some [.nilmap]:=by kernel_rfl
theorem tI_209:tI prog 209=some (true,2):=by kernel_rfl
theorem zI_209:zI prog 209=some [.nilmap,.fslice []]:=by kernel_rfl
theorem AY:fI prog 209 0=some (0,false,1):=by kernel_rfl
theorem AZ:fI prog 209 1=some (1,false,1):=by kernel_rfl
theorem AB:bI prog 209=some [(0,1),(1,1)]:=by kernel_rfl
theorem tI_211:tI prog 211=some (true,7):=by kernel_rfl
theorem zI_211:zI prog 211=some [.int .i64 0,.int .i64 0,.str ⟨#[]⟩,.fslice [],.int .i64 0,.int .i64 0,.nilptr]:=by kernel_rfl
theorem aEJ:fI prog 211 0=some (0,true,4):=by kernel_rfl
theorem aEK:fI prog 211 1=some (4,false,1):=by kernel_rfl
theorem aEL:fI prog 211 2=some (5,false,1):=by kernel_rfl
theorem aEM:fI prog 211 3=some (6,false,1):=by kernel_rfl
theorem RX:bI prog 211=some [(0,4),(4,1),(5,1),(6,1)]:=by kernel_rfl
theorem tI_215:tI prog 215=some (true,6):=by kernel_rfl
theorem zI_215:zI prog 215=some [.int .i64 0,.int .i64 0,.str ⟨#[]⟩,.fslice [],.int .i64 0,.int .i64 0]:=by kernel_rfl
theorem aEN:fI prog 215 0=some (0,true,4):=by kernel_rfl
theorem aEO:fI prog 215 1=some (4,false,1):=by kernel_rfl
theorem aEP:fI prog 215 2=some (5,false,1):=by kernel_rfl
theorem RY:bI prog 215=some [(0,4),(4,1),(5,1)]:=by kernel_rfl
theorem tI_219:tI prog 219=some (true,2):=by kernel_rfl
theorem zI_219:zI prog 219=some [.str ⟨#[]⟩,.int .i64 0]:=by kernel_rfl
theorem MS:fI prog 219 0=some (0,false,1):=by kernel_rfl
theorem MT:fI prog 219 1=some (1,false,1):=by kernel_rfl
theorem LT:bI prog 219=some [(0,1),(1,1)]:=by kernel_rfl
theorem tI_224:tI prog 224=some (true,9):=by kernel_rfl
theorem zI_224:zI prog 224=some [.int .i64 0,.int .i64 0,.str ⟨#[]⟩,.fslice [],.int .i64 0,.nilptr,.fslice [],.int .i64 0,.int .i64 0]:=by kernel_rfl
theorem aEQ:fI prog 224 0=some (0,true,4):=by kernel_rfl
theorem aER:fI prog 224 1=some (4,false,1):=by kernel_rfl
theorem aES:fI prog 224 2=some (5,false,1):=by kernel_rfl
theorem aET:fI prog 224 3=some (6,false,1):=by kernel_rfl
theorem aEU:fI prog 224 4=some (7,false,1):=by kernel_rfl
theorem aEV:fI prog 224 5=some (8,false,1):=by kernel_rfl
theorem RZ:bI prog 224=some [(0,4),(4,1),(5,1),(6,1),(7,1),(8,1)]:=by kernel_rfl
theorem tI_240:tI prog 240=some (false,1):=by kernel_rfl
theorem zI_240:zI prog 240=some [.nilptr]:=by kernel_rfl
theorem tI_272:tI prog 272=some (false,1):=by kernel_rfl
theorem zI_272:zI prog 272=some [.nilmap]:=by kernel_rfl
theorem tI_291:tI prog 291=some (true,0):=by kernel_rfl
theorem zI_291:zI prog 291=some []:=by kernel_rfl
theorem aLB:aI prog 291=some (0,false,1):=by kernel_rfl
theorem tI_300:tI prog 300=some (true,11):=by kernel_rfl
theorem zI_300:zI prog 300=some [.int .u64 0,.int .u64 0,.int .u32 0,.int .u8 0,.int .u8 0,.int .u8 0,.int .u8 0,.raw .nilFunc,.nilptr,.int .i32 0,.int .i32 0]:=by kernel_rfl
theorem aEW:fI prog 300 0=some (0,false,1):=by kernel_rfl
theorem aEX:fI prog 300 1=some (1,false,1):=by kernel_rfl
theorem aEZ:fI prog 300 2=some (2,false,1):=by kernel_rfl
theorem aE0:fI prog 300 3=some (3,false,1):=by kernel_rfl
theorem aE1:fI prog 300 4=some (4,false,1):=by kernel_rfl
theorem aE2:fI prog 300 5=some (5,false,1):=by kernel_rfl
theorem aE3:fI prog 300 6=some (6,false,1):=by kernel_rfl
theorem aE4:fI prog 300 7=some (7,false,1):=by kernel_rfl
theorem aE5:fI prog 300 8=some (8,false,1):=by kernel_rfl
theorem aE6:fI prog 300 9=some (9,false,1):=by kernel_rfl
theorem aEY:fI prog 300 10=some (10,false,1):=by kernel_rfl
theorem R5:bI prog 300=some [(0,1),(1,1),(2,1),(3,1),(4,1),(5,1),(6,1),(7,1),(8,1),(9,1),(10,1)]:=by kernel_rfl
theorem mixed:prog.follows .mixedOrders=true:=by kernel_rfl
theorem wF{P:Program}{g:FuncId}{fn:Func}{c:Code}{args:List AV}{st:aA}{N:Nat}{rs:List ResultVar}{K:AV→aA→Prop}(mt:List Nat)(k:Nat)(hf:P.funcs[g]?=some fn)(hN:fn.ntmps=N)(hr:fn.results=rs.toArray)(hb:fn.body=some c)(e:dK args→fO P N mt c (E8 P rs.toArray K) (sG 0 args) st)(hn:(fn.name == "runtime.NumGoroutine")=false:=by kernel_rfl) (hok:codeOk N c=true:=by decide +kernel) (ha:args.length=k:=by rfl) (hk:k≤N:=by decide +kernel):aD P g args st K:=
 zw6 mt hf hN hr hb hn hok (by rw[ha];exact hk) e
theorem wP{P:Program}{N:Nat}{id:Nat}{l:List Oper}{Q:Exit→AF→aA→Prop}{φ:AF}{st:aA}(p:List (Nat×Nat))(S:List Nat)(hm:P.follows .mixedOrders=true)(h:iT P l.toArray (Q .normal) p φ st)(hok:pF N l.toArray=true:=by decide +kernel)(hl:p.length=l.length:=by decide +kernel)(hB:rV l.toArray S p (Array.replicate l.length false)=true:=by decide +kernel):fW P N (.region id l.toArray true) Q φ st:=
 zx5 p S hm hok hl hB h
theorem wX{P:Program}{N:Nat}{id:Nat}{l:List Oper}{Q:Exit→AF→aA→Prop}{φ:AF}{st:aA}(p:List (Nat×Nat))(S:List Nat)(s0:aA)(hm:P.follows .mixedOrders=true)(hf:BF p=true)(hs:e7 s0 st)(h:iM P l.toArray s0 (Q .normal) p φ st)(hok:pF N l.toArray=true:=by decide +kernel)(hl:p.length=l.length:=by decide +kernel)(hB:rW l.toArray S p (Array.replicate l.length false)=true:=by decide +kernel):fW P N (.region id l.toArray true) Q φ st:=
 tK p S s0 hm hok hl hB hf hs h
theorem g9{sz:Nat}{x:AV}(h1:x.width=sz)(h2:x.cells.all AV.storable=true):tU sz [x]:=by intro e he;simp only[cP,dI,dN] at he;subst he;exact⟨h1,h2⟩
theorem bK{n:Int}(h1: -9223372036854775808≤n:=by omega)(h2:n≤9223372036854775807:=by omega):IntKind.wrap .i64 n=n:=wrap64 h1 h2
theorem KI:type_of% @Go.Proofs.Tryz.underlying2:=@Go.Proofs.Tryz.underlying2
theorem aZ:type_of% @Go.Proofs.Tryz.underlying3:=@Go.Proofs.Tryz.underlying3
theorem cG:type_of% @Go.Proofs.Tryz.underlying4:=@Go.Proofs.Tryz.underlying4
theorem QE:type_of% @Go.Proofs.Tryz.underlying5:=@Go.Proofs.Tryz.underlying5
theorem uU6:type_of% @Go.Proofs.Tryz.underlying6:=@Go.Proofs.Tryz.underlying6
theorem eF:type_of% @Go.Proofs.Tryz.underlying9:=@Go.Proofs.Tryz.underlying9
theorem FX:type_of% @Go.Proofs.Tryz.underlying22:=@Go.Proofs.Tryz.underlying22
theorem qM:type_of% @Go.Proofs.Tryz.underlying23:=@Go.Proofs.Tryz.underlying23
theorem aXH:type_of% @Go.Proofs.Tryz.underlying25:=@Go.Proofs.Tryz.underlying25
theorem iD:type_of% @Go.Proofs.Tryz.underlying27:=@Go.Proofs.Tryz.underlying27
theorem cA:type_of% @Go.Proofs.Tryz.underlying28:=@Go.Proofs.Tryz.underlying28
theorem k9:type_of% @Go.Proofs.Tryz.underlying31:=@Go.Proofs.Tryz.underlying31
theorem fL:type_of% @Go.Proofs.Tryz.underlying40:=@Go.Proofs.Tryz.underlying40
theorem aXI:type_of% @Go.Proofs.Tryz.underlying47:=@Go.Proofs.Tryz.underlying47
theorem aXF:type_of% @Go.Proofs.Tryz.underlying118:=@Go.Proofs.Tryz.underlying118
theorem aXG:type_of% @Go.Proofs.Tryz.underlying120:=@Go.Proofs.Tryz.underlying120
theorem CB:type_of% @Go.Proofs.Tryz.underlying138:=@Go.Proofs.Tryz.underlying138
theorem FW:type_of% @Go.Proofs.Tryz.underlying156:=@Go.Proofs.Tryz.underlying156
theorem QB:type_of% @Go.Proofs.Tryz.underlying157:=@Go.Proofs.Tryz.underlying157
theorem QC:type_of% @Go.Proofs.Tryz.underlying181:=@Go.Proofs.Tryz.underlying181
theorem QD:type_of% @Go.Proofs.Tryz.underlying182:=@Go.Proofs.Tryz.underlying182
theorem yS:type_of% @Go.Proofs.Tryz.underlying207:=@Go.Proofs.Tryz.underlying207
theorem FY:type_of% @Go.Proofs.Tryz.underlying272:=@Go.Proofs.Tryz.underlying272
end Go.AW
