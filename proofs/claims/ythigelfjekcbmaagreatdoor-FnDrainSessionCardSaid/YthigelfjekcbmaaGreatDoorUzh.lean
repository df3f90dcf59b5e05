/- Closed facts on the types of the program. -/
import Derived.Test.YthigelfjekcbmaaGreatDoorProg
import Derived.Test.YthigelfjekcbmaaGreatDoorUzg
import Derived.KernelRfl
set_option linter.unusedSimpArgs false
set_option linter.unusedVariables false
set_option maxRecDepth 100000
namespace Go.AW
open Go.Proofs.Tryz
theorem tI_2:tI prog 2=some (false,1):=by kernel_rfl
theorem zI_2:zI prog 2=some [.int .i64 0]:=by kernel_rfl
theorem tI_3:tI prog 3=some (false,1):=by kernel_rfl
theorem zI_3:zI prog 3=some [.int .i64 0]:=by kernel_rfl
theorem tI_4:tI prog 4=some (false,1):=by kernel_rfl
theorem zI_4:zI prog 4=some [.bool false]:=by kernel_rfl
theorem a8W:zV prog 4=some (.bool false):=by kernel_rfl
theorem tI_5:tI prog 5=some (false,1):=by kernel_rfl
theorem zI_5:zI prog 5=some [.int .u8 0]:=by kernel_rfl
theorem tI_6:tI prog 6=some (false,1):=by kernel_rfl
theorem zI_6:zI prog 6=some [.int .u8 0]:=by kernel_rfl
theorem tI_8:tI prog 8=some (true,4):=by kernel_rfl
theorem zI_8:zI prog 8=some [.int .i64 0,.int .i64 0,.bool false,.int .u8 0]:=by kernel_rfl
theorem zZ:fI prog 8 0=some (0,false,1):=by kernel_rfl
theorem z5:fI prog 8 1=some (1,false,1):=by kernel_rfl
theorem z6:fI prog 8 2=some (2,false,1):=by kernel_rfl
theorem z7:fI prog 8 3=some (3,false,1):=by kernel_rfl
theorem zL:bI prog 8=some [(0,1),(1,1),(2,1),(3,1)]:=by kernel_rfl
theorem tI_9:tI prog 9=some (false,1):=by kernel_rfl
theorem zI_9:zI prog 9=some [.str ⟨#[]⟩]:=by kernel_rfl
theorem tI_10:tI prog 10=some (false,1):=by kernel_rfl
theorem zI_10:zI prog 10=some [.str ⟨#[]⟩]:=by kernel_rfl
theorem tI_23:tI prog 23=some (false,1):=by kernel_rfl
theorem zI_23:zI prog 23=some [.fslice []]:=by kernel_rfl
theorem aCA:eI prog 23=some (true,4):=by kernel_rfl
theorem aB8:eB prog 23=some 56:=by kernel_rfl
theorem aCB:eZ prog 23=some [.int .i64 0,.int .i64 0,.str ⟨#[]⟩,.fslice []]:=by kernel_rfl
theorem tI_24:tI prog 24=some (true,6):=by kernel_rfl
theorem zI_24:zI prog 24=some [.fslice [],.fslice [],.int .i64 0,.int .i64 0,.int .i64 0,.int .i64 0]:=by kernel_rfl
theorem aZ7:fI prog 24 0=some (0,false,1):=by kernel_rfl
theorem aZ8:fI prog 24 1=some (1,false,1):=by kernel_rfl
theorem aZ9:fI prog 24 2=some (2,false,1):=by kernel_rfl
theorem a0A:fI prog 24 3=some (3,false,1):=by kernel_rfl
theorem a0B:fI prog 24 4=some (4,false,1):=by kernel_rfl
theorem a0C:fI prog 24 5=some (5,false,1):=by kernel_rfl
theorem aUY:bI prog 24=some [(0,1),(1,1),(2,1),(3,1),(4,1),(5,1)]:=by kernel_rfl
theorem tI_25:tI prog 25=some (true,6):=by kernel_rfl
theorem zI_25:zI prog 25=some [.fslice [],.fslice [],.int .i64 0,.int .i64 0,.int .i64 0,.int .i64 0]:=by kernel_rfl
theorem a0D:fI prog 25 0=some (0,false,1):=by kernel_rfl
theorem a0E:fI prog 25 1=some (1,false,1):=by kernel_rfl
theorem a0F:fI prog 25 2=some (2,false,1):=by kernel_rfl
theorem a0G:fI prog 25 3=some (3,false,1):=by kernel_rfl
theorem a0H:fI prog 25 4=some (4,false,1):=by kernel_rfl
theorem a0I:fI prog 25 5=some (5,false,1):=by kernel_rfl
theorem aUZ:bI prog 25=some [(0,1),(1,1),(2,1),(3,1),(4,1),(5,1)]:=by kernel_rfl
theorem tI_27:tI prog 27=some (false,1):=by kernel_rfl
theorem zI_27:zI prog 27=some [.fslice []]:=by kernel_rfl
theorem eH:eI prog 27=some (true,5):=by kernel_rfl
theorem gK:eB prog 27=some 80:=by kernel_rfl
theorem gN:eZ prog 27=some [.int .i64 0,.int .i64 0,.str ⟨#[]⟩,.fslice [],.fslice []]:=by kernel_rfl
theorem tI_28:tI prog 28=some (false,1):=by kernel_rfl
theorem zI_28:zI prog 28=some [.fslice []]:=by kernel_rfl
theorem aO:eI prog 28=some (true,4):=by kernel_rfl
theorem bF:eB prog 28=some 56:=by kernel_rfl
theorem bG:eZ prog 28=some [.int .i64 0,.int .i64 0,.str ⟨#[]⟩,.fslice []]:=by kernel_rfl
theorem tI_30:tI prog 30=some (true,6):=by kernel_rfl
theorem zI_30:zI prog 30=some [.fslice [],.fslice [],.int .i64 0,.int .i64 0,.int .i64 0,.int .i64 0]:=by kernel_rfl
theorem iL:fI prog 30 0=some (0,false,1):=by kernel_rfl
theorem iM:fI prog 30 1=some (1,false,1):=by kernel_rfl
theorem iN:fI prog 30 2=some (2,false,1):=by kernel_rfl
theorem iO:fI prog 30 3=some (3,false,1):=by kernel_rfl
theorem iP:fI prog 30 4=some (4,false,1):=by kernel_rfl
theorem iQ:fI prog 30 5=some (5,false,1):=by kernel_rfl
theorem iK:bI prog 30=some [(0,1),(1,1),(2,1),(3,1),(4,1),(5,1)]:=by kernel_rfl
theorem tI_31:tI prog 31=some (false,1):=by kernel_rfl
theorem zI_31:zI prog 31=some [.fslice []]:=by kernel_rfl
theorem gM:eI prog 31=some (true,1):=by kernel_rfl
theorem jX:eB prog 31=some 24:=by kernel_rfl
theorem jY:eZ prog 31=some [.fslice []]:=by kernel_rfl
theorem tI_40:tI prog 40=some (false,1):=by kernel_rfl
theorem zI_40:zI prog 40=some [.fslice []]:=by kernel_rfl
theorem dT:eI prog 40=some (false,1):=by kernel_rfl
theorem fJ:eB prog 40=some 8:=by kernel_rfl
theorem fK:eZ prog 40=some [.int .i64 0]:=by kernel_rfl
theorem tI_47:tI prog 47=some (false,1):=by kernel_rfl
theorem zI_47:zI prog 47=some [.fslice []]:=by kernel_rfl
theorem mU:eI prog 47=some (false,1):=by kernel_rfl
theorem pT:eB prog 47=some 1:=by kernel_rfl
theorem pU:eZ prog 47=some [.int .u8 0]:=by kernel_rfl
theorem tI_52:tI prog 52=some (true,4):=by kernel_rfl
theorem zI_52:zI prog 52=some [.int .i64 0,.int .i64 0,.str ⟨#[]⟩,.fslice []]:=by kernel_rfl
theorem a8X:zV prog 52=some (.agg [.int .i64 0,.int .i64 0,.str ⟨#[]⟩,.fslice []]):=by kernel_rfl
theorem bU:fI prog 52 0=some (0,false,1):=by kernel_rfl
theorem bV:fI prog 52 1=some (1,false,1):=by kernel_rfl
theorem bX:fI prog 52 2=some (2,false,1):=by kernel_rfl
theorem bY:fI prog 52 3=some (3,false,1):=by kernel_rfl
theorem bT:bI prog 52=some [(0,1),(1,1),(2,1),(3,1)]:=by kernel_rfl
theorem tI_55:tI prog 55=some (true,1):=by kernel_rfl
theorem zI_55:zI prog 55=some [.fslice []]:=by kernel_rfl
theorem CL:fI prog 55 0=some (0,false,1):=by kernel_rfl
theorem B1:bI prog 55=some [(0,1)]:=by kernel_rfl
theorem tI_91:tI prog 91=some (false,1):=by kernel_rfl
theorem zI_91:zI prog 91=some [.nilptr]:=by kernel_rfl
theorem tI_111:tI prog 111=some (true,5):=by kernel_rfl
theorem zI_111:zI prog 111=some [.int .i64 0,.int .i64 0,.str ⟨#[]⟩,.fslice [],.fslice []]:=by kernel_rfl
theorem kT:fI prog 111 0=some (0,true,4):=by kernel_rfl
theorem kU:fI prog 111 1=some (4,false,1):=by kernel_rfl
theorem kQ:bI prog 111=some [(0,4),(4,1)]:=by kernel_rfl
theorem tI_117:tI prog 117=some (true,4):=by kernel_rfl
theorem zI_117:zI prog 117=some [.int .i64 0,.int .i64 0,.str ⟨#[]⟩,.fslice []]:=by kernel_rfl
theorem aMC:fI prog 117 0=some (0,false,1):=by kernel_rfl
theorem aMD:fI prog 117 1=some (1,false,1):=by kernel_rfl
theorem aME:fI prog 117 2=some (2,false,1):=by kernel_rfl
theorem aMF:fI prog 117 3=some (3,false,1):=by kernel_rfl
theorem ZM:bI prog 117=some [(0,1),(1,1),(2,1),(3,1)]:=by kernel_rfl
theorem tI_118:tI prog 118=some (true,4):=by kernel_rfl
theorem zI_118:zI prog 118=some [.int .i64 0,.int .i64 0,.str ⟨#[]⟩,.fslice []]:=by kernel_rfl
theorem aMG:fI prog 118 0=some (0,false,1):=by kernel_rfl
theorem aMH:fI prog 118 1=some (1,false,1):=by kernel_rfl
theorem aMI:fI prog 118 2=some (2,false,1):=by kernel_rfl
theorem aMJ:fI prog 118 3=some (3,false,1):=by kernel_rfl
theorem ZN:bI prog 118=some [(0,1),(1,1),(2,1),(3,1)]:=by kernel_rfl
theorem tI_120:tI prog 120=some (true,5):=by kernel_rfl
theorem zI_120:zI prog 120=some [.int .i64 0,.int .i64 0,.str ⟨#[]⟩,.fslice [],.fslice []]:=by kernel_rfl
theorem aMK:fI prog 120 0=some (0,true,4):=by kernel_rfl
theorem aML:fI prog 120 1=some (4,false,1):=by kernel_rfl
theorem ZO:bI prog 120=some [(0,4),(4,1)]:=by kernel_rfl
theorem tI_122:tI prog 122=some (true,3):=by kernel_rfl
theorem zI_122:zI prog 122=some [.fslice [],.int .i64 0,.int .i64 0]:=by kernel_rfl
theorem aZ4:fI prog 122 0=some (0,false,1):=by kernel_rfl
theorem aZ5:fI prog 122 1=some (1,false,1):=by kernel_rfl
theorem aZ6:fI prog 122 2=some (2,false,1):=by kernel_rfl
theorem aUX:bI prog 122=some [(0,1),(1,1),(2,1)]:=by kernel_rfl
theorem tI_137:tI prog 137=some (true,2):=by kernel_rfl
theorem zI_137:zI prog 137=some [.fslice [],.int .i64 0]:=by kernel_rfl
theorem aMM:fI prog 137 0=some (0,false,1):=by kernel_rfl
theorem aMN:fI prog 137 1=some (1,false,1):=by kernel_rfl
theorem ZP:bI prog 137=some [(0,1),(1,1)]:=by kernel_rfl
theorem tI_138:tI prog 138=some (false,1):=by kernel_rfl
theorem zI_138:zI prog 138=some [.fslice []]:=by kernel_rfl
theorem j9:eI prog 138=some (false,1):=by kernel_rfl
theorem nQ:eB prog 138=some 16:=by kernel_rfl
theorem nR:eZ prog 138=some [.str ⟨#[]⟩]:=by kernel_rfl
theorem tI_142:tI prog 142=some (false,1):=by kernel_rfl
theorem zI_142:zI prog 142=some [.fslice []]:=by kernel_rfl
theorem aB9:eI prog 142=some (false,1):=by kernel_rfl
theorem aZF:eB prog 142=some 24:=by kernel_rfl
theorem aZG:eZ prog 142=some [.fslice []]:=by kernel_rfl
theorem tI_150:tI prog 150=some (false,1):=by kernel_rfl
theorem zI_150:zI prog 150=some [.nilptr]:=by kernel_rfl
theorem tI_156:tI prog 156=some (false,1):=by kernel_rfl
theorem zI_156:zI prog 156=some [.fslice []]:=by kernel_rfl
theorem xG:eI prog 156=some (true,5):=by kernel_rfl
theorem CF:eB prog 156=some 64:=by kernel_rfl
theorem CH:eZ prog 156=some [.int .i64 0,.int .i64 0,.str ⟨#[]⟩,.fslice [],.int .i64 0]:=by kernel_rfl
theorem tI_157:tI prog 157=some (false,1):=by kernel_rfl
theorem zI_157:zI prog 157=some [.fslice []]:=by kernel_rfl
theorem zX:eI prog 157=some (true,7):=by kernel_rfl
theorem IM:eB prog 157=some 128:=by kernel_rfl
theorem IN:eZ prog 157=some [.int .i64 0,.int .i64 0,.str ⟨#[]⟩,.fslice [],.fslice [],.fslice [],.fslice []]:=by kernel_rfl
theorem tI_159:tI prog 159=some (true,3):=by kernel_rfl
theorem zI_159:zI prog 159=some [.fslice [],.fslice [],.fslice []]:=by kernel_rfl
theorem IP:fI prog 159 0=some (0,false,1):=by kernel_rfl
theorem IQ:fI prog 159 1=some (1,false,1):=by kernel_rfl
theorem IR:fI prog 159 2=some (2,false,1):=by kernel_rfl
theorem HZ:bI prog 159=some [(0,1),(1,1),(2,1)]:=by kernel_rfl
theorem tI_178:tI prog 178=some (false,1):=by kernel_rfl
theorem zI_178:zI prog 178=some [.nilptr]:=by kernel_rfl
theorem tI_180:tI prog 180=some (false,1):=by kernel_rfl
theorem zI_180:zI prog 180=some [.nilptr]:=by kernel_rfl
theorem tI_181:tI prog 181=some (false,1):=by kernel_rfl
theorem zI_181:zI prog 181=some [.fslice []]:=by kernel_rfl
theorem CG:eI prog 181=some (true,9):=by kernel_rfl
theorem MY:eB prog 181=some 112:=by kernel_rfl
theorem M0:eZ prog 181=some [.int .i64 0,.int .i64 0,.str ⟨#[]⟩,.fslice [],.int .i64 0,.nilptr,.fslice [],.int .i64 0,.int .i64 0]:=by kernel_rfl
theorem tI_182:tI prog 182=some (false,1):=by kernel_rfl
theorem zI_182:zI prog 182=some [.fslice []]:=by kernel_rfl
theorem E8:eI prog 182=some (true,6):=by kernel_rfl
theorem MZ:eB prog 182=some 72:=by kernel_rfl
theorem M1:eZ prog 182=some [.int .i64 0,.int .i64 0,.str ⟨#[]⟩,.fslice [],.int .i64 0,.int .i64 0]:=by kernel_rfl
theorem tI_184:tI prog 184=some (true,12):=by kernel_rfl
theorem zI_184:zI prog 184=some [.nilptr,.fslice [],.fslice [],.bool false,.bool false,.int .i64 0,.int .i64 0,.int .i64 0,.nilptr,.fslice [],.fslice [],.int .i64 0]:=by kernel_rfl
theorem IT:fI prog 184 0=some (0,false,1):=by kernel_rfl
theorem IU:fI prog 184 1=some (1,false,1):=by kernel_rfl
theorem IY:fI prog 184 2=some (2,false,1):=by kernel_rfl
theorem IZ:fI prog 184 3=some (3,false,1):=by kernel_rfl
theorem I0:fI prog 184 4=some (4,false,1):=by kernel_rfl
theorem I1:fI prog 184 5=some (5,false,1):=by kernel_rfl
theorem I2:fI prog 184 6=some (6,false,1):=by kernel_rfl
theorem I3:fI prog 184 7=some (7,false,1):=by kernel_rfl
theorem I4:fI prog 184 8=some (8,false,1):=by kernel_rfl
theorem I5:fI prog 184 9=some (9,false,1):=by kernel_rfl
theorem IV:fI prog 184 10=some (10,false,1):=by kernel_rfl
theorem IW:fI prog 184 11=some (11,false,1):=by kernel_rfl
theorem H0:bI prog 184=some [(0,1),(1,1),(2,1),(3,1),(4,1),(5,1),(6,1),(7,1),(8,1),(9,1),(10,1),(11,1)]:=by kernel_rfl
theorem tI_193:tI prog 193=some (true,5):=by kernel_rfl
theorem zI_193:zI prog 193=some [.int .i64 0,.int .i64 0,.str ⟨#[]⟩,.fslice [],.int .i64 0]:=by kernel_rfl
theorem aMO:fI prog 193 0=some (0,true,4):=by kernel_rfl
theorem aMP:fI prog 193 1=some (4,false,1):=by kernel_rfl
theorem ZQ:bI prog 193=some [(0,4),(4,1)]:=by kernel_rfl
theorem tI_199:tI prog 199=some (true,7):=by kernel_rfl
theorem zI_199:zI prog 199=some [.int .i64 0,.int .i64 0,.str ⟨#[]⟩,.fslice [],.fslice [],.fslice [],.fslice []]:=by kernel_rfl
theorem S8:fI prog 199 0=some (0,true,4):=by kernel_rfl
theorem S9:fI prog 199 1=some (4,false,1):=by kernel_rfl
theorem TA:fI prog 199 2=some (5,false,1):=by kernel_rfl
theorem TB:fI prog 199 3=some (6,false,1):=by kernel_rfl
theorem RM:bI prog 199=some [(0,4),(4,1),(5,1),(6,1)]:=by kernel_rfl
theorem tI_207:tI prog 207=some (false,1):=by kernel_rfl
theorem zI_207:zI prog 207=some [.nilmap]:=by kernel_rfl
theorem tI_209:tI prog 209=some (true,2):=by kernel_rfl
theorem zI_209:zI prog 209=some [.nilmap,.fslice []]:=by kernel_rfl
theorem FA:fI prog 209 0=some (0,false,1):=by kernel_rfl
theorem FB:fI prog 209 1=some (1,false,1):=by kernel_rfl
theorem EW:bI prog 209=some [(0,1),(1,1)]:=by kernel_rfl
theorem tI_211:tI prog 211=some (true,7):=by kernel_rfl
theorem zI_211:zI prog 211=some [.int .i64 0,.int .i64 0,.str ⟨#[]⟩,.fslice [],.int .i64 0,.int .i64 0,.nilptr]:=by kernel_rfl
theorem aMQ:fI prog 211 0=some (0,true,4):=by kernel_rfl
theorem aMR:fI prog 211 1=some (4,false,1):=by kernel_rfl
theorem aMS:fI prog 211 2=some (5,false,1):=by kernel_rfl
theorem aMT:fI prog 211 3=some (6,false,1):=by kernel_rfl
theorem ZR:bI prog 211=some [(0,4),(4,1),(5,1),(6,1)]:=by kernel_rfl
theorem tI_215:tI prog 215=some (true,6):=by kernel_rfl
theorem zI_215:zI prog 215=some [.int .i64 0,.int .i64 0,.str ⟨#[]⟩,.fslice [],.int .i64 0,.int .i64 0]:=by kernel_rfl
theorem aMU:fI prog 215 0=some (0,true,4):=by kernel_rfl
theorem aMV:fI prog 215 1=some (4,false,1):=by kernel_rfl
theorem aMW:fI prog 215 2=some (5,false,1):=by kernel_rfl
theorem ZS:bI prog 215=some [(0,4),(4,1),(5,1)]:=by kernel_rfl
theorem tI_219:tI prog 219=some (true,2):=by kernel_rfl
theorem zI_219:zI prog 219=some [.str ⟨#[]⟩,.int .i64 0]:=by kernel_rfl
theorem TC:fI prog 219 0=some (0,false,1):=by kernel_rfl
theorem TD:fI prog 219 1=some (1,false,1):=by kernel_rfl
theorem RN:bI prog 219=some [(0,1),(1,1)]:=by kernel_rfl
theorem tI_224:tI prog 224=some (true,9):=by kernel_rfl
theorem zI_224:zI prog 224=some [.int .i64 0,.int .i64 0,.str ⟨#[]⟩,.fslice [],.int .i64 0,.nilptr,.fslice [],.int .i64 0,.int .i64 0]:=by kernel_rfl
theorem aMX:fI prog 224 0=some (0,true,4):=by kernel_rfl
theorem aMY:fI prog 224 1=some (4,false,1):=by kernel_rfl
theorem aMZ:fI prog 224 2=some (5,false,1):=by kernel_rfl
theorem aM0:fI prog 224 3=some (6,false,1):=by kernel_rfl
theorem aM1:fI prog 224 4=some (7,false,1):=by kernel_rfl
theorem aM2:fI prog 224 5=some (8,false,1):=by kernel_rfl
theorem ZT:bI prog 224=some [(0,4),(4,1),(5,1),(6,1),(7,1),(8,1)]:=by kernel_rfl
theorem tI_240:tI prog 240=some (false,1):=by kernel_rfl
theorem zI_240:zI prog 240=some [.nilptr]:=by kernel_rfl
theorem tI_272:tI prog 272=some (false,1):=by kernel_rfl
theorem zI_272:zI prog 272=some [.nilmap]:=by kernel_rfl
theorem tI_291:tI prog 291=some (true,0):=by kernel_rfl
theorem zI_291:zI prog 291=some []:=by kernel_rfl
theorem aTV:aI prog 291=some (0,false,1):=by kernel_rfl
theorem tI_300:tI prog 300=some (true,11):=by kernel_rfl
theorem zI_300:zI prog 300=some [.int .u64 0,.int .u64 0,.int .u32 0,.int .u8 0,.int .u8 0,.int .u8 0,.int .u8 0,.raw .nilFunc,.nilptr,.int .i32 0,.int .i32 0]:=by kernel_rfl
theorem TE:fI prog 300 0=some (0,false,1):=by kernel_rfl
theorem TF:fI prog 300 1=some (1,false,1):=by kernel_rfl
theorem TH:fI prog 300 2=some (2,false,1):=by kernel_rfl
theorem TI:fI prog 300 3=some (3,false,1):=by kernel_rfl
theorem TJ:fI prog 300 4=some (4,false,1):=by kernel_rfl
theorem TK:fI prog 300 5=some (5,false,1):=by kernel_rfl
theorem TL:fI prog 300 6=some (6,false,1):=by kernel_rfl
theorem TM:fI prog 300 7=some (7,false,1):=by kernel_rfl
theorem TN:fI prog 300 8=some (8,false,1):=by kernel_rfl
theorem TO:fI prog 300 9=some (9,false,1):=by kernel_rfl
theorem TG:fI prog 300 10=some (10,false,1):=by kernel_rfl
theorem RP:bI prog 300=some [(0,1),(1,1),(2,1),(3,1),(4,1),(5,1),(6,1),(7,1),(8,1),(9,1),(10,1)]:=by kernel_rfl
theorem mixed:prog.follows .mixedOrders=true:=by kernel_rfl
theorem wF{P:Program}{g:FuncId}{fn:Func}{c:Code}{args:List AV}{st:aB}{N:Nat}{rs:List ResultVar}{K:AV→aB→Prop}(mt:List Nat)(k:Nat)(hf:P.funcs[g]?=some fn)(hN:fn.ntmps=N)(hr:fn.results=rs.toArray)(hb:fn.body=some c)(e:eQ args→gY P N mt c (KC P rs.toArray K) (vR 0 args) st)(hn:(fn.name == "runtime.NumGoroutine")=false:=by kernel_rfl) (hok:codeOk N c=true:=by decide +kernel) (ha:args.length=k:=by rfl) (hk:k≤N:=by decide +kernel):aD P g args st K:=
 zw6 mt hf hN hr hb hn hok (by rw[ha];exact hk) e
theorem wP{P:Program}{N:Nat}{id:Nat}{l:List Oper}{Q:Exit→AF→aB→Prop}{φ:AF}{st:aB}(p:List (Nat×Nat))(S:List Nat)(hm:P.follows .mixedOrders=true)(h:k8 P l.toArray (Q .normal) p φ st)(hok:q9 N l.toArray=true:=by decide +kernel)(hl:p.length=l.length:=by decide +kernel)(hB:uT l.toArray S p (Array.replicate l.length false)=true:=by decide +kernel):g8 P N (.region id l.toArray true) Q φ st:=
 zx5 p S hm hok hl hB h
theorem wX{P:Program}{N:Nat}{id:Nat}{l:List Oper}{Q:Exit→AF→aB→Prop}{φ:AF}{st:aB}(p:List (Nat×Nat))(S:List Nat)(s0:aB)(hm:P.follows .mixedOrders=true)(hf:DA p=true)(hs:eT s0 st)(h:jM P l.toArray s0 (Q .normal) p φ st)(hok:q9 N l.toArray=true:=by decide +kernel)(hl:p.length=l.length:=by decide +kernel)(hB:tA l.toArray S p (Array.replicate l.length false)=true:=by decide +kernel):g8 P N (.region id l.toArray true) Q φ st:=
 vF p S s0 hm hok hl hB hf hs h
theorem fL{sz:Nat}{x:AV}(h1:x.width=sz)(h2:x.cells.all AV.storable=true):vQ sz [x]:=by intro e he;simp only[dB,dV,eA] at he;subst he;exact⟨h1,h2⟩
theorem bO{n:Int}(h1: -9223372036854775808≤n:=by omega)(h2:n≤9223372036854775807:=by omega):IntKind.wrap .i64 n=n:=wrap64 h1 h2
theorem LC:type_of% @Go.Proofs.Tryz.underlying2:=@Go.Proofs.Tryz.underlying2
theorem aU:type_of% @Go.Proofs.Tryz.underlying3:=@Go.Proofs.Tryz.underlying3
theorem cI:type_of% @Go.Proofs.Tryz.underlying4:=@Go.Proofs.Tryz.underlying4
theorem mH:type_of% @Go.Proofs.Tryz.underlying5:=@Go.Proofs.Tryz.underlying5
theorem uU6:type_of% @Go.Proofs.Tryz.underlying6:=@Go.Proofs.Tryz.underlying6
theorem cT:type_of% @Go.Proofs.Tryz.underlying9:=@Go.Proofs.Tryz.underlying9
theorem a8C:type_of% @Go.Proofs.Tryz.underlying10:=@Go.Proofs.Tryz.underlying10
theorem aSZ:type_of% @Go.Proofs.Tryz.underlying23:=@Go.Proofs.Tryz.underlying23
theorem iJ:type_of% @Go.Proofs.Tryz.underlying27:=@Go.Proofs.Tryz.underlying27
theorem bZ:type_of% @Go.Proofs.Tryz.underlying28:=@Go.Proofs.Tryz.underlying28
theorem lX:type_of% @Go.Proofs.Tryz.underlying31:=@Go.Proofs.Tryz.underlying31
theorem fU:type_of% @Go.Proofs.Tryz.underlying40:=@Go.Proofs.Tryz.underlying40
theorem pJ:type_of% @Go.Proofs.Tryz.underlying47:=@Go.Proofs.Tryz.underlying47
theorem oR:type_of% @Go.Proofs.Tryz.underlying138:=@Go.Proofs.Tryz.underlying138
theorem a8D:type_of% @Go.Proofs.Tryz.underlying142:=@Go.Proofs.Tryz.underlying142
theorem LB:type_of% @Go.Proofs.Tryz.underlying156:=@Go.Proofs.Tryz.underlying156
theorem XT:type_of% @Go.Proofs.Tryz.underlying157:=@Go.Proofs.Tryz.underlying157
theorem XU:type_of% @Go.Proofs.Tryz.underlying181:=@Go.Proofs.Tryz.underlying181
theorem XV:type_of% @Go.Proofs.Tryz.underlying182:=@Go.Proofs.Tryz.underlying182
theorem DZ:type_of% @Go.Proofs.Tryz.underlying207:=@Go.Proofs.Tryz.underlying207
theorem LD:type_of% @Go.Proofs.Tryz.underlying272:=@Go.Proofs.Tryz.underlying272
end Go.AW
