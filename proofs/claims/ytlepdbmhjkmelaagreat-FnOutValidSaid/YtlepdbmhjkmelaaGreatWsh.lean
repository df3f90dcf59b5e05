/- Closed facts on the types of the program. -/
import Derived.Test.YtlepdbmhjkmelaaGreatProg
import Derived.Test.YtlepdbmhjkmelaaGreatWsg
import Derived.KernelRfl
set_option linter.unusedSimpArgs false
set_option linter.unusedVariables false
set_option maxRecDepth 100000
namespace Go.AW
open Go.Proofs.Tryz
theorem tI_2:tI prog 2=some (false,1):=by kernel_rfl
theorem zI_2:zI prog 2=some [.int .i64 0]:=by kernel_rfl
theorem tI_3:tI prog 3=some (false,1):=by kernel_rfl
theorem zI_3:zI prog 3=some [.int .i64 0]:=by kernel_rfl
theorem tI_4:tI prog 4=some (false,1):=by kernel_rfl
theorem zI_4:zI prog 4=some [.bool false]:=by kernel_rfl
theorem tI_5:tI prog 5=some (false,1):=by kernel_rfl
theorem zI_5:zI prog 5=some [.int .u8 0]:=by kernel_rfl
theorem tI_6:tI prog 6=some (false,1):=by kernel_rfl
theorem zI_6:zI prog 6=some [.int .u8 0]:=by kernel_rfl
theorem tI_7:tI prog 7=some (true,4):=by kernel_rfl
theorem zI_7:zI prog 7=some [.int .i64 0,.int .i64 0,.bool false,.int .u8 0]:=by kernel_rfl
theorem aQ6:fI prog 7 0=some (0,false,1):=by kernel_rfl
theorem aQ7:fI prog 7 1=some (1,false,1):=by kernel_rfl
theorem aQ8:fI prog 7 2=some (2,false,1):=by kernel_rfl
theorem aQ9:fI prog 7 3=some (3,false,1):=by kernel_rfl
theorem aLP:bI prog 7=some [(0,1),(1,1),(2,1),(3,1)]:=by kernel_rfl
theorem tI_8:tI prog 8=some (true,4):=by kernel_rfl
theorem zI_8:zI prog 8=some [.int .i64 0,.int .i64 0,.bool false,.int .u8 0]:=by kernel_rfl
theorem aRP:fI prog 8 0=some (0,false,1):=by kernel_rfl
theorem aRQ:fI prog 8 1=some (1,false,1):=by kernel_rfl
theorem aRR:fI prog 8 2=some (2,false,1):=by kernel_rfl
theorem aRS:fI prog 8 3=some (3,false,1):=by kernel_rfl
theorem aLQ:bI prog 8=some [(0,1),(1,1),(2,1),(3,1)]:=by kernel_rfl
theorem tI_9:tI prog 9=some (false,1):=by kernel_rfl
theorem zI_9:zI prog 9=some [.str ⟨#[]⟩]:=by kernel_rfl
theorem tI_10:tI prog 10=some (false,1):=by kernel_rfl
theorem zI_10:zI prog 10=some [.str ⟨#[]⟩]:=by kernel_rfl
theorem tI_22:tI prog 22=some (false,1):=by kernel_rfl
theorem zI_22:zI prog 22=some [.fslice []]:=by kernel_rfl
theorem eV:eI prog 22=some (false,1):=by kernel_rfl
theorem l9:eB prog 22=some 1:=by kernel_rfl
theorem mA:eZ prog 22=some [.int .u8 0]:=by kernel_rfl
theorem tI_23:tI prog 23=some (false,1):=by kernel_rfl
theorem zI_23:zI prog 23=some [.fslice []]:=by kernel_rfl
theorem oN:eI prog 23=some (true,5):=by kernel_rfl
theorem D1:eB prog 23=some 80:=by kernel_rfl
theorem D5:eZ prog 23=some [.int .i64 0,.int .i64 0,.str ⟨#[]⟩,.fslice [],.fslice []]:=by kernel_rfl
theorem tI_25:tI prog 25=some (false,1):=by kernel_rfl
theorem zI_25:zI prog 25=some [.fslice []]:=by kernel_rfl
theorem cF:eI prog 25=some (true,4):=by kernel_rfl
theorem kL:eB prog 25=some 56:=by kernel_rfl
theorem kM:eZ prog 25=some [.int .i64 0,.int .i64 0,.str ⟨#[]⟩,.fslice []]:=by kernel_rfl
theorem tI_28:tI prog 28=some (false,1):=by kernel_rfl
theorem zI_28:zI prog 28=some [.fslice []]:=by kernel_rfl
theorem pO:eI prog 28=some (false,1):=by kernel_rfl
theorem L6:eB prog 28=some 8:=by kernel_rfl
theorem MA:eZ prog 28=some [.int .i64 0]:=by kernel_rfl
theorem tI_30:tI prog 30=some (true,4):=by kernel_rfl
theorem zI_30:zI prog 30=some [.int .i64 0,.int .i64 0,.str ⟨#[]⟩,.fslice []]:=by kernel_rfl
theorem aQS:fI prog 30 0=some (0,false,1):=by kernel_rfl
theorem aQT:fI prog 30 1=some (1,false,1):=by kernel_rfl
theorem aQU:fI prog 30 2=some (2,false,1):=by kernel_rfl
theorem aQV:fI prog 30 3=some (3,false,1):=by kernel_rfl
theorem aLK:bI prog 30=some [(0,1),(1,1),(2,1),(3,1)]:=by kernel_rfl
theorem tI_31:tI prog 31=some (true,4):=by kernel_rfl
theorem zI_31:zI prog 31=some [.int .i64 0,.int .i64 0,.str ⟨#[]⟩,.fslice []]:=by kernel_rfl
theorem aQW:fI prog 31 0=some (0,false,1):=by kernel_rfl
theorem aQX:fI prog 31 1=some (1,false,1):=by kernel_rfl
theorem aQY:fI prog 31 2=some (2,false,1):=by kernel_rfl
theorem aQZ:fI prog 31 3=some (3,false,1):=by kernel_rfl
theorem aLL:bI prog 31=some [(0,1),(1,1),(2,1),(3,1)]:=by kernel_rfl
theorem tI_34:tI prog 34=some (false,1):=by kernel_rfl
theorem zI_34:zI prog 34=some [.fslice []]:=by kernel_rfl
theorem vK:eI prog 34=some (true,13):=by kernel_rfl
theorem S4:eB prog 34=some 200:=by kernel_rfl
theorem S8:eZ prog 34=some [.fslice [],.bool false,.fslice [],.fslice [],.bool false,.fslice [],.fslice [],.int .i64 0,.int .i64 0,.int .i64 0,.int .i64 0,.bool false,.fslice []]:=by kernel_rfl
theorem tI_36:tI prog 36=some (true,2):=by kernel_rfl
theorem zI_36:zI prog 36=some [.fslice [],.int .i64 0]:=by kernel_rfl
theorem aQ0:fI prog 36 0=some (0,false,1):=by kernel_rfl
theorem aQ1:fI prog 36 1=some (1,false,1):=by kernel_rfl
theorem aLM:bI prog 36=some [(0,1),(1,1)]:=by kernel_rfl
theorem tI_39:tI prog 39=some (false,1):=by kernel_rfl
theorem zI_39:zI prog 39=some [.fslice []]:=by kernel_rfl
theorem jQ:eI prog 39=some (true,2):=by kernel_rfl
theorem nJ:eB prog 39=some 24:=by kernel_rfl
theorem nK:eZ prog 39=some [.int .i64 0,.str ⟨#[]⟩]:=by kernel_rfl
theorem tI_44:tI prog 44=some (true,2):=by kernel_rfl
theorem zI_44:zI prog 44=some [.int .i64 0,.str ⟨#[]⟩]:=by kernel_rfl
theorem aQ2:fI prog 44 0=some (0,false,1):=by kernel_rfl
theorem aQ3:fI prog 44 1=some (1,false,1):=by kernel_rfl
theorem aLN:bI prog 44=some [(0,1),(1,1)]:=by kernel_rfl
theorem tI_51:tI prog 51=some (true,5):=by kernel_rfl
theorem zI_51:zI prog 51=some [.int .i64 0,.int .i64 0,.str ⟨#[]⟩,.fslice [],.fslice []]:=by kernel_rfl
theorem aQ4:fI prog 51 0=some (0,true,4):=by kernel_rfl
theorem aQ5:fI prog 51 1=some (4,false,1):=by kernel_rfl
theorem aLO:bI prog 51=some [(0,4),(4,1)]:=by kernel_rfl
theorem tI_61:tI prog 61=some (false,1):=by kernel_rfl
theorem zI_61:zI prog 61=some [.nilptr]:=by kernel_rfl
theorem tI_65:tI prog 65=some (false,1):=by kernel_rfl
theorem zI_65:zI prog 65=some [.fslice []]:=by kernel_rfl
theorem tS:eI prog 65=some (false,1):=by kernel_rfl
theorem S5:eB prog 65=some 16:=by kernel_rfl
theorem S9:eZ prog 65=some [.str ⟨#[]⟩]:=by kernel_rfl
theorem tI_81:tI prog 81=some (true,2):=by kernel_rfl
theorem zI_81:zI prog 81=some [.fslice [],.bool false]:=by kernel_rfl
theorem aRA:fI prog 81 0=some (0,false,1):=by kernel_rfl
theorem aRB:fI prog 81 1=some (1,false,1):=by kernel_rfl
theorem aLR:bI prog 81=some [(0,1),(1,1)]:=by kernel_rfl
theorem tI_83:tI prog 83=some (true,6):=by kernel_rfl
theorem zI_83:zI prog 83=some [.fslice [],.fslice [],.int .i64 0,.int .i64 0,.int .i64 0,.int .i64 0]:=by kernel_rfl
theorem aRC:fI prog 83 0=some (0,false,1):=by kernel_rfl
theorem aRD:fI prog 83 1=some (1,false,1):=by kernel_rfl
theorem aRE:fI prog 83 2=some (2,false,1):=by kernel_rfl
theorem aRF:fI prog 83 3=some (3,false,1):=by kernel_rfl
theorem aRG:fI prog 83 4=some (4,false,1):=by kernel_rfl
theorem aRH:fI prog 83 5=some (5,false,1):=by kernel_rfl
theorem aLS:bI prog 83=some [(0,1),(1,1),(2,1),(3,1),(4,1),(5,1)]:=by kernel_rfl
theorem tI_85:tI prog 85=some (true,13):=by kernel_rfl
theorem zI_85:zI prog 85=some [.fslice [],.bool false,.fslice [],.fslice [],.bool false,.fslice [],.fslice [],.int .i64 0,.int .i64 0,.int .i64 0,.int .i64 0,.bool false,.fslice []]:=by kernel_rfl
theorem aRI:fI prog 85 0=some (0,true,2):=by kernel_rfl
theorem aRJ:fI prog 85 1=some (2,false,1):=by kernel_rfl
theorem aRK:fI prog 85 2=some (3,false,1):=by kernel_rfl
theorem aRL:fI prog 85 3=some (4,false,1):=by kernel_rfl
theorem aRM:fI prog 85 4=some (5,true,6):=by kernel_rfl
theorem aRN:fI prog 85 5=some (11,false,1):=by kernel_rfl
theorem aRO:fI prog 85 6=some (12,false,1):=by kernel_rfl
theorem aLT:bI prog 85=some [(0,2),(2,1),(3,1),(4,1),(5,6),(11,1),(12,1)]:=by kernel_rfl
theorem tI_93:tI prog 93=some (true,4):=by kernel_rfl
theorem zI_93:zI prog 93=some [.int .i64 0,.int .i64 0,.int .i64 0,.str ⟨#[]⟩]:=by kernel_rfl
theorem aRT:fI prog 93 0=some (0,false,1):=by kernel_rfl
theorem aRU:fI prog 93 1=some (1,false,1):=by kernel_rfl
theorem aRV:fI prog 93 2=some (2,false,1):=by kernel_rfl
theorem aRW:fI prog 93 3=some (3,false,1):=by kernel_rfl
theorem aLU:bI prog 93=some [(0,1),(1,1),(2,1),(3,1)]:=by kernel_rfl
theorem tI_97:tI prog 97=some (true,5):=by kernel_rfl
theorem zI_97:zI prog 97=some [.fslice [],.fslice [],.int .i64 0,.int .i64 0,.bool false]:=by kernel_rfl
theorem aRX:fI prog 97 0=some (0,false,1):=by kernel_rfl
theorem aRY:fI prog 97 1=some (1,false,1):=by kernel_rfl
theorem aRZ:fI prog 97 2=some (2,false,1):=by kernel_rfl
theorem aR0:fI prog 97 3=some (3,false,1):=by kernel_rfl
theorem aR1:fI prog 97 4=some (4,false,1):=by kernel_rfl
theorem aLV:bI prog 97=some [(0,1),(1,1),(2,1),(3,1),(4,1)]:=by kernel_rfl
theorem tI_109:tI prog 109=some (false,1):=by kernel_rfl
theorem zI_109:zI prog 109=some [.nilptr]:=by kernel_rfl
theorem tI_112:tI prog 112=some (false,1):=by kernel_rfl
theorem zI_112:zI prog 112=some [.nilmap]:=by kernel_rfl
theorem tI_113:tI prog 113=some (true,4):=by kernel_rfl
theorem zI_113:zI prog 113=some [.nilptr,.nilmap,.nilmap,.int .i64 0]:=by kernel_rfl
theorem aP8:fI prog 113 0=some (0,false,1):=by kernel_rfl
theorem aP9:fI prog 113 1=some (1,false,1):=by kernel_rfl
theorem aQA:fI prog 113 2=some (2,false,1):=by kernel_rfl
theorem aQB:fI prog 113 3=some (3,false,1):=by kernel_rfl
theorem aLD:bI prog 113=some [(0,1),(1,1),(2,1),(3,1)]:=by kernel_rfl
theorem tI_114:tI prog 114=some (true,4):=by kernel_rfl
theorem zI_114:zI prog 114=some [.nilptr,.nilmap,.nilmap,.int .i64 0]:=by kernel_rfl
theorem aQC:fI prog 114 0=some (0,false,1):=by kernel_rfl
theorem aQD:fI prog 114 1=some (1,false,1):=by kernel_rfl
theorem aQE:fI prog 114 2=some (2,false,1):=by kernel_rfl
theorem aQF:fI prog 114 3=some (3,false,1):=by kernel_rfl
theorem aLE:bI prog 114=some [(0,1),(1,1),(2,1),(3,1)]:=by kernel_rfl
theorem tI_127:tI prog 127=some (true,2):=by kernel_rfl
theorem zI_127:zI prog 127=some [.fslice [],.int .i64 0]:=by kernel_rfl
theorem aQG:fI prog 127 0=some (0,false,1):=by kernel_rfl
theorem aQH:fI prog 127 1=some (1,false,1):=by kernel_rfl
theorem aLF:bI prog 127=some [(0,1),(1,1)]:=by kernel_rfl
theorem tI_138:tI prog 138=some (false,1):=by kernel_rfl
theorem zI_138:zI prog 138=some [.nilptr]:=by kernel_rfl
theorem tI_145:tI prog 145=some (false,1):=by kernel_rfl
theorem zI_145:zI prog 145=some [.int .u64 0]:=by kernel_rfl
theorem tI_186:tI prog 186=some (false,1):=by kernel_rfl
theorem zI_186:zI prog 186=some [.fslice []]:=by kernel_rfl
theorem L7:eI prog 186=some (false,1):=by kernel_rfl
theorem aPH:eB prog 186=some 24:=by kernel_rfl
theorem aPJ:eZ prog 186=some [.fslice []]:=by kernel_rfl
theorem tI_245:tI prog 245=some (false,1):=by kernel_rfl
theorem zI_245:zI prog 245=some [.fslice []]:=by kernel_rfl
theorem S6:eI prog 245=some (false,1):=by kernel_rfl
theorem aPI:eB prog 245=some 24:=by kernel_rfl
theorem aPK:eZ prog 245=some [.fslice []]:=by kernel_rfl
theorem tI_259:tI prog 259=some (false,1):=by kernel_rfl
theorem zI_259:zI prog 259=some [.fslice []]:=by kernel_rfl
theorem HH:eI prog 259=some (true,1):=by kernel_rfl
theorem S3:eB prog 259=some 24:=by kernel_rfl
theorem S7:eZ prog 259=some [.fslice []]:=by kernel_rfl
theorem tI_264:tI prog 264=some (true,1):=by kernel_rfl
theorem zI_264:zI prog 264=some [.fslice []]:=by kernel_rfl
theorem aQI:fI prog 264 0=some (0,false,1):=by kernel_rfl
theorem aLG:bI prog 264=some [(0,1)]:=by kernel_rfl
theorem tI_272:tI prog 272=some (false,1):=by kernel_rfl
theorem zI_272:zI prog 272=some [.fslice []]:=by kernel_rfl
theorem D3:eI prog 272=some (true,5):=by kernel_rfl
theorem L4:eB prog 272=some 64:=by kernel_rfl
theorem L8:eZ prog 272=some [.int .i64 0,.int .i64 0,.str ⟨#[]⟩,.fslice [],.int .i64 0]:=by kernel_rfl
theorem tI_273:tI prog 273=some (false,1):=by kernel_rfl
theorem zI_273:zI prog 273=some [.fslice []]:=by kernel_rfl
theorem AD:eI prog 273=some (true,7):=by kernel_rfl
theorem L5:eB prog 273=some 128:=by kernel_rfl
theorem L9:eZ prog 273=some [.int .i64 0,.int .i64 0,.str ⟨#[]⟩,.fslice [],.fslice [],.fslice [],.fslice []]:=by kernel_rfl
theorem tI_275:tI prog 275=some (true,3):=by kernel_rfl
theorem zI_275:zI prog 275=some [.fslice [],.fslice [],.fslice []]:=by kernel_rfl
theorem aQJ:fI prog 275 0=some (0,false,1):=by kernel_rfl
theorem aQK:fI prog 275 1=some (1,false,1):=by kernel_rfl
theorem aQL:fI prog 275 2=some (2,false,1):=by kernel_rfl
theorem aLH:bI prog 275=some [(0,1),(1,1),(2,1)]:=by kernel_rfl
theorem tI_285:tI prog 285=some (true,5):=by kernel_rfl
theorem zI_285:zI prog 285=some [.int .i64 0,.int .i64 0,.str ⟨#[]⟩,.fslice [],.int .i64 0]:=by kernel_rfl
theorem aQM:fI prog 285 0=some (0,true,4):=by kernel_rfl
theorem aQN:fI prog 285 1=some (4,false,1):=by kernel_rfl
theorem aLI:bI prog 285=some [(0,4),(4,1)]:=by kernel_rfl
theorem tI_289:tI prog 289=some (true,7):=by kernel_rfl
theorem zI_289:zI prog 289=some [.int .i64 0,.int .i64 0,.str ⟨#[]⟩,.fslice [],.fslice [],.fslice [],.fslice []]:=by kernel_rfl
theorem aQO:fI prog 289 0=some (0,true,4):=by kernel_rfl
theorem aQP:fI prog 289 1=some (4,false,1):=by kernel_rfl
theorem aQQ:fI prog 289 2=some (5,false,1):=by kernel_rfl
theorem aQR:fI prog 289 3=some (6,false,1):=by kernel_rfl
theorem aLJ:bI prog 289=some [(0,4),(4,1),(5,1),(6,1)]:=by kernel_rfl
abbrev FL:=zi tI_2 (zi zI_2 Go.Proofs.Tryz.underlying2)
abbrev aX:=zi tI_3 (zi zI_3 Go.Proofs.Tryz.underlying3)
abbrev cD:=zi tI_4 (zi zI_4 Go.Proofs.Tryz.underlying4)
abbrev gE:=zi tI_5 (zi zI_5 Go.Proofs.Tryz.underlying5)
abbrev aX5:=zi tI_6 (zi zI_6 Go.Proofs.Tryz.underlying6)
abbrev O5:=zi tI_7 (zi zI_7 (zi aQ6 (zi aQ7 (zi aQ8 (zi aQ9 aLP)))))
abbrev uU:=zi tI_8 (zi zI_8 (zi aRP (zi aRQ (zi aRR (zi aRS aLQ)))))
abbrev cG:=zi tI_9 (zi zI_9 Go.Proofs.Tryz.underlying9)
abbrev aIF:=zi tI_10 (zi zI_10 Go.Proofs.Tryz.underlying10)
abbrev f0:=zi tI_22 (zi zI_22 (zi eV (zi l9 (zi mA Go.Proofs.Tryz.underlying22))))
abbrev lK:=zi tI_23 (zi zI_23 (zi oN (zi D1 (zi D5 Go.Proofs.Tryz.underlying23))))
abbrev cI:=zi tI_25 (zi zI_25 (zi cF (zi kL (zi kM Go.Proofs.Tryz.underlying25))))
abbrev kT:=zi tI_28 (zi zI_28 (zi pO (zi L6 (zi MA Go.Proofs.Tryz.underlying28))))
abbrev JH:=zi tI_30 (zi zI_30 (zi aQS (zi aQT (zi aQU (zi aQV aLK)))))
abbrev cK:=zi tI_31 (zi zI_31 (zi aQW (zi aQX (zi aQY (zi aQZ aLL)))))
abbrev uT:=zi tI_34 (zi zI_34 (zi vK (zi S4 (zi S8 Go.Proofs.Tryz.underlying34))))
abbrev p7:=zi tI_36 (zi zI_36 (zi aQ0 (zi aQ1 aLM)))
abbrev kU:=zi tI_39 (zi zI_39 (zi jQ (zi nJ (zi nK Go.Proofs.Tryz.underlying39))))
abbrev lZ:=zi tI_44 (zi zI_44 (zi aQ2 (zi aQ3 aLN)))
abbrev m9:=zi tI_51 (zi zI_51 (zi aQ4 (zi aQ5 aLO)))
abbrev rD:=zi tI_61 zI_61
abbrev sQ:=zi tI_65 (zi zI_65 (zi tS (zi S5 (zi S9 Go.Proofs.Tryz.underlying65))))
abbrev uV:=zi tI_81 (zi zI_81 (zi aRA (zi aRB aLR)))
abbrev uW:=zi tI_83 (zi zI_83 (zi aRC (zi aRD (zi aRE (zi aRF (zi aRG (zi aRH aLS)))))))
abbrev p8:=zi tI_85 (zi zI_85 (zi aRI (zi aRJ (zi aRK (zi aRL (zi aRM (zi aRN (zi aRO aLT))))))))
abbrev aIK:=zi tI_93 (zi zI_93 (zi aRT (zi aRU (zi aRV (zi aRW aLU)))))
abbrev aIL:=zi tI_97 (zi zI_97 (zi aRX (zi aRY (zi aRZ (zi aR0 (zi aR1 aLV))))))
abbrev aIG:=zi tI_109 zI_109
abbrev aX1:=zi tI_112 (zi zI_112 Go.Proofs.Tryz.underlying112)
abbrev aX2:=zi tI_113 (zi zI_113 (zi aP8 (zi aP9 (zi aQA (zi aQB aLD)))))
abbrev O1:=zi tI_114 (zi zI_114 (zi aQC (zi aQD (zi aQE (zi aQF aLE)))))
abbrev O2:=zi tI_127 (zi zI_127 (zi aQG (zi aQH aLF)))
abbrev aX3:=zi tI_138 zI_138
abbrev aIH:=zi tI_145 (zi zI_145 Go.Proofs.Tryz.underlying145)
abbrev aII:=zi tI_186 (zi zI_186 (zi L7 (zi aPH (zi aPJ Go.Proofs.Tryz.underlying186))))
abbrev aX4:=zi tI_245 (zi zI_245 (zi S6 (zi aPI (zi aPK Go.Proofs.Tryz.underlying245))))
abbrev FM:=zi tI_259 (zi zI_259 (zi HH (zi S3 (zi S7 Go.Proofs.Tryz.underlying259))))
abbrev CB:=zi tI_264 (zi zI_264 (zi aQI aLG))
abbrev FN:=zi tI_272 (zi zI_272 (zi D3 (zi L4 (zi L8 Go.Proofs.Tryz.underlying272))))
abbrev O3:=zi tI_273 (zi zI_273 (zi AD (zi L5 (zi L9 Go.Proofs.Tryz.underlying273))))
abbrev FO:=zi tI_275 (zi zI_275 (zi aQJ (zi aQK (zi aQL aLH))))
abbrev aIJ:=zi tI_285 (zi zI_285 (zi aQM (zi aQN aLI)))
abbrev O4:=zi tI_289 (zi zI_289 (zi aQO (zi aQP (zi aQQ (zi aQR aLJ)))))
theorem mixed:prog.follows .mixedOrders=true:=by kernel_rfl
theorem wF{P:Program}{g:FuncId}{fn:Func}{c:Code}{args:List AV}{st:aA}{N:Nat}{rs:List ResultVar}{K:AV→aA→Prop}(mt:List Nat)(k:Nat)(hf:P.funcs[g]?=some fn)(hN:fn.ntmps=N)(hr:fn.results=rs.toArray)(hb:fn.body=some c)(e:eF args→eL P N mt c (BS P rs.toArray K) (pI 0 args) st)(hn:(fn.name == "runtime.NumGoroutine")=false:=by kernel_rfl) (hok:codeOk N c=true:=by decide +kernel) (ha:args.length=k:=by rfl) (hk:k≤N:=by decide +kernel):aD P g args st K:=
 zw6 mt hf hN hr hb hn hok (by rw[ha];exact hk) e
theorem wP{P:Program}{N:Nat}{id:Nat}{l:List Oper}{Q:Exit→AF→aA→Prop}{φ:AF}{st:aA}(p:List (Nat×Nat))(S:List Nat)(hm:P.follows .mixedOrders=true)(h:iC P l.toArray (Q .normal) p φ st)(hok:nV N l.toArray=true:=by decide +kernel)(hl:p.length=l.length:=by decide +kernel)(hB:qY l.toArray S p (Array.replicate l.length false)=true:=by decide +kernel):d8 P N (.region id l.toArray true) Q φ st:=
 zx5 p S hm hok hl hB h
theorem wX{P:Program}{N:Nat}{id:Nat}{l:List Oper}{Q:Exit→AF→aA→Prop}{φ:AF}{st:aA}(p:List (Nat×Nat))(S:List Nat)(s0:aA)(hm:P.follows .mixedOrders=true)(hf:xV p=true)(hs:dX s0 st)(h:fW P l.toArray s0 (Q .normal) p φ st)(hok:nV N l.toArray=true:=by decide +kernel)(hl:p.length=l.length:=by decide +kernel)(hB:pV l.toArray S p (Array.replicate l.length false)=true:=by decide +kernel):d8 P N (.region id l.toArray true) Q φ st:=
 CL p S s0 hm hok hl hB hf hs h
theorem gZ{sz:Nat}{x:AV}(h1:x.width=sz)(h2:x.cells.all AV.storable=true):tJ sz [x]:=by intro e he;simp only[cT,dF,dS] at he;subst he;exact⟨h1,h2⟩
theorem bH{n:Int}(h1: -9223372036854775808≤n:=by omega)(h2:n≤9223372036854775807:=by omega):IntKind.wrap .i64 n=n:=wrap64 h1 h2
theorem PG:type_of% @Go.Proofs.Tryz.underlying3:=@Go.Proofs.Tryz.underlying3
theorem PH:type_of% @Go.Proofs.Tryz.underlying5:=@Go.Proofs.Tryz.underlying5
theorem oA:type_of% @Go.Proofs.Tryz.underlying9:=@Go.Proofs.Tryz.underlying9
theorem PF:type_of% @Go.Proofs.Tryz.underlying22:=@Go.Proofs.Tryz.underlying22
theorem aYE:type_of% @Go.Proofs.Tryz.underlying25:=@Go.Proofs.Tryz.underlying25
theorem aI6:type_of% @Go.Proofs.Tryz.underlying28:=@Go.Proofs.Tryz.underlying28
theorem aYF:type_of% @Go.Proofs.Tryz.underlying34:=@Go.Proofs.Tryz.underlying34
theorem aYG:type_of% @Go.Proofs.Tryz.underlying39:=@Go.Proofs.Tryz.underlying39
end Go.AW
