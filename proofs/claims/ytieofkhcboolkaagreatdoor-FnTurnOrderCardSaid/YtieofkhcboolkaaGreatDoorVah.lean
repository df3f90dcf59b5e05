/- Closed facts on the types of the program. -/
import Derived.Test.YtieofkhcboolkaaGreatDoorProg
import Derived.Test.YtieofkhcboolkaaGreatDoorVag
import Derived.KernelRfl
set_option linter.unusedSimpArgs false
set_option linter.unusedVariables false
set_option maxRecDepth 100000
namespace Go.AW
open Go.Proofs.Tryz
theorem tI_2:tI prog 2=some (false,1):=by kernel_rfl
theorem zI_2:zI prog 2=some [.int .i64 0]:=by kernel_rfl
theorem tI_3:tI prog 3=some (false,1):=by kernel_rfl
theorem zI_3:zI prog 3=some [.int .i64 0]:=by kernel_rfl
theorem tI_4:tI prog 4=some (false,1):=by kernel_rfl
theorem zI_4:zI prog 4=some [.bool false]:=by kernel_rfl
theorem bCZ:zV prog 4=some (.bool false):=by kernel_rfl
theorem tI_5:tI prog 5=some (false,1):=by kernel_rfl
theorem zI_5:zI prog 5=some [.int .u8 0]:=by kernel_rfl
theorem tI_6:tI prog 6=some (false,1):=by kernel_rfl
theorem zI_6:zI prog 6=some [.int .u8 0]:=by kernel_rfl
theorem tI_8:tI prog 8=some (true,4):=by kernel_rfl
theorem zI_8:zI prog 8=some [.int .i64 0,.int .i64 0,.bool false,.int .u8 0]:=by kernel_rfl
theorem a2P:fI prog 8 0=some (0,false,1):=by kernel_rfl
theorem a2Q:fI prog 8 1=some (1,false,1):=by kernel_rfl
theorem a2R:fI prog 8 2=some (2,false,1):=by kernel_rfl
theorem a2S:fI prog 8 3=some (3,false,1):=by kernel_rfl
theorem aUX:bI prog 8=some [(0,1),(1,1),(2,1),(3,1)]:=by kernel_rfl
theorem tI_9:tI prog 9=some (false,1):=by kernel_rfl
theorem zI_9:zI prog 9=some [.str ⟨#[]⟩]:=by kernel_rfl
theorem tI_10:tI prog 10=some (false,1):=by kernel_rfl
theorem zI_10:zI prog 10=some [.str ⟨#[]⟩]:=by kernel_rfl
theorem tI_16:tI prog 16=some (false,1):=by kernel_rfl
theorem zI_16:zI prog 16=some [.nilptr]:=by kernel_rfl
theorem tI_22:tI prog 22=some (false,1):=by kernel_rfl
theorem zI_22:zI prog 22=some [.fslice []]:=by kernel_rfl
theorem HY:eI prog 22=some (false,1):=by kernel_rfl
theorem aZ0:eB prog 22=some 1:=by kernel_rfl
theorem aZ6:eZ prog 22=some [.int .u8 0]:=by kernel_rfl
theorem tI_23:tI prog 23=some (false,1):=by kernel_rfl
theorem zI_23:zI prog 23=some [.fslice []]:=by kernel_rfl
theorem pC:eI prog 23=some (true,6):=by kernel_rfl
theorem EB:eB prog 23=some 80:=by kernel_rfl
theorem ED:eZ prog 23=some [.fslice [],.fslice [],.int .i64 0,.int .i64 0,.int .i64 0,.int .i64 0]:=by kernel_rfl
theorem tI_26:tI prog 26=some (false,1):=by kernel_rfl
theorem zI_26:zI prog 26=some [.fslice []]:=by kernel_rfl
theorem fO:eI prog 26=some (false,1):=by kernel_rfl
theorem t7:eB prog 26=some 8:=by kernel_rfl
theorem sQ:eZ prog 26=some [.int .i64 0]:=by kernel_rfl
theorem tI_27:tI prog 27=some (false,1):=by kernel_rfl
theorem zI_27:zI prog 27=some [.fslice []]:=by kernel_rfl
theorem oN:eI prog 27=some (true,1):=by kernel_rfl
theorem HW:eB prog 27=some 24:=by kernel_rfl
theorem H0:eZ prog 27=some [.fslice []]:=by kernel_rfl
theorem tI_33:tI prog 33=some (false,1):=by kernel_rfl
theorem zI_33:zI prog 33=some [.fslice []]:=by kernel_rfl
theorem rA:eI prog 33=some (true,5):=by kernel_rfl
theorem L5:eB prog 33=some 80:=by kernel_rfl
theorem L8:eZ prog 33=some [.int .i64 0,.int .i64 0,.str ⟨#[]⟩,.fslice [],.fslice []]:=by kernel_rfl
theorem tI_34:tI prog 34=some (false,1):=by kernel_rfl
theorem zI_34:zI prog 34=some [.fslice []]:=by kernel_rfl
theorem bQ:eI prog 34=some (true,4):=by kernel_rfl
theorem jE:eB prog 34=some 56:=by kernel_rfl
theorem jF:eZ prog 34=some [.int .i64 0,.int .i64 0,.str ⟨#[]⟩,.fslice []]:=by kernel_rfl
theorem tI_36:tI prog 36=some (true,6):=by kernel_rfl
theorem zI_36:zI prog 36=some [.fslice [],.fslice [],.int .i64 0,.int .i64 0,.int .i64 0,.int .i64 0]:=by kernel_rfl
theorem a2A:fI prog 36 0=some (0,false,1):=by kernel_rfl
theorem a2B:fI prog 36 1=some (1,false,1):=by kernel_rfl
theorem a2C:fI prog 36 2=some (2,false,1):=by kernel_rfl
theorem a2D:fI prog 36 3=some (3,false,1):=by kernel_rfl
theorem a2E:fI prog 36 4=some (4,false,1):=by kernel_rfl
theorem a2F:fI prog 36 5=some (5,false,1):=by kernel_rfl
theorem aUS:bI prog 36=some [(0,1),(1,1),(2,1),(3,1),(4,1),(5,1)]:=by kernel_rfl
theorem tI_38:tI prog 38=some (true,1):=by kernel_rfl
theorem zI_38:zI prog 38=some [.fslice []]:=by kernel_rfl
theorem a2G:fI prog 38 0=some (0,false,1):=by kernel_rfl
theorem aUU:bI prog 38=some [(0,1)]:=by kernel_rfl
theorem tI_46:tI prog 46=some (true,4):=by kernel_rfl
theorem zI_46:zI prog 46=some [.int .i64 0,.int .i64 0,.str ⟨#[]⟩,.fslice []]:=by kernel_rfl
theorem a2H:fI prog 46 0=some (0,false,1):=by kernel_rfl
theorem a2I:fI prog 46 1=some (1,false,1):=by kernel_rfl
theorem a2J:fI prog 46 2=some (2,false,1):=by kernel_rfl
theorem a2K:fI prog 46 3=some (3,false,1):=by kernel_rfl
theorem aUV:bI prog 46=some [(0,1),(1,1),(2,1),(3,1)]:=by kernel_rfl
theorem tI_47:tI prog 47=some (true,4):=by kernel_rfl
theorem zI_47:zI prog 47=some [.int .i64 0,.int .i64 0,.str ⟨#[]⟩,.fslice []]:=by kernel_rfl
theorem bC0:zV prog 47=some (.agg [.int .i64 0,.int .i64 0,.str ⟨#[]⟩,.fslice []]):=by kernel_rfl
theorem a2L:fI prog 47 0=some (0,false,1):=by kernel_rfl
theorem a2M:fI prog 47 1=some (1,false,1):=by kernel_rfl
theorem a2N:fI prog 47 2=some (2,false,1):=by kernel_rfl
theorem a2O:fI prog 47 3=some (3,false,1):=by kernel_rfl
theorem aUW:bI prog 47=some [(0,1),(1,1),(2,1),(3,1)]:=by kernel_rfl
theorem tI_57:tI prog 57=some (false,1):=by kernel_rfl
theorem zI_57:zI prog 57=some [.fslice []]:=by kernel_rfl
theorem aZ3:eI prog 57=some (true,5):=by kernel_rfl
theorem aZ1:eB prog 57=some 64:=by kernel_rfl
theorem aZ7:eZ prog 57=some [.int .i64 0,.int .i64 0,.int .i64 0,.str ⟨#[]⟩,.fslice []]:=by kernel_rfl
theorem tI_79:tI prog 79=some (false,1):=by kernel_rfl
theorem zI_79:zI prog 79=some [.nilptr]:=by kernel_rfl
theorem tI_91:tI prog 91=some (true,4):=by kernel_rfl
theorem zI_91:zI prog 91=some [.fslice [],.fslice [],.fslice [],.fslice []]:=by kernel_rfl
theorem a2T:fI prog 91 0=some (0,false,1):=by kernel_rfl
theorem a2U:fI prog 91 1=some (1,false,1):=by kernel_rfl
theorem a2V:fI prog 91 2=some (2,false,1):=by kernel_rfl
theorem a2W:fI prog 91 3=some (3,false,1):=by kernel_rfl
theorem aUY:bI prog 91=some [(0,1),(1,1),(2,1),(3,1)]:=by kernel_rfl
theorem tI_104:tI prog 104=some (true,5):=by kernel_rfl
theorem zI_104:zI prog 104=some [.int .i64 0,.int .i64 0,.int .i64 0,.str ⟨#[]⟩,.fslice []]:=by kernel_rfl
theorem a0W:fI prog 104 0=some (0,false,1):=by kernel_rfl
theorem a0X:fI prog 104 1=some (1,true,4):=by kernel_rfl
theorem aUE:bI prog 104=some [(0,1),(1,4)]:=by kernel_rfl
theorem tI_107:tI prog 107=some (false,1):=by kernel_rfl
theorem zI_107:zI prog 107=some [.nilmap]:=by kernel_rfl
theorem tI_124:tI prog 124=some (true,2):=by kernel_rfl
theorem zI_124:zI prog 124=some [.fslice [],.bool false]:=by kernel_rfl
theorem a0Y:fI prog 124 0=some (0,false,1):=by kernel_rfl
theorem a0Z:fI prog 124 1=some (1,false,1):=by kernel_rfl
theorem aUF:bI prog 124=some [(0,1),(1,1)]:=by kernel_rfl
theorem tI_138:tI prog 138=some (true,2):=by kernel_rfl
theorem zI_138:zI prog 138=some [.fslice [],.int .i64 0]:=by kernel_rfl
theorem a00:fI prog 138 0=some (0,false,1):=by kernel_rfl
theorem a01:fI prog 138 1=some (1,false,1):=by kernel_rfl
theorem aUG:bI prog 138=some [(0,1),(1,1)]:=by kernel_rfl
theorem tI_148:tI prog 148=some (false,1):=by kernel_rfl
theorem zI_148:zI prog 148=some [.fslice []]:=by kernel_rfl
theorem sO:eI prog 148=some (false,1):=by kernel_rfl
theorem L4:eB prog 148=some 16:=by kernel_rfl
theorem L7:eZ prog 148=some [.str ⟨#[]⟩]:=by kernel_rfl
theorem tI_155:tI prog 155=some (false,1):=by kernel_rfl
theorem zI_155:zI prog 155=some [.fslice []]:=by kernel_rfl
theorem aBF:eI prog 155=some (false,1):=by kernel_rfl
theorem aZY:eB prog 155=some 24:=by kernel_rfl
theorem aZ4:eZ prog 155=some [.fslice []]:=by kernel_rfl
theorem tI_158:tI prog 158=some (false,1):=by kernel_rfl
theorem zI_158:zI prog 158=some [.fslice []]:=by kernel_rfl
theorem HX:eI prog 158=some (true,5):=by kernel_rfl
theorem RP:eB prog 158=some 64:=by kernel_rfl
theorem RR:eZ prog 158=some [.int .i64 0,.int .i64 0,.str ⟨#[]⟩,.fslice [],.int .i64 0]:=by kernel_rfl
theorem tI_159:tI prog 159=some (false,1):=by kernel_rfl
theorem zI_159:zI prog 159=some [.fslice []]:=by kernel_rfl
theorem EC:eI prog 159=some (true,7):=by kernel_rfl
theorem RQ:eB prog 159=some 128:=by kernel_rfl
theorem RT:eZ prog 159=some [.int .i64 0,.int .i64 0,.str ⟨#[]⟩,.fslice [],.fslice [],.fslice [],.fslice []]:=by kernel_rfl
theorem tI_161:tI prog 161=some (true,3):=by kernel_rfl
theorem zI_161:zI prog 161=some [.fslice [],.fslice [],.fslice []]:=by kernel_rfl
theorem a02:fI prog 161 0=some (0,false,1):=by kernel_rfl
theorem a03:fI prog 161 1=some (1,false,1):=by kernel_rfl
theorem a04:fI prog 161 2=some (2,false,1):=by kernel_rfl
theorem aUH:bI prog 161=some [(0,1),(1,1),(2,1)]:=by kernel_rfl
theorem tI_175:tI prog 175=some (false,1):=by kernel_rfl
theorem zI_175:zI prog 175=some [.nilptr]:=by kernel_rfl
theorem tI_177:tI prog 177=some (true,5):=by kernel_rfl
theorem zI_177:zI prog 177=some [.int .i64 0,.int .i64 0,.str ⟨#[]⟩,.fslice [],.fslice []]:=by kernel_rfl
theorem a05:fI prog 177 0=some (0,true,4):=by kernel_rfl
theorem a06:fI prog 177 1=some (4,false,1):=by kernel_rfl
theorem aUI:bI prog 177=some [(0,4),(4,1)]:=by kernel_rfl
theorem tI_180:tI prog 180=some (false,1):=by kernel_rfl
theorem zI_180:zI prog 180=some [.nilptr]:=by kernel_rfl
theorem tI_191:tI prog 191=some (true,2):=by kernel_rfl
theorem zI_191:zI prog 191=some [.str ⟨#[]⟩,.int .i64 0]:=by kernel_rfl
theorem a07:fI prog 191 0=some (0,false,1):=by kernel_rfl
theorem a08:fI prog 191 1=some (1,false,1):=by kernel_rfl
theorem aUJ:bI prog 191=some [(0,1),(1,1)]:=by kernel_rfl
theorem tI_202:tI prog 202=some (false,1):=by kernel_rfl
theorem zI_202:zI prog 202=some [.fslice []]:=by kernel_rfl
theorem aZ2:eI prog 202=some (true,4):=by kernel_rfl
theorem aZZ:eB prog 202=some 56:=by kernel_rfl
theorem aZ5:eZ prog 202=some [.int .i64 0,.int .i64 0,.str ⟨#[]⟩,.fslice []]:=by kernel_rfl
theorem tI_251:tI prog 251=some (true,5):=by kernel_rfl
theorem zI_251:zI prog 251=some [.int .i64 0,.int .i64 0,.str ⟨#[]⟩,.fslice [],.int .i64 0]:=by kernel_rfl
theorem a09:fI prog 251 0=some (0,true,4):=by kernel_rfl
theorem a1A:fI prog 251 1=some (4,false,1):=by kernel_rfl
theorem aUK:bI prog 251=some [(0,4),(4,1)]:=by kernel_rfl
theorem tI_255:tI prog 255=some (true,7):=by kernel_rfl
theorem zI_255:zI prog 255=some [.int .i64 0,.int .i64 0,.str ⟨#[]⟩,.fslice [],.fslice [],.fslice [],.fslice []]:=by kernel_rfl
theorem a1B:fI prog 255 0=some (0,true,4):=by kernel_rfl
theorem a1C:fI prog 255 1=some (4,false,1):=by kernel_rfl
theorem a1D:fI prog 255 2=some (5,false,1):=by kernel_rfl
theorem a1E:fI prog 255 3=some (6,false,1):=by kernel_rfl
theorem aUL:bI prog 255=some [(0,4),(4,1),(5,1),(6,1)]:=by kernel_rfl
theorem tI_260:tI prog 260=some (false,1):=by kernel_rfl
theorem zI_260:zI prog 260=some [.nilptr]:=by kernel_rfl
theorem tI_262:tI prog 262=some (false,1):=by kernel_rfl
theorem zI_262:zI prog 262=some [.nilptr]:=by kernel_rfl
theorem tI_263:tI prog 263=some (false,1):=by kernel_rfl
theorem zI_263:zI prog 263=some [.fslice []]:=by kernel_rfl
theorem HZ:eI prog 263=some (true,9):=by kernel_rfl
theorem aBD:eB prog 263=some 112:=by kernel_rfl
theorem aBG:eZ prog 263=some [.int .i64 0,.int .i64 0,.str ⟨#[]⟩,.fslice [],.int .i64 0,.nilptr,.fslice [],.int .i64 0,.int .i64 0]:=by kernel_rfl
theorem tI_264:tI prog 264=some (false,1):=by kernel_rfl
theorem zI_264:zI prog 264=some [.fslice []]:=by kernel_rfl
theorem L6:eI prog 264=some (true,6):=by kernel_rfl
theorem aBE:eB prog 264=some 72:=by kernel_rfl
theorem aBH:eZ prog 264=some [.int .i64 0,.int .i64 0,.str ⟨#[]⟩,.fslice [],.int .i64 0,.int .i64 0]:=by kernel_rfl
theorem tI_266:tI prog 266=some (true,12):=by kernel_rfl
theorem zI_266:zI prog 266=some [.nilptr,.fslice [],.fslice [],.bool false,.bool false,.int .i64 0,.int .i64 0,.int .i64 0,.nilptr,.fslice [],.fslice [],.int .i64 0]:=by kernel_rfl
theorem a1F:fI prog 266 0=some (0,false,1):=by kernel_rfl
theorem a1G:fI prog 266 1=some (1,false,1):=by kernel_rfl
theorem a1J:fI prog 266 2=some (2,false,1):=by kernel_rfl
theorem a1K:fI prog 266 3=some (3,false,1):=by kernel_rfl
theorem a1L:fI prog 266 4=some (4,false,1):=by kernel_rfl
theorem a1M:fI prog 266 5=some (5,false,1):=by kernel_rfl
theorem a1N:fI prog 266 6=some (6,false,1):=by kernel_rfl
theorem a1O:fI prog 266 7=some (7,false,1):=by kernel_rfl
theorem a1P:fI prog 266 8=some (8,false,1):=by kernel_rfl
theorem a1Q:fI prog 266 9=some (9,false,1):=by kernel_rfl
theorem a1H:fI prog 266 10=some (10,false,1):=by kernel_rfl
theorem a1I:fI prog 266 11=some (11,false,1):=by kernel_rfl
theorem aUM:bI prog 266=some [(0,1),(1,1),(2,1),(3,1),(4,1),(5,1),(6,1),(7,1),(8,1),(9,1),(10,1),(11,1)]:=by kernel_rfl
theorem tI_309:tI prog 309=some (true,2):=by kernel_rfl
theorem zI_309:zI prog 309=some [.nilmap,.fslice []]:=by kernel_rfl
theorem a1R:fI prog 309 0=some (0,false,1):=by kernel_rfl
theorem a1S:fI prog 309 1=some (1,false,1):=by kernel_rfl
theorem aUN:bI prog 309=some [(0,1),(1,1)]:=by kernel_rfl
theorem tI_311:tI prog 311=some (true,7):=by kernel_rfl
theorem zI_311:zI prog 311=some [.int .i64 0,.int .i64 0,.str ⟨#[]⟩,.fslice [],.int .i64 0,.int .i64 0,.nilptr]:=by kernel_rfl
theorem a1T:fI prog 311 0=some (0,true,4):=by kernel_rfl
theorem a1U:fI prog 311 1=some (4,false,1):=by kernel_rfl
theorem a1V:fI prog 311 2=some (5,false,1):=by kernel_rfl
theorem a1W:fI prog 311 3=some (6,false,1):=by kernel_rfl
theorem aUO:bI prog 311=some [(0,4),(4,1),(5,1),(6,1)]:=by kernel_rfl
theorem tI_314:tI prog 314=some (true,6):=by kernel_rfl
theorem zI_314:zI prog 314=some [.int .i64 0,.int .i64 0,.str ⟨#[]⟩,.fslice [],.int .i64 0,.int .i64 0]:=by kernel_rfl
theorem a1X:fI prog 314 0=some (0,true,4):=by kernel_rfl
theorem a1Y:fI prog 314 1=some (4,false,1):=by kernel_rfl
theorem a1Z:fI prog 314 2=some (5,false,1):=by kernel_rfl
theorem aUP:bI prog 314=some [(0,4),(4,1),(5,1)]:=by kernel_rfl
theorem tI_317:tI prog 317=some (true,9):=by kernel_rfl
theorem zI_317:zI prog 317=some [.int .i64 0,.int .i64 0,.str ⟨#[]⟩,.fslice [],.int .i64 0,.nilptr,.fslice [],.int .i64 0,.int .i64 0]:=by kernel_rfl
theorem a10:fI prog 317 0=some (0,true,4):=by kernel_rfl
theorem a11:fI prog 317 1=some (4,false,1):=by kernel_rfl
theorem a12:fI prog 317 2=some (5,false,1):=by kernel_rfl
theorem a13:fI prog 317 3=some (6,false,1):=by kernel_rfl
theorem a14:fI prog 317 4=some (7,false,1):=by kernel_rfl
theorem a15:fI prog 317 5=some (8,false,1):=by kernel_rfl
theorem aUQ:bI prog 317=some [(0,4),(4,1),(5,1),(6,1),(7,1),(8,1)]:=by kernel_rfl
theorem tI_322:tI prog 322=some (true,4):=by kernel_rfl
theorem zI_322:zI prog 322=some [.int .i64 0,.int .i64 0,.str ⟨#[]⟩,.fslice []]:=by kernel_rfl
theorem a16:fI prog 322 0=some (0,false,1):=by kernel_rfl
theorem a17:fI prog 322 1=some (1,false,1):=by kernel_rfl
theorem a18:fI prog 322 2=some (2,false,1):=by kernel_rfl
theorem a19:fI prog 322 3=some (3,false,1):=by kernel_rfl
theorem aUR:bI prog 322=some [(0,1),(1,1),(2,1),(3,1)]:=by kernel_rfl
theorem tI_361:tI prog 361=some (false,1):=by kernel_rfl
theorem zI_361:zI prog 361=some [.nilmap]:=by kernel_rfl
theorem tI_373:tI prog 373=some (true,0):=by kernel_rfl
theorem zI_373:zI prog 373=some []:=by kernel_rfl
theorem aUT:bI prog 373=some [(0,0)]:=by kernel_rfl
abbrev OI:=zi tI_2 (zi zI_2 Go.Proofs.Tryz.underlying2)
abbrev aW:=zi tI_3 (zi zI_3 Go.Proofs.Tryz.underlying3)
abbrev cF:=zi tI_4 (zi zI_4 Go.Proofs.Tryz.underlying4)
abbrev lH:=zi tI_5 (zi zI_5 Go.Proofs.Tryz.underlying5)
abbrev bBY:=zi tI_6 (zi zI_6 Go.Proofs.Tryz.underlying6)
abbrev AS:=zi tI_8 (zi zI_8 (zi a2P (zi a2Q (zi a2R (zi a2S aUX)))))
abbrev cW:=zi tI_9 (zi zI_9 Go.Proofs.Tryz.underlying9)
abbrev bBR:=zi tI_10 (zi zI_10 Go.Proofs.Tryz.underlying10)
abbrev bBV:=zi tI_16 zI_16
abbrev C4:=zi tI_22 (zi zI_22 (zi HY (zi aZ0 (zi aZ6 Go.Proofs.Tryz.underlying22))))
abbrev AR:=zi tI_23 (zi zI_23 (zi pC (zi EB (zi ED Go.Proofs.Tryz.underlying23))))
abbrev fJ:=zi tI_26 (zi zI_26 (zi fO (zi t7 (zi sQ Go.Proofs.Tryz.underlying26))))
abbrev nH:=zi tI_27 (zi zI_27 (zi oN (zi HW (zi H0 Go.Proofs.Tryz.underlying27))))
abbrev jM:=zi tI_33 (zi zI_33 (zi rA (zi L5 (zi L8 Go.Proofs.Tryz.underlying33))))
abbrev cA:=zi tI_34 (zi zI_34 (zi bQ (zi jE (zi jF Go.Proofs.Tryz.underlying34))))
abbrev lG:=zi tI_36 (zi zI_36 (zi a2A (zi a2B (zi a2C (zi a2D (zi a2E (zi a2F aUS)))))))
abbrev tD:=zi tI_38 (zi zI_38 (zi a2G aUU))
abbrev aRJ:=zi tI_46 (zi zI_46 (zi a2H (zi a2I (zi a2J (zi a2K aUV)))))
abbrev bR:=zi tI_47 (zi zI_47 (zi a2L (zi a2M (zi a2N (zi a2O aUW)))))
abbrev bBX:=zi tI_57 (zi zI_57 (zi aZ3 (zi aZ1 (zi aZ7 Go.Proofs.Tryz.underlying57))))
abbrev yE:=zi tI_79 zI_79
abbrev WS:=zi tI_91 (zi zI_91 (zi a2T (zi a2U (zi a2V (zi a2W aUY)))))
abbrev bBS:=zi tI_104 (zi zI_104 (zi a0W (zi a0X aUE)))
abbrev OH:=zi tI_107 (zi zI_107 Go.Proofs.Tryz.underlying107)
abbrev bBT:=zi tI_124 (zi zI_124 (zi a0Y (zi a0Z aUF)))
abbrev aRC:=zi tI_138 (zi zI_138 (zi a00 (zi a01 aUG)))
abbrev pP:=zi tI_148 (zi zI_148 (zi sO (zi L4 (zi L7 Go.Proofs.Tryz.underlying148))))
abbrev bBU:=zi tI_155 (zi zI_155 (zi aBF (zi aZY (zi aZ4 Go.Proofs.Tryz.underlying155))))
abbrev J2:=zi tI_158 (zi zI_158 (zi HX (zi RP (zi RR Go.Proofs.Tryz.underlying158))))
abbrev WM:=zi tI_159 (zi zI_159 (zi EC (zi RQ (zi RT Go.Proofs.Tryz.underlying159))))
abbrev J3:=zi tI_161 (zi zI_161 (zi a02 (zi a03 (zi a04 aUH))))
abbrev J4:=zi tI_175 zI_175
abbrev mT:=zi tI_177 (zi zI_177 (zi a05 (zi a06 aUI)))
abbrev GB:=zi tI_180 zI_180
abbrev WN:=zi tI_191 (zi zI_191 (zi a07 (zi a08 aUJ)))
abbrev aRD:=zi tI_202 (zi zI_202 (zi aZ2 (zi aZZ (zi aZ5 Go.Proofs.Tryz.underlying202))))
abbrev aRE:=zi tI_251 (zi zI_251 (zi a09 (zi a1A aUK)))
abbrev WO:=zi tI_255 (zi zI_255 (zi a1B (zi a1C (zi a1D (zi a1E aUL)))))
abbrev pQ:=zi tI_260 zI_260
abbrev GC:=zi tI_262 zI_262
abbrev WP:=zi tI_263 (zi zI_263 (zi HZ (zi aBD (zi aBG Go.Proofs.Tryz.underlying263))))
abbrev WQ:=zi tI_264 (zi zI_264 (zi L6 (zi aBE (zi aBH Go.Proofs.Tryz.underlying264))))
abbrev J5:=zi tI_266 (zi zI_266 (zi a1F (zi a1G (zi a1J (zi a1K (zi a1L (zi a1M (zi a1N (zi a1O (zi a1P (zi a1Q (zi a1H (zi a1I aUM)))))))))))))
abbrev GD:=zi tI_309 (zi zI_309 (zi a1R (zi a1S aUN)))
abbrev aRF:=zi tI_311 (zi zI_311 (zi a1T (zi a1U (zi a1V (zi a1W aUO)))))
abbrev aRG:=zi tI_314 (zi zI_314 (zi a1X (zi a1Y (zi a1Z aUP))))
abbrev aRH:=zi tI_317 (zi zI_317 (zi a10 (zi a11 (zi a12 (zi a13 (zi a14 (zi a15 aUQ)))))))
abbrev aRI:=zi tI_322 (zi zI_322 (zi a16 (zi a17 (zi a18 (zi a19 aUR)))))
abbrev WR:=zi tI_361 (zi zI_361 Go.Proofs.Tryz.underlying361)
abbrev bBW:=zi tI_373 (zi zI_373 aUT)
theorem mixed:prog.follows .mixedOrders=true:=by kernel_rfl
theorem wF{P:Program}{g:FuncId}{fn:Func}{c:Code}{args:List AV}{st:aB}{N:Nat}{rs:List ResultVar}{K:AV→aB→Prop}(mt:List Nat)(k:Nat)(hf:P.funcs[g]?=some fn)(hN:fn.ntmps=N)(hr:fn.results=rs.toArray)(hb:fn.body=some c)(e:eM args→gG P N mt c (FQ P rs.toArray K) (sG 0 args) st)(hn:(fn.name == "runtime.NumGoroutine")=false:=by kernel_rfl) (hok:codeOk N c=true:=by decide +kernel) (ha:args.length=k:=by rfl) (hk:k≤N:=by decide +kernel):aD P g args st K:=
 zw6 mt hf hN hr hb hn hok (by rw[ha];exact hk) e
theorem wP{P:Program}{N:Nat}{id:Nat}{l:List Oper}{Q:Exit→AF→aB→Prop}{φ:AF}{st:aB}(p:List (Nat×Nat))(S:List Nat)(hm:P.follows .mixedOrders=true)(h:kD P l.toArray (Q .normal) p φ st)(hok:qL N l.toArray=true:=by decide +kernel)(hl:p.length=l.length:=by decide +kernel)(hB:uN l.toArray S p (Array.replicate l.length false)=true:=by decide +kernel):fK P N (.region id l.toArray true) Q φ st:=
 zx5 p S hm hok hl hB h
theorem wX{P:Program}{N:Nat}{id:Nat}{l:List Oper}{Q:Exit→AF→aB→Prop}{φ:AF}{st:aB}(p:List (Nat×Nat))(S:List Nat)(s0:aB)(hm:P.follows .mixedOrders=true)(hf:CA p=true)(hs:eD s0 st)(h:iL P l.toArray s0 (Q .normal) p φ st)(hok:qL N l.toArray=true:=by decide +kernel)(hl:p.length=l.length:=by decide +kernel)(hB:sX l.toArray S p (Array.replicate l.length false)=true:=by decide +kernel):fK P N (.region id l.toArray true) Q φ st:=
 yI p S s0 hm hok hl hB hf hs h
theorem fQ{sz:Nat}{x:AV}(h1:x.width=sz)(h2:x.cells.all AV.storable=true):w7 sz [x]:=by intro e he;simp only[cY,dK,dQ] at he;subst he;exact⟨h1,h2⟩
theorem bF{n:Int}(h1: -9223372036854775808≤n:=by omega)(h2:n≤9223372036854775807:=by omega):IntKind.wrap .i64 n=n:=wrap64 h1 h2
theorem GI:type_of% @Go.Proofs.Tryz.underlying3:=@Go.Proofs.Tryz.underlying3
theorem uU4:type_of% @Go.Proofs.Tryz.underlying4:=@Go.Proofs.Tryz.underlying4
theorem uU5:type_of% @Go.Proofs.Tryz.underlying5:=@Go.Proofs.Tryz.underlying5
theorem rZ:type_of% @Go.Proofs.Tryz.underlying9:=@Go.Proofs.Tryz.underlying9
theorem bCA:type_of% @Go.Proofs.Tryz.underlying22:=@Go.Proofs.Tryz.underlying22
theorem aR3:type_of% @Go.Proofs.Tryz.underlying23:=@Go.Proofs.Tryz.underlying23
theorem KF:type_of% @Go.Proofs.Tryz.underlying26:=@Go.Proofs.Tryz.underlying26
theorem bCB:type_of% @Go.Proofs.Tryz.underlying34:=@Go.Proofs.Tryz.underlying34
theorem W4:type_of% @Go.Proofs.Tryz.underlying107:=@Go.Proofs.Tryz.underlying107
theorem aR4:type_of% @Go.Proofs.Tryz.underlying361:=@Go.Proofs.Tryz.underlying361
end Go.AW
