/- Closed facts on the types of the program. -/
import Derived.Test.YtieofkhcboolkaaGreatDoorProg
import Derived.Test.YtieofkhcboolkaaGreatDoorWag
import Derived.KernelRfl
set_option linter.unusedSimpArgs false
set_option linter.unusedVariables false
set_option maxRecDepth 100000
namespace Go.AW
open Go.Proofs.Tryz
theorem tI_2:tI prog 2=some (false,1):=by kernel_rfl
theorem zI_2:zI prog 2=some [.int .i64 0]:=by kernel_rfl
theorem tI_3:tI prog 3=some (false,1):=by kernel_rfl
theorem zI_3:zI prog 3=some [.int .i64 0]:=by kernel_rfl
theorem tI_4:tI prog 4=some (false,1):=by kernel_rfl
theorem zI_4:zI prog 4=some [.bool false]:=by kernel_rfl
theorem a7Y:zV prog 4=some (.bool false):=by kernel_rfl
theorem tI_5:tI prog 5=some (false,1):=by kernel_rfl
theorem zI_5:zI prog 5=some [.int .u8 0]:=by kernel_rfl
theorem tI_6:tI prog 6=some (false,1):=by kernel_rfl
theorem zI_6:zI prog 6=some [.int .u8 0]:=by kernel_rfl
theorem tI_8:tI prog 8=some (true,4):=by kernel_rfl
theorem zI_8:zI prog 8=some [.int .i64 0,.int .i64 0,.bool false,.int .u8 0]:=by kernel_rfl
theorem aY0:fI prog 8 0=some (0,false,1):=by kernel_rfl
theorem aY1:fI prog 8 1=some (1,false,1):=by kernel_rfl
theorem aY2:fI prog 8 2=some (2,false,1):=by kernel_rfl
theorem aY3:fI prog 8 3=some (3,false,1):=by kernel_rfl
theorem aRY:bI prog 8=some [(0,1),(1,1),(2,1),(3,1)]:=by kernel_rfl
theorem tI_9:tI prog 9=some (false,1):=by kernel_rfl
theorem zI_9:zI prog 9=some [.str ⟨#[]⟩]:=by kernel_rfl
theorem tI_10:tI prog 10=some (false,1):=by kernel_rfl
theorem zI_10:zI prog 10=some [.str ⟨#[]⟩]:=by kernel_rfl
theorem tI_22:tI prog 22=some (false,1):=by kernel_rfl
theorem zI_22:zI prog 22=some [.fslice []]:=by kernel_rfl
theorem GB:eI prog 22=some (false,1):=by kernel_rfl
theorem aWL:eB prog 22=some 1:=by kernel_rfl
theorem aWP:eZ prog 22=some [.int .u8 0]:=by kernel_rfl
theorem tI_26:tI prog 26=some (false,1):=by kernel_rfl
theorem zI_26:zI prog 26=some [.fslice []]:=by kernel_rfl
theorem g7:eI prog 26=some (false,1):=by kernel_rfl
theorem C7:eB prog 26=some 8:=by kernel_rfl
theorem AD:eZ prog 26=some [.int .i64 0]:=by kernel_rfl
theorem tI_27:tI prog 27=some (false,1):=by kernel_rfl
theorem zI_27:zI prog 27=some [.fslice []]:=by kernel_rfl
theorem AC:eI prog 27=some (true,1):=by kernel_rfl
theorem PO:eB prog 27=some 24:=by kernel_rfl
theorem PR:eZ prog 27=some [.fslice []]:=by kernel_rfl
theorem tI_33:tI prog 33=some (false,1):=by kernel_rfl
theorem zI_33:zI prog 33=some [.fslice []]:=by kernel_rfl
theorem qD:eI prog 33=some (true,5):=by kernel_rfl
theorem KI:eB prog 33=some 80:=by kernel_rfl
theorem KM:eZ prog 33=some [.int .i64 0,.int .i64 0,.str ⟨#[]⟩,.fslice [],.fslice []]:=by kernel_rfl
theorem tI_34:tI prog 34=some (false,1):=by kernel_rfl
theorem zI_34:zI prog 34=some [.fslice []]:=by kernel_rfl
theorem a8:eI prog 34=some (true,4):=by kernel_rfl
theorem fW:eB prog 34=some 56:=by kernel_rfl
theorem fX:eZ prog 34=some [.int .i64 0,.int .i64 0,.str ⟨#[]⟩,.fslice []]:=by kernel_rfl
theorem tI_38:tI prog 38=some (true,1):=by kernel_rfl
theorem zI_38:zI prog 38=some [.fslice []]:=by kernel_rfl
theorem aYR:fI prog 38 0=some (0,false,1):=by kernel_rfl
theorem aRV:bI prog 38=some [(0,1)]:=by kernel_rfl
theorem tI_46:tI prog 46=some (true,4):=by kernel_rfl
theorem zI_46:zI prog 46=some [.int .i64 0,.int .i64 0,.str ⟨#[]⟩,.fslice []]:=by kernel_rfl
theorem aYS:fI prog 46 0=some (0,false,1):=by kernel_rfl
theorem aYT:fI prog 46 1=some (1,false,1):=by kernel_rfl
theorem aYU:fI prog 46 2=some (2,false,1):=by kernel_rfl
theorem aYV:fI prog 46 3=some (3,false,1):=by kernel_rfl
theorem aRW:bI prog 46=some [(0,1),(1,1),(2,1),(3,1)]:=by kernel_rfl
theorem tI_47:tI prog 47=some (true,4):=by kernel_rfl
theorem zI_47:zI prog 47=some [.int .i64 0,.int .i64 0,.str ⟨#[]⟩,.fslice []]:=by kernel_rfl
theorem aP0:zV prog 47=some (.agg [.int .i64 0,.int .i64 0,.str ⟨#[]⟩,.fslice []]):=by kernel_rfl
theorem aYW:fI prog 47 0=some (0,false,1):=by kernel_rfl
theorem aYX:fI prog 47 1=some (1,false,1):=by kernel_rfl
theorem aYY:fI prog 47 2=some (2,false,1):=by kernel_rfl
theorem aYZ:fI prog 47 3=some (3,false,1):=by kernel_rfl
theorem aRX:bI prog 47=some [(0,1),(1,1),(2,1),(3,1)]:=by kernel_rfl
theorem tI_57:tI prog 57=some (false,1):=by kernel_rfl
theorem zI_57:zI prog 57=some [.fslice []]:=by kernel_rfl
theorem KK:eI prog 57=some (true,5):=by kernel_rfl
theorem ZG:eB prog 57=some 64:=by kernel_rfl
theorem ZK:eZ prog 57=some [.int .i64 0,.int .i64 0,.int .i64 0,.str ⟨#[]⟩,.fslice []]:=by kernel_rfl
theorem tI_79:tI prog 79=some (false,1):=by kernel_rfl
theorem zI_79:zI prog 79=some [.nilptr]:=by kernel_rfl
theorem tI_91:tI prog 91=some (true,4):=by kernel_rfl
theorem zI_91:zI prog 91=some [.fslice [],.fslice [],.fslice [],.fslice []]:=by kernel_rfl
theorem aY4:fI prog 91 0=some (0,false,1):=by kernel_rfl
theorem aY5:fI prog 91 1=some (1,false,1):=by kernel_rfl
theorem aY6:fI prog 91 2=some (2,false,1):=by kernel_rfl
theorem aY7:fI prog 91 3=some (3,false,1):=by kernel_rfl
theorem aRZ:bI prog 91=some [(0,1),(1,1),(2,1),(3,1)]:=by kernel_rfl
theorem tI_104:tI prog 104=some (true,5):=by kernel_rfl
theorem zI_104:zI prog 104=some [.int .i64 0,.int .i64 0,.int .i64 0,.str ⟨#[]⟩,.fslice []]:=by kernel_rfl
theorem aXD:fI prog 104 0=some (0,false,1):=by kernel_rfl
theorem aXE:fI prog 104 1=some (1,true,4):=by kernel_rfl
theorem aRG:bI prog 104=some [(0,1),(1,4)]:=by kernel_rfl
theorem tI_107:tI prog 107=some (false,1):=by kernel_rfl
theorem zI_107:zI prog 107=some [.nilmap]:=by kernel_rfl
theorem tI_124:tI prog 124=some (true,2):=by kernel_rfl
theorem zI_124:zI prog 124=some [.fslice [],.bool false]:=by kernel_rfl
theorem aXF:fI prog 124 0=some (0,false,1):=by kernel_rfl
theorem aXG:fI prog 124 1=some (1,false,1):=by kernel_rfl
theorem aRH:bI prog 124=some [(0,1),(1,1)]:=by kernel_rfl
theorem tI_138:tI prog 138=some (true,2):=by kernel_rfl
theorem zI_138:zI prog 138=some [.fslice [],.int .i64 0]:=by kernel_rfl
theorem aXH:fI prog 138 0=some (0,false,1):=by kernel_rfl
theorem aXI:fI prog 138 1=some (1,false,1):=by kernel_rfl
theorem aRI:bI prog 138=some [(0,1),(1,1)]:=by kernel_rfl
theorem tI_148:tI prog 148=some (false,1):=by kernel_rfl
theorem zI_148:zI prog 148=some [.fslice []]:=by kernel_rfl
theorem qC:eI prog 148=some (false,1):=by kernel_rfl
theorem KH:eB prog 148=some 16:=by kernel_rfl
theorem KL:eZ prog 148=some [.str ⟨#[]⟩]:=by kernel_rfl
theorem tI_155:tI prog 155=some (false,1):=by kernel_rfl
theorem zI_155:zI prog 155=some [.fslice []]:=by kernel_rfl
theorem ZH:eI prog 155=some (false,1):=by kernel_rfl
theorem aWJ:eB prog 155=some 24:=by kernel_rfl
theorem aWN:eZ prog 155=some [.fslice []]:=by kernel_rfl
theorem tI_158:tI prog 158=some (false,1):=by kernel_rfl
theorem zI_158:zI prog 158=some [.fslice []]:=by kernel_rfl
theorem GA:eI prog 158=some (true,5):=by kernel_rfl
theorem PM:eB prog 158=some 64:=by kernel_rfl
theorem PP:eZ prog 158=some [.int .i64 0,.int .i64 0,.str ⟨#[]⟩,.fslice [],.int .i64 0]:=by kernel_rfl
theorem tI_159:tI prog 159=some (false,1):=by kernel_rfl
theorem zI_159:zI prog 159=some [.fslice []]:=by kernel_rfl
theorem C8:eI prog 159=some (true,7):=by kernel_rfl
theorem PN:eB prog 159=some 128:=by kernel_rfl
theorem PQ:eZ prog 159=some [.int .i64 0,.int .i64 0,.str ⟨#[]⟩,.fslice [],.fslice [],.fslice [],.fslice []]:=by kernel_rfl
theorem tI_161:tI prog 161=some (true,3):=by kernel_rfl
theorem zI_161:zI prog 161=some [.fslice [],.fslice [],.fslice []]:=by kernel_rfl
theorem aXJ:fI prog 161 0=some (0,false,1):=by kernel_rfl
theorem aXK:fI prog 161 1=some (1,false,1):=by kernel_rfl
theorem aXL:fI prog 161 2=some (2,false,1):=by kernel_rfl
theorem aRJ:bI prog 161=some [(0,1),(1,1),(2,1)]:=by kernel_rfl
theorem tI_175:tI prog 175=some (false,1):=by kernel_rfl
theorem zI_175:zI prog 175=some [.nilptr]:=by kernel_rfl
theorem tI_177:tI prog 177=some (true,5):=by kernel_rfl
theorem zI_177:zI prog 177=some [.int .i64 0,.int .i64 0,.str ⟨#[]⟩,.fslice [],.fslice []]:=by kernel_rfl
theorem aXM:fI prog 177 0=some (0,true,4):=by kernel_rfl
theorem aXN:fI prog 177 1=some (4,false,1):=by kernel_rfl
theorem aRK:bI prog 177=some [(0,4),(4,1)]:=by kernel_rfl
theorem tI_180:tI prog 180=some (false,1):=by kernel_rfl
theorem zI_180:zI prog 180=some [.nilptr]:=by kernel_rfl
theorem tI_191:tI prog 191=some (true,2):=by kernel_rfl
theorem zI_191:zI prog 191=some [.str ⟨#[]⟩,.int .i64 0]:=by kernel_rfl
theorem aXO:fI prog 191 0=some (0,false,1):=by kernel_rfl
theorem aXP:fI prog 191 1=some (1,false,1):=by kernel_rfl
theorem aRL:bI prog 191=some [(0,1),(1,1)]:=by kernel_rfl
theorem tI_202:tI prog 202=some (false,1):=by kernel_rfl
theorem zI_202:zI prog 202=some [.fslice []]:=by kernel_rfl
theorem aWM:eI prog 202=some (true,4):=by kernel_rfl
theorem aWK:eB prog 202=some 56:=by kernel_rfl
theorem aWO:eZ prog 202=some [.int .i64 0,.int .i64 0,.str ⟨#[]⟩,.fslice []]:=by kernel_rfl
theorem tI_251:tI prog 251=some (true,5):=by kernel_rfl
theorem zI_251:zI prog 251=some [.int .i64 0,.int .i64 0,.str ⟨#[]⟩,.fslice [],.int .i64 0]:=by kernel_rfl
theorem aXQ:fI prog 251 0=some (0,true,4):=by kernel_rfl
theorem aXR:fI prog 251 1=some (4,false,1):=by kernel_rfl
theorem aRM:bI prog 251=some [(0,4),(4,1)]:=by kernel_rfl
theorem tI_255:tI prog 255=some (true,7):=by kernel_rfl
theorem zI_255:zI prog 255=some [.int .i64 0,.int .i64 0,.str ⟨#[]⟩,.fslice [],.fslice [],.fslice [],.fslice []]:=by kernel_rfl
theorem aXS:fI prog 255 0=some (0,true,4):=by kernel_rfl
theorem aXT:fI prog 255 1=some (4,false,1):=by kernel_rfl
theorem aXU:fI prog 255 2=some (5,false,1):=by kernel_rfl
theorem aXV:fI prog 255 3=some (6,false,1):=by kernel_rfl
theorem aRN:bI prog 255=some [(0,4),(4,1),(5,1),(6,1)]:=by kernel_rfl
theorem tI_260:tI prog 260=some (false,1):=by kernel_rfl
theorem zI_260:zI prog 260=some [.nilptr]:=by kernel_rfl
theorem tI_262:tI prog 262=some (false,1):=by kernel_rfl
theorem zI_262:zI prog 262=some [.nilptr]:=by kernel_rfl
theorem tI_263:tI prog 263=some (false,1):=by kernel_rfl
theorem zI_263:zI prog 263=some [.fslice []]:=by kernel_rfl
theorem GC:eI prog 263=some (true,9):=by kernel_rfl
theorem ZE:eB prog 263=some 112:=by kernel_rfl
theorem ZI:eZ prog 263=some [.int .i64 0,.int .i64 0,.str ⟨#[]⟩,.fslice [],.int .i64 0,.nilptr,.fslice [],.int .i64 0,.int .i64 0]:=by kernel_rfl
theorem tI_264:tI prog 264=some (false,1):=by kernel_rfl
theorem zI_264:zI prog 264=some [.fslice []]:=by kernel_rfl
theorem KJ:eI prog 264=some (true,6):=by kernel_rfl
theorem ZF:eB prog 264=some 72:=by kernel_rfl
theorem ZJ:eZ prog 264=some [.int .i64 0,.int .i64 0,.str ⟨#[]⟩,.fslice [],.int .i64 0,.int .i64 0]:=by kernel_rfl
theorem tI_266:tI prog 266=some (true,12):=by kernel_rfl
theorem zI_266:zI prog 266=some [.nilptr,.fslice [],.fslice [],.bool false,.bool false,.int .i64 0,.int .i64 0,.int .i64 0,.nilptr,.fslice [],.fslice [],.int .i64 0]:=by kernel_rfl
theorem aXW:fI prog 266 0=some (0,false,1):=by kernel_rfl
theorem aXX:fI prog 266 1=some (1,false,1):=by kernel_rfl
theorem aX0:fI prog 266 2=some (2,false,1):=by kernel_rfl
theorem aX1:fI prog 266 3=some (3,false,1):=by kernel_rfl
theorem aX2:fI prog 266 4=some (4,false,1):=by kernel_rfl
theorem aX3:fI prog 266 5=some (5,false,1):=by kernel_rfl
theorem aX4:fI prog 266 6=some (6,false,1):=by kernel_rfl
theorem aX5:fI prog 266 7=some (7,false,1):=by kernel_rfl
theorem aX6:fI prog 266 8=some (8,false,1):=by kernel_rfl
theorem aX7:fI prog 266 9=some (9,false,1):=by kernel_rfl
theorem aXY:fI prog 266 10=some (10,false,1):=by kernel_rfl
theorem aXZ:fI prog 266 11=some (11,false,1):=by kernel_rfl
theorem aRO:bI prog 266=some [(0,1),(1,1),(2,1),(3,1),(4,1),(5,1),(6,1),(7,1),(8,1),(9,1),(10,1),(11,1)]:=by kernel_rfl
theorem tI_309:tI prog 309=some (true,2):=by kernel_rfl
theorem zI_309:zI prog 309=some [.nilmap,.fslice []]:=by kernel_rfl
theorem aX8:fI prog 309 0=some (0,false,1):=by kernel_rfl
theorem aX9:fI prog 309 1=some (1,false,1):=by kernel_rfl
theorem aRP:bI prog 309=some [(0,1),(1,1)]:=by kernel_rfl
theorem tI_311:tI prog 311=some (true,7):=by kernel_rfl
theorem zI_311:zI prog 311=some [.int .i64 0,.int .i64 0,.str ⟨#[]⟩,.fslice [],.int .i64 0,.int .i64 0,.nilptr]:=by kernel_rfl
theorem aYA:fI prog 311 0=some (0,true,4):=by kernel_rfl
theorem aYB:fI prog 311 1=some (4,false,1):=by kernel_rfl
theorem aYC:fI prog 311 2=some (5,false,1):=by kernel_rfl
theorem aYD:fI prog 311 3=some (6,false,1):=by kernel_rfl
theorem aRQ:bI prog 311=some [(0,4),(4,1),(5,1),(6,1)]:=by kernel_rfl
theorem tI_314:tI prog 314=some (true,6):=by kernel_rfl
theorem zI_314:zI prog 314=some [.int .i64 0,.int .i64 0,.str ⟨#[]⟩,.fslice [],.int .i64 0,.int .i64 0]:=by kernel_rfl
theorem aYE:fI prog 314 0=some (0,true,4):=by kernel_rfl
theorem aYF:fI prog 314 1=some (4,false,1):=by kernel_rfl
theorem aYG:fI prog 314 2=some (5,false,1):=by kernel_rfl
theorem aRR:bI prog 314=some [(0,4),(4,1),(5,1)]:=by kernel_rfl
theorem tI_317:tI prog 317=some (true,9):=by kernel_rfl
theorem zI_317:zI prog 317=some [.int .i64 0,.int .i64 0,.str ⟨#[]⟩,.fslice [],.int .i64 0,.nilptr,.fslice [],.int .i64 0,.int .i64 0]:=by kernel_rfl
theorem aYH:fI prog 317 0=some (0,true,4):=by kernel_rfl
theorem aYI:fI prog 317 1=some (4,false,1):=by kernel_rfl
theorem aYJ:fI prog 317 2=some (5,false,1):=by kernel_rfl
theorem aYK:fI prog 317 3=some (6,false,1):=by kernel_rfl
theorem aYL:fI prog 317 4=some (7,false,1):=by kernel_rfl
theorem aYM:fI prog 317 5=some (8,false,1):=by kernel_rfl
theorem aRS:bI prog 317=some [(0,4),(4,1),(5,1),(6,1),(7,1),(8,1)]:=by kernel_rfl
theorem tI_322:tI prog 322=some (true,4):=by kernel_rfl
theorem zI_322:zI prog 322=some [.int .i64 0,.int .i64 0,.str ⟨#[]⟩,.fslice []]:=by kernel_rfl
theorem aYN:fI prog 322 0=some (0,false,1):=by kernel_rfl
theorem aYO:fI prog 322 1=some (1,false,1):=by kernel_rfl
theorem aYP:fI prog 322 2=some (2,false,1):=by kernel_rfl
theorem aYQ:fI prog 322 3=some (3,false,1):=by kernel_rfl
theorem aRT:bI prog 322=some [(0,1),(1,1),(2,1),(3,1)]:=by kernel_rfl
theorem tI_361:tI prog 361=some (false,1):=by kernel_rfl
theorem zI_361:zI prog 361=some [.nilmap]:=by kernel_rfl
theorem tI_373:tI prog 373=some (true,0):=by kernel_rfl
theorem zI_373:zI prog 373=some []:=by kernel_rfl
theorem aRU:bI prog 373=some [(0,0)]:=by kernel_rfl
abbrev IF:=zi tI_2 (zi zI_2 Go.Proofs.Tryz.underlying2)
abbrev aX:=zi tI_3 (zi zI_3 Go.Proofs.Tryz.underlying3)
abbrev bZ:=zi tI_4 (zi zI_4 Go.Proofs.Tryz.underlying4)
abbrev kU:=zi tI_5 (zi zI_5 Go.Proofs.Tryz.underlying5)
abbrev a65:=zi tI_6 (zi zI_6 Go.Proofs.Tryz.underlying6)
abbrev y6:=zi tI_8 (zi zI_8 (zi aY0 (zi aY1 (zi aY2 (zi aY3 aRY)))))
abbrev cJ:=zi tI_9 (zi zI_9 Go.Proofs.Tryz.underlying9)
abbrev a61:=zi tI_10 (zi zI_10 Go.Proofs.Tryz.underlying10)
abbrev yZ:=zi tI_22 (zi zI_22 (zi GB (zi aWL (zi aWP Go.Proofs.Tryz.underlying22))))
abbrev fA:=zi tI_26 (zi zI_26 (zi g7 (zi C7 (zi AD Go.Proofs.Tryz.underlying26))))
abbrev BQ:=zi tI_27 (zi zI_27 (zi AC (zi PO (zi PR Go.Proofs.Tryz.underlying27))))
abbrev k9:=zi tI_33 (zi zI_33 (zi qD (zi KI (zi KM Go.Proofs.Tryz.underlying33))))
abbrev bS:=zi tI_34 (zi zI_34 (zi a8 (zi fW (zi fX Go.Proofs.Tryz.underlying34))))
abbrev nM:=zi tI_38 (zi zI_38 (zi aYR aRV))
abbrev T9:=zi tI_46 (zi zI_46 (zi aYS (zi aYT (zi aYU (zi aYV aRW)))))
abbrev bQ:=zi tI_47 (zi zI_47 (zi aYW (zi aYX (zi aYY (zi aYZ aRX)))))
abbrev IJ:=zi tI_57 (zi zI_57 (zi KK (zi ZG (zi ZK Go.Proofs.Tryz.underlying57))))
abbrev oW:=zi tI_79 zI_79
abbrev a66:=zi tI_91 (zi zI_91 (zi aY4 (zi aY5 (zi aY6 (zi aY7 aRZ)))))
abbrev MS:=zi tI_104 (zi zI_104 (zi aXD (zi aXE aRG)))
abbrev EP:=zi tI_107 (zi zI_107 Go.Proofs.Tryz.underlying107)
abbrev a62:=zi tI_124 (zi zI_124 (zi aXF (zi aXG aRH)))
abbrev aOQ:=zi tI_138 (zi zI_138 (zi aXH (zi aXI aRI)))
abbrev mA:=zi tI_148 (zi zI_148 (zi qC (zi KH (zi KL Go.Proofs.Tryz.underlying148))))
abbrev a63:=zi tI_155 (zi zI_155 (zi ZH (zi aWJ (zi aWN Go.Proofs.Tryz.underlying155))))
abbrev IB:=zi tI_158 (zi zI_158 (zi GA (zi PM (zi PP Go.Proofs.Tryz.underlying158))))
abbrev TY:=zi tI_159 (zi zI_159 (zi C8 (zi PN (zi PQ Go.Proofs.Tryz.underlying159))))
abbrev ID:=zi tI_161 (zi zI_161 (zi aXJ (zi aXK (zi aXL aRJ))))
abbrev IE:=zi tI_175 zI_175
abbrev mB:=zi tI_177 (zi zI_177 (zi aXM (zi aXN aRK)))
abbrev EQ:=zi tI_180 zI_180
abbrev TZ:=zi tI_191 (zi zI_191 (zi aXO (zi aXP aRL)))
abbrev aOR:=zi tI_202 (zi zI_202 (zi aWM (zi aWK (zi aWO Go.Proofs.Tryz.underlying202))))
abbrev aOS:=zi tI_251 (zi zI_251 (zi aXQ (zi aXR aRM)))
abbrev T0:=zi tI_255 (zi zI_255 (zi aXS (zi aXT (zi aXU (zi aXV aRN)))))
abbrev oV:=zi tI_260 zI_260
abbrev ER:=zi tI_262 zI_262
abbrev T6:=zi tI_263 (zi zI_263 (zi GC (zi ZE (zi ZI Go.Proofs.Tryz.underlying263))))
abbrev T7:=zi tI_264 (zi zI_264 (zi KJ (zi ZF (zi ZJ Go.Proofs.Tryz.underlying264))))
abbrev II:=zi tI_266 (zi zI_266 (zi aXW (zi aXX (zi aX0 (zi aX1 (zi aX2 (zi aX3 (zi aX4 (zi aX5 (zi aX6 (zi aX7 (zi aXY (zi aXZ aRO)))))))))))))
abbrev ES:=zi tI_309 (zi zI_309 (zi aX8 (zi aX9 aRP)))
abbrev aOT:=zi tI_311 (zi zI_311 (zi aYA (zi aYB (zi aYC (zi aYD aRQ)))))
abbrev aOU:=zi tI_314 (zi zI_314 (zi aYE (zi aYF (zi aYG aRR))))
abbrev aOV:=zi tI_317 (zi zI_317 (zi aYH (zi aYI (zi aYJ (zi aYK (zi aYL (zi aYM aRS)))))))
abbrev aOW:=zi tI_322 (zi zI_322 (zi aYN (zi aYO (zi aYP (zi aYQ aRT)))))
abbrev T8:=zi tI_361 (zi zI_361 Go.Proofs.Tryz.underlying361)
abbrev a64:=zi tI_373 (zi zI_373 aRU)
theorem mixed:prog.follows .mixedOrders=true:=by kernel_rfl
theorem wF{P:Program}{g:FuncId}{fn:Func}{c:Code}{args:List AV}{st:aB}{N:Nat}{rs:List ResultVar}{K:AV→aB→Prop}(mt:List Nat)(k:Nat)(hf:P.funcs[g]?=some fn)(hN:fn.ntmps=N)(hr:fn.results=rs.toArray)(hb:fn.body=some c)(e:d7 args→gH P N mt c (HM P rs.toArray K) (uA 0 args) st)(hn:(fn.name == "runtime.NumGoroutine")=false:=by kernel_rfl) (hok:codeOk N c=true:=by decide +kernel) (ha:args.length=k:=by rfl) (hk:k≤N:=by decide +kernel):aD P g args st K:=
 zw6 mt hf hN hr hb hn hok (by rw[ha];exact hk) e
theorem wP{P:Program}{N:Nat}{id:Nat}{l:List Oper}{Q:Exit→AF→aB→Prop}{φ:AF}{st:aB}(p:List (Nat×Nat))(S:List Nat)(hm:P.follows .mixedOrders=true)(h:j5 P l.toArray (Q .normal) p φ st)(hok:qV N l.toArray=true:=by decide +kernel)(hl:p.length=l.length:=by decide +kernel)(hB:tJ l.toArray S p (Array.replicate l.length false)=true:=by decide +kernel):gP P N (.region id l.toArray true) Q φ st:=
 zx5 p S hm hok hl hB h
theorem wX{P:Program}{N:Nat}{id:Nat}{l:List Oper}{Q:Exit→AF→aB→Prop}{φ:AF}{st:aB}(p:List (Nat×Nat))(S:List Nat)(s0:aB)(hm:P.follows .mixedOrders=true)(hf:DU p=true)(hs:fP s0 st)(h:jQ P l.toArray s0 (Q .normal) p φ st)(hok:qV N l.toArray=true:=by decide +kernel)(hl:p.length=l.length:=by decide +kernel)(hB:tK l.toArray S p (Array.replicate l.length false)=true:=by decide +kernel):gP P N (.region id l.toArray true) Q φ st:=
 w8 p S s0 hm hok hl hB hf hs h
theorem eO{sz:Nat}{x:AV}(h1:x.width=sz)(h2:x.cells.all AV.storable=true):vO sz [x]:=by intro e he;simp only[c8,dP,dX] at he;subst he;exact⟨h1,h2⟩
theorem bL{n:Int}(h1: -9223372036854775808≤n:=by omega)(h2:n≤9223372036854775807:=by omega):IntKind.wrap .i64 n=n:=wrap64 h1 h2
theorem y7:type_of% @Go.Proofs.Tryz.underlying3:=@Go.Proofs.Tryz.underlying3
theorem uU4:type_of% @Go.Proofs.Tryz.underlying4:=@Go.Proofs.Tryz.underlying4
theorem uU5:type_of% @Go.Proofs.Tryz.underlying5:=@Go.Proofs.Tryz.underlying5
theorem rB:type_of% @Go.Proofs.Tryz.underlying9:=@Go.Proofs.Tryz.underlying9
theorem a7E:type_of% @Go.Proofs.Tryz.underlying22:=@Go.Proofs.Tryz.underlying22
theorem IT:type_of% @Go.Proofs.Tryz.underlying26:=@Go.Proofs.Tryz.underlying26
theorem UL:type_of% @Go.Proofs.Tryz.underlying34:=@Go.Proofs.Tryz.underlying34
theorem IR:type_of% @Go.Proofs.Tryz.underlying107:=@Go.Proofs.Tryz.underlying107
theorem aPI:type_of% @Go.Proofs.Tryz.underlying361:=@Go.Proofs.Tryz.underlying361
end Go.AW
