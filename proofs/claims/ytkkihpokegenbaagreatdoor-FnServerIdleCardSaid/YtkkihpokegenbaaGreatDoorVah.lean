/- Closed facts on the types of the program. -/
import Derived.Test.YtkkihpokegenbaaGreatDoorProg
import Derived.Test.YtkkihpokegenbaaGreatDoorVag
import Derived.KernelRfl
set_option linter.unusedSimpArgs false
set_option linter.unusedVariables false
set_option maxRecDepth 100000
namespace Go.AW
open Go.Proofs.Tryz
theorem tI_2:tI prog 2=some (false,1):=by kernel_rfl
theorem zI_2:zI prog 2=some [.int .i64 0]:=by kernel_rfl
theorem tI_3:tI prog 3=some (false,1):=by kernel_rfl
theorem zI_3:zI prog 3=some [.int .i64 0]:=by kernel_rfl
theorem tI_4:tI prog 4=some (false,1):=by kernel_rfl
theorem zI_4:zI prog 4=some [.bool false]:=by kernel_rfl
theorem tI_5:tI prog 5=some (false,1):=by kernel_rfl
theorem zI_5:zI prog 5=some [.int .u8 0]:=by kernel_rfl
theorem tI_6:tI prog 6=some (false,1):=by kernel_rfl
theorem zI_6:zI prog 6=some [.int .u8 0]:=by kernel_rfl
theorem tI_7:tI prog 7=some (true,4):=by kernel_rfl
theorem zI_7:zI prog 7=some [.int .i64 0,.int .i64 0,.bool false,.int .u8 0]:=by kernel_rfl
theorem aVN:fI prog 7 0=some (0,false,1):=by kernel_rfl
theorem aVO:fI prog 7 1=some (1,false,1):=by kernel_rfl
theorem aVP:fI prog 7 2=some (2,false,1):=by kernel_rfl
theorem aVQ:fI prog 7 3=some (3,false,1):=by kernel_rfl
theorem aN4:bI prog 7=some [(0,1),(1,1),(2,1),(3,1)]:=by kernel_rfl
theorem tI_8:tI prog 8=some (true,4):=by kernel_rfl
theorem zI_8:zI prog 8=some [.int .i64 0,.int .i64 0,.bool false,.int .u8 0]:=by kernel_rfl
theorem aVR:fI prog 8 0=some (0,false,1):=by kernel_rfl
theorem aVS:fI prog 8 1=some (1,false,1):=by kernel_rfl
theorem aVT:fI prog 8 2=some (2,false,1):=by kernel_rfl
theorem aVU:fI prog 8 3=some (3,false,1):=by kernel_rfl
theorem aN5:bI prog 8=some [(0,1),(1,1),(2,1),(3,1)]:=by kernel_rfl
theorem tI_9:tI prog 9=some (false,1):=by kernel_rfl
theorem zI_9:zI prog 9=some [.str ⟨#[]⟩]:=by kernel_rfl
theorem tI_10:tI prog 10=some (false,1):=by kernel_rfl
theorem zI_10:zI prog 10=some [.str ⟨#[]⟩]:=by kernel_rfl
theorem tI_22:tI prog 22=some (false,1):=by kernel_rfl
theorem zI_22:zI prog 22=some [.fslice []]:=by kernel_rfl
theorem iK:eI prog 22=some (false,1):=by kernel_rfl
theorem qN:eB prog 22=some 1:=by kernel_rfl
theorem qP:eZ prog 22=some [.int .u8 0]:=by kernel_rfl
theorem tI_23:tI prog 23=some (false,1):=by kernel_rfl
theorem zI_23:zI prog 23=some [.fslice []]:=by kernel_rfl
theorem pB:eI prog 23=some (true,13):=by kernel_rfl
theorem NL:eB prog 23=some 200:=by kernel_rfl
theorem NP:eZ prog 23=some [.fslice [],.bool false,.fslice [],.fslice [],.bool false,.fslice [],.fslice [],.int .i64 0,.int .i64 0,.int .i64 0,.int .i64 0,.bool false,.fslice []]:=by kernel_rfl
theorem tI_25:tI prog 25=some (true,2):=by kernel_rfl
theorem zI_25:zI prog 25=some [.fslice [],.int .i64 0]:=by kernel_rfl
theorem aU2:fI prog 25 0=some (0,false,1):=by kernel_rfl
theorem aU3:fI prog 25 1=some (1,false,1):=by kernel_rfl
theorem aNY:bI prog 25=some [(0,1),(1,1)]:=by kernel_rfl
theorem tI_30:tI prog 30=some (false,1):=by kernel_rfl
theorem zI_30:zI prog 30=some [.fslice []]:=by kernel_rfl
theorem lC:eI prog 30=some (true,2):=by kernel_rfl
theorem pA:eB prog 30=some 24:=by kernel_rfl
theorem pD:eZ prog 30=some [.int .i64 0,.str ⟨#[]⟩]:=by kernel_rfl
theorem tI_49:tI prog 49=some (false,1):=by kernel_rfl
theorem zI_49:zI prog 49=some [.nilptr]:=by kernel_rfl
theorem tI_54:tI prog 54=some (true,2):=by kernel_rfl
theorem zI_54:zI prog 54=some [.fslice [],.bool false]:=by kernel_rfl
theorem aU4:fI prog 54 0=some (0,false,1):=by kernel_rfl
theorem aU5:fI prog 54 1=some (1,false,1):=by kernel_rfl
theorem aNZ:bI prog 54=some [(0,1),(1,1)]:=by kernel_rfl
theorem tI_55:tI prog 55=some (false,1):=by kernel_rfl
theorem zI_55:zI prog 55=some [.fslice []]:=by kernel_rfl
theorem m9:eI prog 55=some (true,5):=by kernel_rfl
theorem BS:eB prog 55=some 80:=by kernel_rfl
theorem BU:eZ prog 55=some [.int .i64 0,.int .i64 0,.str ⟨#[]⟩,.fslice [],.fslice []]:=by kernel_rfl
theorem tI_56:tI prog 56=some (false,1):=by kernel_rfl
theorem zI_56:zI prog 56=some [.fslice []]:=by kernel_rfl
theorem cF:eI prog 56=some (true,4):=by kernel_rfl
theorem kP:eB prog 56=some 56:=by kernel_rfl
theorem kQ:eZ prog 56=some [.int .i64 0,.int .i64 0,.str ⟨#[]⟩,.fslice []]:=by kernel_rfl
theorem tI_58:tI prog 58=some (true,6):=by kernel_rfl
theorem zI_58:zI prog 58=some [.fslice [],.fslice [],.int .i64 0,.int .i64 0,.int .i64 0,.int .i64 0]:=by kernel_rfl
theorem aU6:fI prog 58 0=some (0,false,1):=by kernel_rfl
theorem aU7:fI prog 58 1=some (1,false,1):=by kernel_rfl
theorem aU8:fI prog 58 2=some (2,false,1):=by kernel_rfl
theorem aU9:fI prog 58 3=some (3,false,1):=by kernel_rfl
theorem aVA:fI prog 58 4=some (4,false,1):=by kernel_rfl
theorem aVB:fI prog 58 5=some (5,false,1):=by kernel_rfl
theorem aN0:bI prog 58=some [(0,1),(1,1),(2,1),(3,1),(4,1),(5,1)]:=by kernel_rfl
theorem tI_60:tI prog 60=some (true,13):=by kernel_rfl
theorem zI_60:zI prog 60=some [.fslice [],.bool false,.fslice [],.fslice [],.bool false,.fslice [],.fslice [],.int .i64 0,.int .i64 0,.int .i64 0,.int .i64 0,.bool false,.fslice []]:=by kernel_rfl
theorem aVC:fI prog 60 0=some (0,true,2):=by kernel_rfl
theorem aVD:fI prog 60 1=some (2,false,1):=by kernel_rfl
theorem aVE:fI prog 60 2=some (3,false,1):=by kernel_rfl
theorem aVF:fI prog 60 3=some (4,false,1):=by kernel_rfl
theorem aVG:fI prog 60 4=some (5,true,6):=by kernel_rfl
theorem aVH:fI prog 60 5=some (11,false,1):=by kernel_rfl
theorem aVI:fI prog 60 6=some (12,false,1):=by kernel_rfl
theorem aN1:bI prog 60=some [(0,2),(2,1),(3,1),(4,1),(5,6),(11,1),(12,1)]:=by kernel_rfl
theorem tI_65:tI prog 65=some (true,2):=by kernel_rfl
theorem zI_65:zI prog 65=some [.int .i64 0,.str ⟨#[]⟩]:=by kernel_rfl
theorem aVJ:fI prog 65 0=some (0,false,1):=by kernel_rfl
theorem aVK:fI prog 65 1=some (1,false,1):=by kernel_rfl
theorem aN2:bI prog 65=some [(0,1),(1,1)]:=by kernel_rfl
theorem tI_66:tI prog 66=some (true,2):=by kernel_rfl
theorem zI_66:zI prog 66=some [.int .i64 0,.str ⟨#[]⟩]:=by kernel_rfl
theorem aVL:fI prog 66 0=some (0,false,1):=by kernel_rfl
theorem aVM:fI prog 66 1=some (1,false,1):=by kernel_rfl
theorem aN3:bI prog 66=some [(0,1),(1,1)]:=by kernel_rfl
theorem tI_84:tI prog 84=some (false,1):=by kernel_rfl
theorem zI_84:zI prog 84=some [.nilptr]:=by kernel_rfl
theorem tI_86:tI prog 86=some (false,1):=by kernel_rfl
theorem zI_86:zI prog 86=some [.fslice []]:=by kernel_rfl
theorem IJ:eI prog 86=some (true,1):=by kernel_rfl
theorem U5:eB prog 86=some 24:=by kernel_rfl
theorem U8:eZ prog 86=some [.fslice []]:=by kernel_rfl
theorem tI_93:tI prog 93=some (true,2):=by kernel_rfl
theorem zI_93:zI prog 93=some [.fslice [],.int .i64 0]:=by kernel_rfl
theorem aVV:fI prog 93 0=some (0,false,1):=by kernel_rfl
theorem aVW:fI prog 93 1=some (1,false,1):=by kernel_rfl
theorem aN6:bI prog 93=some [(0,1),(1,1)]:=by kernel_rfl
theorem tI_94:tI prog 94=some (true,2):=by kernel_rfl
theorem zI_94:zI prog 94=some [.fslice [],.int .i64 0]:=by kernel_rfl
theorem aVX:fI prog 94 0=some (0,false,1):=by kernel_rfl
theorem aVY:fI prog 94 1=some (1,false,1):=by kernel_rfl
theorem aN7:bI prog 94=some [(0,1),(1,1)]:=by kernel_rfl
theorem tI_98:tI prog 98=some (false,1):=by kernel_rfl
theorem zI_98:zI prog 98=some [.fslice []]:=by kernel_rfl
theorem qO:eI prog 98=some (false,1):=by kernel_rfl
theorem NM:eB prog 98=some 8:=by kernel_rfl
theorem NQ:eZ prog 98=some [.int .i64 0]:=by kernel_rfl
theorem tI_109:tI prog 109=some (false,1):=by kernel_rfl
theorem zI_109:zI prog 109=some [.fslice []]:=by kernel_rfl
theorem aS1:eI prog 109=some (true,5):=by kernel_rfl
theorem aSY:eB prog 109=some 80:=by kernel_rfl
theorem aS3:eZ prog 109=some [.int .i64 0,.int .i64 0,.str ⟨#[]⟩,.fslice [],.fslice []]:=by kernel_rfl
theorem tI_110:tI prog 110=some (false,1):=by kernel_rfl
theorem zI_110:zI prog 110=some [.fslice []]:=by kernel_rfl
theorem aS2:eI prog 110=some (true,4):=by kernel_rfl
theorem aSZ:eB prog 110=some 56:=by kernel_rfl
theorem aS4:eZ prog 110=some [.int .i64 0,.int .i64 0,.str ⟨#[]⟩,.fslice []]:=by kernel_rfl
theorem tI_111:tI prog 111=some (true,6):=by kernel_rfl
theorem zI_111:zI prog 111=some [.fslice [],.fslice [],.int .i64 0,.int .i64 0,.int .i64 0,.int .i64 0]:=by kernel_rfl
theorem aTS:fI prog 111 0=some (0,false,1):=by kernel_rfl
theorem aTT:fI prog 111 1=some (1,false,1):=by kernel_rfl
theorem aTU:fI prog 111 2=some (2,false,1):=by kernel_rfl
theorem aTV:fI prog 111 3=some (3,false,1):=by kernel_rfl
theorem aTW:fI prog 111 4=some (4,false,1):=by kernel_rfl
theorem aTX:fI prog 111 5=some (5,false,1):=by kernel_rfl
theorem aNN:bI prog 111=some [(0,1),(1,1),(2,1),(3,1),(4,1),(5,1)]:=by kernel_rfl
theorem tI_112:tI prog 112=some (true,6):=by kernel_rfl
theorem zI_112:zI prog 112=some [.fslice [],.fslice [],.int .i64 0,.int .i64 0,.int .i64 0,.int .i64 0]:=by kernel_rfl
theorem aTY:fI prog 112 0=some (0,false,1):=by kernel_rfl
theorem aTZ:fI prog 112 1=some (1,false,1):=by kernel_rfl
theorem aT0:fI prog 112 2=some (2,false,1):=by kernel_rfl
theorem aT1:fI prog 112 3=some (3,false,1):=by kernel_rfl
theorem aT2:fI prog 112 4=some (4,false,1):=by kernel_rfl
theorem aT3:fI prog 112 5=some (5,false,1):=by kernel_rfl
theorem aNO:bI prog 112=some [(0,1),(1,1),(2,1),(3,1),(4,1),(5,1)]:=by kernel_rfl
theorem tI_113:tI prog 113=some (true,13):=by kernel_rfl
theorem zI_113:zI prog 113=some [.fslice [],.bool false,.fslice [],.fslice [],.bool false,.fslice [],.fslice [],.int .i64 0,.int .i64 0,.int .i64 0,.int .i64 0,.bool false,.fslice []]:=by kernel_rfl
theorem aT4:fI prog 113 0=some (0,true,2):=by kernel_rfl
theorem aT5:fI prog 113 1=some (2,false,1):=by kernel_rfl
theorem aT6:fI prog 113 2=some (3,false,1):=by kernel_rfl
theorem aT7:fI prog 113 3=some (4,false,1):=by kernel_rfl
theorem aT8:fI prog 113 4=some (5,true,6):=by kernel_rfl
theorem aT9:fI prog 113 5=some (11,false,1):=by kernel_rfl
theorem aUA:fI prog 113 6=some (12,false,1):=by kernel_rfl
theorem aNP:bI prog 113=some [(0,2),(2,1),(3,1),(4,1),(5,6),(11,1),(12,1)]:=by kernel_rfl
theorem tI_114:tI prog 114=some (true,13):=by kernel_rfl
theorem zI_114:zI prog 114=some [.fslice [],.bool false,.fslice [],.fslice [],.bool false,.fslice [],.fslice [],.int .i64 0,.int .i64 0,.int .i64 0,.int .i64 0,.bool false,.fslice []]:=by kernel_rfl
theorem aUB:fI prog 114 0=some (0,true,2):=by kernel_rfl
theorem aUC:fI prog 114 1=some (2,false,1):=by kernel_rfl
theorem aUD:fI prog 114 2=some (3,false,1):=by kernel_rfl
theorem aUE:fI prog 114 3=some (4,false,1):=by kernel_rfl
theorem aUF:fI prog 114 4=some (5,true,6):=by kernel_rfl
theorem aUG:fI prog 114 5=some (11,false,1):=by kernel_rfl
theorem aUH:fI prog 114 6=some (12,false,1):=by kernel_rfl
theorem aNQ:bI prog 114=some [(0,2),(2,1),(3,1),(4,1),(5,6),(11,1),(12,1)]:=by kernel_rfl
theorem tI_127:tI prog 127=some (true,4):=by kernel_rfl
theorem zI_127:zI prog 127=some [.int .i64 0,.int .i64 0,.str ⟨#[]⟩,.fslice []]:=by kernel_rfl
theorem aUI:fI prog 127 0=some (0,false,1):=by kernel_rfl
theorem aUJ:fI prog 127 1=some (1,false,1):=by kernel_rfl
theorem aUK:fI prog 127 2=some (2,false,1):=by kernel_rfl
theorem aUL:fI prog 127 3=some (3,false,1):=by kernel_rfl
theorem aNR:bI prog 127=some [(0,1),(1,1),(2,1),(3,1)]:=by kernel_rfl
theorem tI_131:tI prog 131=some (true,1):=by kernel_rfl
theorem zI_131:zI prog 131=some [.fslice []]:=by kernel_rfl
theorem aUM:fI prog 131 0=some (0,false,1):=by kernel_rfl
theorem aNS:bI prog 131=some [(0,1)]:=by kernel_rfl
theorem tI_145:tI prog 145=some (true,5):=by kernel_rfl
theorem zI_145:zI prog 145=some [.int .i64 0,.int .i64 0,.str ⟨#[]⟩,.fslice [],.fslice []]:=by kernel_rfl
theorem aUN:fI prog 145 0=some (0,true,4):=by kernel_rfl
theorem aUO:fI prog 145 1=some (4,false,1):=by kernel_rfl
theorem aNT:bI prog 145=some [(0,4),(4,1)]:=by kernel_rfl
theorem tI_172:tI prog 172=some (false,1):=by kernel_rfl
theorem zI_172:zI prog 172=some [.fslice []]:=by kernel_rfl
theorem E3:eI prog 172=some (true,5):=by kernel_rfl
theorem NJ:eB prog 172=some 64:=by kernel_rfl
theorem NN:eZ prog 172=some [.int .i64 0,.int .i64 0,.str ⟨#[]⟩,.fslice [],.int .i64 0]:=by kernel_rfl
theorem tI_173:tI prog 173=some (false,1):=by kernel_rfl
theorem zI_173:zI prog 173=some [.fslice []]:=by kernel_rfl
theorem BT:eI prog 173=some (true,7):=by kernel_rfl
theorem NK:eB prog 173=some 128:=by kernel_rfl
theorem NO:eZ prog 173=some [.int .i64 0,.int .i64 0,.str ⟨#[]⟩,.fslice [],.fslice [],.fslice [],.fslice []]:=by kernel_rfl
theorem tI_175:tI prog 175=some (true,3):=by kernel_rfl
theorem zI_175:zI prog 175=some [.fslice [],.fslice [],.fslice []]:=by kernel_rfl
theorem aUP:fI prog 175 0=some (0,false,1):=by kernel_rfl
theorem aUQ:fI prog 175 1=some (1,false,1):=by kernel_rfl
theorem aUR:fI prog 175 2=some (2,false,1):=by kernel_rfl
theorem aNU:bI prog 175=some [(0,1),(1,1),(2,1)]:=by kernel_rfl
theorem tI_183:tI prog 183=some (false,1):=by kernel_rfl
theorem zI_183:zI prog 183=some [.fslice []]:=by kernel_rfl
theorem tC:eI prog 183=some (false,1):=by kernel_rfl
theorem U4:eB prog 183=some 16:=by kernel_rfl
theorem U7:eZ prog 183=some [.str ⟨#[]⟩]:=by kernel_rfl
theorem tI_189:tI prog 189=some (false,1):=by kernel_rfl
theorem zI_189:zI prog 189=some [.int .u64 0]:=by kernel_rfl
theorem tI_214:tI prog 214=some (true,4):=by kernel_rfl
theorem zI_214:zI prog 214=some [.int .i64 0,.int .i64 0,.str ⟨#[]⟩,.fslice []]:=by kernel_rfl
theorem aUS:fI prog 214 0=some (0,false,1):=by kernel_rfl
theorem aUT:fI prog 214 1=some (1,false,1):=by kernel_rfl
theorem aUU:fI prog 214 2=some (2,false,1):=by kernel_rfl
theorem aUV:fI prog 214 3=some (3,false,1):=by kernel_rfl
theorem aNV:bI prog 214=some [(0,1),(1,1),(2,1),(3,1)]:=by kernel_rfl
theorem tI_236:tI prog 236=some (true,5):=by kernel_rfl
theorem zI_236:zI prog 236=some [.int .i64 0,.int .i64 0,.str ⟨#[]⟩,.fslice [],.int .i64 0]:=by kernel_rfl
theorem aUW:fI prog 236 0=some (0,true,4):=by kernel_rfl
theorem aUX:fI prog 236 1=some (4,false,1):=by kernel_rfl
theorem aNW:bI prog 236=some [(0,4),(4,1)]:=by kernel_rfl
theorem tI_242:tI prog 242=some (true,7):=by kernel_rfl
theorem zI_242:zI prog 242=some [.int .i64 0,.int .i64 0,.str ⟨#[]⟩,.fslice [],.fslice [],.fslice [],.fslice []]:=by kernel_rfl
theorem aUY:fI prog 242 0=some (0,true,4):=by kernel_rfl
theorem aUZ:fI prog 242 1=some (4,false,1):=by kernel_rfl
theorem aU0:fI prog 242 2=some (5,false,1):=by kernel_rfl
theorem aU1:fI prog 242 3=some (6,false,1):=by kernel_rfl
theorem aNX:bI prog 242=some [(0,4),(4,1),(5,1),(6,1)]:=by kernel_rfl
theorem tI_281:tI prog 281=some (false,1):=by kernel_rfl
theorem zI_281:zI prog 281=some [.fslice []]:=by kernel_rfl
theorem U6:eI prog 281=some (false,1):=by kernel_rfl
theorem aS0:eB prog 281=some 24:=by kernel_rfl
theorem aS5:eZ prog 281=some [.fslice []]:=by kernel_rfl
theorem tI_330:tI prog 330=some (false,1):=by kernel_rfl
theorem zI_330:zI prog 330=some [.nilptr]:=by kernel_rfl
abbrev DL:=zi tI_2 (zi zI_2 Go.Proofs.Tryz.underlying2)
abbrev aS:=zi tI_3 (zi zI_3 Go.Proofs.Tryz.underlying3)
abbrev bV:=zi tI_4 (zi zI_4 Go.Proofs.Tryz.underlying4)
abbrev gD:=zi tI_5 (zi zI_5 Go.Proofs.Tryz.underlying5)
abbrev aKL:=zi tI_6 (zi zI_6 Go.Proofs.Tryz.underlying6)
abbrev KP:=zi tI_7 (zi zI_7 (zi aVN (zi aVO (zi aVP (zi aVQ aN4)))))
abbrev vY:=zi tI_8 (zi zI_8 (zi aVR (zi aVS (zi aVT (zi aVU aN5)))))
abbrev cH:=zi tI_9 (zi zI_9 Go.Proofs.Tryz.underlying9)
abbrev aKH:=zi tI_10 (zi zI_10 Go.Proofs.Tryz.underlying10)
abbrev kH:=zi tI_22 (zi zI_22 (zi iK (zi qN (zi qP Go.Proofs.Tryz.underlying22))))
abbrev nN:=zi tI_23 (zi zI_23 (zi pB (zi NL (zi NP Go.Proofs.Tryz.underlying23))))
abbrev mF:=zi tI_25 (zi zI_25 (zi aU2 (zi aU3 aNY)))
abbrev iE:=zi tI_30 (zi zI_30 (zi lC (zi pA (zi pD Go.Proofs.Tryz.underlying30))))
abbrev tZ:=zi tI_49 zI_49
abbrev rE:=zi tI_54 (zi zI_54 (zi aU4 (zi aU5 aNZ)))
abbrev jK:=zi tI_55 (zi zI_55 (zi m9 (zi BS (zi BU Go.Proofs.Tryz.underlying55))))
abbrev cB:=zi tI_56 (zi zI_56 (zi cF (zi kP (zi kQ Go.Proofs.Tryz.underlying56))))
abbrev oK:=zi tI_58 (zi zI_58 (zi aU6 (zi aU7 (zi aU8 (zi aU9 (zi aVA (zi aVB aN0)))))))
abbrev kI:=zi tI_60 (zi zI_60 (zi aVC (zi aVD (zi aVE (zi aVF (zi aVG (zi aVH (zi aVI aN1))))))))
abbrev a2U:=zi tI_65 (zi zI_65 (zi aVJ (zi aVK aN2)))
abbrev oL:=zi tI_66 (zi zI_66 (zi aVL (zi aVM aN3)))
abbrev aKM:=zi tI_84 zI_84
abbrev DM:=zi tI_86 (zi zI_86 (zi IJ (zi U5 (zi U8 Go.Proofs.Tryz.underlying86))))
abbrev aKN:=zi tI_93 (zi zI_93 (zi aVV (zi aVW aN6)))
abbrev QV:=zi tI_94 (zi zI_94 (zi aVX (zi aVY aN7)))
abbrev mG:=zi tI_98 (zi zI_98 (zi qO (zi NM (zi NQ Go.Proofs.Tryz.underlying98))))
abbrev QR:=zi tI_109 (zi zI_109 (zi aS1 (zi aSY (zi aS3 Go.Proofs.Tryz.underlying109))))
abbrev aKI:=zi tI_110 (zi zI_110 (zi aS2 (zi aSZ (zi aS4 Go.Proofs.Tryz.underlying110))))
abbrev a2P:=zi tI_111 (zi zI_111 (zi aTS (zi aTT (zi aTU (zi aTV (zi aTW (zi aTX aNN)))))))
abbrev a2Q:=zi tI_112 (zi zI_112 (zi aTY (zi aTZ (zi aT0 (zi aT1 (zi aT2 (zi aT3 aNO)))))))
abbrev a2R:=zi tI_113 (zi zI_113 (zi aT4 (zi aT5 (zi aT6 (zi aT7 (zi aT8 (zi aT9 (zi aUA aNP))))))))
abbrev KO:=zi tI_114 (zi zI_114 (zi aUB (zi aUC (zi aUD (zi aUE (zi aUF (zi aUG (zi aUH aNQ))))))))
abbrev cC:=zi tI_127 (zi zI_127 (zi aUI (zi aUJ (zi aUK (zi aUL aNR)))))
abbrev DK:=zi tI_131 (zi zI_131 (zi aUM aNS))
abbrev lV:=zi tI_145 (zi zI_145 (zi aUN (zi aUO aNT)))
abbrev GR:=zi tI_172 (zi zI_172 (zi E3 (zi NJ (zi NN Go.Proofs.Tryz.underlying172))))
abbrev QS:=zi tI_173 (zi zI_173 (zi BT (zi NK (zi NO Go.Proofs.Tryz.underlying173))))
abbrev GS:=zi tI_175 (zi zI_175 (zi aUP (zi aUQ (zi aUR aNU))))
abbrev rD:=zi tI_183 (zi zI_183 (zi tC (zi U4 (zi U7 Go.Proofs.Tryz.underlying183))))
abbrev a2S:=zi tI_189 (zi zI_189 Go.Proofs.Tryz.underlying189)
abbrev aKJ:=zi tI_214 (zi zI_214 (zi aUS (zi aUT (zi aUU (zi aUV aNV)))))
abbrev aKK:=zi tI_236 (zi zI_236 (zi aUW (zi aUX aNW)))
abbrev QT:=zi tI_242 (zi zI_242 (zi aUY (zi aUZ (zi aU0 (zi aU1 aNX)))))
abbrev a2T:=zi tI_281 (zi zI_281 (zi U6 (zi aS0 (zi aS5 Go.Proofs.Tryz.underlying281))))
abbrev QU:=zi tI_330 zI_330
theorem mixed:prog.follows .mixedOrders=true:=by kernel_rfl
theorem wF{P:Program}{g:FuncId}{fn:Func}{c:Code}{args:List AV}{st:aA}{N:Nat}{rs:List ResultVar}{K:AV→aA→Prop}(mt:List Nat)(k:Nat)(hf:P.funcs[g]?=some fn)(hN:fn.ntmps=N)(hr:fn.results=rs.toArray)(hb:fn.body=some c)(e:dS args→eW P N mt c (CU P rs.toArray K) (qI 0 args) st)(hn:(fn.name == "runtime.NumGoroutine")=false:=by kernel_rfl) (hok:codeOk N c=true:=by decide +kernel) (ha:args.length=k:=by rfl) (hk:k≤N:=by decide +kernel):aD P g args st K:=
 zw6 mt hf hN hr hb hn hok (by rw[ha];exact hk) e
theorem wP{P:Program}{N:Nat}{id:Nat}{l:List Oper}{Q:Exit→AF→aA→Prop}{φ:AF}{st:aA}(p:List (Nat×Nat))(S:List Nat)(hm:P.follows .mixedOrders=true)(h:iV P l.toArray (Q .normal) p φ st)(hok:oD N l.toArray=true:=by decide +kernel)(hl:p.length=l.length:=by decide +kernel)(hB:sB l.toArray S p (Array.replicate l.length false)=true:=by decide +kernel):eG P N (.region id l.toArray true) Q φ st:=
 zx5 p S hm hok hl hB h
theorem wX{P:Program}{N:Nat}{id:Nat}{l:List Oper}{Q:Exit→AF→aA→Prop}{φ:AF}{st:aA}(p:List (Nat×Nat))(S:List Nat)(s0:aA)(hm:P.follows .mixedOrders=true)(hf:y5 p=true)(hs:eC s0 st)(h:fV P l.toArray s0 (Q .normal) p φ st)(hok:oD N l.toArray=true:=by decide +kernel)(hl:p.length=l.length:=by decide +kernel)(hB:qZ l.toArray S p (Array.replicate l.length false)=true:=by decide +kernel):eG P N (.region id l.toArray true) Q φ st:=
 z5 p S s0 hm hok hl hB hf hs h
theorem gN{sz:Nat}{x:AV}(h1:x.width=sz)(h2:x.cells.all AV.storable=true):uO sz [x]:=by intro e he;simp only[cL,c8,dP] at he;subst he;exact⟨h1,h2⟩
theorem bC{n:Int}(h1: -9223372036854775808≤n:=by omega)(h2:n≤9223372036854775807:=by omega):IntKind.wrap .i64 n=n:=wrap64 h1 h2
theorem uU3:type_of% @Go.Proofs.Tryz.underlying3:=@Go.Proofs.Tryz.underlying3
theorem Q7:type_of% @Go.Proofs.Tryz.underlying5:=@Go.Proofs.Tryz.underlying5
theorem nO:type_of% @Go.Proofs.Tryz.underlying9:=@Go.Proofs.Tryz.underlying9
theorem Q6:type_of% @Go.Proofs.Tryz.underlying22:=@Go.Proofs.Tryz.underlying22
theorem a21:type_of% @Go.Proofs.Tryz.underlying23:=@Go.Proofs.Tryz.underlying23
theorem aK8:type_of% @Go.Proofs.Tryz.underlying30:=@Go.Proofs.Tryz.underlying30
theorem a22:type_of% @Go.Proofs.Tryz.underlying56:=@Go.Proofs.Tryz.underlying56
theorem aK9:type_of% @Go.Proofs.Tryz.underlying98:=@Go.Proofs.Tryz.underlying98
end Go.AW
