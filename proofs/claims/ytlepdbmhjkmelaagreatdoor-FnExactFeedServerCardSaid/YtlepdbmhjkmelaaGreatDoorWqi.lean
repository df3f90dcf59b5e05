/- Closed facts on the types of the program. -/
import Derived.Test.YtlepdbmhjkmelaaGreatDoorProg
import Derived.Test.YtlepdbmhjkmelaaGreatDoorWqh
import Derived.KernelRfl
set_option linter.unusedSimpArgs false
set_option linter.unusedVariables false
set_option maxRecDepth 100000
namespace Go.AW
open Go.Proofs.Tryz
theorem tI_2:tI prog 2=some (false,1):=by kernel_rfl
theorem zI_2:zI prog 2=some [.int .i64 0]:=by kernel_rfl
theorem tI_3:tI prog 3=some (false,1):=by kernel_rfl
theorem zI_3:zI prog 3=some [.int .i64 0]:=by kernel_rfl
theorem tI_4:tI prog 4=some (false,1):=by kernel_rfl
theorem zI_4:zI prog 4=some [.bool false]:=by kernel_rfl
theorem bA1:zV prog 4=some (.bool false):=by kernel_rfl
theorem tI_5:tI prog 5=some (false,1):=by kernel_rfl
theorem zI_5:zI prog 5=some [.int .u8 0]:=by kernel_rfl
theorem tI_6:tI prog 6=some (false,1):=by kernel_rfl
theorem zI_6:zI prog 6=some [.int .u8 0]:=by kernel_rfl
theorem tI_7:tI prog 7=some (true,4):=by kernel_rfl
theorem zI_7:zI prog 7=some [.int .i64 0,.int .i64 0,.bool false,.int .u8 0]:=by kernel_rfl
theorem a07:fI prog 7 0=some (0,false,1):=by kernel_rfl
theorem a08:fI prog 7 1=some (1,false,1):=by kernel_rfl
theorem a09:fI prog 7 2=some (2,false,1):=by kernel_rfl
theorem a1A:fI prog 7 3=some (3,false,1):=by kernel_rfl
theorem aS2:bI prog 7=some [(0,1),(1,1),(2,1),(3,1)]:=by kernel_rfl
theorem tI_9:tI prog 9=some (false,1):=by kernel_rfl
theorem zI_9:zI prog 9=some [.str ⟨#[]⟩]:=by kernel_rfl
theorem tI_22:tI prog 22=some (false,1):=by kernel_rfl
theorem zI_22:zI prog 22=some [.fslice []]:=by kernel_rfl
theorem QU:eI prog 22=some (true,13):=by kernel_rfl
theorem aXX:eB prog 22=some 200:=by kernel_rfl
theorem aX3:eZ prog 22=some [.fslice [],.bool false,.fslice [],.fslice [],.bool false,.fslice [],.fslice [],.int .i64 0,.int .i64 0,.int .i64 0,.int .i64 0,.bool false,.fslice []]:=by kernel_rfl
theorem tI_24:tI prog 24=some (true,2):=by kernel_rfl
theorem zI_24:zI prog 24=some [.fslice [],.int .i64 0]:=by kernel_rfl
theorem aZ7:fI prog 24 0=some (0,false,1):=by kernel_rfl
theorem aZ8:fI prog 24 1=some (1,false,1):=by kernel_rfl
theorem aSU:bI prog 24=some [(0,1),(1,1)]:=by kernel_rfl
theorem tI_25:tI prog 25=some (false,1):=by kernel_rfl
theorem zI_25:zI prog 25=some [.fslice []]:=by kernel_rfl
theorem jC:eI prog 25=some (false,1):=by kernel_rfl
theorem tV:eB prog 25=some 1:=by kernel_rfl
theorem tX:eZ prog 25=some [.int .u8 0]:=by kernel_rfl
theorem tI_27:tI prog 27=some (false,1):=by kernel_rfl
theorem zI_27:zI prog 27=some [.fslice []]:=by kernel_rfl
theorem qU:eI prog 27=some (true,13):=by kernel_rfl
theorem QR:eB prog 27=some 200:=by kernel_rfl
theorem Q1:eZ prog 27=some [.fslice [],.bool false,.fslice [],.fslice [],.bool false,.fslice [],.fslice [],.int .i64 0,.int .i64 0,.int .i64 0,.int .i64 0,.bool false,.fslice []]:=by kernel_rfl
theorem tI_29:tI prog 29=some (true,2):=by kernel_rfl
theorem zI_29:zI prog 29=some [.fslice [],.int .i64 0]:=by kernel_rfl
theorem aZ9:fI prog 29 0=some (0,false,1):=by kernel_rfl
theorem a0A:fI prog 29 1=some (1,false,1):=by kernel_rfl
theorem aSV:bI prog 29=some [(0,1),(1,1)]:=by kernel_rfl
theorem tI_43:tI prog 43=some (true,2):=by kernel_rfl
theorem zI_43:zI prog 43=some [.fslice [],.bool false]:=by kernel_rfl
theorem a0B:fI prog 43 0=some (0,false,1):=by kernel_rfl
theorem a0C:fI prog 43 1=some (1,false,1):=by kernel_rfl
theorem aSW:bI prog 43=some [(0,1),(1,1)]:=by kernel_rfl
theorem tI_44:tI prog 44=some (false,1):=by kernel_rfl
theorem zI_44:zI prog 44=some [.fslice []]:=by kernel_rfl
theorem mS:eI prog 44=some (true,2):=by kernel_rfl
theorem tW:eB prog 44=some 24:=by kernel_rfl
theorem tY:eZ prog 44=some [.int .i64 0,.str ⟨#[]⟩]:=by kernel_rfl
theorem tI_45:tI prog 45=some (false,1):=by kernel_rfl
theorem zI_45:zI prog 45=some [.fslice []]:=by kernel_rfl
theorem lD:eI prog 45=some (true,5):=by kernel_rfl
theorem G0:eB prog 45=some 80:=by kernel_rfl
theorem G4:eZ prog 45=some [.int .i64 0,.int .i64 0,.str ⟨#[]⟩,.fslice [],.fslice []]:=by kernel_rfl
theorem tI_46:tI prog 46=some (false,1):=by kernel_rfl
theorem zI_46:zI prog 46=some [.fslice []]:=by kernel_rfl
theorem bY:eI prog 46=some (true,4):=by kernel_rfl
theorem lC:eB prog 46=some 56:=by kernel_rfl
theorem lE:eZ prog 46=some [.int .i64 0,.int .i64 0,.str ⟨#[]⟩,.fslice []]:=by kernel_rfl
theorem tI_48:tI prog 48=some (true,6):=by kernel_rfl
theorem zI_48:zI prog 48=some [.fslice [],.fslice [],.int .i64 0,.int .i64 0,.int .i64 0,.int .i64 0]:=by kernel_rfl
theorem a0D:fI prog 48 0=some (0,false,1):=by kernel_rfl
theorem a0E:fI prog 48 1=some (1,false,1):=by kernel_rfl
theorem a0F:fI prog 48 2=some (2,false,1):=by kernel_rfl
theorem a0G:fI prog 48 3=some (3,false,1):=by kernel_rfl
theorem a0H:fI prog 48 4=some (4,false,1):=by kernel_rfl
theorem a0I:fI prog 48 5=some (5,false,1):=by kernel_rfl
theorem aSX:bI prog 48=some [(0,1),(1,1),(2,1),(3,1),(4,1),(5,1)]:=by kernel_rfl
theorem tI_50:tI prog 50=some (true,13):=by kernel_rfl
theorem zI_50:zI prog 50=some [.fslice [],.bool false,.fslice [],.fslice [],.bool false,.fslice [],.fslice [],.int .i64 0,.int .i64 0,.int .i64 0,.int .i64 0,.bool false,.fslice []]:=by kernel_rfl
theorem a0J:fI prog 50 0=some (0,true,2):=by kernel_rfl
theorem a0K:fI prog 50 1=some (2,false,1):=by kernel_rfl
theorem a0L:fI prog 50 2=some (3,false,1):=by kernel_rfl
theorem a0M:fI prog 50 3=some (4,false,1):=by kernel_rfl
theorem a0N:fI prog 50 4=some (5,true,6):=by kernel_rfl
theorem a0O:fI prog 50 5=some (11,false,1):=by kernel_rfl
theorem a0P:fI prog 50 6=some (12,false,1):=by kernel_rfl
theorem aSY:bI prog 50=some [(0,2),(2,1),(3,1),(4,1),(5,6),(11,1),(12,1)]:=by kernel_rfl
theorem tI_61:tI prog 61=some (true,2):=by kernel_rfl
theorem zI_61:zI prog 61=some [.fslice [],.bool false]:=by kernel_rfl
theorem a0Q:fI prog 61 0=some (0,false,1):=by kernel_rfl
theorem a0R:fI prog 61 1=some (1,false,1):=by kernel_rfl
theorem aSZ:bI prog 61=some [(0,1),(1,1)]:=by kernel_rfl
theorem tI_62:tI prog 62=some (false,1):=by kernel_rfl
theorem zI_62:zI prog 62=some [.fslice []]:=by kernel_rfl
theorem QV:eI prog 62=some (true,2):=by kernel_rfl
theorem aXY:eB prog 62=some 24:=by kernel_rfl
theorem aX4:eZ prog 62=some [.int .i64 0,.str ⟨#[]⟩]:=by kernel_rfl
theorem tI_63:tI prog 63=some (false,1):=by kernel_rfl
theorem zI_63:zI prog 63=some [.fslice []]:=by kernel_rfl
theorem QW:eI prog 63=some (true,5):=by kernel_rfl
theorem aXZ:eB prog 63=some 80:=by kernel_rfl
theorem aX5:eZ prog 63=some [.int .i64 0,.int .i64 0,.str ⟨#[]⟩,.fslice [],.fslice []]:=by kernel_rfl
theorem tI_64:tI prog 64=some (false,1):=by kernel_rfl
theorem zI_64:zI prog 64=some [.fslice []]:=by kernel_rfl
theorem QX:eI prog 64=some (true,4):=by kernel_rfl
theorem aX0:eB prog 64=some 56:=by kernel_rfl
theorem aX6:eZ prog 64=some [.int .i64 0,.int .i64 0,.str ⟨#[]⟩,.fslice []]:=by kernel_rfl
theorem tI_66:tI prog 66=some (true,6):=by kernel_rfl
theorem zI_66:zI prog 66=some [.fslice [],.fslice [],.int .i64 0,.int .i64 0,.int .i64 0,.int .i64 0]:=by kernel_rfl
theorem a0S:fI prog 66 0=some (0,false,1):=by kernel_rfl
theorem a0T:fI prog 66 1=some (1,false,1):=by kernel_rfl
theorem a0U:fI prog 66 2=some (2,false,1):=by kernel_rfl
theorem a0V:fI prog 66 3=some (3,false,1):=by kernel_rfl
theorem a0W:fI prog 66 4=some (4,false,1):=by kernel_rfl
theorem a0X:fI prog 66 5=some (5,false,1):=by kernel_rfl
theorem aS0:bI prog 66=some [(0,1),(1,1),(2,1),(3,1),(4,1),(5,1)]:=by kernel_rfl
theorem tI_68:tI prog 68=some (true,13):=by kernel_rfl
theorem zI_68:zI prog 68=some [.fslice [],.bool false,.fslice [],.fslice [],.bool false,.fslice [],.fslice [],.int .i64 0,.int .i64 0,.int .i64 0,.int .i64 0,.bool false,.fslice []]:=by kernel_rfl
theorem a0Y:fI prog 68 0=some (0,true,2):=by kernel_rfl
theorem a0Z:fI prog 68 1=some (2,false,1):=by kernel_rfl
theorem a00:fI prog 68 2=some (3,false,1):=by kernel_rfl
theorem a01:fI prog 68 3=some (4,false,1):=by kernel_rfl
theorem a02:fI prog 68 4=some (5,true,6):=by kernel_rfl
theorem a03:fI prog 68 5=some (11,false,1):=by kernel_rfl
theorem a04:fI prog 68 6=some (12,false,1):=by kernel_rfl
theorem aS1:bI prog 68=some [(0,2),(2,1),(3,1),(4,1),(5,6),(11,1),(12,1)]:=by kernel_rfl
theorem tI_77:tI prog 77=some (true,2):=by kernel_rfl
theorem zI_77:zI prog 77=some [.int .i64 0,.str ⟨#[]⟩]:=by kernel_rfl
theorem a05:fI prog 77 0=some (0,false,1):=by kernel_rfl
theorem a06:fI prog 77 1=some (1,false,1):=by kernel_rfl
theorem aS3:bI prog 77=some [(0,1),(1,1)]:=by kernel_rfl
theorem tI_94:tI prog 94=some (true,4):=by kernel_rfl
theorem zI_94:zI prog 94=some [.int .i64 0,.int .i64 0,.str ⟨#[]⟩,.fslice []]:=by kernel_rfl
theorem bA2:zV prog 94=some (.agg [.int .i64 0,.int .i64 0,.str ⟨#[]⟩,.fslice []]):=by kernel_rfl
theorem a1B:fI prog 94 0=some (0,false,1):=by kernel_rfl
theorem a1C:fI prog 94 1=some (1,false,1):=by kernel_rfl
theorem a1D:fI prog 94 2=some (2,false,1):=by kernel_rfl
theorem a1E:fI prog 94 3=some (3,false,1):=by kernel_rfl
theorem aS4:bI prog 94=some [(0,1),(1,1),(2,1),(3,1)]:=by kernel_rfl
theorem tI_96:tI prog 96=some (true,5):=by kernel_rfl
theorem zI_96:zI prog 96=some [.int .i64 0,.int .i64 0,.str ⟨#[]⟩,.fslice [],.fslice []]:=by kernel_rfl
theorem a1F:fI prog 96 0=some (0,true,4):=by kernel_rfl
theorem a1G:fI prog 96 1=some (4,false,1):=by kernel_rfl
theorem aS5:bI prog 96=some [(0,4),(4,1)]:=by kernel_rfl
theorem tI_109:tI prog 109=some (false,1):=by kernel_rfl
theorem zI_109:zI prog 109=some [.fslice []]:=by kernel_rfl
theorem QS:eI prog 109=some (false,1):=by kernel_rfl
theorem aXV:eB prog 109=some 24:=by kernel_rfl
theorem aX1:eZ prog 109=some [.fslice []]:=by kernel_rfl
theorem tI_111:tI prog 111=some (false,1):=by kernel_rfl
theorem zI_111:zI prog 111=some [.int .u64 0]:=by kernel_rfl
theorem tI_118:tI prog 118=some (true,2):=by kernel_rfl
theorem zI_118:zI prog 118=some [.int .i64 0,.str ⟨#[]⟩]:=by kernel_rfl
theorem aYS:fI prog 118 0=some (0,false,1):=by kernel_rfl
theorem aYT:fI prog 118 1=some (1,false,1):=by kernel_rfl
theorem aSG:bI prog 118=some [(0,1),(1,1)]:=by kernel_rfl
theorem tI_120:tI prog 120=some (true,4):=by kernel_rfl
theorem zI_120:zI prog 120=some [.int .i64 0,.int .i64 0,.str ⟨#[]⟩,.fslice []]:=by kernel_rfl
theorem aYU:fI prog 120 0=some (0,false,1):=by kernel_rfl
theorem aYV:fI prog 120 1=some (1,false,1):=by kernel_rfl
theorem aYW:fI prog 120 2=some (2,false,1):=by kernel_rfl
theorem aYX:fI prog 120 3=some (3,false,1):=by kernel_rfl
theorem aSH:bI prog 120=some [(0,1),(1,1),(2,1),(3,1)]:=by kernel_rfl
theorem tI_121:tI prog 121=some (true,4):=by kernel_rfl
theorem zI_121:zI prog 121=some [.int .i64 0,.int .i64 0,.str ⟨#[]⟩,.fslice []]:=by kernel_rfl
theorem aYY:fI prog 121 0=some (0,false,1):=by kernel_rfl
theorem aYZ:fI prog 121 1=some (1,false,1):=by kernel_rfl
theorem aY0:fI prog 121 2=some (2,false,1):=by kernel_rfl
theorem aY1:fI prog 121 3=some (3,false,1):=by kernel_rfl
theorem aSI:bI prog 121=some [(0,1),(1,1),(2,1),(3,1)]:=by kernel_rfl
theorem tI_123:tI prog 123=some (true,5):=by kernel_rfl
theorem zI_123:zI prog 123=some [.int .i64 0,.int .i64 0,.str ⟨#[]⟩,.fslice [],.fslice []]:=by kernel_rfl
theorem aY2:fI prog 123 0=some (0,true,4):=by kernel_rfl
theorem aY3:fI prog 123 1=some (4,false,1):=by kernel_rfl
theorem aSJ:bI prog 123=some [(0,4),(4,1)]:=by kernel_rfl
theorem tI_128:tI prog 128=some (false,1):=by kernel_rfl
theorem zI_128:zI prog 128=some [.fslice []]:=by kernel_rfl
theorem KQ:eI prog 128=some (true,1):=by kernel_rfl
theorem QO:eB prog 128=some 24:=by kernel_rfl
theorem QY:eZ prog 128=some [.fslice []]:=by kernel_rfl
theorem tI_148:tI prog 148=some (false,1):=by kernel_rfl
theorem zI_148:zI prog 148=some [.fslice []]:=by kernel_rfl
theorem iL:eI prog 148=some (false,1):=by kernel_rfl
theorem DE:eB prog 148=some 8:=by kernel_rfl
theorem AK:eZ prog 148=some [.int .i64 0]:=by kernel_rfl
theorem tI_150:tI prog 150=some (false,1):=by kernel_rfl
theorem zI_150:zI prog 150=some [.fslice []]:=by kernel_rfl
theorem G1:eI prog 150=some (true,5):=by kernel_rfl
theorem QP:eB prog 150=some 64:=by kernel_rfl
theorem QZ:eZ prog 150=some [.int .i64 0,.int .i64 0,.str ⟨#[]⟩,.fslice [],.int .i64 0]:=by kernel_rfl
theorem tI_151:tI prog 151=some (false,1):=by kernel_rfl
theorem zI_151:zI prog 151=some [.fslice []]:=by kernel_rfl
theorem DF:eI prog 151=some (true,7):=by kernel_rfl
theorem QQ:eB prog 151=some 128:=by kernel_rfl
theorem Q0:eZ prog 151=some [.int .i64 0,.int .i64 0,.str ⟨#[]⟩,.fslice [],.fslice [],.fslice [],.fslice []]:=by kernel_rfl
theorem tI_153:tI prog 153=some (true,3):=by kernel_rfl
theorem zI_153:zI prog 153=some [.fslice [],.fslice [],.fslice []]:=by kernel_rfl
theorem aY4:fI prog 153 0=some (0,false,1):=by kernel_rfl
theorem aY5:fI prog 153 1=some (1,false,1):=by kernel_rfl
theorem aY6:fI prog 153 2=some (2,false,1):=by kernel_rfl
theorem aSK:bI prog 153=some [(0,1),(1,1),(2,1)]:=by kernel_rfl
theorem tI_156:tI prog 156=some (true,1):=by kernel_rfl
theorem zI_156:zI prog 156=some [.fslice []]:=by kernel_rfl
theorem aY7:fI prog 156 0=some (0,false,1):=by kernel_rfl
theorem aSL:bI prog 156=some [(0,1)]:=by kernel_rfl
theorem tI_168:tI prog 168=some (false,1):=by kernel_rfl
theorem zI_168:zI prog 168=some [.nilptr]:=by kernel_rfl
theorem tI_177:tI prog 177=some (true,5):=by kernel_rfl
theorem zI_177:zI prog 177=some [.int .i64 0,.int .i64 0,.str ⟨#[]⟩,.fslice [],.int .i64 0]:=by kernel_rfl
theorem aY8:fI prog 177 0=some (0,true,4):=by kernel_rfl
theorem aY9:fI prog 177 1=some (4,false,1):=by kernel_rfl
theorem aSM:bI prog 177=some [(0,4),(4,1)]:=by kernel_rfl
theorem tI_183:tI prog 183=some (true,7):=by kernel_rfl
theorem zI_183:zI prog 183=some [.int .i64 0,.int .i64 0,.str ⟨#[]⟩,.fslice [],.fslice [],.fslice [],.fslice []]:=by kernel_rfl
theorem aZA:fI prog 183 0=some (0,true,4):=by kernel_rfl
theorem aZB:fI prog 183 1=some (4,false,1):=by kernel_rfl
theorem aZC:fI prog 183 2=some (5,false,1):=by kernel_rfl
theorem aZD:fI prog 183 3=some (6,false,1):=by kernel_rfl
theorem aSN:bI prog 183=some [(0,4),(4,1),(5,1),(6,1)]:=by kernel_rfl
theorem tI_188:tI prog 188=some (false,1):=by kernel_rfl
theorem zI_188:zI prog 188=some [.nilptr]:=by kernel_rfl
theorem tI_203:tI prog 203=some (false,1):=by kernel_rfl
theorem zI_203:zI prog 203=some [.fslice []]:=by kernel_rfl
theorem QT:eI prog 203=some (false,1):=by kernel_rfl
theorem aXW:eB prog 203=some 16:=by kernel_rfl
theorem aX2:eZ prog 203=some [.str ⟨#[]⟩]:=by kernel_rfl
theorem tI_205:tI prog 205=some (false,1):=by kernel_rfl
theorem zI_205:zI prog 205=some [.nilptr]:=by kernel_rfl
theorem tI_207:tI prog 207=some (false,1):=by kernel_rfl
theorem zI_207:zI prog 207=some [.nilptr]:=by kernel_rfl
theorem tI_208:tI prog 208=some (false,1):=by kernel_rfl
theorem zI_208:zI prog 208=some [.fslice []]:=by kernel_rfl
theorem G3:eI prog 208=some (true,9):=by kernel_rfl
theorem Z0:eB prog 208=some 112:=by kernel_rfl
theorem Z2:eZ prog 208=some [.int .i64 0,.int .i64 0,.str ⟨#[]⟩,.fslice [],.int .i64 0,.nilptr,.fslice [],.int .i64 0,.int .i64 0]:=by kernel_rfl
theorem tI_209:tI prog 209=some (false,1):=by kernel_rfl
theorem zI_209:zI prog 209=some [.fslice []]:=by kernel_rfl
theorem KR:eI prog 209=some (true,6):=by kernel_rfl
theorem Z1:eB prog 209=some 72:=by kernel_rfl
theorem Z3:eZ prog 209=some [.int .i64 0,.int .i64 0,.str ⟨#[]⟩,.fslice [],.int .i64 0,.int .i64 0]:=by kernel_rfl
theorem tI_211:tI prog 211=some (true,12):=by kernel_rfl
theorem zI_211:zI prog 211=some [.nilptr,.fslice [],.fslice [],.bool false,.bool false,.int .i64 0,.int .i64 0,.int .i64 0,.nilptr,.fslice [],.fslice [],.int .i64 0]:=by kernel_rfl
theorem aZE:fI prog 211 0=some (0,false,1):=by kernel_rfl
theorem aZF:fI prog 211 1=some (1,false,1):=by kernel_rfl
theorem aZI:fI prog 211 2=some (2,false,1):=by kernel_rfl
theorem aZJ:fI prog 211 3=some (3,false,1):=by kernel_rfl
theorem aZK:fI prog 211 4=some (4,false,1):=by kernel_rfl
theorem aZL:fI prog 211 5=some (5,false,1):=by kernel_rfl
theorem aZM:fI prog 211 6=some (6,false,1):=by kernel_rfl
theorem aZN:fI prog 211 7=some (7,false,1):=by kernel_rfl
theorem aZO:fI prog 211 8=some (8,false,1):=by kernel_rfl
theorem aZP:fI prog 211 9=some (9,false,1):=by kernel_rfl
theorem aZG:fI prog 211 10=some (10,false,1):=by kernel_rfl
theorem aZH:fI prog 211 11=some (11,false,1):=by kernel_rfl
theorem aSO:bI prog 211=some [(0,1),(1,1),(2,1),(3,1),(4,1),(5,1),(6,1),(7,1),(8,1),(9,1),(10,1),(11,1)]:=by kernel_rfl
theorem tI_221:tI prog 221=some (false,1):=by kernel_rfl
theorem zI_221:zI prog 221=some [.nilmap]:=by kernel_rfl
theorem tI_223:tI prog 223=some (true,2):=by kernel_rfl
theorem zI_223:zI prog 223=some [.nilmap,.fslice []]:=by kernel_rfl
theorem aZQ:fI prog 223 0=some (0,false,1):=by kernel_rfl
theorem aZR:fI prog 223 1=some (1,false,1):=by kernel_rfl
theorem aSP:bI prog 223=some [(0,1),(1,1)]:=by kernel_rfl
theorem tI_225:tI prog 225=some (true,7):=by kernel_rfl
theorem zI_225:zI prog 225=some [.int .i64 0,.int .i64 0,.str ⟨#[]⟩,.fslice [],.int .i64 0,.int .i64 0,.nilptr]:=by kernel_rfl
theorem aZS:fI prog 225 0=some (0,true,4):=by kernel_rfl
theorem aZT:fI prog 225 1=some (4,false,1):=by kernel_rfl
theorem aZU:fI prog 225 2=some (5,false,1):=by kernel_rfl
theorem aZV:fI prog 225 3=some (6,false,1):=by kernel_rfl
theorem aSQ:bI prog 225=some [(0,4),(4,1),(5,1),(6,1)]:=by kernel_rfl
theorem tI_229:tI prog 229=some (true,6):=by kernel_rfl
theorem zI_229:zI prog 229=some [.int .i64 0,.int .i64 0,.str ⟨#[]⟩,.fslice [],.int .i64 0,.int .i64 0]:=by kernel_rfl
theorem aZW:fI prog 229 0=some (0,true,4):=by kernel_rfl
theorem aZX:fI prog 229 1=some (4,false,1):=by kernel_rfl
theorem aZY:fI prog 229 2=some (5,false,1):=by kernel_rfl
theorem aSR:bI prog 229=some [(0,4),(4,1),(5,1)]:=by kernel_rfl
theorem tI_232:tI prog 232=some (true,2):=by kernel_rfl
theorem zI_232:zI prog 232=some [.str ⟨#[]⟩,.int .i64 0]:=by kernel_rfl
theorem aZZ:fI prog 232 0=some (0,false,1):=by kernel_rfl
theorem aZ0:fI prog 232 1=some (1,false,1):=by kernel_rfl
theorem aSS:bI prog 232=some [(0,1),(1,1)]:=by kernel_rfl
theorem tI_237:tI prog 237=some (true,9):=by kernel_rfl
theorem zI_237:zI prog 237=some [.int .i64 0,.int .i64 0,.str ⟨#[]⟩,.fslice [],.int .i64 0,.nilptr,.fslice [],.int .i64 0,.int .i64 0]:=by kernel_rfl
theorem aZ1:fI prog 237 0=some (0,true,4):=by kernel_rfl
theorem aZ2:fI prog 237 1=some (4,false,1):=by kernel_rfl
theorem aZ3:fI prog 237 2=some (5,false,1):=by kernel_rfl
theorem aZ4:fI prog 237 3=some (6,false,1):=by kernel_rfl
theorem aZ5:fI prog 237 4=some (7,false,1):=by kernel_rfl
theorem aZ6:fI prog 237 5=some (8,false,1):=by kernel_rfl
theorem aST:bI prog 237=some [(0,4),(4,1),(5,1),(6,1),(7,1),(8,1)]:=by kernel_rfl
theorem tI_254:tI prog 254=some (false,1):=by kernel_rfl
theorem zI_254:zI prog 254=some [.nilmap]:=by kernel_rfl
abbrev NM:=zi tI_2 (zi zI_2 Go.Proofs.Tryz.underlying2)
abbrev aX:=zi tI_3 (zi zI_3 Go.Proofs.Tryz.underlying3)
abbrev cB:=zi tI_4 (zi zI_4 Go.Proofs.Tryz.underlying4)
abbrev tB:=zi tI_5 (zi zI_5 Go.Proofs.Tryz.underlying5)
abbrev a9U:=zi tI_6 (zi zI_6 Go.Proofs.Tryz.underlying6)
abbrev a9V:=zi tI_7 (zi zI_7 (zi a07 (zi a08 (zi a09 (zi a1A aS2)))))
abbrev d9:=zi tI_9 (zi zI_9 Go.Proofs.Tryz.underlying9)
abbrev NN:=zi tI_22 (zi zI_22 (zi QU (zi aXX (zi aX3 Go.Proofs.Tryz.underlying22))))
abbrev U8:=zi tI_24 (zi zI_24 (zi aZ7 (zi aZ8 aSU)))
abbrev iQ:=zi tI_25 (zi zI_25 (zi jC (zi tV (zi tX Go.Proofs.Tryz.underlying25))))
abbrev oD:=zi tI_27 (zi zI_27 (zi qU (zi QR (zi Q1 Go.Proofs.Tryz.underlying27))))
abbrev tA:=zi tI_29 (zi zI_29 (zi aZ9 (zi a0A aSV)))
abbrev oE:=zi tI_43 (zi zI_43 (zi a0B (zi a0C aSW)))
abbrev lM:=zi tI_44 (zi zI_44 (zi mS (zi tW (zi tY Go.Proofs.Tryz.underlying44))))
abbrev gL:=zi tI_45 (zi zI_45 (zi lD (zi G0 (zi G4 Go.Proofs.Tryz.underlying45))))
abbrev cI:=zi tI_46 (zi zI_46 (zi bY (zi lC (zi lE Go.Proofs.Tryz.underlying46))))
abbrev oF:=zi tI_48 (zi zI_48 (zi a0D (zi a0E (zi a0F (zi a0G (zi a0H (zi a0I aSX)))))))
abbrev oG:=zi tI_50 (zi zI_50 (zi a0J (zi a0K (zi a0L (zi a0M (zi a0N (zi a0O (zi a0P aSY))))))))
abbrev NP:=zi tI_61 (zi zI_61 (zi a0Q (zi a0R aSZ)))
abbrev NQ:=zi tI_62 (zi zI_62 (zi QV (zi aXY (zi aX4 Go.Proofs.Tryz.underlying62))))
abbrev FG:=zi tI_63 (zi zI_63 (zi QW (zi aXZ (zi aX5 Go.Proofs.Tryz.underlying63))))
abbrev dD:=zi tI_64 (zi zI_64 (zi QX (zi aX0 (zi aX6 Go.Proofs.Tryz.underlying64))))
abbrev NR:=zi tI_66 (zi zI_66 (zi a0S (zi a0T (zi a0U (zi a0V (zi a0W (zi a0X aS0)))))))
abbrev NS:=zi tI_68 (zi zI_68 (zi a0Y (zi a0Z (zi a00 (zi a01 (zi a02 (zi a03 (zi a04 aS1))))))))
abbrev pI:=zi tI_77 (zi zI_77 (zi a05 (zi a06 aS3)))
abbrev cC:=zi tI_94 (zi zI_94 (zi a1B (zi a1C (zi a1D (zi a1E aS4)))))
abbrev kX:=zi tI_96 (zi zI_96 (zi a1F (zi a1G aS5)))
abbrev aPX:=zi tI_109 (zi zI_109 (zi QS (zi aXV (zi aX1 Go.Proofs.Tryz.underlying109))))
abbrev a9T:=zi tI_111 (zi zI_111 Go.Proofs.Tryz.underlying111)
abbrev NJ:=zi tI_118 (zi zI_118 (zi aYS (zi aYT aSG)))
abbrev aPY:=zi tI_120 (zi zI_120 (zi aYU (zi aYV (zi aYW (zi aYX aSH)))))
abbrev zG:=zi tI_121 (zi zI_121 (zi aYY (zi aYZ (zi aY0 (zi aY1 aSI)))))
abbrev NK:=zi tI_123 (zi zI_123 (zi aY2 (zi aY3 aSJ)))
abbrev BY:=zi tI_128 (zi zI_128 (zi KQ (zi QO (zi QY Go.Proofs.Tryz.underlying128))))
abbrev iP:=zi tI_148 (zi zI_148 (zi iL (zi DE (zi AK Go.Proofs.Tryz.underlying148))))
abbrev IT:=zi tI_150 (zi zI_150 (zi G1 (zi QP (zi QZ Go.Proofs.Tryz.underlying150))))
abbrev UZ:=zi tI_151 (zi zI_151 (zi DF (zi QQ (zi Q0 Go.Proofs.Tryz.underlying151))))
abbrev IU:=zi tI_153 (zi zI_153 (zi aY4 (zi aY5 (zi aY6 aSK))))
abbrev NL:=zi tI_156 (zi zI_156 (zi aY7 aSL))
abbrev IV:=zi tI_168 zI_168
abbrev aPZ:=zi tI_177 (zi zI_177 (zi aY8 (zi aY9 aSM)))
abbrev U0:=zi tI_183 (zi zI_183 (zi aZA (zi aZB (zi aZC (zi aZD aSN)))))
abbrev FC:=zi tI_188 zI_188
abbrev FD:=zi tI_203 (zi zI_203 (zi QT (zi aXW (zi aX2 Go.Proofs.Tryz.underlying203))))
abbrev pH:=zi tI_205 zI_205
abbrev FE:=zi tI_207 zI_207
abbrev U3:=zi tI_208 (zi zI_208 (zi G3 (zi Z0 (zi Z2 Go.Proofs.Tryz.underlying208))))
abbrev U5:=zi tI_209 (zi zI_209 (zi KR (zi Z1 (zi Z3 Go.Proofs.Tryz.underlying209))))
abbrev IW:=zi tI_211 (zi zI_211 (zi aZE (zi aZF (zi aZI (zi aZJ (zi aZK (zi aZL (zi aZM (zi aZN (zi aZO (zi aZP (zi aZG (zi aZH aSO)))))))))))))
abbrev NO:=zi tI_221 (zi zI_221 Go.Proofs.Tryz.underlying221)
abbrev FF:=zi tI_223 (zi zI_223 (zi aZQ (zi aZR aSP)))
abbrev U6:=zi tI_225 (zi zI_225 (zi aZS (zi aZT (zi aZU (zi aZV aSQ)))))
abbrev aP0:=zi tI_229 (zi zI_229 (zi aZW (zi aZX (zi aZY aSR))))
abbrev U7:=zi tI_232 (zi zI_232 (zi aZZ (zi aZ0 aSS)))
abbrev aP1:=zi tI_237 (zi zI_237 (zi aZ1 (zi aZ2 (zi aZ3 (zi aZ4 (zi aZ5 (zi aZ6 aST)))))))
abbrev U9:=zi tI_254 (zi zI_254 Go.Proofs.Tryz.underlying254)
theorem mixed:prog.follows .mixedOrders=true:=by kernel_rfl
theorem wF{P:Program}{g:FuncId}{fn:Func}{c:Code}{args:List AV}{st:aA}{N:Nat}{rs:List ResultVar}{K:AV→aA→Prop}(mt:List Nat)(k:Nat)(hf:P.funcs[g]?=some fn)(hN:fn.ntmps=N)(hr:fn.results=rs.toArray)(hb:fn.body=some c)(e:cV args→gH P N mt c (ER P rs.toArray K) (sA 0 args) st)(hn:(fn.name == "runtime.NumGoroutine")=false:=by kernel_rfl) (hok:codeOk N c=true:=by decide +kernel) (ha:args.length=k:=by rfl) (hk:k≤N:=by decide +kernel):aD P g args st K:=
 zw6 mt hf hN hr hb hn hok (by rw[ha];exact hk) e
theorem wP{P:Program}{N:Nat}{id:Nat}{l:List Oper}{Q:Exit→AF→aA→Prop}{φ:AF}{st:aA}(p:List (Nat×Nat))(S:List Nat)(hm:P.follows .mixedOrders=true)(h:jX P l.toArray (Q .normal) p φ st)(hok:qF N l.toArray=true:=by decide +kernel)(hl:p.length=l.length:=by decide +kernel)(hB:uL l.toArray S p (Array.replicate l.length false)=true:=by decide +kernel):fR P N (.region id l.toArray true) Q φ st:=
 zx5 p S hm hok hl hB h
theorem wX{P:Program}{N:Nat}{id:Nat}{l:List Oper}{Q:Exit→AF→aA→Prop}{φ:AF}{st:aA}(p:List (Nat×Nat))(S:List Nat)(s0:aA)(hm:P.follows .mixedOrders=true)(hf:BE p=true)(hs:eQ s0 st)(h:iF P l.toArray s0 (Q .normal) p φ st)(hok:qF N l.toArray=true:=by decide +kernel)(hl:p.length=l.length:=by decide +kernel)(hB:sU l.toArray S p (Array.replicate l.length false)=true:=by decide +kernel):fR P N (.region id l.toArray true) Q φ st:=
 zq5 p S s0 hm hok hl hB hf hs h
theorem g8{sz:Nat}{x:AV}(h1:x.width=sz)(h2:x.cells.all AV.storable=true):tO sz [x]:=by intro e he;simp only[cG,cX,dG] at he;subst he;exact⟨h1,h2⟩
theorem aZ{n:Int}(h1: -9223372036854775808≤n:=by omega)(h2:n≤9223372036854775807:=by omega):IntKind.wrap .i64 n=n:=wrap64 h1 h2
theorem qI:type_of% @Go.Proofs.Tryz.underlying3:=@Go.Proofs.Tryz.underlying3
theorem uU4:type_of% @Go.Proofs.Tryz.underlying4:=@Go.Proofs.Tryz.underlying4
theorem VL:type_of% @Go.Proofs.Tryz.underlying5:=@Go.Proofs.Tryz.underlying5
theorem B0:type_of% @Go.Proofs.Tryz.underlying9:=@Go.Proofs.Tryz.underlying9
theorem a93:type_of% @Go.Proofs.Tryz.underlying22:=@Go.Proofs.Tryz.underlying22
theorem a94:type_of% @Go.Proofs.Tryz.underlying24:=@Go.Proofs.Tryz.underlying24
theorem I1:type_of% @Go.Proofs.Tryz.underlying25:=@Go.Proofs.Tryz.underlying25
theorem a95:type_of% @Go.Proofs.Tryz.underlying27:=@Go.Proofs.Tryz.underlying27
theorem VK:type_of% @Go.Proofs.Tryz.underlying44:=@Go.Proofs.Tryz.underlying44
theorem a96:type_of% @Go.Proofs.Tryz.underlying45:=@Go.Proofs.Tryz.underlying45
theorem a97:type_of% @Go.Proofs.Tryz.underlying46:=@Go.Proofs.Tryz.underlying46
theorem a98:type_of% @Go.Proofs.Tryz.underlying61:=@Go.Proofs.Tryz.underlying61
theorem a99:type_of% @Go.Proofs.Tryz.underlying62:=@Go.Proofs.Tryz.underlying62
theorem bAA:type_of% @Go.Proofs.Tryz.underlying63:=@Go.Proofs.Tryz.underlying63
theorem aQM:type_of% @Go.Proofs.Tryz.underlying64:=@Go.Proofs.Tryz.underlying64
theorem bAB:type_of% @Go.Proofs.Tryz.underlying66:=@Go.Proofs.Tryz.underlying66
theorem bAC:type_of% @Go.Proofs.Tryz.underlying68:=@Go.Proofs.Tryz.underlying68
theorem a90:type_of% @Go.Proofs.Tryz.underlying118:=@Go.Proofs.Tryz.underlying118
theorem a91:type_of% @Go.Proofs.Tryz.underlying121:=@Go.Proofs.Tryz.underlying121
theorem a92:type_of% @Go.Proofs.Tryz.underlying123:=@Go.Proofs.Tryz.underlying123
theorem I0:type_of% @Go.Proofs.Tryz.underlying148:=@Go.Proofs.Tryz.underlying148
theorem VJ:type_of% @Go.Proofs.Tryz.underlying221:=@Go.Proofs.Tryz.underlying221
theorem aQK:type_of% @Go.Proofs.Tryz.underlying254:=@Go.Proofs.Tryz.underlying254
end Go.AW
