/- Closed facts on the types of the program. -/
import Derived.Test.YtepkgoabhlnkbaaGreatDoorProg
import Derived.Test.YtepkgoabhlnkbaaGreatDoorSesh
import Derived.KernelRfl
set_option linter.unusedSimpArgs false
set_option linter.unusedVariables false
set_option maxRecDepth 100000
namespace Go.AW
theorem tI_2 : tI Go.Proofs.Tryz.prog 2 = some (false, 1) := by kernel_rfl
theorem zI_2 : zI Go.Proofs.Tryz.prog 2 = some [.int .i64 0] := by kernel_rfl
theorem tI_3 : tI Go.Proofs.Tryz.prog 3 = some (false, 1) := by kernel_rfl
theorem zI_3 : zI Go.Proofs.Tryz.prog 3 = some [.int .i64 0] := by kernel_rfl
theorem tI_4 : tI Go.Proofs.Tryz.prog 4 = some (false, 1) := by kernel_rfl
theorem zI_4 : zI Go.Proofs.Tryz.prog 4 = some [.bool false] := by kernel_rfl
theorem zV_4 : zV Go.Proofs.Tryz.prog 4 = some (.bool false) := by kernel_rfl
theorem tI_5 : tI Go.Proofs.Tryz.prog 5 = some (false, 1) := by kernel_rfl
theorem zI_5 : zI Go.Proofs.Tryz.prog 5 = some [.int .u8 0] := by kernel_rfl
theorem tI_6 : tI Go.Proofs.Tryz.prog 6 = some (false, 1) := by kernel_rfl
theorem zI_6 : zI Go.Proofs.Tryz.prog 6 = some [.int .u8 0] := by kernel_rfl
theorem tI_9 : tI Go.Proofs.Tryz.prog 9 = some (false, 1) := by kernel_rfl
theorem zI_9 : zI Go.Proofs.Tryz.prog 9 = some [.str ⟨#[]⟩] := by kernel_rfl
theorem tI_22 : tI Go.Proofs.Tryz.prog 22 = some (false, 1) := by kernel_rfl
theorem zI_22 : zI Go.Proofs.Tryz.prog 22 = some [.fslice []] := by kernel_rfl
theorem eI_22 : eI Go.Proofs.Tryz.prog 22 = some (true, 5) := by kernel_rfl
theorem eB_22 : eB Go.Proofs.Tryz.prog 22 = some 80 := by kernel_rfl
theorem eZ_22 : eZ Go.Proofs.Tryz.prog 22 = some [.int .i64 0, .int .i64 0, .str ⟨#[]⟩, .fslice [], .fslice []] := by kernel_rfl
theorem tI_23 : tI Go.Proofs.Tryz.prog 23 = some (false, 1) := by kernel_rfl
theorem zI_23 : zI Go.Proofs.Tryz.prog 23 = some [.fslice []] := by kernel_rfl
theorem eI_23 : eI Go.Proofs.Tryz.prog 23 = some (true, 4) := by kernel_rfl
theorem eB_23 : eB Go.Proofs.Tryz.prog 23 = some 56 := by kernel_rfl
theorem eZ_23 : eZ Go.Proofs.Tryz.prog 23 = some [.int .i64 0, .int .i64 0, .str ⟨#[]⟩, .fslice []] := by kernel_rfl
theorem tI_25 : tI Go.Proofs.Tryz.prog 25 = some (true, 6) := by kernel_rfl
theorem zI_25 : zI Go.Proofs.Tryz.prog 25 = some [.fslice [], .fslice [], .int .i64 0, .int .i64 0, .int .i64 0, .int .i64 0] := by kernel_rfl
theorem fI_25_0 : fI Go.Proofs.Tryz.prog 25 0 = some (0, false, 1) := by kernel_rfl
theorem fI_25_1 : fI Go.Proofs.Tryz.prog 25 1 = some (1, false, 1) := by kernel_rfl
theorem fI_25_2 : fI Go.Proofs.Tryz.prog 25 2 = some (2, false, 1) := by kernel_rfl
theorem fI_25_3 : fI Go.Proofs.Tryz.prog 25 3 = some (3, false, 1) := by kernel_rfl
theorem fI_25_4 : fI Go.Proofs.Tryz.prog 25 4 = some (4, false, 1) := by kernel_rfl
theorem fI_25_5 : fI Go.Proofs.Tryz.prog 25 5 = some (5, false, 1) := by kernel_rfl
theorem bI_25 : bI Go.Proofs.Tryz.prog 25 = some [(0, 1), (1, 1), (2, 1), (3, 1), (4, 1), (5, 1)] := by kernel_rfl
theorem tI_28 : tI Go.Proofs.Tryz.prog 28 = some (false, 1) := by kernel_rfl
theorem zI_28 : zI Go.Proofs.Tryz.prog 28 = some [.fslice []] := by kernel_rfl
theorem eI_28 : eI Go.Proofs.Tryz.prog 28 = some (true, 5) := by kernel_rfl
theorem eB_28 : eB Go.Proofs.Tryz.prog 28 = some 80 := by kernel_rfl
theorem eZ_28 : eZ Go.Proofs.Tryz.prog 28 = some [.int .i64 0, .int .i64 0, .str ⟨#[]⟩, .fslice [], .fslice []] := by kernel_rfl
theorem tI_29 : tI Go.Proofs.Tryz.prog 29 = some (false, 1) := by kernel_rfl
theorem zI_29 : zI Go.Proofs.Tryz.prog 29 = some [.fslice []] := by kernel_rfl
theorem eI_29 : eI Go.Proofs.Tryz.prog 29 = some (true, 4) := by kernel_rfl
theorem eB_29 : eB Go.Proofs.Tryz.prog 29 = some 56 := by kernel_rfl
theorem eZ_29 : eZ Go.Proofs.Tryz.prog 29 = some [.int .i64 0, .int .i64 0, .str ⟨#[]⟩, .fslice []] := by kernel_rfl
theorem tI_30 : tI Go.Proofs.Tryz.prog 30 = some (true, 6) := by kernel_rfl
theorem zI_30 : zI Go.Proofs.Tryz.prog 30 = some [.fslice [], .fslice [], .int .i64 0, .int .i64 0, .int .i64 0, .int .i64 0] := by kernel_rfl
theorem fI_30_0 : fI Go.Proofs.Tryz.prog 30 0 = some (0, false, 1) := by kernel_rfl
theorem fI_30_1 : fI Go.Proofs.Tryz.prog 30 1 = some (1, false, 1) := by kernel_rfl
theorem fI_30_2 : fI Go.Proofs.Tryz.prog 30 2 = some (2, false, 1) := by kernel_rfl
theorem fI_30_3 : fI Go.Proofs.Tryz.prog 30 3 = some (3, false, 1) := by kernel_rfl
theorem fI_30_4 : fI Go.Proofs.Tryz.prog 30 4 = some (4, false, 1) := by kernel_rfl
theorem fI_30_5 : fI Go.Proofs.Tryz.prog 30 5 = some (5, false, 1) := by kernel_rfl
theorem bI_30 : bI Go.Proofs.Tryz.prog 30 = some [(0, 1), (1, 1), (2, 1), (3, 1), (4, 1), (5, 1)] := by kernel_rfl
theorem tI_31 : tI Go.Proofs.Tryz.prog 31 = some (true, 6) := by kernel_rfl
theorem zI_31 : zI Go.Proofs.Tryz.prog 31 = some [.fslice [], .fslice [], .int .i64 0, .int .i64 0, .int .i64 0, .int .i64 0] := by kernel_rfl
theorem fI_31_0 : fI Go.Proofs.Tryz.prog 31 0 = some (0, false, 1) := by kernel_rfl
theorem fI_31_1 : fI Go.Proofs.Tryz.prog 31 1 = some (1, false, 1) := by kernel_rfl
theorem fI_31_2 : fI Go.Proofs.Tryz.prog 31 2 = some (2, false, 1) := by kernel_rfl
theorem fI_31_3 : fI Go.Proofs.Tryz.prog 31 3 = some (3, false, 1) := by kernel_rfl
theorem fI_31_4 : fI Go.Proofs.Tryz.prog 31 4 = some (4, false, 1) := by kernel_rfl
theorem fI_31_5 : fI Go.Proofs.Tryz.prog 31 5 = some (5, false, 1) := by kernel_rfl
theorem bI_31 : bI Go.Proofs.Tryz.prog 31 = some [(0, 1), (1, 1), (2, 1), (3, 1), (4, 1), (5, 1)] := by kernel_rfl
theorem tI_39 : tI Go.Proofs.Tryz.prog 39 = some (false, 1) := by kernel_rfl
theorem zI_39 : zI Go.Proofs.Tryz.prog 39 = some [.fslice []] := by kernel_rfl
theorem eI_39 : eI Go.Proofs.Tryz.prog 39 = some (true, 1) := by kernel_rfl
theorem eB_39 : eB Go.Proofs.Tryz.prog 39 = some 24 := by kernel_rfl
theorem eZ_39 : eZ Go.Proofs.Tryz.prog 39 = some [.fslice []] := by kernel_rfl
theorem tI_50 : tI Go.Proofs.Tryz.prog 50 = some (true, 4) := by kernel_rfl
theorem zI_50 : zI Go.Proofs.Tryz.prog 50 = some [.int .i64 0, .int .i64 0, .str ⟨#[]⟩, .fslice []] := by kernel_rfl
theorem fI_50_0 : fI Go.Proofs.Tryz.prog 50 0 = some (0, false, 1) := by kernel_rfl
theorem fI_50_1 : fI Go.Proofs.Tryz.prog 50 1 = some (1, false, 1) := by kernel_rfl
theorem fI_50_2 : fI Go.Proofs.Tryz.prog 50 2 = some (2, false, 1) := by kernel_rfl
theorem fI_50_3 : fI Go.Proofs.Tryz.prog 50 3 = some (3, false, 1) := by kernel_rfl
theorem bI_50 : bI Go.Proofs.Tryz.prog 50 = some [(0, 1), (1, 1), (2, 1), (3, 1)] := by kernel_rfl
theorem tI_52 : tI Go.Proofs.Tryz.prog 52 = some (true, 5) := by kernel_rfl
theorem zI_52 : zI Go.Proofs.Tryz.prog 52 = some [.int .i64 0, .int .i64 0, .str ⟨#[]⟩, .fslice [], .fslice []] := by kernel_rfl
theorem fI_52_0 : fI Go.Proofs.Tryz.prog 52 0 = some (0, true, 4) := by kernel_rfl
theorem fI_52_1 : fI Go.Proofs.Tryz.prog 52 1 = some (4, false, 1) := by kernel_rfl
theorem bI_52 : bI Go.Proofs.Tryz.prog 52 = some [(0, 4), (4, 1)] := by kernel_rfl
theorem tI_56 : tI Go.Proofs.Tryz.prog 56 = some (true, 4) := by kernel_rfl
theorem zI_56 : zI Go.Proofs.Tryz.prog 56 = some [.int .i64 0, .int .i64 0, .str ⟨#[]⟩, .fslice []] := by kernel_rfl
theorem zV_56 : zV Go.Proofs.Tryz.prog 56 = some (.agg [.int .i64 0, .int .i64 0, .str ⟨#[]⟩, .fslice []]) := by kernel_rfl
theorem fI_56_0 : fI Go.Proofs.Tryz.prog 56 0 = some (0, false, 1) := by kernel_rfl
theorem fI_56_1 : fI Go.Proofs.Tryz.prog 56 1 = some (1, false, 1) := by kernel_rfl
theorem fI_56_2 : fI Go.Proofs.Tryz.prog 56 2 = some (2, false, 1) := by kernel_rfl
theorem fI_56_3 : fI Go.Proofs.Tryz.prog 56 3 = some (3, false, 1) := by kernel_rfl
theorem bI_56 : bI Go.Proofs.Tryz.prog 56 = some [(0, 1), (1, 1), (2, 1), (3, 1)] := by kernel_rfl
theorem tI_58 : tI Go.Proofs.Tryz.prog 58 = some (true, 5) := by kernel_rfl
theorem zI_58 : zI Go.Proofs.Tryz.prog 58 = some [.int .i64 0, .int .i64 0, .str ⟨#[]⟩, .fslice [], .fslice []] := by kernel_rfl
theorem fI_58_0 : fI Go.Proofs.Tryz.prog 58 0 = some (0, true, 4) := by kernel_rfl
theorem fI_58_1 : fI Go.Proofs.Tryz.prog 58 1 = some (4, false, 1) := by kernel_rfl
theorem bI_58 : bI Go.Proofs.Tryz.prog 58 = some [(0, 4), (4, 1)] := by kernel_rfl
theorem tI_66 : tI Go.Proofs.Tryz.prog 66 = some (false, 1) := by kernel_rfl
theorem zI_66 : zI Go.Proofs.Tryz.prog 66 = some [.fslice []] := by kernel_rfl
theorem eI_66 : eI Go.Proofs.Tryz.prog 66 = some (false, 1) := by kernel_rfl
theorem eB_66 : eB Go.Proofs.Tryz.prog 66 = some 8 := by kernel_rfl
theorem eZ_66 : eZ Go.Proofs.Tryz.prog 66 = some [.int .i64 0] := by kernel_rfl
theorem tI_68 : tI Go.Proofs.Tryz.prog 68 = some (false, 1) := by kernel_rfl
theorem zI_68 : zI Go.Proofs.Tryz.prog 68 = some [.fslice []] := by kernel_rfl
theorem eI_68 : eI Go.Proofs.Tryz.prog 68 = some (true, 5) := by kernel_rfl
theorem eB_68 : eB Go.Proofs.Tryz.prog 68 = some 64 := by kernel_rfl
theorem eZ_68 : eZ Go.Proofs.Tryz.prog 68 = some [.int .i64 0, .int .i64 0, .str ⟨#[]⟩, .fslice [], .int .i64 0] := by kernel_rfl
theorem tI_69 : tI Go.Proofs.Tryz.prog 69 = some (false, 1) := by kernel_rfl
theorem zI_69 : zI Go.Proofs.Tryz.prog 69 = some [.fslice []] := by kernel_rfl
theorem eI_69 : eI Go.Proofs.Tryz.prog 69 = some (true, 7) := by kernel_rfl
theorem eB_69 : eB Go.Proofs.Tryz.prog 69 = some 128 := by kernel_rfl
theorem eZ_69 : eZ Go.Proofs.Tryz.prog 69 = some [.int .i64 0, .int .i64 0, .str ⟨#[]⟩, .fslice [], .fslice [], .fslice [], .fslice []] := by kernel_rfl
theorem tI_71 : tI Go.Proofs.Tryz.prog 71 = some (true, 3) := by kernel_rfl
theorem zI_71 : zI Go.Proofs.Tryz.prog 71 = some [.fslice [], .fslice [], .fslice []] := by kernel_rfl
theorem fI_71_0 : fI Go.Proofs.Tryz.prog 71 0 = some (0, false, 1) := by kernel_rfl
theorem fI_71_1 : fI Go.Proofs.Tryz.prog 71 1 = some (1, false, 1) := by kernel_rfl
theorem fI_71_2 : fI Go.Proofs.Tryz.prog 71 2 = some (2, false, 1) := by kernel_rfl
theorem bI_71 : bI Go.Proofs.Tryz.prog 71 = some [(0, 1), (1, 1), (2, 1)] := by kernel_rfl
theorem tI_74 : tI Go.Proofs.Tryz.prog 74 = some (true, 1) := by kernel_rfl
theorem zI_74 : zI Go.Proofs.Tryz.prog 74 = some [.fslice []] := by kernel_rfl
theorem fI_74_0 : fI Go.Proofs.Tryz.prog 74 0 = some (0, false, 1) := by kernel_rfl
theorem bI_74 : bI Go.Proofs.Tryz.prog 74 = some [(0, 1)] := by kernel_rfl
theorem tI_96 : tI Go.Proofs.Tryz.prog 96 = some (true, 5) := by kernel_rfl
theorem zI_96 : zI Go.Proofs.Tryz.prog 96 = some [.int .i64 0, .int .i64 0, .str ⟨#[]⟩, .fslice [], .int .i64 0] := by kernel_rfl
theorem fI_96_0 : fI Go.Proofs.Tryz.prog 96 0 = some (0, true, 4) := by kernel_rfl
theorem fI_96_1 : fI Go.Proofs.Tryz.prog 96 1 = some (4, false, 1) := by kernel_rfl
theorem bI_96 : bI Go.Proofs.Tryz.prog 96 = some [(0, 4), (4, 1)] := by kernel_rfl
theorem tI_102 : tI Go.Proofs.Tryz.prog 102 = some (true, 7) := by kernel_rfl
theorem zI_102 : zI Go.Proofs.Tryz.prog 102 = some [.int .i64 0, .int .i64 0, .str ⟨#[]⟩, .fslice [], .fslice [], .fslice [], .fslice []] := by kernel_rfl
theorem fI_102_0 : fI Go.Proofs.Tryz.prog 102 0 = some (0, true, 4) := by kernel_rfl
theorem fI_102_1 : fI Go.Proofs.Tryz.prog 102 1 = some (4, false, 1) := by kernel_rfl
theorem fI_102_2 : fI Go.Proofs.Tryz.prog 102 2 = some (5, false, 1) := by kernel_rfl
theorem fI_102_3 : fI Go.Proofs.Tryz.prog 102 3 = some (6, false, 1) := by kernel_rfl
theorem bI_102 : bI Go.Proofs.Tryz.prog 102 = some [(0, 4), (4, 1), (5, 1), (6, 1)] := by kernel_rfl
theorem tI_104 : tI Go.Proofs.Tryz.prog 104 = some (false, 1) := by kernel_rfl
theorem zI_104 : zI Go.Proofs.Tryz.prog 104 = some [.nilptr] := by kernel_rfl
theorem tI_107 : tI Go.Proofs.Tryz.prog 107 = some (false, 1) := by kernel_rfl
theorem zI_107 : zI Go.Proofs.Tryz.prog 107 = some [.nilptr] := by kernel_rfl
theorem tI_123 : tI Go.Proofs.Tryz.prog 123 = some (false, 1) := by kernel_rfl
theorem zI_123 : zI Go.Proofs.Tryz.prog 123 = some [.nilptr] := by kernel_rfl
theorem tI_125 : tI Go.Proofs.Tryz.prog 125 = some (false, 1) := by kernel_rfl
theorem zI_125 : zI Go.Proofs.Tryz.prog 125 = some [.nilptr] := by kernel_rfl
theorem tI_126 : tI Go.Proofs.Tryz.prog 126 = some (false, 1) := by kernel_rfl
theorem zI_126 : zI Go.Proofs.Tryz.prog 126 = some [.fslice []] := by kernel_rfl
theorem eI_126 : eI Go.Proofs.Tryz.prog 126 = some (true, 9) := by kernel_rfl
theorem eB_126 : eB Go.Proofs.Tryz.prog 126 = some 112 := by kernel_rfl
theorem eZ_126 : eZ Go.Proofs.Tryz.prog 126 = some [.int .i64 0, .int .i64 0, .str ⟨#[]⟩, .fslice [], .int .i64 0, .nilptr, .fslice [], .int .i64 0, .int .i64 0] := by kernel_rfl
theorem tI_127 : tI Go.Proofs.Tryz.prog 127 = some (false, 1) := by kernel_rfl
theorem zI_127 : zI Go.Proofs.Tryz.prog 127 = some [.fslice []] := by kernel_rfl
theorem eI_127 : eI Go.Proofs.Tryz.prog 127 = some (true, 6) := by kernel_rfl
theorem eB_127 : eB Go.Proofs.Tryz.prog 127 = some 72 := by kernel_rfl
theorem eZ_127 : eZ Go.Proofs.Tryz.prog 127 = some [.int .i64 0, .int .i64 0, .str ⟨#[]⟩, .fslice [], .int .i64 0, .int .i64 0] := by kernel_rfl
theorem tI_129 : tI Go.Proofs.Tryz.prog 129 = some (true, 12) := by kernel_rfl
theorem zI_129 : zI Go.Proofs.Tryz.prog 129 = some [.nilptr, .fslice [], .fslice [], .bool false, .bool false, .int .i64 0, .int .i64 0, .int .i64 0, .nilptr, .fslice [], .fslice [], .int .i64 0] := by kernel_rfl
theorem fI_129_0 : fI Go.Proofs.Tryz.prog 129 0 = some (0, false, 1) := by kernel_rfl
theorem fI_129_1 : fI Go.Proofs.Tryz.prog 129 1 = some (1, false, 1) := by kernel_rfl
theorem fI_129_2 : fI Go.Proofs.Tryz.prog 129 2 = some (2, false, 1) := by kernel_rfl
theorem fI_129_3 : fI Go.Proofs.Tryz.prog 129 3 = some (3, false, 1) := by kernel_rfl
theorem fI_129_4 : fI Go.Proofs.Tryz.prog 129 4 = some (4, false, 1) := by kernel_rfl
theorem fI_129_5 : fI Go.Proofs.Tryz.prog 129 5 = some (5, false, 1) := by kernel_rfl
theorem fI_129_6 : fI Go.Proofs.Tryz.prog 129 6 = some (6, false, 1) := by kernel_rfl
theorem fI_129_7 : fI Go.Proofs.Tryz.prog 129 7 = some (7, false, 1) := by kernel_rfl
theorem fI_129_8 : fI Go.Proofs.Tryz.prog 129 8 = some (8, false, 1) := by kernel_rfl
theorem fI_129_9 : fI Go.Proofs.Tryz.prog 129 9 = some (9, false, 1) := by kernel_rfl
theorem fI_129_10 : fI Go.Proofs.Tryz.prog 129 10 = some (10, false, 1) := by kernel_rfl
theorem fI_129_11 : fI Go.Proofs.Tryz.prog 129 11 = some (11, false, 1) := by kernel_rfl
theorem bI_129 : bI Go.Proofs.Tryz.prog 129 = some [(0, 1), (1, 1), (2, 1), (3, 1), (4, 1), (5, 1), (6, 1), (7, 1), (8, 1), (9, 1), (10, 1), (11, 1)] := by kernel_rfl
theorem tI_140 : tI Go.Proofs.Tryz.prog 140 = some (false, 1) := by kernel_rfl
theorem zI_140 : zI Go.Proofs.Tryz.prog 140 = some [.fslice []] := by kernel_rfl
theorem eI_140 : eI Go.Proofs.Tryz.prog 140 = some (false, 1) := by kernel_rfl
theorem eB_140 : eB Go.Proofs.Tryz.prog 140 = some 16 := by kernel_rfl
theorem eZ_140 : eZ Go.Proofs.Tryz.prog 140 = some [.str ⟨#[]⟩] := by kernel_rfl
theorem tI_142 : tI Go.Proofs.Tryz.prog 142 = some (false, 1) := by kernel_rfl
theorem zI_142 : zI Go.Proofs.Tryz.prog 142 = some [.nilmap] := by kernel_rfl
theorem tI_143 : tI Go.Proofs.Tryz.prog 143 = some (true, 2) := by kernel_rfl
theorem zI_143 : zI Go.Proofs.Tryz.prog 143 = some [.nilmap, .fslice []] := by kernel_rfl
theorem fI_143_0 : fI Go.Proofs.Tryz.prog 143 0 = some (0, false, 1) := by kernel_rfl
theorem fI_143_1 : fI Go.Proofs.Tryz.prog 143 1 = some (1, false, 1) := by kernel_rfl
theorem bI_143 : bI Go.Proofs.Tryz.prog 143 = some [(0, 1), (1, 1)] := by kernel_rfl
theorem tI_144 : tI Go.Proofs.Tryz.prog 144 = some (true, 2) := by kernel_rfl
theorem zI_144 : zI Go.Proofs.Tryz.prog 144 = some [.nilmap, .fslice []] := by kernel_rfl
theorem fI_144_0 : fI Go.Proofs.Tryz.prog 144 0 = some (0, false, 1) := by kernel_rfl
theorem fI_144_1 : fI Go.Proofs.Tryz.prog 144 1 = some (1, false, 1) := by kernel_rfl
theorem bI_144 : bI Go.Proofs.Tryz.prog 144 = some [(0, 1), (1, 1)] := by kernel_rfl
theorem tI_145 : tI Go.Proofs.Tryz.prog 145 = some (true, 7) := by kernel_rfl
theorem zI_145 : zI Go.Proofs.Tryz.prog 145 = some [.int .i64 0, .int .i64 0, .str ⟨#[]⟩, .fslice [], .int .i64 0, .int .i64 0, .nilptr] := by kernel_rfl
theorem fI_145_0 : fI Go.Proofs.Tryz.prog 145 0 = some (0, true, 4) := by kernel_rfl
theorem fI_145_1 : fI Go.Proofs.Tryz.prog 145 1 = some (4, false, 1) := by kernel_rfl
theorem fI_145_2 : fI Go.Proofs.Tryz.prog 145 2 = some (5, false, 1) := by kernel_rfl
theorem fI_145_3 : fI Go.Proofs.Tryz.prog 145 3 = some (6, false, 1) := by kernel_rfl
theorem bI_145 : bI Go.Proofs.Tryz.prog 145 = some [(0, 4), (4, 1), (5, 1), (6, 1)] := by kernel_rfl
theorem tI_146 : tI Go.Proofs.Tryz.prog 146 = some (true, 7) := by kernel_rfl
theorem zI_146 : zI Go.Proofs.Tryz.prog 146 = some [.int .i64 0, .int .i64 0, .str ⟨#[]⟩, .fslice [], .int .i64 0, .int .i64 0, .nilptr] := by kernel_rfl
theorem fI_146_0 : fI Go.Proofs.Tryz.prog 146 0 = some (0, true, 4) := by kernel_rfl
theorem fI_146_1 : fI Go.Proofs.Tryz.prog 146 1 = some (4, false, 1) := by kernel_rfl
theorem fI_146_2 : fI Go.Proofs.Tryz.prog 146 2 = some (5, false, 1) := by kernel_rfl
theorem fI_146_3 : fI Go.Proofs.Tryz.prog 146 3 = some (6, false, 1) := by kernel_rfl
theorem bI_146 : bI Go.Proofs.Tryz.prog 146 = some [(0, 4), (4, 1), (5, 1), (6, 1)] := by kernel_rfl
theorem tI_150 : tI Go.Proofs.Tryz.prog 150 = some (true, 6) := by kernel_rfl
theorem zI_150 : zI Go.Proofs.Tryz.prog 150 = some [.int .i64 0, .int .i64 0, .str ⟨#[]⟩, .fslice [], .int .i64 0, .int .i64 0] := by kernel_rfl
theorem fI_150_0 : fI Go.Proofs.Tryz.prog 150 0 = some (0, true, 4) := by kernel_rfl
theorem fI_150_1 : fI Go.Proofs.Tryz.prog 150 1 = some (4, false, 1) := by kernel_rfl
theorem fI_150_2 : fI Go.Proofs.Tryz.prog 150 2 = some (5, false, 1) := by kernel_rfl
theorem bI_150 : bI Go.Proofs.Tryz.prog 150 = some [(0, 4), (4, 1), (5, 1)] := by kernel_rfl
theorem tI_153 : tI Go.Proofs.Tryz.prog 153 = some (true, 2) := by kernel_rfl
theorem zI_153 : zI Go.Proofs.Tryz.prog 153 = some [.str ⟨#[]⟩, .int .i64 0] := by kernel_rfl
theorem fI_153_0 : fI Go.Proofs.Tryz.prog 153 0 = some (0, false, 1) := by kernel_rfl
theorem fI_153_1 : fI Go.Proofs.Tryz.prog 153 1 = some (1, false, 1) := by kernel_rfl
theorem bI_153 : bI Go.Proofs.Tryz.prog 153 = some [(0, 1), (1, 1)] := by kernel_rfl
theorem tI_158 : tI Go.Proofs.Tryz.prog 158 = some (true, 9) := by kernel_rfl
theorem zI_158 : zI Go.Proofs.Tryz.prog 158 = some [.int .i64 0, .int .i64 0, .str ⟨#[]⟩, .fslice [], .int .i64 0, .nilptr, .fslice [], .int .i64 0, .int .i64 0] := by kernel_rfl
theorem fI_158_0 : fI Go.Proofs.Tryz.prog 158 0 = some (0, true, 4) := by kernel_rfl
theorem fI_158_1 : fI Go.Proofs.Tryz.prog 158 1 = some (4, false, 1) := by kernel_rfl
theorem fI_158_2 : fI Go.Proofs.Tryz.prog 158 2 = some (5, false, 1) := by kernel_rfl
theorem fI_158_3 : fI Go.Proofs.Tryz.prog 158 3 = some (6, false, 1) := by kernel_rfl
theorem fI_158_4 : fI Go.Proofs.Tryz.prog 158 4 = some (7, false, 1) := by kernel_rfl
theorem fI_158_5 : fI Go.Proofs.Tryz.prog 158 5 = some (8, false, 1) := by kernel_rfl
theorem bI_158 : bI Go.Proofs.Tryz.prog 158 = some [(0, 4), (4, 1), (5, 1), (6, 1), (7, 1), (8, 1)] := by kernel_rfl
theorem tI_177 : tI Go.Proofs.Tryz.prog 177 = some (false, 1) := by kernel_rfl
theorem zI_177 : zI Go.Proofs.Tryz.prog 177 = some [.nilmap] := by kernel_rfl
theorem mixed : Go.Proofs.Tryz.prog.follows .mixedOrders = true := by kernel_rfl
theorem wF {P : Program} {g : FuncId} {fn : Func} {c : Code} {args : List AV} {st : zy7} {N : Nat} {rs : List ResultVar} {K : AV → zy7 → Prop} (mt : List Nat) (k : Nat) (hf : P.funcs[g]? = some fn) (hN : fn.ntmps = N) (hr : fn.results = rs.toArray) (hb : fn.body = some c) (e : fitsL args → aCode P N mt c (retQ P rs.toArray K) (argF 0 args) st) (hn : (fn.name == "runtime.NumGoroutine") = false := by kernel_rfl) (hok : codeOk N c = true := by decide +kernel) (ha : args.length = k := by rfl) (hk : k ≤ N := by decide +kernel) : zq7 P g args st K :=
 zw6 mt hf hN hr hb hn hok (by rw [ha]; exact hk) e
theorem wP {P : Program} {N : Nat} {id : Nat} {l : List Oper} {Q : Exit → AF → zy7 → Prop} {φ : AF} {st : zy7} (p : List (Nat × Nat)) (S : List Nat) (hm : P.follows .mixedOrders = true) (h : aPlanE P l.toArray (Q .normal) p φ st) (hok : opsOk N l.toArray = true := by decide +kernel) (hl : p.length = l.length := by decide +kernel) (hB : planB l.toArray S p (Array.replicate l.length false) = true := by decide +kernel) : ARun P N (.region id l.toArray true) Q φ st :=
 zx5 p S hm hok hl hB h
theorem wX {P : Program} {N : Nat} {id : Nat} {l : List Oper} {Q : Exit → AF → zy7 → Prop} {φ : AF} {st : zy7} (p : List (Nat × Nat)) (S : List Nat) (s0 : zy7) (hm : P.follows .mixedOrders = true) (hf : looksFirst p = true) (hs : ExtS s0 st) (h : aPlanXE P l.toArray s0 (Q .normal) p φ st) (hok : opsOk N l.toArray = true := by decide +kernel) (hl : p.length = l.length := by decide +kernel) (hB : planBX l.toArray S p (Array.replicate l.length false) = true := by decide +kernel) : ARun P N (.region id l.toArray true) Q φ st :=
 zq5 p S s0 hm hok hl hB hf hs h
end Go.AW
