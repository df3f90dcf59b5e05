/- Closed facts on the types of the program. -/
import Derived.Test.YtcndknlbedcimaaGreatDoorProg
import Derived.Test.YtcndknlbedcimaaGreatDoorSeqg
import Derived.KernelRfl
set_option linter.unusedSimpArgs false
set_option linter.unusedVariables false
set_option maxRecDepth 100000
namespace Go.AW
theorem tI_2 : tI Go.Proofs.Tryz.prog 2 = some (false, 1) := by kernel_rfl
theorem zI_2 : zI Go.Proofs.Tryz.prog 2 = some [.int .i64 0] := by kernel_rfl
theorem tI_3 : tI Go.Proofs.Tryz.prog 3 = some (false, 1) := by kernel_rfl
theorem zI_3 : zI Go.Proofs.Tryz.prog 3 = some [.int .i64 0] := by kernel_rfl
theorem tI_4 : tI Go.Proofs.Tryz.prog 4 = some (false, 1) := by kernel_rfl
theorem zI_4 : zI Go.Proofs.Tryz.prog 4 = some [.bool false] := by kernel_rfl
theorem zV_4 : zV Go.Proofs.Tryz.prog 4 = some (.bool false) := by kernel_rfl
theorem tI_5 : tI Go.Proofs.Tryz.prog 5 = some (false, 1) := by kernel_rfl
theorem zI_5 : zI Go.Proofs.Tryz.prog 5 = some [.int .u8 0] := by kernel_rfl
theorem tI_6 : tI Go.Proofs.Tryz.prog 6 = some (false, 1) := by kernel_rfl
theorem zI_6 : zI Go.Proofs.Tryz.prog 6 = some [.int .u8 0] := by kernel_rfl
theorem tI_9 : tI Go.Proofs.Tryz.prog 9 = some (false, 1) := by kernel_rfl
theorem zI_9 : zI Go.Proofs.Tryz.prog 9 = some [.str ⟨#[]⟩] := by kernel_rfl
theorem tI_10 : tI Go.Proofs.Tryz.prog 10 = some (false, 1) := by kernel_rfl
theorem zI_10 : zI Go.Proofs.Tryz.prog 10 = some [.str ⟨#[]⟩] := by kernel_rfl
theorem tI_23 : tI Go.Proofs.Tryz.prog 23 = some (false, 1) := by kernel_rfl
theorem zI_23 : zI Go.Proofs.Tryz.prog 23 = some [.fslice []] := by kernel_rfl
theorem eI_23 : eI Go.Proofs.Tryz.prog 23 = some (true, 4) := by kernel_rfl
theorem eB_23 : eB Go.Proofs.Tryz.prog 23 = some 56 := by kernel_rfl
theorem eZ_23 : eZ Go.Proofs.Tryz.prog 23 = some [.int .i64 0, .int .i64 0, .str ⟨#[]⟩, .fslice []] := by kernel_rfl
theorem tI_26 : tI Go.Proofs.Tryz.prog 26 = some (false, 1) := by kernel_rfl
theorem zI_26 : zI Go.Proofs.Tryz.prog 26 = some [.fslice []] := by kernel_rfl
theorem eI_26 : eI Go.Proofs.Tryz.prog 26 = some (true, 1) := by kernel_rfl
theorem eB_26 : eB Go.Proofs.Tryz.prog 26 = some 24 := by kernel_rfl
theorem eZ_26 : eZ Go.Proofs.Tryz.prog 26 = some [.fslice []] := by kernel_rfl
theorem tI_29 : tI Go.Proofs.Tryz.prog 29 = some (false, 1) := by kernel_rfl
theorem zI_29 : zI Go.Proofs.Tryz.prog 29 = some [.fslice []] := by kernel_rfl
theorem eI_29 : eI Go.Proofs.Tryz.prog 29 = some (true, 5) := by kernel_rfl
theorem eB_29 : eB Go.Proofs.Tryz.prog 29 = some 80 := by kernel_rfl
theorem eZ_29 : eZ Go.Proofs.Tryz.prog 29 = some [.int .i64 0, .int .i64 0, .str ⟨#[]⟩, .fslice [], .fslice []] := by kernel_rfl
theorem tI_31 : tI Go.Proofs.Tryz.prog 31 = some (false, 1) := by kernel_rfl
theorem zI_31 : zI Go.Proofs.Tryz.prog 31 = some [.fslice []] := by kernel_rfl
theorem eI_31 : eI Go.Proofs.Tryz.prog 31 = some (true, 4) := by kernel_rfl
theorem eB_31 : eB Go.Proofs.Tryz.prog 31 = some 56 := by kernel_rfl
theorem eZ_31 : eZ Go.Proofs.Tryz.prog 31 = some [.int .i64 0, .int .i64 0, .str ⟨#[]⟩, .fslice []] := by kernel_rfl
theorem tI_40 : tI Go.Proofs.Tryz.prog 40 = some (false, 1) := by kernel_rfl
theorem zI_40 : zI Go.Proofs.Tryz.prog 40 = some [.fslice []] := by kernel_rfl
theorem eI_40 : eI Go.Proofs.Tryz.prog 40 = some (false, 1) := by kernel_rfl
theorem eB_40 : eB Go.Proofs.Tryz.prog 40 = some 1 := by kernel_rfl
theorem eZ_40 : eZ Go.Proofs.Tryz.prog 40 = some [.int .u8 0] := by kernel_rfl
theorem tI_42 : tI Go.Proofs.Tryz.prog 42 = some (true, 4) := by kernel_rfl
theorem zI_42 : zI Go.Proofs.Tryz.prog 42 = some [.int .i64 0, .int .i64 0, .str ⟨#[]⟩, .fslice []] := by kernel_rfl
theorem zV_42 : zV Go.Proofs.Tryz.prog 42 = some (.agg [.int .i64 0, .int .i64 0, .str ⟨#[]⟩, .fslice []]) := by kernel_rfl
theorem fI_42_0 : fI Go.Proofs.Tryz.prog 42 0 = some (0, false, 1) := by kernel_rfl
theorem fI_42_1 : fI Go.Proofs.Tryz.prog 42 1 = some (1, false, 1) := by kernel_rfl
theorem fI_42_2 : fI Go.Proofs.Tryz.prog 42 2 = some (2, false, 1) := by kernel_rfl
theorem fI_42_3 : fI Go.Proofs.Tryz.prog 42 3 = some (3, false, 1) := by kernel_rfl
theorem bI_42 : bI Go.Proofs.Tryz.prog 42 = some [(0, 1), (1, 1), (2, 1), (3, 1)] := by kernel_rfl
theorem tI_45 : tI Go.Proofs.Tryz.prog 45 = some (false, 1) := by kernel_rfl
theorem zI_45 : zI Go.Proofs.Tryz.prog 45 = some [.fslice []] := by kernel_rfl
theorem eI_45 : eI Go.Proofs.Tryz.prog 45 = some (true, 5) := by kernel_rfl
theorem eB_45 : eB Go.Proofs.Tryz.prog 45 = some 64 := by kernel_rfl
theorem eZ_45 : eZ Go.Proofs.Tryz.prog 45 = some [.int .i64 0, .int .i64 0, .int .i64 0, .str ⟨#[]⟩, .fslice []] := by kernel_rfl
theorem tI_50 : tI Go.Proofs.Tryz.prog 50 = some (true, 1) := by kernel_rfl
theorem zI_50 : zI Go.Proofs.Tryz.prog 50 = some [.fslice []] := by kernel_rfl
theorem fI_50_0 : fI Go.Proofs.Tryz.prog 50 0 = some (0, false, 1) := by kernel_rfl
theorem bI_50 : bI Go.Proofs.Tryz.prog 50 = some [(0, 1)] := by kernel_rfl
theorem tI_51 : tI Go.Proofs.Tryz.prog 51 = some (true, 1) := by kernel_rfl
theorem zI_51 : zI Go.Proofs.Tryz.prog 51 = some [.fslice []] := by kernel_rfl
theorem fI_51_0 : fI Go.Proofs.Tryz.prog 51 0 = some (0, false, 1) := by kernel_rfl
theorem bI_51 : bI Go.Proofs.Tryz.prog 51 = some [(0, 1)] := by kernel_rfl
theorem tI_58 : tI Go.Proofs.Tryz.prog 58 = some (false, 1) := by kernel_rfl
theorem zI_58 : zI Go.Proofs.Tryz.prog 58 = some [.fslice []] := by kernel_rfl
theorem eI_58 : eI Go.Proofs.Tryz.prog 58 = some (false, 1) := by kernel_rfl
theorem eB_58 : eB Go.Proofs.Tryz.prog 58 = some 8 := by kernel_rfl
theorem eZ_58 : eZ Go.Proofs.Tryz.prog 58 = some [.int .i64 0] := by kernel_rfl
theorem tI_67 : tI Go.Proofs.Tryz.prog 67 = some (true, 4) := by kernel_rfl
theorem zI_67 : zI Go.Proofs.Tryz.prog 67 = some [.int .i64 0, .int .i64 0, .str ⟨#[]⟩, .fslice []] := by kernel_rfl
theorem fI_67_0 : fI Go.Proofs.Tryz.prog 67 0 = some (0, false, 1) := by kernel_rfl
theorem fI_67_1 : fI Go.Proofs.Tryz.prog 67 1 = some (1, false, 1) := by kernel_rfl
theorem fI_67_2 : fI Go.Proofs.Tryz.prog 67 2 = some (2, false, 1) := by kernel_rfl
theorem fI_67_3 : fI Go.Proofs.Tryz.prog 67 3 = some (3, false, 1) := by kernel_rfl
theorem bI_67 : bI Go.Proofs.Tryz.prog 67 = some [(0, 1), (1, 1), (2, 1), (3, 1)] := by kernel_rfl
theorem tI_68 : tI Go.Proofs.Tryz.prog 68 = some (true, 4) := by kernel_rfl
theorem zI_68 : zI Go.Proofs.Tryz.prog 68 = some [.int .i64 0, .int .i64 0, .str ⟨#[]⟩, .fslice []] := by kernel_rfl
theorem fI_68_0 : fI Go.Proofs.Tryz.prog 68 0 = some (0, false, 1) := by kernel_rfl
theorem fI_68_1 : fI Go.Proofs.Tryz.prog 68 1 = some (1, false, 1) := by kernel_rfl
theorem fI_68_2 : fI Go.Proofs.Tryz.prog 68 2 = some (2, false, 1) := by kernel_rfl
theorem fI_68_3 : fI Go.Proofs.Tryz.prog 68 3 = some (3, false, 1) := by kernel_rfl
theorem bI_68 : bI Go.Proofs.Tryz.prog 68 = some [(0, 1), (1, 1), (2, 1), (3, 1)] := by kernel_rfl
theorem tI_75 : tI Go.Proofs.Tryz.prog 75 = some (true, 5) := by kernel_rfl
theorem zI_75 : zI Go.Proofs.Tryz.prog 75 = some [.int .i64 0, .int .i64 0, .str ⟨#[]⟩, .fslice [], .fslice []] := by kernel_rfl
theorem fI_75_0 : fI Go.Proofs.Tryz.prog 75 0 = some (0, true, 4) := by kernel_rfl
theorem fI_75_1 : fI Go.Proofs.Tryz.prog 75 1 = some (4, false, 1) := by kernel_rfl
theorem bI_75 : bI Go.Proofs.Tryz.prog 75 = some [(0, 4), (4, 1)] := by kernel_rfl
theorem tI_85 : tI Go.Proofs.Tryz.prog 85 = some (false, 1) := by kernel_rfl
theorem zI_85 : zI Go.Proofs.Tryz.prog 85 = some [.nilptr] := by kernel_rfl
theorem tI_95 : tI Go.Proofs.Tryz.prog 95 = some (true, 5) := by kernel_rfl
theorem zI_95 : zI Go.Proofs.Tryz.prog 95 = some [.int .i64 0, .int .i64 0, .int .i64 0, .str ⟨#[]⟩, .fslice []] := by kernel_rfl
theorem fI_95_0 : fI Go.Proofs.Tryz.prog 95 0 = some (0, false, 1) := by kernel_rfl
theorem fI_95_1 : fI Go.Proofs.Tryz.prog 95 1 = some (1, true, 4) := by kernel_rfl
theorem bI_95 : bI Go.Proofs.Tryz.prog 95 = some [(0, 1), (1, 4)] := by kernel_rfl
theorem tI_99 : tI Go.Proofs.Tryz.prog 99 = some (false, 1) := by kernel_rfl
theorem zI_99 : zI Go.Proofs.Tryz.prog 99 = some [.nilptr] := by kernel_rfl
theorem tI_108 : tI Go.Proofs.Tryz.prog 108 = some (false, 1) := by kernel_rfl
theorem zI_108 : zI Go.Proofs.Tryz.prog 108 = some [.fslice []] := by kernel_rfl
theorem eI_108 : eI Go.Proofs.Tryz.prog 108 = some (true, 5) := by kernel_rfl
theorem eB_108 : eB Go.Proofs.Tryz.prog 108 = some 64 := by kernel_rfl
theorem eZ_108 : eZ Go.Proofs.Tryz.prog 108 = some [.int .i64 0, .int .i64 0, .str ⟨#[]⟩, .fslice [], .int .i64 0] := by kernel_rfl
theorem tI_109 : tI Go.Proofs.Tryz.prog 109 = some (false, 1) := by kernel_rfl
theorem zI_109 : zI Go.Proofs.Tryz.prog 109 = some [.fslice []] := by kernel_rfl
theorem eI_109 : eI Go.Proofs.Tryz.prog 109 = some (true, 7) := by kernel_rfl
theorem eB_109 : eB Go.Proofs.Tryz.prog 109 = some 128 := by kernel_rfl
theorem eZ_109 : eZ Go.Proofs.Tryz.prog 109 = some [.int .i64 0, .int .i64 0, .str ⟨#[]⟩, .fslice [], .fslice [], .fslice [], .fslice []] := by kernel_rfl
theorem tI_110 : tI Go.Proofs.Tryz.prog 110 = some (true, 3) := by kernel_rfl
theorem zI_110 : zI Go.Proofs.Tryz.prog 110 = some [.fslice [], .fslice [], .fslice []] := by kernel_rfl
theorem fI_110_0 : fI Go.Proofs.Tryz.prog 110 0 = some (0, false, 1) := by kernel_rfl
theorem fI_110_1 : fI Go.Proofs.Tryz.prog 110 1 = some (1, false, 1) := by kernel_rfl
theorem fI_110_2 : fI Go.Proofs.Tryz.prog 110 2 = some (2, false, 1) := by kernel_rfl
theorem bI_110 : bI Go.Proofs.Tryz.prog 110 = some [(0, 1), (1, 1), (2, 1)] := by kernel_rfl
theorem tI_111 : tI Go.Proofs.Tryz.prog 111 = some (true, 3) := by kernel_rfl
theorem zI_111 : zI Go.Proofs.Tryz.prog 111 = some [.fslice [], .fslice [], .fslice []] := by kernel_rfl
theorem fI_111_0 : fI Go.Proofs.Tryz.prog 111 0 = some (0, false, 1) := by kernel_rfl
theorem fI_111_1 : fI Go.Proofs.Tryz.prog 111 1 = some (1, false, 1) := by kernel_rfl
theorem fI_111_2 : fI Go.Proofs.Tryz.prog 111 2 = some (2, false, 1) := by kernel_rfl
theorem bI_111 : bI Go.Proofs.Tryz.prog 111 = some [(0, 1), (1, 1), (2, 1)] := by kernel_rfl
theorem tI_120 : tI Go.Proofs.Tryz.prog 120 = some (false, 1) := by kernel_rfl
theorem zI_120 : zI Go.Proofs.Tryz.prog 120 = some [.nilptr] := by kernel_rfl
theorem tI_126 : tI Go.Proofs.Tryz.prog 126 = some (false, 1) := by kernel_rfl
theorem zI_126 : zI Go.Proofs.Tryz.prog 126 = some [.nilmap] := by kernel_rfl
theorem tI_128 : tI Go.Proofs.Tryz.prog 128 = some (true, 2) := by kernel_rfl
theorem zI_128 : zI Go.Proofs.Tryz.prog 128 = some [.nilmap, .fslice []] := by kernel_rfl
theorem fI_128_0 : fI Go.Proofs.Tryz.prog 128 0 = some (0, false, 1) := by kernel_rfl
theorem fI_128_1 : fI Go.Proofs.Tryz.prog 128 1 = some (1, false, 1) := by kernel_rfl
theorem bI_128 : bI Go.Proofs.Tryz.prog 128 = some [(0, 1), (1, 1)] := by kernel_rfl
theorem tI_130 : tI Go.Proofs.Tryz.prog 130 = some (false, 1) := by kernel_rfl
theorem zI_130 : zI Go.Proofs.Tryz.prog 130 = some [.nilptr] := by kernel_rfl
theorem tI_139 : tI Go.Proofs.Tryz.prog 139 = some (true, 2) := by kernel_rfl
theorem zI_139 : zI Go.Proofs.Tryz.prog 139 = some [.fslice [], .int .i64 0] := by kernel_rfl
theorem fI_139_0 : fI Go.Proofs.Tryz.prog 139 0 = some (0, false, 1) := by kernel_rfl
theorem fI_139_1 : fI Go.Proofs.Tryz.prog 139 1 = some (1, false, 1) := by kernel_rfl
theorem bI_139 : bI Go.Proofs.Tryz.prog 139 = some [(0, 1), (1, 1)] := by kernel_rfl
theorem tI_142 : tI Go.Proofs.Tryz.prog 142 = some (false, 1) := by kernel_rfl
theorem zI_142 : zI Go.Proofs.Tryz.prog 142 = some [.fslice []] := by kernel_rfl
theorem eI_142 : eI Go.Proofs.Tryz.prog 142 = some (false, 1) := by kernel_rfl
theorem eB_142 : eB Go.Proofs.Tryz.prog 142 = some 16 := by kernel_rfl
theorem eZ_142 : eZ Go.Proofs.Tryz.prog 142 = some [.str ⟨#[]⟩] := by kernel_rfl
theorem tI_150 : tI Go.Proofs.Tryz.prog 150 = some (true, 2) := by kernel_rfl
theorem zI_150 : zI Go.Proofs.Tryz.prog 150 = some [.str ⟨#[]⟩, .int .i64 0] := by kernel_rfl
theorem fI_150_0 : fI Go.Proofs.Tryz.prog 150 0 = some (0, false, 1) := by kernel_rfl
theorem fI_150_1 : fI Go.Proofs.Tryz.prog 150 1 = some (1, false, 1) := by kernel_rfl
theorem bI_150 : bI Go.Proofs.Tryz.prog 150 = some [(0, 1), (1, 1)] := by kernel_rfl
theorem tI_161 : tI Go.Proofs.Tryz.prog 161 = some (true, 5) := by kernel_rfl
theorem zI_161 : zI Go.Proofs.Tryz.prog 161 = some [.int .i64 0, .int .i64 0, .str ⟨#[]⟩, .fslice [], .int .i64 0] := by kernel_rfl
theorem fI_161_0 : fI Go.Proofs.Tryz.prog 161 0 = some (0, true, 4) := by kernel_rfl
theorem fI_161_1 : fI Go.Proofs.Tryz.prog 161 1 = some (4, false, 1) := by kernel_rfl
theorem bI_161 : bI Go.Proofs.Tryz.prog 161 = some [(0, 4), (4, 1)] := by kernel_rfl
theorem tI_165 : tI Go.Proofs.Tryz.prog 165 = some (true, 7) := by kernel_rfl
theorem zI_165 : zI Go.Proofs.Tryz.prog 165 = some [.int .i64 0, .int .i64 0, .str ⟨#[]⟩, .fslice [], .fslice [], .fslice [], .fslice []] := by kernel_rfl
theorem fI_165_0 : fI Go.Proofs.Tryz.prog 165 0 = some (0, true, 4) := by kernel_rfl
theorem fI_165_1 : fI Go.Proofs.Tryz.prog 165 1 = some (4, false, 1) := by kernel_rfl
theorem fI_165_2 : fI Go.Proofs.Tryz.prog 165 2 = some (5, false, 1) := by kernel_rfl
theorem fI_165_3 : fI Go.Proofs.Tryz.prog 165 3 = some (6, false, 1) := by kernel_rfl
theorem bI_165 : bI Go.Proofs.Tryz.prog 165 = some [(0, 4), (4, 1), (5, 1), (6, 1)] := by kernel_rfl
theorem tI_167 : tI Go.Proofs.Tryz.prog 167 = some (false, 1) := by kernel_rfl
theorem zI_167 : zI Go.Proofs.Tryz.prog 167 = some [.nilptr] := by kernel_rfl
theorem tI_168 : tI Go.Proofs.Tryz.prog 168 = some (false, 1) := by kernel_rfl
theorem zI_168 : zI Go.Proofs.Tryz.prog 168 = some [.fslice []] := by kernel_rfl
theorem eI_168 : eI Go.Proofs.Tryz.prog 168 = some (true, 9) := by kernel_rfl
theorem eB_168 : eB Go.Proofs.Tryz.prog 168 = some 112 := by kernel_rfl
theorem eZ_168 : eZ Go.Proofs.Tryz.prog 168 = some [.int .i64 0, .int .i64 0, .str ⟨#[]⟩, .fslice [], .int .i64 0, .nilptr, .fslice [], .int .i64 0, .int .i64 0] := by kernel_rfl
theorem tI_169 : tI Go.Proofs.Tryz.prog 169 = some (false, 1) := by kernel_rfl
theorem zI_169 : zI Go.Proofs.Tryz.prog 169 = some [.fslice []] := by kernel_rfl
theorem eI_169 : eI Go.Proofs.Tryz.prog 169 = some (true, 6) := by kernel_rfl
theorem eB_169 : eB Go.Proofs.Tryz.prog 169 = some 72 := by kernel_rfl
theorem eZ_169 : eZ Go.Proofs.Tryz.prog 169 = some [.int .i64 0, .int .i64 0, .str ⟨#[]⟩, .fslice [], .int .i64 0, .int .i64 0] := by kernel_rfl
theorem tI_171 : tI Go.Proofs.Tryz.prog 171 = some (true, 12) := by kernel_rfl
theorem zI_171 : zI Go.Proofs.Tryz.prog 171 = some [.nilptr, .fslice [], .fslice [], .bool false, .bool false, .int .i64 0, .int .i64 0, .int .i64 0, .nilptr, .fslice [], .fslice [], .int .i64 0] := by kernel_rfl
theorem fI_171_0 : fI Go.Proofs.Tryz.prog 171 0 = some (0, false, 1) := by kernel_rfl
theorem fI_171_1 : fI Go.Proofs.Tryz.prog 171 1 = some (1, false, 1) := by kernel_rfl
theorem fI_171_2 : fI Go.Proofs.Tryz.prog 171 2 = some (2, false, 1) := by kernel_rfl
theorem fI_171_3 : fI Go.Proofs.Tryz.prog 171 3 = some (3, false, 1) := by kernel_rfl
theorem fI_171_4 : fI Go.Proofs.Tryz.prog 171 4 = some (4, false, 1) := by kernel_rfl
theorem fI_171_5 : fI Go.Proofs.Tryz.prog 171 5 = some (5, false, 1) := by kernel_rfl
theorem fI_171_6 : fI Go.Proofs.Tryz.prog 171 6 = some (6, false, 1) := by kernel_rfl
theorem fI_171_7 : fI Go.Proofs.Tryz.prog 171 7 = some (7, false, 1) := by kernel_rfl
theorem fI_171_8 : fI Go.Proofs.Tryz.prog 171 8 = some (8, false, 1) := by kernel_rfl
theorem fI_171_9 : fI Go.Proofs.Tryz.prog 171 9 = some (9, false, 1) := by kernel_rfl
theorem fI_171_10 : fI Go.Proofs.Tryz.prog 171 10 = some (10, false, 1) := by kernel_rfl
theorem fI_171_11 : fI Go.Proofs.Tryz.prog 171 11 = some (11, false, 1) := by kernel_rfl
theorem bI_171 : bI Go.Proofs.Tryz.prog 171 = some [(0, 1), (1, 1), (2, 1), (3, 1), (4, 1), (5, 1), (6, 1), (7, 1), (8, 1), (9, 1), (10, 1), (11, 1)] := by kernel_rfl
theorem tI_177 : tI Go.Proofs.Tryz.prog 177 = some (false, 1) := by kernel_rfl
theorem zI_177 : zI Go.Proofs.Tryz.prog 177 = some [.nilmap] := by kernel_rfl
theorem tI_199 : tI Go.Proofs.Tryz.prog 199 = some (true, 7) := by kernel_rfl
theorem zI_199 : zI Go.Proofs.Tryz.prog 199 = some [.int .i64 0, .int .i64 0, .str ⟨#[]⟩, .fslice [], .int .i64 0, .int .i64 0, .nilptr] := by kernel_rfl
theorem fI_199_0 : fI Go.Proofs.Tryz.prog 199 0 = some (0, true, 4) := by kernel_rfl
theorem fI_199_1 : fI Go.Proofs.Tryz.prog 199 1 = some (4, false, 1) := by kernel_rfl
theorem fI_199_2 : fI Go.Proofs.Tryz.prog 199 2 = some (5, false, 1) := by kernel_rfl
theorem fI_199_3 : fI Go.Proofs.Tryz.prog 199 3 = some (6, false, 1) := by kernel_rfl
theorem bI_199 : bI Go.Proofs.Tryz.prog 199 = some [(0, 4), (4, 1), (5, 1), (6, 1)] := by kernel_rfl
theorem tI_201 : tI Go.Proofs.Tryz.prog 201 = some (true, 6) := by kernel_rfl
theorem zI_201 : zI Go.Proofs.Tryz.prog 201 = some [.int .i64 0, .int .i64 0, .str ⟨#[]⟩, .fslice [], .int .i64 0, .int .i64 0] := by kernel_rfl
theorem fI_201_0 : fI Go.Proofs.Tryz.prog 201 0 = some (0, true, 4) := by kernel_rfl
theorem fI_201_1 : fI Go.Proofs.Tryz.prog 201 1 = some (4, false, 1) := by kernel_rfl
theorem fI_201_2 : fI Go.Proofs.Tryz.prog 201 2 = some (5, false, 1) := by kernel_rfl
theorem bI_201 : bI Go.Proofs.Tryz.prog 201 = some [(0, 4), (4, 1), (5, 1)] := by kernel_rfl
theorem tI_204 : tI Go.Proofs.Tryz.prog 204 = some (true, 9) := by kernel_rfl
theorem zI_204 : zI Go.Proofs.Tryz.prog 204 = some [.int .i64 0, .int .i64 0, .str ⟨#[]⟩, .fslice [], .int .i64 0, .nilptr, .fslice [], .int .i64 0, .int .i64 0] := by kernel_rfl
theorem fI_204_0 : fI Go.Proofs.Tryz.prog 204 0 = some (0, true, 4) := by kernel_rfl
theorem fI_204_1 : fI Go.Proofs.Tryz.prog 204 1 = some (4, false, 1) := by kernel_rfl
theorem fI_204_2 : fI Go.Proofs.Tryz.prog 204 2 = some (5, false, 1) := by kernel_rfl
theorem fI_204_3 : fI Go.Proofs.Tryz.prog 204 3 = some (6, false, 1) := by kernel_rfl
theorem fI_204_4 : fI Go.Proofs.Tryz.prog 204 4 = some (7, false, 1) := by kernel_rfl
theorem fI_204_5 : fI Go.Proofs.Tryz.prog 204 5 = some (8, false, 1) := by kernel_rfl
theorem bI_204 : bI Go.Proofs.Tryz.prog 204 = some [(0, 4), (4, 1), (5, 1), (6, 1), (7, 1), (8, 1)] := by kernel_rfl
theorem mixed : Go.Proofs.Tryz.prog.follows .mixedOrders = true := by kernel_rfl
theorem wF {P : Program} {g : FuncId} {fn : Func} {c : Code} {args : List AV} {st : zy7} {N : Nat} {rs : List ResultVar} {K : AV → zy7 → Prop} (mt : List Nat) (k : Nat) (hf : P.funcs[g]? = some fn) (hN : fn.ntmps = N) (hr : fn.results = rs.toArray) (hb : fn.body = some c) (e : fitsL args → aCode P N mt c (retQ P rs.toArray K) (argF 0 args) st) (hn : (fn.name == "runtime.NumGoroutine") = false := by kernel_rfl) (hok : codeOk N c = true := by decide +kernel) (ha : args.length = k := by rfl) (hk : k ≤ N := by decide +kernel) : zq7 P g args st K :=
 zw6 mt hf hN hr hb hn hok (by rw [ha]; exact hk) e
theorem wP {P : Program} {N : Nat} {id : Nat} {l : List Oper} {Q : Exit → AF → zy7 → Prop} {φ : AF} {st : zy7} (p : List (Nat × Nat)) (S : List Nat) (hm : P.follows .mixedOrders = true) (h : aPlanE P l.toArray (Q .normal) p φ st) (hok : opsOk N l.toArray = true := by decide +kernel) (hl : p.length = l.length := by decide +kernel) (hB : planB l.toArray S p (Array.replicate l.length false) = true := by decide +kernel) : ARun P N (.region id l.toArray true) Q φ st :=
 zx5 p S hm hok hl hB h
theorem wX {P : Program} {N : Nat} {id : Nat} {l : List Oper} {Q : Exit → AF → zy7 → Prop} {φ : AF} {st : zy7} (p : List (Nat × Nat)) (S : List Nat) (s0 : zy7) (hm : P.follows .mixedOrders = true) (hf : looksFirst p = true) (hs : ExtS s0 st) (h : aPlanXE P l.toArray s0 (Q .normal) p φ st) (hok : opsOk N l.toArray = true := by decide +kernel) (hl : p.length = l.length := by decide +kernel) (hB : planBX l.toArray S p (Array.replicate l.length false) = true := by decide +kernel) : ARun P N (.region id l.toArray true) Q φ st :=
 zq5 p S s0 hm hok hl hB hf hs h
end Go.AW
