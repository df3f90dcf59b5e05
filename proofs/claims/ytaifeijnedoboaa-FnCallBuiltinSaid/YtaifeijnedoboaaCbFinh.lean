/- Closed facts on the types of the program. -/
import Derived.Test.YtaifeijnedoboaaProg
import Derived.Test.YtaifeijnedoboaaCbFing
import Derived.KernelRfl
namespace Go.AW
theorem tI_2 : tI Go.Proofs.Try.prog 2 = some (false, 1) := by kernel_rfl
theorem zI_2 : zI Go.Proofs.Try.prog 2 = some [.int .i64 0] := by kernel_rfl
theorem tI_3 : tI Go.Proofs.Try.prog 3 = some (false, 1) := by kernel_rfl
theorem zI_3 : zI Go.Proofs.Try.prog 3 = some [.int .i64 0] := by kernel_rfl
theorem tI_4 : tI Go.Proofs.Try.prog 4 = some (false, 1) := by kernel_rfl
theorem zI_4 : zI Go.Proofs.Try.prog 4 = some [.bool false] := by kernel_rfl
theorem zV_4 : zV Go.Proofs.Try.prog 4 = some (.bool false) := by kernel_rfl
theorem tI_5 : tI Go.Proofs.Try.prog 5 = some (false, 1) := by kernel_rfl
theorem zI_5 : zI Go.Proofs.Try.prog 5 = some [.int .u8 0] := by kernel_rfl
theorem tI_6 : tI Go.Proofs.Try.prog 6 = some (false, 1) := by kernel_rfl
theorem zI_6 : zI Go.Proofs.Try.prog 6 = some [.int .u8 0] := by kernel_rfl
theorem tI_7 : tI Go.Proofs.Try.prog 7 = some (true, 4) := by kernel_rfl
theorem zI_7 : zI Go.Proofs.Try.prog 7 = some [.int .i64 0, .int .i64 0, .bool false, .int .u8 0] := by kernel_rfl
theorem fI_7_0 : fI Go.Proofs.Try.prog 7 0 = some (0, false, 1) := by kernel_rfl
theorem fI_7_1 : fI Go.Proofs.Try.prog 7 1 = some (1, false, 1) := by kernel_rfl
theorem fI_7_2 : fI Go.Proofs.Try.prog 7 2 = some (2, false, 1) := by kernel_rfl
theorem fI_7_3 : fI Go.Proofs.Try.prog 7 3 = some (3, false, 1) := by kernel_rfl
theorem bI_7 : bI Go.Proofs.Try.prog 7 = some [(0, 1), (1, 1), (2, 1), (3, 1)] := by kernel_rfl
theorem tI_8 : tI Go.Proofs.Try.prog 8 = some (true, 4) := by kernel_rfl
theorem zI_8 : zI Go.Proofs.Try.prog 8 = some [.int .i64 0, .int .i64 0, .bool false, .int .u8 0] := by kernel_rfl
theorem fI_8_0 : fI Go.Proofs.Try.prog 8 0 = some (0, false, 1) := by kernel_rfl
theorem fI_8_1 : fI Go.Proofs.Try.prog 8 1 = some (1, false, 1) := by kernel_rfl
theorem fI_8_2 : fI Go.Proofs.Try.prog 8 2 = some (2, false, 1) := by kernel_rfl
theorem fI_8_3 : fI Go.Proofs.Try.prog 8 3 = some (3, false, 1) := by kernel_rfl
theorem bI_8 : bI Go.Proofs.Try.prog 8 = some [(0, 1), (1, 1), (2, 1), (3, 1)] := by kernel_rfl
theorem tI_9 : tI Go.Proofs.Try.prog 9 = some (false, 1) := by kernel_rfl
theorem zI_9 : zI Go.Proofs.Try.prog 9 = some [.str ⟨#[]⟩] := by kernel_rfl
theorem tI_10 : tI Go.Proofs.Try.prog 10 = some (false, 1) := by kernel_rfl
theorem zI_10 : zI Go.Proofs.Try.prog 10 = some [.str ⟨#[]⟩] := by kernel_rfl
theorem tI_11 : tI Go.Proofs.Try.prog 11 = some (false, 1) := by kernel_rfl
theorem zI_11 : zI Go.Proofs.Try.prog 11 = some [.str ⟨#[]⟩] := by kernel_rfl
theorem tI_12 : tI Go.Proofs.Try.prog 12 = some (false, 1) := by kernel_rfl
theorem zI_12 : zI Go.Proofs.Try.prog 12 = some [.int .u64 0] := by kernel_rfl
theorem tI_13 : tI Go.Proofs.Try.prog 13 = some (true, 2) := by kernel_rfl
theorem zI_13 : zI Go.Proofs.Try.prog 13 = some [.str ⟨#[]⟩, .int .u64 0] := by kernel_rfl
theorem fI_13_0 : fI Go.Proofs.Try.prog 13 0 = some (0, false, 1) := by kernel_rfl
theorem fI_13_1 : fI Go.Proofs.Try.prog 13 1 = some (1, false, 1) := by kernel_rfl
theorem bI_13 : bI Go.Proofs.Try.prog 13 = some [(0, 1), (1, 1)] := by kernel_rfl
theorem tI_14 : tI Go.Proofs.Try.prog 14 = some (true, 2) := by kernel_rfl
theorem zI_14 : zI Go.Proofs.Try.prog 14 = some [.str ⟨#[]⟩, .int .u64 0] := by kernel_rfl
theorem fI_14_0 : fI Go.Proofs.Try.prog 14 0 = some (0, false, 1) := by kernel_rfl
theorem fI_14_1 : fI Go.Proofs.Try.prog 14 1 = some (1, false, 1) := by kernel_rfl
theorem bI_14 : bI Go.Proofs.Try.prog 14 = some [(0, 1), (1, 1)] := by kernel_rfl
theorem tI_15 : tI Go.Proofs.Try.prog 15 = some (false, 1) := by kernel_rfl
theorem zI_15 : zI Go.Proofs.Try.prog 15 = some [.nilptr] := by kernel_rfl
theorem tI_16 : tI Go.Proofs.Try.prog 16 = some (false, 1) := by kernel_rfl
theorem zI_16 : zI Go.Proofs.Try.prog 16 = some [.nilptr] := by kernel_rfl
theorem tI_17 : tI Go.Proofs.Try.prog 17 = some (false, 1) := by kernel_rfl
theorem zI_17 : zI Go.Proofs.Try.prog 17 = some [.nilptr] := by kernel_rfl
theorem tI_18 : tI Go.Proofs.Try.prog 18 = some (true, 1) := by kernel_rfl
theorem zI_18 : zI Go.Proofs.Try.prog 18 = some [.nilptr] := by kernel_rfl
theorem fI_18_0 : fI Go.Proofs.Try.prog 18 0 = some (0, false, 1) := by kernel_rfl
theorem bI_18 : bI Go.Proofs.Try.prog 18 = some [(0, 1)] := by kernel_rfl
theorem tI_19 : tI Go.Proofs.Try.prog 19 = some (true, 1) := by kernel_rfl
theorem zI_19 : zI Go.Proofs.Try.prog 19 = some [.nilptr] := by kernel_rfl
theorem fI_19_0 : fI Go.Proofs.Try.prog 19 0 = some (0, false, 1) := by kernel_rfl
theorem bI_19 : bI Go.Proofs.Try.prog 19 = some [(0, 1)] := by kernel_rfl
theorem tI_21 : tI Go.Proofs.Try.prog 21 = some (false, 1) := by kernel_rfl
theorem zI_21 : zI Go.Proofs.Try.prog 21 = some [.int .i32 0] := by kernel_rfl
theorem tI_22 : tI Go.Proofs.Try.prog 22 = some (false, 1) := by kernel_rfl
theorem zI_22 : zI Go.Proofs.Try.prog 22 = some [.fslice []] := by kernel_rfl
theorem eI_22 : eI Go.Proofs.Try.prog 22 = some (false, 1) := by kernel_rfl
theorem eB_22 : eB Go.Proofs.Try.prog 22 = some 1 := by kernel_rfl
theorem eZ_22 : eZ Go.Proofs.Try.prog 22 = some [.int .u8 0] := by kernel_rfl
theorem tI_23 : tI Go.Proofs.Try.prog 23 = some (false, 1) := by kernel_rfl
theorem zI_23 : zI Go.Proofs.Try.prog 23 = some [.fslice []] := by kernel_rfl
theorem eI_23 : eI Go.Proofs.Try.prog 23 = some (true, 4) := by kernel_rfl
theorem eB_23 : eB Go.Proofs.Try.prog 23 = some 56 := by kernel_rfl
theorem eZ_23 : eZ Go.Proofs.Try.prog 23 = some [.int .i64 0, .int .i64 0, .str ⟨#[]⟩, .fslice []] := by kernel_rfl
theorem tI_24 : tI Go.Proofs.Try.prog 24 = some (true, 4) := by kernel_rfl
theorem zI_24 : zI Go.Proofs.Try.prog 24 = some [.int .i64 0, .int .i64 0, .str ⟨#[]⟩, .fslice []] := by kernel_rfl
theorem fI_24_0 : fI Go.Proofs.Try.prog 24 0 = some (0, false, 1) := by kernel_rfl
theorem fI_24_1 : fI Go.Proofs.Try.prog 24 1 = some (1, false, 1) := by kernel_rfl
theorem fI_24_2 : fI Go.Proofs.Try.prog 24 2 = some (2, false, 1) := by kernel_rfl
theorem fI_24_3 : fI Go.Proofs.Try.prog 24 3 = some (3, false, 1) := by kernel_rfl
theorem bI_24 : bI Go.Proofs.Try.prog 24 = some [(0, 1), (1, 1), (2, 1), (3, 1)] := by kernel_rfl
theorem tI_25 : tI Go.Proofs.Try.prog 25 = some (true, 4) := by kernel_rfl
theorem zI_25 : zI Go.Proofs.Try.prog 25 = some [.int .i64 0, .int .i64 0, .str ⟨#[]⟩, .fslice []] := by kernel_rfl
theorem zV_25 : zV Go.Proofs.Try.prog 25 = some (.agg [.int .i64 0, .int .i64 0, .str ⟨#[]⟩, .fslice []]) := by kernel_rfl
theorem fI_25_0 : fI Go.Proofs.Try.prog 25 0 = some (0, false, 1) := by kernel_rfl
theorem fI_25_1 : fI Go.Proofs.Try.prog 25 1 = some (1, false, 1) := by kernel_rfl
theorem fI_25_2 : fI Go.Proofs.Try.prog 25 2 = some (2, false, 1) := by kernel_rfl
theorem fI_25_3 : fI Go.Proofs.Try.prog 25 3 = some (3, false, 1) := by kernel_rfl
theorem bI_25 : bI Go.Proofs.Try.prog 25 = some [(0, 1), (1, 1), (2, 1), (3, 1)] := by kernel_rfl
theorem tI_27 : tI Go.Proofs.Try.prog 27 = some (false, 1) := by kernel_rfl
theorem zI_27 : zI Go.Proofs.Try.prog 27 = some [.fslice []] := by kernel_rfl
theorem eI_27 : eI Go.Proofs.Try.prog 27 = some (true, 5) := by kernel_rfl
theorem eB_27 : eB Go.Proofs.Try.prog 27 = some 64 := by kernel_rfl
theorem eZ_27 : eZ Go.Proofs.Try.prog 27 = some [.int .i64 0, .int .i64 0, .int .i64 0, .str ⟨#[]⟩, .fslice []] := by kernel_rfl
theorem tI_34 : tI Go.Proofs.Try.prog 34 = some (false, 1) := by kernel_rfl
theorem zI_34 : zI Go.Proofs.Try.prog 34 = some [.nilptr] := by kernel_rfl
theorem tI_39 : tI Go.Proofs.Try.prog 39 = some (false, 1) := by kernel_rfl
theorem zI_39 : zI Go.Proofs.Try.prog 39 = some [.nilptr] := by kernel_rfl
theorem tI_48 : tI Go.Proofs.Try.prog 48 = some (true, 5) := by kernel_rfl
theorem zI_48 : zI Go.Proofs.Try.prog 48 = some [.int .i64 0, .int .i64 0, .int .i64 0, .str ⟨#[]⟩, .fslice []] := by kernel_rfl
theorem fI_48_0 : fI Go.Proofs.Try.prog 48 0 = some (0, false, 1) := by kernel_rfl
theorem fI_48_1 : fI Go.Proofs.Try.prog 48 1 = some (1, true, 4) := by kernel_rfl
theorem bI_48 : bI Go.Proofs.Try.prog 48 = some [(0, 1), (1, 4)] := by kernel_rfl
theorem tI_49 : tI Go.Proofs.Try.prog 49 = some (true, 5) := by kernel_rfl
theorem zI_49 : zI Go.Proofs.Try.prog 49 = some [.int .i64 0, .int .i64 0, .int .i64 0, .str ⟨#[]⟩, .fslice []] := by kernel_rfl
theorem fI_49_0 : fI Go.Proofs.Try.prog 49 0 = some (0, false, 1) := by kernel_rfl
theorem fI_49_1 : fI Go.Proofs.Try.prog 49 1 = some (1, true, 4) := by kernel_rfl
theorem bI_49 : bI Go.Proofs.Try.prog 49 = some [(0, 1), (1, 4)] := by kernel_rfl
theorem tI_57 : tI Go.Proofs.Try.prog 57 = some (true, 2) := by kernel_rfl
theorem zI_57 : zI Go.Proofs.Try.prog 57 = some [.fslice [], .int .i64 0] := by kernel_rfl
theorem fI_57_0 : fI Go.Proofs.Try.prog 57 0 = some (0, false, 1) := by kernel_rfl
theorem fI_57_1 : fI Go.Proofs.Try.prog 57 1 = some (1, false, 1) := by kernel_rfl
theorem bI_57 : bI Go.Proofs.Try.prog 57 = some [(0, 1), (1, 1)] := by kernel_rfl
theorem tI_58 : tI Go.Proofs.Try.prog 58 = some (true, 2) := by kernel_rfl
theorem zI_58 : zI Go.Proofs.Try.prog 58 = some [.fslice [], .int .i64 0] := by kernel_rfl
theorem fI_58_0 : fI Go.Proofs.Try.prog 58 0 = some (0, false, 1) := by kernel_rfl
theorem fI_58_1 : fI Go.Proofs.Try.prog 58 1 = some (1, false, 1) := by kernel_rfl
theorem bI_58 : bI Go.Proofs.Try.prog 58 = some [(0, 1), (1, 1)] := by kernel_rfl
theorem tI_61 : tI Go.Proofs.Try.prog 61 = some (false, 1) := by kernel_rfl
theorem zI_61 : zI Go.Proofs.Try.prog 61 = some [.fslice []] := by kernel_rfl
theorem eI_61 : eI Go.Proofs.Try.prog 61 = some (false, 1) := by kernel_rfl
theorem eB_61 : eB Go.Proofs.Try.prog 61 = some 8 := by kernel_rfl
theorem eZ_61 : eZ Go.Proofs.Try.prog 61 = some [.int .i64 0] := by kernel_rfl
theorem tI_63 : tI Go.Proofs.Try.prog 63 = some (false, 1) := by kernel_rfl
theorem zI_63 : zI Go.Proofs.Try.prog 63 = some [.fslice []] := by kernel_rfl
theorem eI_63 : eI Go.Proofs.Try.prog 63 = some (false, 1) := by kernel_rfl
theorem eB_63 : eB Go.Proofs.Try.prog 63 = some 16 := by kernel_rfl
theorem eZ_63 : eZ Go.Proofs.Try.prog 63 = some [.str ⟨#[]⟩] := by kernel_rfl
theorem tI_67 : tI Go.Proofs.Try.prog 67 = some (false, 1) := by kernel_rfl
theorem zI_67 : zI Go.Proofs.Try.prog 67 = some [.nilptr] := by kernel_rfl
theorem tI_68 : tI Go.Proofs.Try.prog 68 = some (false, 1) := by kernel_rfl
theorem zI_68 : zI Go.Proofs.Try.prog 68 = some [.nilmap] := by kernel_rfl
theorem tI_69 : tI Go.Proofs.Try.prog 69 = some (true, 2) := by kernel_rfl
theorem zI_69 : zI Go.Proofs.Try.prog 69 = some [.nilmap, .fslice []] := by kernel_rfl
theorem fI_69_0 : fI Go.Proofs.Try.prog 69 0 = some (0, false, 1) := by kernel_rfl
theorem fI_69_1 : fI Go.Proofs.Try.prog 69 1 = some (1, false, 1) := by kernel_rfl
theorem bI_69 : bI Go.Proofs.Try.prog 69 = some [(0, 1), (1, 1)] := by kernel_rfl
theorem tI_70 : tI Go.Proofs.Try.prog 70 = some (true, 2) := by kernel_rfl
theorem zI_70 : zI Go.Proofs.Try.prog 70 = some [.nilmap, .fslice []] := by kernel_rfl
theorem fI_70_0 : fI Go.Proofs.Try.prog 70 0 = some (0, false, 1) := by kernel_rfl
theorem fI_70_1 : fI Go.Proofs.Try.prog 70 1 = some (1, false, 1) := by kernel_rfl
theorem bI_70 : bI Go.Proofs.Try.prog 70 = some [(0, 1), (1, 1)] := by kernel_rfl
theorem tI_97 : tI Go.Proofs.Try.prog 97 = some (false, 1) := by kernel_rfl
theorem zI_97 : zI Go.Proofs.Try.prog 97 = some [.nilmap] := by kernel_rfl
theorem tI_102 : tI Go.Proofs.Try.prog 102 = some (true, 4) := by kernel_rfl
theorem zI_102 : zI Go.Proofs.Try.prog 102 = some [.nilptr, .nilptr, .nilptr, .str ⟨#[]⟩] := by kernel_rfl
theorem fI_102_0 : fI Go.Proofs.Try.prog 102 0 = some (0, false, 1) := by kernel_rfl
theorem fI_102_1 : fI Go.Proofs.Try.prog 102 1 = some (1, false, 1) := by kernel_rfl
theorem fI_102_2 : fI Go.Proofs.Try.prog 102 2 = some (2, false, 1) := by kernel_rfl
theorem fI_102_3 : fI Go.Proofs.Try.prog 102 3 = some (3, false, 1) := by kernel_rfl
theorem bI_102 : bI Go.Proofs.Try.prog 102 = some [(0, 1), (1, 1), (2, 1), (3, 1)] := by kernel_rfl
theorem tI_103 : tI Go.Proofs.Try.prog 103 = some (true, 4) := by kernel_rfl
theorem zI_103 : zI Go.Proofs.Try.prog 103 = some [.nilptr, .nilptr, .nilptr, .str ⟨#[]⟩] := by kernel_rfl
theorem fI_103_0 : fI Go.Proofs.Try.prog 103 0 = some (0, false, 1) := by kernel_rfl
theorem fI_103_1 : fI Go.Proofs.Try.prog 103 1 = some (1, false, 1) := by kernel_rfl
theorem fI_103_2 : fI Go.Proofs.Try.prog 103 2 = some (2, false, 1) := by kernel_rfl
theorem fI_103_3 : fI Go.Proofs.Try.prog 103 3 = some (3, false, 1) := by kernel_rfl
theorem bI_103 : bI Go.Proofs.Try.prog 103 = some [(0, 1), (1, 1), (2, 1), (3, 1)] := by kernel_rfl
theorem tI_104 : tI Go.Proofs.Try.prog 104 = some (true, 0) := by kernel_rfl
theorem zI_104 : zI Go.Proofs.Try.prog 104 = some [] := by kernel_rfl
theorem aI_104 : aI Go.Proofs.Try.prog 104 = some (0, false, 1) := by kernel_rfl
theorem tI_105 : tI Go.Proofs.Try.prog 105 = some (true, 0) := by kernel_rfl
theorem zI_105 : zI Go.Proofs.Try.prog 105 = some [] := by kernel_rfl
theorem bI_105 : bI Go.Proofs.Try.prog 105 = some [(0, 0)] := by kernel_rfl
theorem tI_106 : tI Go.Proofs.Try.prog 106 = some (true, 0) := by kernel_rfl
theorem zI_106 : zI Go.Proofs.Try.prog 106 = some [] := by kernel_rfl
theorem bI_106 : bI Go.Proofs.Try.prog 106 = some [(0, 0)] := by kernel_rfl
theorem tI_108 : tI Go.Proofs.Try.prog 108 = some (false, 1) := by kernel_rfl
theorem zI_108 : zI Go.Proofs.Try.prog 108 = some [.int .u32 0] := by kernel_rfl
theorem tI_109 : tI Go.Proofs.Try.prog 109 = some (false, 1) := by kernel_rfl
theorem zI_109 : zI Go.Proofs.Try.prog 109 = some [.int .u8 0] := by kernel_rfl
theorem tI_110 : tI Go.Proofs.Try.prog 110 = some (false, 1) := by kernel_rfl
theorem zI_110 : zI Go.Proofs.Try.prog 110 = some [.int .u8 0] := by kernel_rfl
theorem tI_113 : tI Go.Proofs.Try.prog 113 = some (false, 1) := by kernel_rfl
theorem zI_113 : zI Go.Proofs.Try.prog 113 = some [.int .i32 0] := by kernel_rfl
theorem tI_114 : tI Go.Proofs.Try.prog 114 = some (false, 1) := by kernel_rfl
theorem zI_114 : zI Go.Proofs.Try.prog 114 = some [.int .i32 0] := by kernel_rfl
theorem tI_115 : tI Go.Proofs.Try.prog 115 = some (true, 11) := by kernel_rfl
theorem zI_115 : zI Go.Proofs.Try.prog 115 = some [.int .u64 0, .int .u64 0, .int .u32 0, .int .u8 0, .int .u8 0, .int .u8 0, .int .u8 0, .raw .nilFunc, .nilptr, .int .i32 0, .int .i32 0] := by kernel_rfl
theorem fI_115_0 : fI Go.Proofs.Try.prog 115 0 = some (0, false, 1) := by kernel_rfl
theorem fI_115_1 : fI Go.Proofs.Try.prog 115 1 = some (1, false, 1) := by kernel_rfl
theorem fI_115_2 : fI Go.Proofs.Try.prog 115 2 = some (2, false, 1) := by kernel_rfl
theorem fI_115_3 : fI Go.Proofs.Try.prog 115 3 = some (3, false, 1) := by kernel_rfl
theorem fI_115_4 : fI Go.Proofs.Try.prog 115 4 = some (4, false, 1) := by kernel_rfl
theorem fI_115_5 : fI Go.Proofs.Try.prog 115 5 = some (5, false, 1) := by kernel_rfl
theorem fI_115_6 : fI Go.Proofs.Try.prog 115 6 = some (6, false, 1) := by kernel_rfl
theorem fI_115_7 : fI Go.Proofs.Try.prog 115 7 = some (7, false, 1) := by kernel_rfl
theorem fI_115_8 : fI Go.Proofs.Try.prog 115 8 = some (8, false, 1) := by kernel_rfl
theorem fI_115_9 : fI Go.Proofs.Try.prog 115 9 = some (9, false, 1) := by kernel_rfl
theorem fI_115_10 : fI Go.Proofs.Try.prog 115 10 = some (10, false, 1) := by kernel_rfl
theorem bI_115 : bI Go.Proofs.Try.prog 115 = some [(0, 1), (1, 1), (2, 1), (3, 1), (4, 1), (5, 1), (6, 1), (7, 1), (8, 1), (9, 1), (10, 1)] := by kernel_rfl
theorem tI_116 : tI Go.Proofs.Try.prog 116 = some (true, 11) := by kernel_rfl
theorem zI_116 : zI Go.Proofs.Try.prog 116 = some [.int .u64 0, .int .u64 0, .int .u32 0, .int .u8 0, .int .u8 0, .int .u8 0, .int .u8 0, .raw .nilFunc, .nilptr, .int .i32 0, .int .i32 0] := by kernel_rfl
theorem fI_116_0 : fI Go.Proofs.Try.prog 116 0 = some (0, false, 1) := by kernel_rfl
theorem fI_116_1 : fI Go.Proofs.Try.prog 116 1 = some (1, false, 1) := by kernel_rfl
theorem fI_116_2 : fI Go.Proofs.Try.prog 116 2 = some (2, false, 1) := by kernel_rfl
theorem fI_116_3 : fI Go.Proofs.Try.prog 116 3 = some (3, false, 1) := by kernel_rfl
theorem fI_116_4 : fI Go.Proofs.Try.prog 116 4 = some (4, false, 1) := by kernel_rfl
theorem fI_116_5 : fI Go.Proofs.Try.prog 116 5 = some (5, false, 1) := by kernel_rfl
theorem fI_116_6 : fI Go.Proofs.Try.prog 116 6 = some (6, false, 1) := by kernel_rfl
theorem fI_116_7 : fI Go.Proofs.Try.prog 116 7 = some (7, false, 1) := by kernel_rfl
theorem fI_116_8 : fI Go.Proofs.Try.prog 116 8 = some (8, false, 1) := by kernel_rfl
theorem fI_116_9 : fI Go.Proofs.Try.prog 116 9 = some (9, false, 1) := by kernel_rfl
theorem fI_116_10 : fI Go.Proofs.Try.prog 116 10 = some (10, false, 1) := by kernel_rfl
theorem bI_116 : bI Go.Proofs.Try.prog 116 = some [(0, 1), (1, 1), (2, 1), (3, 1), (4, 1), (5, 1), (6, 1), (7, 1), (8, 1), (9, 1), (10, 1)] := by kernel_rfl
theorem tI_119 : tI Go.Proofs.Try.prog 119 = some (false, 1) := by kernel_rfl
theorem zI_119 : zI Go.Proofs.Try.prog 119 = some [.int .u64 0] := by kernel_rfl
theorem mixed : Go.Proofs.Try.prog.follows .mixedOrders = true := by kernel_rfl
end Go.AW
