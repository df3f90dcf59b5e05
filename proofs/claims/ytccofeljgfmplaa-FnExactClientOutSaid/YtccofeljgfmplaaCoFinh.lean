/- Closed facts on the types of the program. -/
import Derived.Test.YtccofeljgfmplaaProg
import Derived.Test.YtccofeljgfmplaaCoFing
import Derived.KernelRfl
namespace Go.AW
theorem tI_2 : tI Go.Proofs.Try.prog 2 = some (false, 1) := by kernel_rfl
theorem zI_2 : zI Go.Proofs.Try.prog 2 = some [.int .i64 0] := by kernel_rfl
theorem tI_3 : tI Go.Proofs.Try.prog 3 = some (false, 1) := by kernel_rfl
theorem zI_3 : zI Go.Proofs.Try.prog 3 = some [.int .i64 0] := by kernel_rfl
theorem tI_4 : tI Go.Proofs.Try.prog 4 = some (false, 1) := by kernel_rfl
theorem zI_4 : zI Go.Proofs.Try.prog 4 = some [.bool false] := by kernel_rfl
theorem tI_5 : tI Go.Proofs.Try.prog 5 = some (false, 1) := by kernel_rfl
theorem zI_5 : zI Go.Proofs.Try.prog 5 = some [.int .u8 0] := by kernel_rfl
theorem tI_6 : tI Go.Proofs.Try.prog 6 = some (false, 1) := by kernel_rfl
theorem zI_6 : zI Go.Proofs.Try.prog 6 = some [.int .u8 0] := by kernel_rfl
theorem tI_7 : tI Go.Proofs.Try.prog 7 = some (true, 4) := by kernel_rfl
theorem zI_7 : zI Go.Proofs.Try.prog 7 = some [.int .i64 0, .int .i64 0, .bool false, .int .u8 0] := by kernel_rfl
theorem fI_7_0 : fI Go.Proofs.Try.prog 7 0 = some (0, false, 1) := by kernel_rfl
theorem fI_7_1 : fI Go.Proofs.Try.prog 7 1 = some (1, false, 1) := by kernel_rfl
theorem fI_7_2 : fI Go.Proofs.Try.prog 7 2 = some (2, false, 1) := by kernel_rfl
theorem fI_7_3 : fI Go.Proofs.Try.prog 7 3 = some (3, false, 1) := by kernel_rfl
theorem bI_7 : bI Go.Proofs.Try.prog 7 = some [(0, 1), (1, 1), (2, 1), (3, 1)] := by kernel_rfl
theorem tI_8 : tI Go.Proofs.Try.prog 8 = some (true, 4) := by kernel_rfl
theorem zI_8 : zI Go.Proofs.Try.prog 8 = some [.int .i64 0, .int .i64 0, .bool false, .int .u8 0] := by kernel_rfl
theorem fI_8_0 : fI Go.Proofs.Try.prog 8 0 = some (0, false, 1) := by kernel_rfl
theorem fI_8_1 : fI Go.Proofs.Try.prog 8 1 = some (1, false, 1) := by kernel_rfl
theorem fI_8_2 : fI Go.Proofs.Try.prog 8 2 = some (2, false, 1) := by kernel_rfl
theorem fI_8_3 : fI Go.Proofs.Try.prog 8 3 = some (3, false, 1) := by kernel_rfl
theorem bI_8 : bI Go.Proofs.Try.prog 8 = some [(0, 1), (1, 1), (2, 1), (3, 1)] := by kernel_rfl
theorem tI_9 : tI Go.Proofs.Try.prog 9 = some (false, 1) := by kernel_rfl
theorem zI_9 : zI Go.Proofs.Try.prog 9 = some [.str ⟨#[]⟩] := by kernel_rfl
theorem tI_10 : tI Go.Proofs.Try.prog 10 = some (false, 1) := by kernel_rfl
theorem zI_10 : zI Go.Proofs.Try.prog 10 = some [.str ⟨#[]⟩] := by kernel_rfl
theorem tI_11 : tI Go.Proofs.Try.prog 11 = some (false, 1) := by kernel_rfl
theorem zI_11 : zI Go.Proofs.Try.prog 11 = some [.str ⟨#[]⟩] := by kernel_rfl
theorem tI_12 : tI Go.Proofs.Try.prog 12 = some (false, 1) := by kernel_rfl
theorem zI_12 : zI Go.Proofs.Try.prog 12 = some [.int .u64 0] := by kernel_rfl
theorem tI_13 : tI Go.Proofs.Try.prog 13 = some (true, 2) := by kernel_rfl
theorem zI_13 : zI Go.Proofs.Try.prog 13 = some [.str ⟨#[]⟩, .int .u64 0] := by kernel_rfl
theorem fI_13_0 : fI Go.Proofs.Try.prog 13 0 = some (0, false, 1) := by kernel_rfl
theorem fI_13_1 : fI Go.Proofs.Try.prog 13 1 = some (1, false, 1) := by kernel_rfl
theorem bI_13 : bI Go.Proofs.Try.prog 13 = some [(0, 1), (1, 1)] := by kernel_rfl
theorem tI_14 : tI Go.Proofs.Try.prog 14 = some (true, 2) := by kernel_rfl
theorem zI_14 : zI Go.Proofs.Try.prog 14 = some [.str ⟨#[]⟩, .int .u64 0] := by kernel_rfl
theorem fI_14_0 : fI Go.Proofs.Try.prog 14 0 = some (0, false, 1) := by kernel_rfl
theorem fI_14_1 : fI Go.Proofs.Try.prog 14 1 = some (1, false, 1) := by kernel_rfl
theorem bI_14 : bI Go.Proofs.Try.prog 14 = some [(0, 1), (1, 1)] := by kernel_rfl
theorem tI_15 : tI Go.Proofs.Try.prog 15 = some (false, 1) := by kernel_rfl
theorem zI_15 : zI Go.Proofs.Try.prog 15 = some [.nilptr] := by kernel_rfl
theorem tI_16 : tI Go.Proofs.Try.prog 16 = some (false, 1) := by kernel_rfl
theorem zI_16 : zI Go.Proofs.Try.prog 16 = some [.nilptr] := by kernel_rfl
theorem tI_17 : tI Go.Proofs.Try.prog 17 = some (false, 1) := by kernel_rfl
theorem zI_17 : zI Go.Proofs.Try.prog 17 = some [.nilptr] := by kernel_rfl
theorem tI_18 : tI Go.Proofs.Try.prog 18 = some (true, 1) := by kernel_rfl
theorem zI_18 : zI Go.Proofs.Try.prog 18 = some [.nilptr] := by kernel_rfl
theorem fI_18_0 : fI Go.Proofs.Try.prog 18 0 = some (0, false, 1) := by kernel_rfl
theorem bI_18 : bI Go.Proofs.Try.prog 18 = some [(0, 1)] := by kernel_rfl
theorem tI_19 : tI Go.Proofs.Try.prog 19 = some (true, 1) := by kernel_rfl
theorem zI_19 : zI Go.Proofs.Try.prog 19 = some [.nilptr] := by kernel_rfl
theorem fI_19_0 : fI Go.Proofs.Try.prog 19 0 = some (0, false, 1) := by kernel_rfl
theorem bI_19 : bI Go.Proofs.Try.prog 19 = some [(0, 1)] := by kernel_rfl
theorem tI_21 : tI Go.Proofs.Try.prog 21 = some (false, 1) := by kernel_rfl
theorem zI_21 : zI Go.Proofs.Try.prog 21 = some [.int .i32 0] := by kernel_rfl
theorem tI_22 : tI Go.Proofs.Try.prog 22 = some (false, 1) := by kernel_rfl
theorem zI_22 : zI Go.Proofs.Try.prog 22 = some [.fslice []] := by kernel_rfl
theorem eI_22 : eI Go.Proofs.Try.prog 22 = some (true, 4) := by kernel_rfl
theorem eB_22 : eB Go.Proofs.Try.prog 22 = some 56 := by kernel_rfl
theorem eZ_22 : eZ Go.Proofs.Try.prog 22 = some [.int .i64 0, .int .i64 0, .str ⟨#[]⟩, .fslice []] := by kernel_rfl
theorem tI_23 : tI Go.Proofs.Try.prog 23 = some (true, 1) := by kernel_rfl
theorem zI_23 : zI Go.Proofs.Try.prog 23 = some [.fslice []] := by kernel_rfl
theorem fI_23_0 : fI Go.Proofs.Try.prog 23 0 = some (0, false, 1) := by kernel_rfl
theorem bI_23 : bI Go.Proofs.Try.prog 23 = some [(0, 1)] := by kernel_rfl
theorem tI_24 : tI Go.Proofs.Try.prog 24 = some (true, 1) := by kernel_rfl
theorem zI_24 : zI Go.Proofs.Try.prog 24 = some [.fslice []] := by kernel_rfl
theorem fI_24_0 : fI Go.Proofs.Try.prog 24 0 = some (0, false, 1) := by kernel_rfl
theorem bI_24 : bI Go.Proofs.Try.prog 24 = some [(0, 1)] := by kernel_rfl
theorem tI_27 : tI Go.Proofs.Try.prog 27 = some (false, 1) := by kernel_rfl
theorem zI_27 : zI Go.Proofs.Try.prog 27 = some [.fslice []] := by kernel_rfl
theorem eI_27 : eI Go.Proofs.Try.prog 27 = some (true, 4) := by kernel_rfl
theorem eB_27 : eB Go.Proofs.Try.prog 27 = some 56 := by kernel_rfl
theorem eZ_27 : eZ Go.Proofs.Try.prog 27 = some [.int .i64 0, .int .i64 0, .str ⟨#[]⟩, .fslice []] := by kernel_rfl
theorem tI_31 : tI Go.Proofs.Try.prog 31 = some (true, 1) := by kernel_rfl
theorem zI_31 : zI Go.Proofs.Try.prog 31 = some [.fslice []] := by kernel_rfl
theorem fI_31_0 : fI Go.Proofs.Try.prog 31 0 = some (0, false, 1) := by kernel_rfl
theorem bI_31 : bI Go.Proofs.Try.prog 31 = some [(0, 1)] := by kernel_rfl
theorem tI_32 : tI Go.Proofs.Try.prog 32 = some (true, 1) := by kernel_rfl
theorem zI_32 : zI Go.Proofs.Try.prog 32 = some [.fslice []] := by kernel_rfl
theorem fI_32_0 : fI Go.Proofs.Try.prog 32 0 = some (0, false, 1) := by kernel_rfl
theorem bI_32 : bI Go.Proofs.Try.prog 32 = some [(0, 1)] := by kernel_rfl
theorem tI_39 : tI Go.Proofs.Try.prog 39 = some (false, 1) := by kernel_rfl
theorem zI_39 : zI Go.Proofs.Try.prog 39 = some [.fslice []] := by kernel_rfl
theorem eI_39 : eI Go.Proofs.Try.prog 39 = some (false, 1) := by kernel_rfl
theorem eB_39 : eB Go.Proofs.Try.prog 39 = some 1 := by kernel_rfl
theorem eZ_39 : eZ Go.Proofs.Try.prog 39 = some [.int .u8 0] := by kernel_rfl
theorem tI_40 : tI Go.Proofs.Try.prog 40 = some (true, 4) := by kernel_rfl
theorem zI_40 : zI Go.Proofs.Try.prog 40 = some [.int .i64 0, .int .i64 0, .str ⟨#[]⟩, .fslice []] := by kernel_rfl
theorem fI_40_0 : fI Go.Proofs.Try.prog 40 0 = some (0, false, 1) := by kernel_rfl
theorem fI_40_1 : fI Go.Proofs.Try.prog 40 1 = some (1, false, 1) := by kernel_rfl
theorem fI_40_2 : fI Go.Proofs.Try.prog 40 2 = some (2, false, 1) := by kernel_rfl
theorem fI_40_3 : fI Go.Proofs.Try.prog 40 3 = some (3, false, 1) := by kernel_rfl
theorem bI_40 : bI Go.Proofs.Try.prog 40 = some [(0, 1), (1, 1), (2, 1), (3, 1)] := by kernel_rfl
theorem tI_41 : tI Go.Proofs.Try.prog 41 = some (true, 4) := by kernel_rfl
theorem zI_41 : zI Go.Proofs.Try.prog 41 = some [.int .i64 0, .int .i64 0, .str ⟨#[]⟩, .fslice []] := by kernel_rfl
theorem fI_41_0 : fI Go.Proofs.Try.prog 41 0 = some (0, false, 1) := by kernel_rfl
theorem fI_41_1 : fI Go.Proofs.Try.prog 41 1 = some (1, false, 1) := by kernel_rfl
theorem fI_41_2 : fI Go.Proofs.Try.prog 41 2 = some (2, false, 1) := by kernel_rfl
theorem fI_41_3 : fI Go.Proofs.Try.prog 41 3 = some (3, false, 1) := by kernel_rfl
theorem bI_41 : bI Go.Proofs.Try.prog 41 = some [(0, 1), (1, 1), (2, 1), (3, 1)] := by kernel_rfl
theorem tI_44 : tI Go.Proofs.Try.prog 44 = some (false, 1) := by kernel_rfl
theorem zI_44 : zI Go.Proofs.Try.prog 44 = some [.fslice []] := by kernel_rfl
theorem eI_44 : eI Go.Proofs.Try.prog 44 = some (true, 5) := by kernel_rfl
theorem eB_44 : eB Go.Proofs.Try.prog 44 = some 64 := by kernel_rfl
theorem eZ_44 : eZ Go.Proofs.Try.prog 44 = some [.int .i64 0, .int .i64 0, .int .i64 0, .str ⟨#[]⟩, .fslice []] := by kernel_rfl
theorem tI_53 : tI Go.Proofs.Try.prog 53 = some (true, 5) := by kernel_rfl
theorem zI_53 : zI Go.Proofs.Try.prog 53 = some [.int .i64 0, .int .i64 0, .int .i64 0, .str ⟨#[]⟩, .fslice []] := by kernel_rfl
theorem fI_53_0 : fI Go.Proofs.Try.prog 53 0 = some (0, false, 1) := by kernel_rfl
theorem fI_53_1 : fI Go.Proofs.Try.prog 53 1 = some (1, true, 4) := by kernel_rfl
theorem bI_53 : bI Go.Proofs.Try.prog 53 = some [(0, 1), (1, 4)] := by kernel_rfl
theorem tI_54 : tI Go.Proofs.Try.prog 54 = some (true, 5) := by kernel_rfl
theorem zI_54 : zI Go.Proofs.Try.prog 54 = some [.int .i64 0, .int .i64 0, .int .i64 0, .str ⟨#[]⟩, .fslice []] := by kernel_rfl
theorem fI_54_0 : fI Go.Proofs.Try.prog 54 0 = some (0, false, 1) := by kernel_rfl
theorem fI_54_1 : fI Go.Proofs.Try.prog 54 1 = some (1, true, 4) := by kernel_rfl
theorem bI_54 : bI Go.Proofs.Try.prog 54 = some [(0, 1), (1, 4)] := by kernel_rfl
theorem tI_56 : tI Go.Proofs.Try.prog 56 = some (false, 1) := by kernel_rfl
theorem zI_56 : zI Go.Proofs.Try.prog 56 = some [.fslice []] := by kernel_rfl
theorem eI_56 : eI Go.Proofs.Try.prog 56 = some (true, 13) := by kernel_rfl
theorem eB_56 : eB Go.Proofs.Try.prog 56 = some 200 := by kernel_rfl
theorem eZ_56 : eZ Go.Proofs.Try.prog 56 = some [.fslice [], .bool false, .fslice [], .fslice [], .bool false, .fslice [], .fslice [], .int .i64 0, .int .i64 0, .int .i64 0, .int .i64 0, .bool false, .fslice []] := by kernel_rfl
theorem tI_58 : tI Go.Proofs.Try.prog 58 = some (true, 2) := by kernel_rfl
theorem zI_58 : zI Go.Proofs.Try.prog 58 = some [.fslice [], .int .i64 0] := by kernel_rfl
theorem fI_58_0 : fI Go.Proofs.Try.prog 58 0 = some (0, false, 1) := by kernel_rfl
theorem fI_58_1 : fI Go.Proofs.Try.prog 58 1 = some (1, false, 1) := by kernel_rfl
theorem bI_58 : bI Go.Proofs.Try.prog 58 = some [(0, 1), (1, 1)] := by kernel_rfl
theorem tI_60 : tI Go.Proofs.Try.prog 60 = some (false, 1) := by kernel_rfl
theorem zI_60 : zI Go.Proofs.Try.prog 60 = some [.fslice []] := by kernel_rfl
theorem eI_60 : eI Go.Proofs.Try.prog 60 = some (true, 2) := by kernel_rfl
theorem eB_60 : eB Go.Proofs.Try.prog 60 = some 24 := by kernel_rfl
theorem eZ_60 : eZ Go.Proofs.Try.prog 60 = some [.int .i64 0, .str ⟨#[]⟩] := by kernel_rfl
theorem tI_62 : tI Go.Proofs.Try.prog 62 = some (false, 1) := by kernel_rfl
theorem zI_62 : zI Go.Proofs.Try.prog 62 = some [.fslice []] := by kernel_rfl
theorem eI_62 : eI Go.Proofs.Try.prog 62 = some (true, 13) := by kernel_rfl
theorem eB_62 : eB Go.Proofs.Try.prog 62 = some 200 := by kernel_rfl
theorem eZ_62 : eZ Go.Proofs.Try.prog 62 = some [.fslice [], .bool false, .fslice [], .fslice [], .bool false, .fslice [], .fslice [], .int .i64 0, .int .i64 0, .int .i64 0, .int .i64 0, .bool false, .fslice []] := by kernel_rfl
theorem tI_63 : tI Go.Proofs.Try.prog 63 = some (true, 2) := by kernel_rfl
theorem zI_63 : zI Go.Proofs.Try.prog 63 = some [.fslice [], .int .i64 0] := by kernel_rfl
theorem fI_63_0 : fI Go.Proofs.Try.prog 63 0 = some (0, false, 1) := by kernel_rfl
theorem fI_63_1 : fI Go.Proofs.Try.prog 63 1 = some (1, false, 1) := by kernel_rfl
theorem bI_63 : bI Go.Proofs.Try.prog 63 = some [(0, 1), (1, 1)] := by kernel_rfl
theorem tI_64 : tI Go.Proofs.Try.prog 64 = some (true, 2) := by kernel_rfl
theorem zI_64 : zI Go.Proofs.Try.prog 64 = some [.fslice [], .int .i64 0] := by kernel_rfl
theorem fI_64_0 : fI Go.Proofs.Try.prog 64 0 = some (0, false, 1) := by kernel_rfl
theorem fI_64_1 : fI Go.Proofs.Try.prog 64 1 = some (1, false, 1) := by kernel_rfl
theorem bI_64 : bI Go.Proofs.Try.prog 64 = some [(0, 1), (1, 1)] := by kernel_rfl
theorem tI_71 : tI Go.Proofs.Try.prog 71 = some (false, 1) := by kernel_rfl
theorem zI_71 : zI Go.Proofs.Try.prog 71 = some [.fslice []] := by kernel_rfl
theorem eI_71 : eI Go.Proofs.Try.prog 71 = some (true, 5) := by kernel_rfl
theorem eB_71 : eB Go.Proofs.Try.prog 71 = some 80 := by kernel_rfl
theorem eZ_71 : eZ Go.Proofs.Try.prog 71 = some [.int .i64 0, .int .i64 0, .str ⟨#[]⟩, .fslice [], .fslice []] := by kernel_rfl
theorem tI_73 : tI Go.Proofs.Try.prog 73 = some (false, 1) := by kernel_rfl
theorem zI_73 : zI Go.Proofs.Try.prog 73 = some [.fslice []] := by kernel_rfl
theorem eI_73 : eI Go.Proofs.Try.prog 73 = some (true, 5) := by kernel_rfl
theorem eB_73 : eB Go.Proofs.Try.prog 73 = some 80 := by kernel_rfl
theorem eZ_73 : eZ Go.Proofs.Try.prog 73 = some [.int .i64 0, .int .i64 0, .str ⟨#[]⟩, .fslice [], .fslice []] := by kernel_rfl
theorem tI_74 : tI Go.Proofs.Try.prog 74 = some (true, 6) := by kernel_rfl
theorem zI_74 : zI Go.Proofs.Try.prog 74 = some [.fslice [], .fslice [], .int .i64 0, .int .i64 0, .int .i64 0, .int .i64 0] := by kernel_rfl
theorem fI_74_0 : fI Go.Proofs.Try.prog 74 0 = some (0, false, 1) := by kernel_rfl
theorem fI_74_1 : fI Go.Proofs.Try.prog 74 1 = some (1, false, 1) := by kernel_rfl
theorem fI_74_2 : fI Go.Proofs.Try.prog 74 2 = some (2, false, 1) := by kernel_rfl
theorem fI_74_3 : fI Go.Proofs.Try.prog 74 3 = some (3, false, 1) := by kernel_rfl
theorem fI_74_4 : fI Go.Proofs.Try.prog 74 4 = some (4, false, 1) := by kernel_rfl
theorem fI_74_5 : fI Go.Proofs.Try.prog 74 5 = some (5, false, 1) := by kernel_rfl
theorem bI_74 : bI Go.Proofs.Try.prog 74 = some [(0, 1), (1, 1), (2, 1), (3, 1), (4, 1), (5, 1)] := by kernel_rfl
theorem tI_75 : tI Go.Proofs.Try.prog 75 = some (true, 6) := by kernel_rfl
theorem zI_75 : zI Go.Proofs.Try.prog 75 = some [.fslice [], .fslice [], .int .i64 0, .int .i64 0, .int .i64 0, .int .i64 0] := by kernel_rfl
theorem fI_75_0 : fI Go.Proofs.Try.prog 75 0 = some (0, false, 1) := by kernel_rfl
theorem fI_75_1 : fI Go.Proofs.Try.prog 75 1 = some (1, false, 1) := by kernel_rfl
theorem fI_75_2 : fI Go.Proofs.Try.prog 75 2 = some (2, false, 1) := by kernel_rfl
theorem fI_75_3 : fI Go.Proofs.Try.prog 75 3 = some (3, false, 1) := by kernel_rfl
theorem fI_75_4 : fI Go.Proofs.Try.prog 75 4 = some (4, false, 1) := by kernel_rfl
theorem fI_75_5 : fI Go.Proofs.Try.prog 75 5 = some (5, false, 1) := by kernel_rfl
theorem bI_75 : bI Go.Proofs.Try.prog 75 = some [(0, 1), (1, 1), (2, 1), (3, 1), (4, 1), (5, 1)] := by kernel_rfl
theorem tI_91 : tI Go.Proofs.Try.prog 91 = some (true, 4) := by kernel_rfl
theorem zI_91 : zI Go.Proofs.Try.prog 91 = some [.int .i64 0, .int .i64 0, .str ⟨#[]⟩, .fslice []] := by kernel_rfl
theorem fI_91_0 : fI Go.Proofs.Try.prog 91 0 = some (0, false, 1) := by kernel_rfl
theorem fI_91_1 : fI Go.Proofs.Try.prog 91 1 = some (1, false, 1) := by kernel_rfl
theorem fI_91_2 : fI Go.Proofs.Try.prog 91 2 = some (2, false, 1) := by kernel_rfl
theorem fI_91_3 : fI Go.Proofs.Try.prog 91 3 = some (3, false, 1) := by kernel_rfl
theorem bI_91 : bI Go.Proofs.Try.prog 91 = some [(0, 1), (1, 1), (2, 1), (3, 1)] := by kernel_rfl
theorem tI_92 : tI Go.Proofs.Try.prog 92 = some (true, 4) := by kernel_rfl
theorem zI_92 : zI Go.Proofs.Try.prog 92 = some [.int .i64 0, .int .i64 0, .str ⟨#[]⟩, .fslice []] := by kernel_rfl
theorem fI_92_0 : fI Go.Proofs.Try.prog 92 0 = some (0, false, 1) := by kernel_rfl
theorem fI_92_1 : fI Go.Proofs.Try.prog 92 1 = some (1, false, 1) := by kernel_rfl
theorem fI_92_2 : fI Go.Proofs.Try.prog 92 2 = some (2, false, 1) := by kernel_rfl
theorem fI_92_3 : fI Go.Proofs.Try.prog 92 3 = some (3, false, 1) := by kernel_rfl
theorem bI_92 : bI Go.Proofs.Try.prog 92 = some [(0, 1), (1, 1), (2, 1), (3, 1)] := by kernel_rfl
theorem tI_93 : tI Go.Proofs.Try.prog 93 = some (false, 1) := by kernel_rfl
theorem zI_93 : zI Go.Proofs.Try.prog 93 = some [.fslice []] := by kernel_rfl
theorem eI_93 : eI Go.Proofs.Try.prog 93 = some (false, 1) := by kernel_rfl
theorem eB_93 : eB Go.Proofs.Try.prog 93 = some 8 := by kernel_rfl
theorem eZ_93 : eZ Go.Proofs.Try.prog 93 = some [.int .i64 0] := by kernel_rfl
theorem tI_118 : tI Go.Proofs.Try.prog 118 = some (true, 2) := by kernel_rfl
theorem zI_118 : zI Go.Proofs.Try.prog 118 = some [.fslice [], .bool false] := by kernel_rfl
theorem fI_118_0 : fI Go.Proofs.Try.prog 118 0 = some (0, false, 1) := by kernel_rfl
theorem fI_118_1 : fI Go.Proofs.Try.prog 118 1 = some (1, false, 1) := by kernel_rfl
theorem bI_118 : bI Go.Proofs.Try.prog 118 = some [(0, 1), (1, 1)] := by kernel_rfl
theorem tI_119 : tI Go.Proofs.Try.prog 119 = some (true, 2) := by kernel_rfl
theorem zI_119 : zI Go.Proofs.Try.prog 119 = some [.fslice [], .bool false] := by kernel_rfl
theorem fI_119_0 : fI Go.Proofs.Try.prog 119 0 = some (0, false, 1) := by kernel_rfl
theorem fI_119_1 : fI Go.Proofs.Try.prog 119 1 = some (1, false, 1) := by kernel_rfl
theorem bI_119 : bI Go.Proofs.Try.prog 119 = some [(0, 1), (1, 1)] := by kernel_rfl
theorem tI_120 : tI Go.Proofs.Try.prog 120 = some (true, 13) := by kernel_rfl
theorem zI_120 : zI Go.Proofs.Try.prog 120 = some [.fslice [], .bool false, .fslice [], .fslice [], .bool false, .fslice [], .fslice [], .int .i64 0, .int .i64 0, .int .i64 0, .int .i64 0, .bool false, .fslice []] := by kernel_rfl
theorem fI_120_0 : fI Go.Proofs.Try.prog 120 0 = some (0, true, 2) := by kernel_rfl
theorem fI_120_1 : fI Go.Proofs.Try.prog 120 1 = some (2, false, 1) := by kernel_rfl
theorem fI_120_2 : fI Go.Proofs.Try.prog 120 2 = some (3, false, 1) := by kernel_rfl
theorem fI_120_3 : fI Go.Proofs.Try.prog 120 3 = some (4, false, 1) := by kernel_rfl
theorem fI_120_4 : fI Go.Proofs.Try.prog 120 4 = some (5, true, 6) := by kernel_rfl
theorem fI_120_5 : fI Go.Proofs.Try.prog 120 5 = some (11, false, 1) := by kernel_rfl
theorem fI_120_6 : fI Go.Proofs.Try.prog 120 6 = some (12, false, 1) := by kernel_rfl
theorem bI_120 : bI Go.Proofs.Try.prog 120 = some [(0, 2), (2, 1), (3, 1), (4, 1), (5, 6), (11, 1), (12, 1)] := by kernel_rfl
theorem tI_121 : tI Go.Proofs.Try.prog 121 = some (true, 13) := by kernel_rfl
theorem zI_121 : zI Go.Proofs.Try.prog 121 = some [.fslice [], .bool false, .fslice [], .fslice [], .bool false, .fslice [], .fslice [], .int .i64 0, .int .i64 0, .int .i64 0, .int .i64 0, .bool false, .fslice []] := by kernel_rfl
theorem fI_121_0 : fI Go.Proofs.Try.prog 121 0 = some (0, true, 2) := by kernel_rfl
theorem fI_121_1 : fI Go.Proofs.Try.prog 121 1 = some (2, false, 1) := by kernel_rfl
theorem fI_121_2 : fI Go.Proofs.Try.prog 121 2 = some (3, false, 1) := by kernel_rfl
theorem fI_121_3 : fI Go.Proofs.Try.prog 121 3 = some (4, false, 1) := by kernel_rfl
theorem fI_121_4 : fI Go.Proofs.Try.prog 121 4 = some (5, true, 6) := by kernel_rfl
theorem fI_121_5 : fI Go.Proofs.Try.prog 121 5 = some (11, false, 1) := by kernel_rfl
theorem fI_121_6 : fI Go.Proofs.Try.prog 121 6 = some (12, false, 1) := by kernel_rfl
theorem bI_121 : bI Go.Proofs.Try.prog 121 = some [(0, 2), (2, 1), (3, 1), (4, 1), (5, 6), (11, 1), (12, 1)] := by kernel_rfl
theorem tI_126 : tI Go.Proofs.Try.prog 126 = some (true, 2) := by kernel_rfl
theorem zI_126 : zI Go.Proofs.Try.prog 126 = some [.int .i64 0, .str ⟨#[]⟩] := by kernel_rfl
theorem fI_126_0 : fI Go.Proofs.Try.prog 126 0 = some (0, false, 1) := by kernel_rfl
theorem fI_126_1 : fI Go.Proofs.Try.prog 126 1 = some (1, false, 1) := by kernel_rfl
theorem bI_126 : bI Go.Proofs.Try.prog 126 = some [(0, 1), (1, 1)] := by kernel_rfl
theorem tI_132 : tI Go.Proofs.Try.prog 132 = some (true, 5) := by kernel_rfl
theorem zI_132 : zI Go.Proofs.Try.prog 132 = some [.int .i64 0, .int .i64 0, .str ⟨#[]⟩, .fslice [], .fslice []] := by kernel_rfl
theorem fI_132_0 : fI Go.Proofs.Try.prog 132 0 = some (0, true, 4) := by kernel_rfl
theorem fI_132_1 : fI Go.Proofs.Try.prog 132 1 = some (4, false, 1) := by kernel_rfl
theorem bI_132 : bI Go.Proofs.Try.prog 132 = some [(0, 4), (4, 1)] := by kernel_rfl
theorem tI_135 : tI Go.Proofs.Try.prog 135 = some (true, 5) := by kernel_rfl
theorem zI_135 : zI Go.Proofs.Try.prog 135 = some [.int .i64 0, .int .i64 0, .str ⟨#[]⟩, .fslice [], .fslice []] := by kernel_rfl
theorem fI_135_0 : fI Go.Proofs.Try.prog 135 0 = some (0, true, 4) := by kernel_rfl
theorem fI_135_1 : fI Go.Proofs.Try.prog 135 1 = some (4, false, 1) := by kernel_rfl
theorem bI_135 : bI Go.Proofs.Try.prog 135 = some [(0, 4), (4, 1)] := by kernel_rfl
theorem tI_136 : tI Go.Proofs.Try.prog 136 = some (true, 5) := by kernel_rfl
theorem zI_136 : zI Go.Proofs.Try.prog 136 = some [.int .i64 0, .int .i64 0, .str ⟨#[]⟩, .fslice [], .fslice []] := by kernel_rfl
theorem fI_136_0 : fI Go.Proofs.Try.prog 136 0 = some (0, true, 4) := by kernel_rfl
theorem fI_136_1 : fI Go.Proofs.Try.prog 136 1 = some (4, false, 1) := by kernel_rfl
theorem bI_136 : bI Go.Proofs.Try.prog 136 = some [(0, 4), (4, 1)] := by kernel_rfl
theorem tI_140 : tI Go.Proofs.Try.prog 140 = some (false, 1) := by kernel_rfl
theorem zI_140 : zI Go.Proofs.Try.prog 140 = some [.nilptr] := by kernel_rfl
theorem tI_167 : tI Go.Proofs.Try.prog 167 = some (true, 2) := by kernel_rfl
theorem zI_167 : zI Go.Proofs.Try.prog 167 = some [.fslice [], .bool false] := by kernel_rfl
theorem fI_167_0 : fI Go.Proofs.Try.prog 167 0 = some (0, false, 1) := by kernel_rfl
theorem fI_167_1 : fI Go.Proofs.Try.prog 167 1 = some (1, false, 1) := by kernel_rfl
theorem bI_167 : bI Go.Proofs.Try.prog 167 = some [(0, 1), (1, 1)] := by kernel_rfl
theorem tI_168 : tI Go.Proofs.Try.prog 168 = some (false, 1) := by kernel_rfl
theorem zI_168 : zI Go.Proofs.Try.prog 168 = some [.fslice []] := by kernel_rfl
theorem eI_168 : eI Go.Proofs.Try.prog 168 = some (true, 2) := by kernel_rfl
theorem eB_168 : eB Go.Proofs.Try.prog 168 = some 24 := by kernel_rfl
theorem eZ_168 : eZ Go.Proofs.Try.prog 168 = some [.int .i64 0, .str ⟨#[]⟩] := by kernel_rfl
theorem tI_170 : tI Go.Proofs.Try.prog 170 = some (true, 6) := by kernel_rfl
theorem zI_170 : zI Go.Proofs.Try.prog 170 = some [.fslice [], .fslice [], .int .i64 0, .int .i64 0, .int .i64 0, .int .i64 0] := by kernel_rfl
theorem fI_170_0 : fI Go.Proofs.Try.prog 170 0 = some (0, false, 1) := by kernel_rfl
theorem fI_170_1 : fI Go.Proofs.Try.prog 170 1 = some (1, false, 1) := by kernel_rfl
theorem fI_170_2 : fI Go.Proofs.Try.prog 170 2 = some (2, false, 1) := by kernel_rfl
theorem fI_170_3 : fI Go.Proofs.Try.prog 170 3 = some (3, false, 1) := by kernel_rfl
theorem fI_170_4 : fI Go.Proofs.Try.prog 170 4 = some (4, false, 1) := by kernel_rfl
theorem fI_170_5 : fI Go.Proofs.Try.prog 170 5 = some (5, false, 1) := by kernel_rfl
theorem bI_170 : bI Go.Proofs.Try.prog 170 = some [(0, 1), (1, 1), (2, 1), (3, 1), (4, 1), (5, 1)] := by kernel_rfl
theorem tI_172 : tI Go.Proofs.Try.prog 172 = some (true, 13) := by kernel_rfl
theorem zI_172 : zI Go.Proofs.Try.prog 172 = some [.fslice [], .bool false, .fslice [], .fslice [], .bool false, .fslice [], .fslice [], .int .i64 0, .int .i64 0, .int .i64 0, .int .i64 0, .bool false, .fslice []] := by kernel_rfl
theorem fI_172_0 : fI Go.Proofs.Try.prog 172 0 = some (0, true, 2) := by kernel_rfl
theorem fI_172_1 : fI Go.Proofs.Try.prog 172 1 = some (2, false, 1) := by kernel_rfl
theorem fI_172_2 : fI Go.Proofs.Try.prog 172 2 = some (3, false, 1) := by kernel_rfl
theorem fI_172_3 : fI Go.Proofs.Try.prog 172 3 = some (4, false, 1) := by kernel_rfl
theorem fI_172_4 : fI Go.Proofs.Try.prog 172 4 = some (5, true, 6) := by kernel_rfl
theorem fI_172_5 : fI Go.Proofs.Try.prog 172 5 = some (11, false, 1) := by kernel_rfl
theorem fI_172_6 : fI Go.Proofs.Try.prog 172 6 = some (12, false, 1) := by kernel_rfl
theorem bI_172 : bI Go.Proofs.Try.prog 172 = some [(0, 2), (2, 1), (3, 1), (4, 1), (5, 6), (11, 1), (12, 1)] := by kernel_rfl
theorem tI_179 : tI Go.Proofs.Try.prog 179 = some (true, 2) := by kernel_rfl
theorem zI_179 : zI Go.Proofs.Try.prog 179 = some [.fslice [], .int .i64 0] := by kernel_rfl
theorem fI_179_0 : fI Go.Proofs.Try.prog 179 0 = some (0, false, 1) := by kernel_rfl
theorem fI_179_1 : fI Go.Proofs.Try.prog 179 1 = some (1, false, 1) := by kernel_rfl
theorem bI_179 : bI Go.Proofs.Try.prog 179 = some [(0, 1), (1, 1)] := by kernel_rfl
theorem tI_180 : tI Go.Proofs.Try.prog 180 = some (true, 2) := by kernel_rfl
theorem zI_180 : zI Go.Proofs.Try.prog 180 = some [.fslice [], .int .i64 0] := by kernel_rfl
theorem fI_180_0 : fI Go.Proofs.Try.prog 180 0 = some (0, false, 1) := by kernel_rfl
theorem fI_180_1 : fI Go.Proofs.Try.prog 180 1 = some (1, false, 1) := by kernel_rfl
theorem bI_180 : bI Go.Proofs.Try.prog 180 = some [(0, 1), (1, 1)] := by kernel_rfl
theorem tI_182 : tI Go.Proofs.Try.prog 182 = some (false, 1) := by kernel_rfl
theorem zI_182 : zI Go.Proofs.Try.prog 182 = some [.fslice []] := by kernel_rfl
theorem eI_182 : eI Go.Proofs.Try.prog 182 = some (false, 1) := by kernel_rfl
theorem eB_182 : eB Go.Proofs.Try.prog 182 = some 16 := by kernel_rfl
theorem eZ_182 : eZ Go.Proofs.Try.prog 182 = some [.str ⟨#[]⟩] := by kernel_rfl
theorem tI_211 : tI Go.Proofs.Try.prog 211 = some (true, 2) := by kernel_rfl
theorem zI_211 : zI Go.Proofs.Try.prog 211 = some [.int .i64 0, .str ⟨#[]⟩] := by kernel_rfl
theorem fI_211_0 : fI Go.Proofs.Try.prog 211 0 = some (0, false, 1) := by kernel_rfl
theorem fI_211_1 : fI Go.Proofs.Try.prog 211 1 = some (1, false, 1) := by kernel_rfl
theorem bI_211 : bI Go.Proofs.Try.prog 211 = some [(0, 1), (1, 1)] := by kernel_rfl
theorem tI_220 : tI Go.Proofs.Try.prog 220 = some (true, 4) := by kernel_rfl
theorem zI_220 : zI Go.Proofs.Try.prog 220 = some [.nilptr, .nilptr, .nilptr, .str ⟨#[]⟩] := by kernel_rfl
theorem fI_220_0 : fI Go.Proofs.Try.prog 220 0 = some (0, false, 1) := by kernel_rfl
theorem fI_220_1 : fI Go.Proofs.Try.prog 220 1 = some (1, false, 1) := by kernel_rfl
theorem fI_220_2 : fI Go.Proofs.Try.prog 220 2 = some (2, false, 1) := by kernel_rfl
theorem fI_220_3 : fI Go.Proofs.Try.prog 220 3 = some (3, false, 1) := by kernel_rfl
theorem bI_220 : bI Go.Proofs.Try.prog 220 = some [(0, 1), (1, 1), (2, 1), (3, 1)] := by kernel_rfl
theorem tI_223 : tI Go.Proofs.Try.prog 223 = some (true, 0) := by kernel_rfl
theorem zI_223 : zI Go.Proofs.Try.prog 223 = some [] := by kernel_rfl
theorem bI_223 : bI Go.Proofs.Try.prog 223 = some [(0, 0)] := by kernel_rfl
theorem tI_230 : tI Go.Proofs.Try.prog 230 = some (false, 1) := by kernel_rfl
theorem zI_230 : zI Go.Proofs.Try.prog 230 = some [.int .i32 0] := by kernel_rfl
theorem tI_233 : tI Go.Proofs.Try.prog 233 = some (true, 11) := by kernel_rfl
theorem zI_233 : zI Go.Proofs.Try.prog 233 = some [.int .u64 0, .int .u64 0, .int .u32 0, .int .u8 0, .int .u8 0, .int .u8 0, .int .u8 0, .raw .nilFunc, .nilptr, .int .i32 0, .int .i32 0] := by kernel_rfl
theorem fI_233_0 : fI Go.Proofs.Try.prog 233 0 = some (0, false, 1) := by kernel_rfl
theorem fI_233_1 : fI Go.Proofs.Try.prog 233 1 = some (1, false, 1) := by kernel_rfl
theorem fI_233_2 : fI Go.Proofs.Try.prog 233 2 = some (2, false, 1) := by kernel_rfl
theorem fI_233_3 : fI Go.Proofs.Try.prog 233 3 = some (3, false, 1) := by kernel_rfl
theorem fI_233_4 : fI Go.Proofs.Try.prog 233 4 = some (4, false, 1) := by kernel_rfl
theorem fI_233_5 : fI Go.Proofs.Try.prog 233 5 = some (5, false, 1) := by kernel_rfl
theorem fI_233_6 : fI Go.Proofs.Try.prog 233 6 = some (6, false, 1) := by kernel_rfl
theorem fI_233_7 : fI Go.Proofs.Try.prog 233 7 = some (7, false, 1) := by kernel_rfl
theorem fI_233_8 : fI Go.Proofs.Try.prog 233 8 = some (8, false, 1) := by kernel_rfl
theorem fI_233_9 : fI Go.Proofs.Try.prog 233 9 = some (9, false, 1) := by kernel_rfl
theorem fI_233_10 : fI Go.Proofs.Try.prog 233 10 = some (10, false, 1) := by kernel_rfl
theorem bI_233 : bI Go.Proofs.Try.prog 233 = some [(0, 1), (1, 1), (2, 1), (3, 1), (4, 1), (5, 1), (6, 1), (7, 1), (8, 1), (9, 1), (10, 1)] := by kernel_rfl
theorem mixed : Go.Proofs.Try.prog.follows .mixedOrders = true := by kernel_rfl
end Go.AW
