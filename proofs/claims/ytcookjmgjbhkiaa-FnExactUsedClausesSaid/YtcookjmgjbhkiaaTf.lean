/- Closed facts on the types of the program. -/
import Derived.Test.YtcookjmgjbhkiaaProg
import Derived.Test.YtcookjmgjbhkiaaEv
import Derived.KernelRfl
namespace Go.AW
theorem tI_2 : tI Go.Proofs.Try.prog 2 = some (false, 1) := by kernel_rfl
theorem zI_2 : zI Go.Proofs.Try.prog 2 = some [.int .i64 0] := by kernel_rfl
theorem zV_2 : zV Go.Proofs.Try.prog 2 = some (.int .i64 0) := by kernel_rfl
theorem tI_3 : tI Go.Proofs.Try.prog 3 = some (false, 1) := by kernel_rfl
theorem zI_3 : zI Go.Proofs.Try.prog 3 = some [.int .i64 0] := by kernel_rfl
theorem zV_3 : zV Go.Proofs.Try.prog 3 = some (.int .i64 0) := by kernel_rfl
theorem tI_4 : tI Go.Proofs.Try.prog 4 = some (false, 1) := by kernel_rfl
theorem zI_4 : zI Go.Proofs.Try.prog 4 = some [.bool false] := by kernel_rfl
theorem zV_4 : zV Go.Proofs.Try.prog 4 = some (.bool false) := by kernel_rfl
theorem tI_5 : tI Go.Proofs.Try.prog 5 = some (false, 1) := by kernel_rfl
theorem zI_5 : zI Go.Proofs.Try.prog 5 = some [.int .u8 0] := by kernel_rfl
theorem zV_5 : zV Go.Proofs.Try.prog 5 = some (.int .u8 0) := by kernel_rfl
theorem tI_6 : tI Go.Proofs.Try.prog 6 = some (false, 1) := by kernel_rfl
theorem zI_6 : zI Go.Proofs.Try.prog 6 = some [.int .u8 0] := by kernel_rfl
theorem zV_6 : zV Go.Proofs.Try.prog 6 = some (.int .u8 0) := by kernel_rfl
theorem tI_7 : tI Go.Proofs.Try.prog 7 = some (true, 4) := by kernel_rfl
theorem zI_7 : zI Go.Proofs.Try.prog 7 = some [.int .i64 0, .int .i64 0, .bool false, .int .u8 0] := by kernel_rfl
theorem zV_7 : zV Go.Proofs.Try.prog 7 = some (.agg [.int .i64 0, .int .i64 0, .bool false, .int .u8 0]) := by kernel_rfl
theorem fI_7_0 : fI Go.Proofs.Try.prog 7 0 = some (0, false, 1) := by kernel_rfl
theorem fI_7_1 : fI Go.Proofs.Try.prog 7 1 = some (1, false, 1) := by kernel_rfl
theorem fI_7_2 : fI Go.Proofs.Try.prog 7 2 = some (2, false, 1) := by kernel_rfl
theorem fI_7_3 : fI Go.Proofs.Try.prog 7 3 = some (3, false, 1) := by kernel_rfl
theorem bI_7 : bI Go.Proofs.Try.prog 7 = some [(0, 1), (1, 1), (2, 1), (3, 1)] := by kernel_rfl
theorem tI_8 : tI Go.Proofs.Try.prog 8 = some (true, 4) := by kernel_rfl
theorem zI_8 : zI Go.Proofs.Try.prog 8 = some [.int .i64 0, .int .i64 0, .bool false, .int .u8 0] := by kernel_rfl
theorem zV_8 : zV Go.Proofs.Try.prog 8 = some (.agg [.int .i64 0, .int .i64 0, .bool false, .int .u8 0]) := by kernel_rfl
theorem fI_8_0 : fI Go.Proofs.Try.prog 8 0 = some (0, false, 1) := by kernel_rfl
theorem fI_8_1 : fI Go.Proofs.Try.prog 8 1 = some (1, false, 1) := by kernel_rfl
theorem fI_8_2 : fI Go.Proofs.Try.prog 8 2 = some (2, false, 1) := by kernel_rfl
theorem fI_8_3 : fI Go.Proofs.Try.prog 8 3 = some (3, false, 1) := by kernel_rfl
theorem bI_8 : bI Go.Proofs.Try.prog 8 = some [(0, 1), (1, 1), (2, 1), (3, 1)] := by kernel_rfl
theorem tI_9 : tI Go.Proofs.Try.prog 9 = some (false, 1) := by kernel_rfl
theorem zI_9 : zI Go.Proofs.Try.prog 9 = some [.str ⟨#[]⟩] := by kernel_rfl
theorem zV_9 : zV Go.Proofs.Try.prog 9 = some (.str ⟨#[]⟩) := by kernel_rfl
theorem tI_10 : tI Go.Proofs.Try.prog 10 = some (false, 1) := by kernel_rfl
theorem zI_10 : zI Go.Proofs.Try.prog 10 = some [.str ⟨#[]⟩] := by kernel_rfl
theorem zV_10 : zV Go.Proofs.Try.prog 10 = some (.str ⟨#[]⟩) := by kernel_rfl
theorem tI_11 : tI Go.Proofs.Try.prog 11 = some (false, 1) := by kernel_rfl
theorem zI_11 : zI Go.Proofs.Try.prog 11 = some [.str ⟨#[]⟩] := by kernel_rfl
theorem zV_11 : zV Go.Proofs.Try.prog 11 = some (.str ⟨#[]⟩) := by kernel_rfl
theorem tI_12 : tI Go.Proofs.Try.prog 12 = some (false, 1) := by kernel_rfl
theorem zI_12 : zI Go.Proofs.Try.prog 12 = some [.int .u64 0] := by kernel_rfl
theorem zV_12 : zV Go.Proofs.Try.prog 12 = some (.int .u64 0) := by kernel_rfl
theorem tI_13 : tI Go.Proofs.Try.prog 13 = some (true, 2) := by kernel_rfl
theorem zI_13 : zI Go.Proofs.Try.prog 13 = some [.str ⟨#[]⟩, .int .u64 0] := by kernel_rfl
theorem zV_13 : zV Go.Proofs.Try.prog 13 = some (.agg [.str ⟨#[]⟩, .int .u64 0]) := by kernel_rfl
theorem fI_13_0 : fI Go.Proofs.Try.prog 13 0 = some (0, false, 1) := by kernel_rfl
theorem fI_13_1 : fI Go.Proofs.Try.prog 13 1 = some (1, false, 1) := by kernel_rfl
theorem bI_13 : bI Go.Proofs.Try.prog 13 = some [(0, 1), (1, 1)] := by kernel_rfl
theorem tI_14 : tI Go.Proofs.Try.prog 14 = some (true, 2) := by kernel_rfl
theorem zI_14 : zI Go.Proofs.Try.prog 14 = some [.str ⟨#[]⟩, .int .u64 0] := by kernel_rfl
theorem zV_14 : zV Go.Proofs.Try.prog 14 = some (.agg [.str ⟨#[]⟩, .int .u64 0]) := by kernel_rfl
theorem fI_14_0 : fI Go.Proofs.Try.prog 14 0 = some (0, false, 1) := by kernel_rfl
theorem fI_14_1 : fI Go.Proofs.Try.prog 14 1 = some (1, false, 1) := by kernel_rfl
theorem bI_14 : bI Go.Proofs.Try.prog 14 = some [(0, 1), (1, 1)] := by kernel_rfl
theorem tI_15 : tI Go.Proofs.Try.prog 15 = some (false, 1) := by kernel_rfl
theorem zI_15 : zI Go.Proofs.Try.prog 15 = some [.nilptr] := by kernel_rfl
theorem zV_15 : zV Go.Proofs.Try.prog 15 = some (.nilptr) := by kernel_rfl
theorem tI_16 : tI Go.Proofs.Try.prog 16 = some (false, 1) := by kernel_rfl
theorem zI_16 : zI Go.Proofs.Try.prog 16 = some [.nilptr] := by kernel_rfl
theorem zV_16 : zV Go.Proofs.Try.prog 16 = some (.nilptr) := by kernel_rfl
theorem tI_17 : tI Go.Proofs.Try.prog 17 = some (false, 1) := by kernel_rfl
theorem zI_17 : zI Go.Proofs.Try.prog 17 = some [.nilptr] := by kernel_rfl
theorem zV_17 : zV Go.Proofs.Try.prog 17 = some (.nilptr) := by kernel_rfl
theorem tI_18 : tI Go.Proofs.Try.prog 18 = some (true, 1) := by kernel_rfl
theorem zI_18 : zI Go.Proofs.Try.prog 18 = some [.nilptr] := by kernel_rfl
theorem zV_18 : zV Go.Proofs.Try.prog 18 = some (.agg [.nilptr]) := by kernel_rfl
theorem fI_18_0 : fI Go.Proofs.Try.prog 18 0 = some (0, false, 1) := by kernel_rfl
theorem bI_18 : bI Go.Proofs.Try.prog 18 = some [(0, 1)] := by kernel_rfl
theorem tI_19 : tI Go.Proofs.Try.prog 19 = some (true, 1) := by kernel_rfl
theorem zI_19 : zI Go.Proofs.Try.prog 19 = some [.nilptr] := by kernel_rfl
theorem zV_19 : zV Go.Proofs.Try.prog 19 = some (.agg [.nilptr]) := by kernel_rfl
theorem fI_19_0 : fI Go.Proofs.Try.prog 19 0 = some (0, false, 1) := by kernel_rfl
theorem bI_19 : bI Go.Proofs.Try.prog 19 = some [(0, 1)] := by kernel_rfl
theorem tI_21 : tI Go.Proofs.Try.prog 21 = some (false, 1) := by kernel_rfl
theorem zI_21 : zI Go.Proofs.Try.prog 21 = some [.int .i32 0] := by kernel_rfl
theorem zV_21 : zV Go.Proofs.Try.prog 21 = some (.int .i32 0) := by kernel_rfl
theorem tI_22 : tI Go.Proofs.Try.prog 22 = some (false, 1) := by kernel_rfl
theorem zI_22 : zI Go.Proofs.Try.prog 22 = some [.fslice []] := by kernel_rfl
theorem zV_22 : zV Go.Proofs.Try.prog 22 = some (.fslice []) := by kernel_rfl
theorem eI_22 : eI Go.Proofs.Try.prog 22 = some (true, 4) := by kernel_rfl
theorem eB_22 : eB Go.Proofs.Try.prog 22 = some 56 := by kernel_rfl
theorem eZ_22 : eZ Go.Proofs.Try.prog 22 = some [.int .i64 0, .int .i64 0, .str ⟨#[]⟩, .fslice []] := by kernel_rfl
theorem tI_23 : tI Go.Proofs.Try.prog 23 = some (true, 4) := by kernel_rfl
theorem zI_23 : zI Go.Proofs.Try.prog 23 = some [.int .i64 0, .int .i64 0, .str ⟨#[]⟩, .fslice []] := by kernel_rfl
theorem zV_23 : zV Go.Proofs.Try.prog 23 = some (.agg [.int .i64 0, .int .i64 0, .str ⟨#[]⟩, .fslice []]) := by kernel_rfl
theorem fI_23_0 : fI Go.Proofs.Try.prog 23 0 = some (0, false, 1) := by kernel_rfl
theorem fI_23_1 : fI Go.Proofs.Try.prog 23 1 = some (1, false, 1) := by kernel_rfl
theorem fI_23_2 : fI Go.Proofs.Try.prog 23 2 = some (2, false, 1) := by kernel_rfl
theorem fI_23_3 : fI Go.Proofs.Try.prog 23 3 = some (3, false, 1) := by kernel_rfl
theorem bI_23 : bI Go.Proofs.Try.prog 23 = some [(0, 1), (1, 1), (2, 1), (3, 1)] := by kernel_rfl
theorem tI_24 : tI Go.Proofs.Try.prog 24 = some (true, 4) := by kernel_rfl
theorem zI_24 : zI Go.Proofs.Try.prog 24 = some [.int .i64 0, .int .i64 0, .str ⟨#[]⟩, .fslice []] := by kernel_rfl
theorem zV_24 : zV Go.Proofs.Try.prog 24 = some (.agg [.int .i64 0, .int .i64 0, .str ⟨#[]⟩, .fslice []]) := by kernel_rfl
theorem fI_24_0 : fI Go.Proofs.Try.prog 24 0 = some (0, false, 1) := by kernel_rfl
theorem fI_24_1 : fI Go.Proofs.Try.prog 24 1 = some (1, false, 1) := by kernel_rfl
theorem fI_24_2 : fI Go.Proofs.Try.prog 24 2 = some (2, false, 1) := by kernel_rfl
theorem fI_24_3 : fI Go.Proofs.Try.prog 24 3 = some (3, false, 1) := by kernel_rfl
theorem bI_24 : bI Go.Proofs.Try.prog 24 = some [(0, 1), (1, 1), (2, 1), (3, 1)] := by kernel_rfl
theorem tI_25 : tI Go.Proofs.Try.prog 25 = some (false, 1) := by kernel_rfl
theorem zI_25 : zI Go.Proofs.Try.prog 25 = some [.fslice []] := by kernel_rfl
theorem zV_25 : zV Go.Proofs.Try.prog 25 = some (.fslice []) := by kernel_rfl
theorem eI_25 : eI Go.Proofs.Try.prog 25 = some (true, 6) := by kernel_rfl
theorem eB_25 : eB Go.Proofs.Try.prog 25 = some 88 := by kernel_rfl
theorem eZ_25 : eZ Go.Proofs.Try.prog 25 = some [.int .i64 0, .int .i64 0, .str ⟨#[]⟩, .fslice [], .int .i64 0, .fslice []] := by kernel_rfl
theorem tI_26 : tI Go.Proofs.Try.prog 26 = some (true, 6) := by kernel_rfl
theorem zI_26 : zI Go.Proofs.Try.prog 26 = some [.int .i64 0, .int .i64 0, .str ⟨#[]⟩, .fslice [], .int .i64 0, .fslice []] := by kernel_rfl
theorem zV_26 : zV Go.Proofs.Try.prog 26 = some (.agg [.int .i64 0, .int .i64 0, .str ⟨#[]⟩, .fslice [], .int .i64 0, .fslice []]) := by kernel_rfl
theorem fI_26_0 : fI Go.Proofs.Try.prog 26 0 = some (0, true, 4) := by kernel_rfl
theorem fI_26_1 : fI Go.Proofs.Try.prog 26 1 = some (4, false, 1) := by kernel_rfl
theorem fI_26_2 : fI Go.Proofs.Try.prog 26 2 = some (5, false, 1) := by kernel_rfl
theorem bI_26 : bI Go.Proofs.Try.prog 26 = some [(0, 4), (4, 1), (5, 1)] := by kernel_rfl
theorem tI_27 : tI Go.Proofs.Try.prog 27 = some (true, 6) := by kernel_rfl
theorem zI_27 : zI Go.Proofs.Try.prog 27 = some [.int .i64 0, .int .i64 0, .str ⟨#[]⟩, .fslice [], .int .i64 0, .fslice []] := by kernel_rfl
theorem zV_27 : zV Go.Proofs.Try.prog 27 = some (.agg [.int .i64 0, .int .i64 0, .str ⟨#[]⟩, .fslice [], .int .i64 0, .fslice []]) := by kernel_rfl
theorem fI_27_0 : fI Go.Proofs.Try.prog 27 0 = some (0, true, 4) := by kernel_rfl
theorem fI_27_1 : fI Go.Proofs.Try.prog 27 1 = some (4, false, 1) := by kernel_rfl
theorem fI_27_2 : fI Go.Proofs.Try.prog 27 2 = some (5, false, 1) := by kernel_rfl
theorem bI_27 : bI Go.Proofs.Try.prog 27 = some [(0, 4), (4, 1), (5, 1)] := by kernel_rfl
theorem tI_30 : tI Go.Proofs.Try.prog 30 = some (false, 1) := by kernel_rfl
theorem zI_30 : zI Go.Proofs.Try.prog 30 = some [.fslice []] := by kernel_rfl
theorem zV_30 : zV Go.Proofs.Try.prog 30 = some (.fslice []) := by kernel_rfl
theorem eI_30 : eI Go.Proofs.Try.prog 30 = some (true, 4) := by kernel_rfl
theorem eB_30 : eB Go.Proofs.Try.prog 30 = some 56 := by kernel_rfl
theorem eZ_30 : eZ Go.Proofs.Try.prog 30 = some [.int .i64 0, .int .i64 0, .str ⟨#[]⟩, .fslice []] := by kernel_rfl
theorem tI_31 : tI Go.Proofs.Try.prog 31 = some (true, 4) := by kernel_rfl
theorem zI_31 : zI Go.Proofs.Try.prog 31 = some [.int .i64 0, .int .i64 0, .str ⟨#[]⟩, .fslice []] := by kernel_rfl
theorem zV_31 : zV Go.Proofs.Try.prog 31 = some (.agg [.int .i64 0, .int .i64 0, .str ⟨#[]⟩, .fslice []]) := by kernel_rfl
theorem fI_31_0 : fI Go.Proofs.Try.prog 31 0 = some (0, false, 1) := by kernel_rfl
theorem fI_31_1 : fI Go.Proofs.Try.prog 31 1 = some (1, false, 1) := by kernel_rfl
theorem fI_31_2 : fI Go.Proofs.Try.prog 31 2 = some (2, false, 1) := by kernel_rfl
theorem fI_31_3 : fI Go.Proofs.Try.prog 31 3 = some (3, false, 1) := by kernel_rfl
theorem bI_31 : bI Go.Proofs.Try.prog 31 = some [(0, 1), (1, 1), (2, 1), (3, 1)] := by kernel_rfl
theorem tI_32 : tI Go.Proofs.Try.prog 32 = some (true, 4) := by kernel_rfl
theorem zI_32 : zI Go.Proofs.Try.prog 32 = some [.int .i64 0, .int .i64 0, .str ⟨#[]⟩, .fslice []] := by kernel_rfl
theorem zV_32 : zV Go.Proofs.Try.prog 32 = some (.agg [.int .i64 0, .int .i64 0, .str ⟨#[]⟩, .fslice []]) := by kernel_rfl
theorem fI_32_0 : fI Go.Proofs.Try.prog 32 0 = some (0, false, 1) := by kernel_rfl
theorem fI_32_1 : fI Go.Proofs.Try.prog 32 1 = some (1, false, 1) := by kernel_rfl
theorem fI_32_2 : fI Go.Proofs.Try.prog 32 2 = some (2, false, 1) := by kernel_rfl
theorem fI_32_3 : fI Go.Proofs.Try.prog 32 3 = some (3, false, 1) := by kernel_rfl
theorem bI_32 : bI Go.Proofs.Try.prog 32 = some [(0, 1), (1, 1), (2, 1), (3, 1)] := by kernel_rfl
theorem tI_33 : tI Go.Proofs.Try.prog 33 = some (false, 1) := by kernel_rfl
theorem zI_33 : zI Go.Proofs.Try.prog 33 = some [.fslice []] := by kernel_rfl
theorem zV_33 : zV Go.Proofs.Try.prog 33 = some (.fslice []) := by kernel_rfl
theorem eI_33 : eI Go.Proofs.Try.prog 33 = some (true, 6) := by kernel_rfl
theorem eB_33 : eB Go.Proofs.Try.prog 33 = some 88 := by kernel_rfl
theorem eZ_33 : eZ Go.Proofs.Try.prog 33 = some [.int .i64 0, .int .i64 0, .str ⟨#[]⟩, .fslice [], .int .i64 0, .fslice []] := by kernel_rfl
theorem tI_34 : tI Go.Proofs.Try.prog 34 = some (true, 6) := by kernel_rfl
theorem zI_34 : zI Go.Proofs.Try.prog 34 = some [.int .i64 0, .int .i64 0, .str ⟨#[]⟩, .fslice [], .int .i64 0, .fslice []] := by kernel_rfl
theorem zV_34 : zV Go.Proofs.Try.prog 34 = some (.agg [.int .i64 0, .int .i64 0, .str ⟨#[]⟩, .fslice [], .int .i64 0, .fslice []]) := by kernel_rfl
theorem fI_34_0 : fI Go.Proofs.Try.prog 34 0 = some (0, true, 4) := by kernel_rfl
theorem fI_34_1 : fI Go.Proofs.Try.prog 34 1 = some (4, false, 1) := by kernel_rfl
theorem fI_34_2 : fI Go.Proofs.Try.prog 34 2 = some (5, false, 1) := by kernel_rfl
theorem bI_34 : bI Go.Proofs.Try.prog 34 = some [(0, 4), (4, 1), (5, 1)] := by kernel_rfl
theorem tI_35 : tI Go.Proofs.Try.prog 35 = some (true, 6) := by kernel_rfl
theorem zI_35 : zI Go.Proofs.Try.prog 35 = some [.int .i64 0, .int .i64 0, .str ⟨#[]⟩, .fslice [], .int .i64 0, .fslice []] := by kernel_rfl
theorem zV_35 : zV Go.Proofs.Try.prog 35 = some (.agg [.int .i64 0, .int .i64 0, .str ⟨#[]⟩, .fslice [], .int .i64 0, .fslice []]) := by kernel_rfl
theorem fI_35_0 : fI Go.Proofs.Try.prog 35 0 = some (0, true, 4) := by kernel_rfl
theorem fI_35_1 : fI Go.Proofs.Try.prog 35 1 = some (4, false, 1) := by kernel_rfl
theorem fI_35_2 : fI Go.Proofs.Try.prog 35 2 = some (5, false, 1) := by kernel_rfl
theorem bI_35 : bI Go.Proofs.Try.prog 35 = some [(0, 4), (4, 1), (5, 1)] := by kernel_rfl
theorem tI_41 : tI Go.Proofs.Try.prog 41 = some (false, 1) := by kernel_rfl
theorem zI_41 : zI Go.Proofs.Try.prog 41 = some [.fslice []] := by kernel_rfl
theorem zV_41 : zV Go.Proofs.Try.prog 41 = some (.fslice []) := by kernel_rfl
theorem eI_41 : eI Go.Proofs.Try.prog 41 = some (false, 1) := by kernel_rfl
theorem eB_41 : eB Go.Proofs.Try.prog 41 = some 8 := by kernel_rfl
theorem eZ_41 : eZ Go.Proofs.Try.prog 41 = some [.int .i64 0] := by kernel_rfl
theorem tI_46 : tI Go.Proofs.Try.prog 46 = some (true, 1) := by kernel_rfl
theorem zI_46 : zI Go.Proofs.Try.prog 46 = some [.fslice []] := by kernel_rfl
theorem zV_46 : zV Go.Proofs.Try.prog 46 = some (.agg [.fslice []]) := by kernel_rfl
theorem fI_46_0 : fI Go.Proofs.Try.prog 46 0 = some (0, false, 1) := by kernel_rfl
theorem bI_46 : bI Go.Proofs.Try.prog 46 = some [(0, 1)] := by kernel_rfl
theorem tI_47 : tI Go.Proofs.Try.prog 47 = some (true, 1) := by kernel_rfl
theorem zI_47 : zI Go.Proofs.Try.prog 47 = some [.fslice []] := by kernel_rfl
theorem zV_47 : zV Go.Proofs.Try.prog 47 = some (.agg [.fslice []]) := by kernel_rfl
theorem fI_47_0 : fI Go.Proofs.Try.prog 47 0 = some (0, false, 1) := by kernel_rfl
theorem bI_47 : bI Go.Proofs.Try.prog 47 = some [(0, 1)] := by kernel_rfl
theorem tI_53 : tI Go.Proofs.Try.prog 53 = some (true, 1) := by kernel_rfl
theorem zI_53 : zI Go.Proofs.Try.prog 53 = some [.fslice []] := by kernel_rfl
theorem zV_53 : zV Go.Proofs.Try.prog 53 = some (.agg [.fslice []]) := by kernel_rfl
theorem fI_53_0 : fI Go.Proofs.Try.prog 53 0 = some (0, false, 1) := by kernel_rfl
theorem bI_53 : bI Go.Proofs.Try.prog 53 = some [(0, 1)] := by kernel_rfl
theorem tI_54 : tI Go.Proofs.Try.prog 54 = some (true, 1) := by kernel_rfl
theorem zI_54 : zI Go.Proofs.Try.prog 54 = some [.fslice []] := by kernel_rfl
theorem zV_54 : zV Go.Proofs.Try.prog 54 = some (.agg [.fslice []]) := by kernel_rfl
theorem fI_54_0 : fI Go.Proofs.Try.prog 54 0 = some (0, false, 1) := by kernel_rfl
theorem bI_54 : bI Go.Proofs.Try.prog 54 = some [(0, 1)] := by kernel_rfl
theorem tI_70 : tI Go.Proofs.Try.prog 70 = some (false, 1) := by kernel_rfl
theorem zI_70 : zI Go.Proofs.Try.prog 70 = some [.nilptr] := by kernel_rfl
theorem zV_70 : zV Go.Proofs.Try.prog 70 = some (.nilptr) := by kernel_rfl
theorem tI_71 : tI Go.Proofs.Try.prog 71 = some (false, 1) := by kernel_rfl
theorem zI_71 : zI Go.Proofs.Try.prog 71 = some [.fslice []] := by kernel_rfl
theorem zV_71 : zV Go.Proofs.Try.prog 71 = some (.fslice []) := by kernel_rfl
theorem eI_71 : eI Go.Proofs.Try.prog 71 = some (false, 1) := by kernel_rfl
theorem eB_71 : eB Go.Proofs.Try.prog 71 = some 1 := by kernel_rfl
theorem eZ_71 : eZ Go.Proofs.Try.prog 71 = some [.bool false] := by kernel_rfl
theorem tI_73 : tI Go.Proofs.Try.prog 73 = some (true, 20) := by kernel_rfl
theorem zI_73 : zI Go.Proofs.Try.prog 73 = some [.bool false, .bool false, .bool false, .bool false, .bool false, .bool false, .bool false, .bool false, .bool false, .bool false, .bool false, .bool false, .bool false, .bool false, .bool false, .bool false, .bool false, .bool false, .bool false, .bool false] := by kernel_rfl
theorem zV_73 : zV Go.Proofs.Try.prog 73 = some (.agg [.bool false, .bool false, .bool false, .bool false, .bool false, .bool false, .bool false, .bool false, .bool false, .bool false, .bool false, .bool false, .bool false, .bool false, .bool false, .bool false, .bool false, .bool false, .bool false, .bool false]) := by kernel_rfl
theorem aI_73 : aI Go.Proofs.Try.prog 73 = some (20, false, 1) := by kernel_rfl
theorem tI_75 : tI Go.Proofs.Try.prog 75 = some (false, 1) := by kernel_rfl
theorem zI_75 : zI Go.Proofs.Try.prog 75 = some [.nilptr] := by kernel_rfl
theorem zV_75 : zV Go.Proofs.Try.prog 75 = some (.nilptr) := by kernel_rfl
theorem tI_80 : tI Go.Proofs.Try.prog 80 = some (false, 1) := by kernel_rfl
theorem zI_80 : zI Go.Proofs.Try.prog 80 = some [.fslice []] := by kernel_rfl
theorem zV_80 : zV Go.Proofs.Try.prog 80 = some (.fslice []) := by kernel_rfl
theorem eI_80 : eI Go.Proofs.Try.prog 80 = some (true, 5) := by kernel_rfl
theorem eB_80 : eB Go.Proofs.Try.prog 80 = some 64 := by kernel_rfl
theorem eZ_80 : eZ Go.Proofs.Try.prog 80 = some [.int .i64 0, .int .i64 0, .int .i64 0, .str ⟨#[]⟩, .fslice []] := by kernel_rfl
theorem tI_81 : tI Go.Proofs.Try.prog 81 = some (true, 5) := by kernel_rfl
theorem zI_81 : zI Go.Proofs.Try.prog 81 = some [.int .i64 0, .int .i64 0, .int .i64 0, .str ⟨#[]⟩, .fslice []] := by kernel_rfl
theorem zV_81 : zV Go.Proofs.Try.prog 81 = some (.agg [.int .i64 0, .int .i64 0, .int .i64 0, .str ⟨#[]⟩, .fslice []]) := by kernel_rfl
theorem fI_81_0 : fI Go.Proofs.Try.prog 81 0 = some (0, false, 1) := by kernel_rfl
theorem fI_81_1 : fI Go.Proofs.Try.prog 81 1 = some (1, true, 4) := by kernel_rfl
theorem bI_81 : bI Go.Proofs.Try.prog 81 = some [(0, 1), (1, 4)] := by kernel_rfl
theorem tI_82 : tI Go.Proofs.Try.prog 82 = some (true, 5) := by kernel_rfl
theorem zI_82 : zI Go.Proofs.Try.prog 82 = some [.int .i64 0, .int .i64 0, .int .i64 0, .str ⟨#[]⟩, .fslice []] := by kernel_rfl
theorem zV_82 : zV Go.Proofs.Try.prog 82 = some (.agg [.int .i64 0, .int .i64 0, .int .i64 0, .str ⟨#[]⟩, .fslice []]) := by kernel_rfl
theorem fI_82_0 : fI Go.Proofs.Try.prog 82 0 = some (0, false, 1) := by kernel_rfl
theorem fI_82_1 : fI Go.Proofs.Try.prog 82 1 = some (1, true, 4) := by kernel_rfl
theorem bI_82 : bI Go.Proofs.Try.prog 82 = some [(0, 1), (1, 4)] := by kernel_rfl
theorem tI_97 : tI Go.Proofs.Try.prog 97 = some (false, 1) := by kernel_rfl
theorem zI_97 : zI Go.Proofs.Try.prog 97 = some [.fslice []] := by kernel_rfl
theorem zV_97 : zV Go.Proofs.Try.prog 97 = some (.fslice []) := by kernel_rfl
theorem eI_97 : eI Go.Proofs.Try.prog 97 = some (false, 1) := by kernel_rfl
theorem eB_97 : eB Go.Proofs.Try.prog 97 = some 1 := by kernel_rfl
theorem eZ_97 : eZ Go.Proofs.Try.prog 97 = some [.int .u8 0] := by kernel_rfl
theorem tI_111 : tI Go.Proofs.Try.prog 111 = some (false, 1) := by kernel_rfl
theorem zI_111 : zI Go.Proofs.Try.prog 111 = some [.fslice []] := by kernel_rfl
theorem zV_111 : zV Go.Proofs.Try.prog 111 = some (.fslice []) := by kernel_rfl
theorem eI_111 : eI Go.Proofs.Try.prog 111 = some (false, 1) := by kernel_rfl
theorem eB_111 : eB Go.Proofs.Try.prog 111 = some 16 := by kernel_rfl
theorem eZ_111 : eZ Go.Proofs.Try.prog 111 = some [.str ⟨#[]⟩] := by kernel_rfl
theorem tI_115 : tI Go.Proofs.Try.prog 115 = some (true, 4) := by kernel_rfl
theorem zI_115 : zI Go.Proofs.Try.prog 115 = some [.nilptr, .nilptr, .nilptr, .str ⟨#[]⟩] := by kernel_rfl
theorem zV_115 : zV Go.Proofs.Try.prog 115 = some (.agg [.nilptr, .nilptr, .nilptr, .str ⟨#[]⟩]) := by kernel_rfl
theorem fI_115_0 : fI Go.Proofs.Try.prog 115 0 = some (0, false, 1) := by kernel_rfl
theorem fI_115_1 : fI Go.Proofs.Try.prog 115 1 = some (1, false, 1) := by kernel_rfl
theorem fI_115_2 : fI Go.Proofs.Try.prog 115 2 = some (2, false, 1) := by kernel_rfl
theorem fI_115_3 : fI Go.Proofs.Try.prog 115 3 = some (3, false, 1) := by kernel_rfl
theorem bI_115 : bI Go.Proofs.Try.prog 115 = some [(0, 1), (1, 1), (2, 1), (3, 1)] := by kernel_rfl
theorem tI_116 : tI Go.Proofs.Try.prog 116 = some (true, 4) := by kernel_rfl
theorem zI_116 : zI Go.Proofs.Try.prog 116 = some [.nilptr, .nilptr, .nilptr, .str ⟨#[]⟩] := by kernel_rfl
theorem zV_116 : zV Go.Proofs.Try.prog 116 = some (.agg [.nilptr, .nilptr, .nilptr, .str ⟨#[]⟩]) := by kernel_rfl
theorem fI_116_0 : fI Go.Proofs.Try.prog 116 0 = some (0, false, 1) := by kernel_rfl
theorem fI_116_1 : fI Go.Proofs.Try.prog 116 1 = some (1, false, 1) := by kernel_rfl
theorem fI_116_2 : fI Go.Proofs.Try.prog 116 2 = some (2, false, 1) := by kernel_rfl
theorem fI_116_3 : fI Go.Proofs.Try.prog 116 3 = some (3, false, 1) := by kernel_rfl
theorem bI_116 : bI Go.Proofs.Try.prog 116 = some [(0, 1), (1, 1), (2, 1), (3, 1)] := by kernel_rfl
theorem tI_117 : tI Go.Proofs.Try.prog 117 = some (true, 0) := by kernel_rfl
theorem zI_117 : zI Go.Proofs.Try.prog 117 = some [] := by kernel_rfl
theorem zV_117 : zV Go.Proofs.Try.prog 117 = some (.agg []) := by kernel_rfl
theorem aI_117 : aI Go.Proofs.Try.prog 117 = some (0, false, 1) := by kernel_rfl
theorem tI_118 : tI Go.Proofs.Try.prog 118 = some (true, 0) := by kernel_rfl
theorem zI_118 : zI Go.Proofs.Try.prog 118 = some [] := by kernel_rfl
theorem zV_118 : zV Go.Proofs.Try.prog 118 = some (.agg []) := by kernel_rfl
theorem bI_118 : bI Go.Proofs.Try.prog 118 = some [(0, 0)] := by kernel_rfl
theorem tI_119 : tI Go.Proofs.Try.prog 119 = some (true, 0) := by kernel_rfl
theorem zI_119 : zI Go.Proofs.Try.prog 119 = some [] := by kernel_rfl
theorem zV_119 : zV Go.Proofs.Try.prog 119 = some (.agg []) := by kernel_rfl
theorem bI_119 : bI Go.Proofs.Try.prog 119 = some [(0, 0)] := by kernel_rfl
theorem tI_121 : tI Go.Proofs.Try.prog 121 = some (false, 1) := by kernel_rfl
theorem zI_121 : zI Go.Proofs.Try.prog 121 = some [.int .u32 0] := by kernel_rfl
theorem zV_121 : zV Go.Proofs.Try.prog 121 = some (.int .u32 0) := by kernel_rfl
theorem tI_122 : tI Go.Proofs.Try.prog 122 = some (false, 1) := by kernel_rfl
theorem zI_122 : zI Go.Proofs.Try.prog 122 = some [.int .u8 0] := by kernel_rfl
theorem zV_122 : zV Go.Proofs.Try.prog 122 = some (.int .u8 0) := by kernel_rfl
theorem tI_123 : tI Go.Proofs.Try.prog 123 = some (false, 1) := by kernel_rfl
theorem zI_123 : zI Go.Proofs.Try.prog 123 = some [.int .u8 0] := by kernel_rfl
theorem zV_123 : zV Go.Proofs.Try.prog 123 = some (.int .u8 0) := by kernel_rfl
theorem tI_125 : tI Go.Proofs.Try.prog 125 = some (false, 1) := by kernel_rfl
theorem zI_125 : zI Go.Proofs.Try.prog 125 = some [.nilptr] := by kernel_rfl
theorem zV_125 : zV Go.Proofs.Try.prog 125 = some (.nilptr) := by kernel_rfl
theorem tI_126 : tI Go.Proofs.Try.prog 126 = some (false, 1) := by kernel_rfl
theorem zI_126 : zI Go.Proofs.Try.prog 126 = some [.int .i32 0] := by kernel_rfl
theorem zV_126 : zV Go.Proofs.Try.prog 126 = some (.int .i32 0) := by kernel_rfl
theorem tI_127 : tI Go.Proofs.Try.prog 127 = some (false, 1) := by kernel_rfl
theorem zI_127 : zI Go.Proofs.Try.prog 127 = some [.int .i32 0] := by kernel_rfl
theorem zV_127 : zV Go.Proofs.Try.prog 127 = some (.int .i32 0) := by kernel_rfl
theorem tI_128 : tI Go.Proofs.Try.prog 128 = some (true, 11) := by kernel_rfl
theorem zI_128 : zI Go.Proofs.Try.prog 128 = some [.int .u64 0, .int .u64 0, .int .u32 0, .int .u8 0, .int .u8 0, .int .u8 0, .int .u8 0, .raw .nilFunc, .nilptr, .int .i32 0, .int .i32 0] := by kernel_rfl
theorem zV_128 : zV Go.Proofs.Try.prog 128 = some (.agg [.int .u64 0, .int .u64 0, .int .u32 0, .int .u8 0, .int .u8 0, .int .u8 0, .int .u8 0, .raw .nilFunc, .nilptr, .int .i32 0, .int .i32 0]) := by kernel_rfl
theorem fI_128_0 : fI Go.Proofs.Try.prog 128 0 = some (0, false, 1) := by kernel_rfl
theorem fI_128_1 : fI Go.Proofs.Try.prog 128 1 = some (1, false, 1) := by kernel_rfl
theorem fI_128_2 : fI Go.Proofs.Try.prog 128 2 = some (2, false, 1) := by kernel_rfl
theorem fI_128_3 : fI Go.Proofs.Try.prog 128 3 = some (3, false, 1) := by kernel_rfl
theorem fI_128_4 : fI Go.Proofs.Try.prog 128 4 = some (4, false, 1) := by kernel_rfl
theorem fI_128_5 : fI Go.Proofs.Try.prog 128 5 = some (5, false, 1) := by kernel_rfl
theorem fI_128_6 : fI Go.Proofs.Try.prog 128 6 = some (6, false, 1) := by kernel_rfl
theorem fI_128_7 : fI Go.Proofs.Try.prog 128 7 = some (7, false, 1) := by kernel_rfl
theorem fI_128_8 : fI Go.Proofs.Try.prog 128 8 = some (8, false, 1) := by kernel_rfl
theorem fI_128_9 : fI Go.Proofs.Try.prog 128 9 = some (9, false, 1) := by kernel_rfl
theorem fI_128_10 : fI Go.Proofs.Try.prog 128 10 = some (10, false, 1) := by kernel_rfl
theorem bI_128 : bI Go.Proofs.Try.prog 128 = some [(0, 1), (1, 1), (2, 1), (3, 1), (4, 1), (5, 1), (6, 1), (7, 1), (8, 1), (9, 1), (10, 1)] := by kernel_rfl
theorem tI_129 : tI Go.Proofs.Try.prog 129 = some (true, 11) := by kernel_rfl
theorem zI_129 : zI Go.Proofs.Try.prog 129 = some [.int .u64 0, .int .u64 0, .int .u32 0, .int .u8 0, .int .u8 0, .int .u8 0, .int .u8 0, .raw .nilFunc, .nilptr, .int .i32 0, .int .i32 0] := by kernel_rfl
theorem zV_129 : zV Go.Proofs.Try.prog 129 = some (.agg [.int .u64 0, .int .u64 0, .int .u32 0, .int .u8 0, .int .u8 0, .int .u8 0, .int .u8 0, .raw .nilFunc, .nilptr, .int .i32 0, .int .i32 0]) := by kernel_rfl
theorem fI_129_0 : fI Go.Proofs.Try.prog 129 0 = some (0, false, 1) := by kernel_rfl
theorem fI_129_1 : fI Go.Proofs.Try.prog 129 1 = some (1, false, 1) := by kernel_rfl
theorem fI_129_2 : fI Go.Proofs.Try.prog 129 2 = some (2, false, 1) := by kernel_rfl
theorem fI_129_3 : fI Go.Proofs.Try.prog 129 3 = some (3, false, 1) := by kernel_rfl
theorem fI_129_4 : fI Go.Proofs.Try.prog 129 4 = some (4, false, 1) := by kernel_rfl
theorem fI_129_5 : fI Go.Proofs.Try.prog 129 5 = some (5, false, 1) := by kernel_rfl
theorem fI_129_6 : fI Go.Proofs.Try.prog 129 6 = some (6, false, 1) := by kernel_rfl
theorem fI_129_7 : fI Go.Proofs.Try.prog 129 7 = some (7, false, 1) := by kernel_rfl
theorem fI_129_8 : fI Go.Proofs.Try.prog 129 8 = some (8, false, 1) := by kernel_rfl
theorem fI_129_9 : fI Go.Proofs.Try.prog 129 9 = some (9, false, 1) := by kernel_rfl
theorem fI_129_10 : fI Go.Proofs.Try.prog 129 10 = some (10, false, 1) := by kernel_rfl
theorem bI_129 : bI Go.Proofs.Try.prog 129 = some [(0, 1), (1, 1), (2, 1), (3, 1), (4, 1), (5, 1), (6, 1), (7, 1), (8, 1), (9, 1), (10, 1)] := by kernel_rfl
theorem mixed : Go.Proofs.Try.prog.follows .mixedOrders = true := by kernel_rfl
end Go.AW
