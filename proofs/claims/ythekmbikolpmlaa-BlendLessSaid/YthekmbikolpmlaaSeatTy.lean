/-
  FACTS OF THE PROGRAM'S TYPES AND CODE, printed by program. No conditions.
-/
import Derived.Test.YthekmbikolpmlaaAbsEval
import Derived.Test.YthekmbikolpmlaaProg
import Derived.KernelRfl
namespace Go.Proofs.Ythekmbikolpmlaa
namespace Abs
theorem ty0_0 : isAggT Try.prog 0 = some false := by kernel_rfl
theorem ty0_1 : sizeT Try.prog 0 = some 1 := by kernel_rfl
theorem ty0_2 : bytesT Try.prog 0 = some 0 := by kernel_rfl
theorem ty0_3 : zeroT Try.prog 0 = some (.tuple []) := by kernel_rfl
theorem ty0_4 : isIfaceT Try.prog 0 = some false := by kernel_rfl
theorem ty0_5 : hasZero Try.prog 0 1 = true := by kernel_rfl
theorem ty1_0 : isAggT Try.prog 1 = some false := by kernel_rfl
theorem ty1_1 : sizeT Try.prog 1 = some 1 := by kernel_rfl
theorem ty1_2 : bytesT Try.prog 1 = some 8 := by kernel_rfl
theorem ty1_3 : zeroT Try.prog 1 = some (.nilfunc) := by kernel_rfl
theorem ty1_4 : isIfaceT Try.prog 1 = some false := by kernel_rfl
theorem ty1_5 : hasZero Try.prog 1 1 = true := by kernel_rfl
theorem ty2_0 : isAggT Try.prog 2 = some false := by kernel_rfl
theorem ty2_1 : sizeT Try.prog 2 = some 1 := by kernel_rfl
theorem ty2_2 : bytesT Try.prog 2 = some 8 := by kernel_rfl
theorem ty2_3 : zeroT Try.prog 2 = some (.int .i64 0) := by kernel_rfl
theorem ty2_4 : isIfaceT Try.prog 2 = some false := by kernel_rfl
theorem ty2_5 : hasZero Try.prog 2 1 = true := by kernel_rfl
theorem ty3_0 : isAggT Try.prog 3 = some false := by kernel_rfl
theorem ty3_1 : sizeT Try.prog 3 = some 1 := by kernel_rfl
theorem ty3_2 : bytesT Try.prog 3 = some 8 := by kernel_rfl
theorem ty3_3 : zeroT Try.prog 3 = some (.int .i64 0) := by kernel_rfl
theorem ty3_4 : isIfaceT Try.prog 3 = some false := by kernel_rfl
theorem ty3_5 : hasZero Try.prog 3 1 = true := by kernel_rfl
theorem ty4_0 : isAggT Try.prog 4 = some false := by kernel_rfl
theorem ty4_1 : sizeT Try.prog 4 = some 1 := by kernel_rfl
theorem ty4_2 : bytesT Try.prog 4 = some 1 := by kernel_rfl
theorem ty4_3 : zeroT Try.prog 4 = some (.bool false) := by kernel_rfl
theorem ty4_4 : isIfaceT Try.prog 4 = some false := by kernel_rfl
theorem ty4_5 : hasZero Try.prog 4 1 = true := by kernel_rfl
theorem ty4_6 : kindT Try.prog 4 = .bool := by kernel_rfl
theorem ty5_0 : isAggT Try.prog 5 = some false := by kernel_rfl
theorem ty5_1 : sizeT Try.prog 5 = some 1 := by kernel_rfl
theorem ty5_2 : bytesT Try.prog 5 = some 1 := by kernel_rfl
theorem ty5_3 : zeroT Try.prog 5 = some (.int .u8 0) := by kernel_rfl
theorem ty5_4 : isIfaceT Try.prog 5 = some false := by kernel_rfl
theorem ty5_5 : hasZero Try.prog 5 1 = true := by kernel_rfl
theorem ty6_0 : isAggT Try.prog 6 = some false := by kernel_rfl
theorem ty6_1 : sizeT Try.prog 6 = some 1 := by kernel_rfl
theorem ty6_2 : bytesT Try.prog 6 = some 1 := by kernel_rfl
theorem ty6_3 : zeroT Try.prog 6 = some (.int .u8 0) := by kernel_rfl
theorem ty6_4 : isIfaceT Try.prog 6 = some false := by kernel_rfl
theorem ty6_5 : hasZero Try.prog 6 1 = true := by kernel_rfl
theorem ty7_0 : isAggT Try.prog 7 = some true := by kernel_rfl
theorem ty7_1 : sizeT Try.prog 7 = some 4 := by kernel_rfl
theorem ty7_2 : bytesT Try.prog 7 = some 24 := by kernel_rfl
theorem ty7_3 : zeroT Try.prog 7 = some (.agg [.int .i64 0, .int .i64 0, .bool false, .int .u8 0]) := by kernel_rfl
theorem ty7_4 : fieldT Try.prog 7 0 = some (0, 2) := by kernel_rfl
theorem ty7_5 : fieldT Try.prog 7 1 = some (1, 3) := by kernel_rfl
theorem ty7_6 : fieldT Try.prog 7 2 = some (2, 4) := by kernel_rfl
theorem ty7_7 : fieldT Try.prog 7 3 = some (3, 6) := by kernel_rfl
theorem ty7_8 : isIfaceT Try.prog 7 = some false := by kernel_rfl
theorem ty7_9 : hasZero Try.prog 7 4 = true := by kernel_rfl
theorem ty7_10 : placesT Try.prog 7 = some [(0, 1), (1, 1), (2, 1), (3, 1)] := by kernel_rfl
theorem ty7_11 : eqAggT Try.prog 7 = some [.int, .int, .bool, .int] := by kernel_rfl
theorem ty8_0 : isAggT Try.prog 8 = some true := by kernel_rfl
theorem ty8_1 : sizeT Try.prog 8 = some 4 := by kernel_rfl
theorem ty8_2 : bytesT Try.prog 8 = some 24 := by kernel_rfl
theorem ty8_3 : zeroT Try.prog 8 = some (.agg [.int .i64 0, .int .i64 0, .bool false, .int .u8 0]) := by kernel_rfl
theorem ty8_4 : fieldT Try.prog 8 0 = some (0, 2) := by kernel_rfl
theorem ty8_5 : fieldT Try.prog 8 1 = some (1, 3) := by kernel_rfl
theorem ty8_6 : fieldT Try.prog 8 2 = some (2, 4) := by kernel_rfl
theorem ty8_7 : fieldT Try.prog 8 3 = some (3, 6) := by kernel_rfl
theorem ty8_8 : isIfaceT Try.prog 8 = some false := by kernel_rfl
theorem ty8_9 : hasZero Try.prog 8 4 = true := by kernel_rfl
theorem ty8_10 : placesT Try.prog 8 = some [(0, 1), (1, 1), (2, 1), (3, 1)] := by kernel_rfl
theorem ty8_11 : eqAggT Try.prog 8 = some [.int, .int, .bool, .int] := by kernel_rfl
theorem ty9_0 : isAggT Try.prog 9 = some false := by kernel_rfl
theorem ty9_1 : sizeT Try.prog 9 = some 1 := by kernel_rfl
theorem ty9_2 : bytesT Try.prog 9 = some 16 := by kernel_rfl
theorem ty9_3 : zeroT Try.prog 9 = some (.str ⟨#[]⟩) := by kernel_rfl
theorem ty9_4 : isStringT Try.prog 9 = true := by kernel_rfl
theorem ty9_5 : isIfaceT Try.prog 9 = some false := by kernel_rfl
theorem ty9_6 : hasZero Try.prog 9 1 = true := by kernel_rfl
theorem ty10_0 : isAggT Try.prog 10 = some false := by kernel_rfl
theorem ty10_1 : sizeT Try.prog 10 = some 1 := by kernel_rfl
theorem ty10_2 : bytesT Try.prog 10 = some 16 := by kernel_rfl
theorem ty10_3 : zeroT Try.prog 10 = some (.str ⟨#[]⟩) := by kernel_rfl
theorem ty10_4 : isStringT Try.prog 10 = true := by kernel_rfl
theorem ty10_5 : isIfaceT Try.prog 10 = some false := by kernel_rfl
theorem ty10_6 : hasZero Try.prog 10 1 = true := by kernel_rfl
theorem ty11_0 : isAggT Try.prog 11 = some false := by kernel_rfl
theorem ty11_1 : sizeT Try.prog 11 = some 1 := by kernel_rfl
theorem ty11_2 : bytesT Try.prog 11 = some 16 := by kernel_rfl
theorem ty11_3 : zeroT Try.prog 11 = some (.str ⟨#[]⟩) := by kernel_rfl
theorem ty11_4 : isStringT Try.prog 11 = true := by kernel_rfl
theorem ty11_5 : isIfaceT Try.prog 11 = some false := by kernel_rfl
theorem ty11_6 : hasZero Try.prog 11 1 = true := by kernel_rfl
theorem ty12_0 : isAggT Try.prog 12 = some false := by kernel_rfl
theorem ty12_1 : sizeT Try.prog 12 = some 1 := by kernel_rfl
theorem ty12_2 : bytesT Try.prog 12 = some 8 := by kernel_rfl
theorem ty12_3 : zeroT Try.prog 12 = some (.int .u64 0) := by kernel_rfl
theorem ty12_4 : isIfaceT Try.prog 12 = some false := by kernel_rfl
theorem ty12_5 : hasZero Try.prog 12 1 = true := by kernel_rfl
theorem ty13_0 : isAggT Try.prog 13 = some true := by kernel_rfl
theorem ty13_1 : sizeT Try.prog 13 = some 2 := by kernel_rfl
theorem ty13_2 : bytesT Try.prog 13 = some 24 := by kernel_rfl
theorem ty13_3 : zeroT Try.prog 13 = some (.agg [.str ⟨#[]⟩, .int .u64 0]) := by kernel_rfl
theorem ty13_4 : fieldT Try.prog 13 0 = some (0, 9) := by kernel_rfl
theorem ty13_5 : fieldT Try.prog 13 1 = some (1, 12) := by kernel_rfl
theorem ty13_6 : isIfaceT Try.prog 13 = some false := by kernel_rfl
theorem ty13_7 : hasZero Try.prog 13 2 = true := by kernel_rfl
theorem ty13_8 : placesT Try.prog 13 = some [(0, 1), (1, 1)] := by kernel_rfl
theorem ty14_0 : isAggT Try.prog 14 = some true := by kernel_rfl
theorem ty14_1 : sizeT Try.prog 14 = some 2 := by kernel_rfl
theorem ty14_2 : bytesT Try.prog 14 = some 24 := by kernel_rfl
theorem ty14_3 : zeroT Try.prog 14 = some (.agg [.str ⟨#[]⟩, .int .u64 0]) := by kernel_rfl
theorem ty14_4 : fieldT Try.prog 14 0 = some (0, 9) := by kernel_rfl
theorem ty14_5 : fieldT Try.prog 14 1 = some (1, 12) := by kernel_rfl
theorem ty14_6 : isIfaceT Try.prog 14 = some false := by kernel_rfl
theorem ty14_7 : hasZero Try.prog 14 2 = true := by kernel_rfl
theorem ty14_8 : placesT Try.prog 14 = some [(0, 1), (1, 1)] := by kernel_rfl
theorem ty15_0 : isAggT Try.prog 15 = some false := by kernel_rfl
theorem ty15_1 : sizeT Try.prog 15 = some 1 := by kernel_rfl
theorem ty15_2 : bytesT Try.prog 15 = some 8 := by kernel_rfl
theorem ty15_3 : zeroT Try.prog 15 = some (.nilptr) := by kernel_rfl
theorem ty15_4 : isIfaceT Try.prog 15 = some false := by kernel_rfl
theorem ty15_5 : hasZero Try.prog 15 1 = true := by kernel_rfl
theorem ty15_6 : kindT Try.prog 15 = .ptr := by kernel_rfl
theorem ty16_0 : isAggT Try.prog 16 = some false := by kernel_rfl
theorem ty16_1 : sizeT Try.prog 16 = some 1 := by kernel_rfl
theorem ty16_2 : bytesT Try.prog 16 = some 8 := by kernel_rfl
theorem ty16_3 : zeroT Try.prog 16 = some (.nilptr) := by kernel_rfl
theorem ty16_4 : isIfaceT Try.prog 16 = some false := by kernel_rfl
theorem ty16_5 : hasZero Try.prog 16 1 = true := by kernel_rfl
theorem ty17_0 : isAggT Try.prog 17 = some false := by kernel_rfl
theorem ty17_1 : sizeT Try.prog 17 = some 1 := by kernel_rfl
theorem ty17_2 : bytesT Try.prog 17 = some 8 := by kernel_rfl
theorem ty17_3 : zeroT Try.prog 17 = some (.nilptr) := by kernel_rfl
theorem ty17_4 : isIfaceT Try.prog 17 = some false := by kernel_rfl
theorem ty17_5 : hasZero Try.prog 17 1 = true := by kernel_rfl
theorem ty17_6 : kindT Try.prog 17 = .ptr := by kernel_rfl
theorem ty18_0 : isAggT Try.prog 18 = some true := by kernel_rfl
theorem ty18_1 : sizeT Try.prog 18 = some 1 := by kernel_rfl
theorem ty18_2 : bytesT Try.prog 18 = some 8 := by kernel_rfl
theorem ty18_3 : zeroT Try.prog 18 = some (.agg [.nilptr]) := by kernel_rfl
theorem ty18_4 : fieldT Try.prog 18 0 = some (0, 17) := by kernel_rfl
theorem ty18_5 : isIfaceT Try.prog 18 = some false := by kernel_rfl
theorem ty18_6 : hasZero Try.prog 18 1 = true := by kernel_rfl
theorem ty18_7 : placesT Try.prog 18 = some [(0, 1)] := by kernel_rfl
theorem ty19_0 : isAggT Try.prog 19 = some true := by kernel_rfl
theorem ty19_1 : sizeT Try.prog 19 = some 1 := by kernel_rfl
theorem ty19_2 : bytesT Try.prog 19 = some 8 := by kernel_rfl
theorem ty19_3 : zeroT Try.prog 19 = some (.agg [.nilptr]) := by kernel_rfl
theorem ty19_4 : fieldT Try.prog 19 0 = some (0, 17) := by kernel_rfl
theorem ty19_5 : isIfaceT Try.prog 19 = some false := by kernel_rfl
theorem ty19_6 : hasZero Try.prog 19 1 = true := by kernel_rfl
theorem ty19_7 : placesT Try.prog 19 = some [(0, 1)] := by kernel_rfl
theorem ty20_0 : isAggT Try.prog 20 = some false := by kernel_rfl
theorem ty20_1 : sizeT Try.prog 20 = some 1 := by kernel_rfl
theorem ty20_2 : bytesT Try.prog 20 = some 16 := by kernel_rfl
theorem ty20_3 : zeroT Try.prog 20 = some (.niliface) := by kernel_rfl
theorem ty20_4 : isIfaceT Try.prog 20 = some true := by kernel_rfl
theorem ty20_5 : hasZero Try.prog 20 1 = true := by kernel_rfl
theorem ty20_6 : kindT Try.prog 20 = .iface := by kernel_rfl
theorem ty21_0 : isAggT Try.prog 21 = some false := by kernel_rfl
theorem ty21_1 : sizeT Try.prog 21 = some 1 := by kernel_rfl
theorem ty21_2 : bytesT Try.prog 21 = some 4 := by kernel_rfl
theorem ty21_3 : zeroT Try.prog 21 = some (.int .i32 0) := by kernel_rfl
theorem ty21_4 : isIfaceT Try.prog 21 = some false := by kernel_rfl
theorem ty21_5 : hasZero Try.prog 21 1 = true := by kernel_rfl
theorem ty22_0 : isAggT Try.prog 22 = some false := by kernel_rfl
theorem ty22_1 : sizeT Try.prog 22 = some 1 := by kernel_rfl
theorem ty22_2 : bytesT Try.prog 22 = some 24 := by kernel_rfl
theorem ty22_3 : zeroT Try.prog 22 = some (.nilslice) := by kernel_rfl
theorem ty22_4 : sliceT Try.prog 22 = some 78 := by kernel_rfl
theorem ty22_5 : isIfaceT Try.prog 22 = some false := by kernel_rfl
theorem ty22_6 : hasZero Try.prog 22 1 = true := by kernel_rfl
theorem ty22_7 : kindT Try.prog 22 = .slice := by kernel_rfl
theorem ty23_0 : isAggT Try.prog 23 = some true := by kernel_rfl
theorem ty23_1 : sizeT Try.prog 23 = some 2 := by kernel_rfl
theorem ty23_2 : bytesT Try.prog 23 = some 16 := by kernel_rfl
theorem ty23_3 : zeroT Try.prog 23 = some (.agg [.int .i64 0, .int .i64 0]) := by kernel_rfl
theorem ty23_4 : arrayT Try.prog 23 = some (2, 3) := by kernel_rfl
theorem ty23_5 : isIfaceT Try.prog 23 = some false := by kernel_rfl
theorem ty23_6 : hasZero Try.prog 23 2 = true := by kernel_rfl
theorem ty23_7 : placesT Try.prog 23 = none := by kernel_rfl
theorem ty24_0 : isAggT Try.prog 24 = some false := by kernel_rfl
theorem ty24_1 : sizeT Try.prog 24 = some 1 := by kernel_rfl
theorem ty24_2 : bytesT Try.prog 24 = some 8 := by kernel_rfl
theorem ty24_3 : zeroT Try.prog 24 = some (.int .i64 0) := by kernel_rfl
theorem ty24_4 : isIfaceT Try.prog 24 = some false := by kernel_rfl
theorem ty24_5 : hasZero Try.prog 24 1 = true := by kernel_rfl
theorem ty25_0 : isAggT Try.prog 25 = some false := by kernel_rfl
theorem ty25_1 : sizeT Try.prog 25 = some 1 := by kernel_rfl
theorem ty25_2 : bytesT Try.prog 25 = some 0 := by kernel_rfl
theorem ty25_3 : zeroT Try.prog 25 = some (.tuple [.int .i64 0, .int .i64 0, .int .i64 0]) := by kernel_rfl
theorem ty25_4 : isIfaceT Try.prog 25 = some false := by kernel_rfl
theorem ty25_5 : hasZero Try.prog 25 1 = true := by kernel_rfl
theorem ty26_0 : isAggT Try.prog 26 = some false := by kernel_rfl
theorem ty26_1 : sizeT Try.prog 26 = some 1 := by kernel_rfl
theorem ty26_2 : bytesT Try.prog 26 = some 8 := by kernel_rfl
theorem ty26_3 : zeroT Try.prog 26 = some (.nilfunc) := by kernel_rfl
theorem ty26_4 : isIfaceT Try.prog 26 = some false := by kernel_rfl
theorem ty26_5 : hasZero Try.prog 26 1 = true := by kernel_rfl
theorem ty27_0 : isAggT Try.prog 27 = some false := by kernel_rfl
theorem ty27_1 : sizeT Try.prog 27 = some 1 := by kernel_rfl
theorem ty27_2 : bytesT Try.prog 27 = some 0 := by kernel_rfl
theorem ty27_3 : zeroT Try.prog 27 = some (.tuple [.int .i64 0, .int .i64 0]) := by kernel_rfl
theorem ty27_4 : isIfaceT Try.prog 27 = some false := by kernel_rfl
theorem ty27_5 : hasZero Try.prog 27 1 = true := by kernel_rfl
theorem ty28_0 : isAggT Try.prog 28 = some false := by kernel_rfl
theorem ty28_1 : sizeT Try.prog 28 = some 1 := by kernel_rfl
theorem ty28_2 : bytesT Try.prog 28 = some 8 := by kernel_rfl
theorem ty28_3 : zeroT Try.prog 28 = some (.nilfunc) := by kernel_rfl
theorem ty28_4 : isIfaceT Try.prog 28 = some false := by kernel_rfl
theorem ty28_5 : hasZero Try.prog 28 1 = true := by kernel_rfl
theorem ty29_0 : isAggT Try.prog 29 = some false := by kernel_rfl
theorem ty29_1 : sizeT Try.prog 29 = some 1 := by kernel_rfl
theorem ty29_2 : bytesT Try.prog 29 = some 8 := by kernel_rfl
theorem ty29_3 : zeroT Try.prog 29 = some (.nilfunc) := by kernel_rfl
theorem ty29_4 : isIfaceT Try.prog 29 = some false := by kernel_rfl
theorem ty29_5 : hasZero Try.prog 29 1 = true := by kernel_rfl
theorem ty30_0 : isAggT Try.prog 30 = some false := by kernel_rfl
theorem ty30_1 : sizeT Try.prog 30 = some 1 := by kernel_rfl
theorem ty30_2 : bytesT Try.prog 30 = some 8 := by kernel_rfl
theorem ty30_3 : zeroT Try.prog 30 = some (.nilfunc) := by kernel_rfl
theorem ty30_4 : isIfaceT Try.prog 30 = some false := by kernel_rfl
theorem ty30_5 : hasZero Try.prog 30 1 = true := by kernel_rfl
theorem ty31_0 : isAggT Try.prog 31 = some false := by kernel_rfl
theorem ty31_1 : sizeT Try.prog 31 = some 1 := by kernel_rfl
theorem ty31_2 : bytesT Try.prog 31 = some 24 := by kernel_rfl
theorem ty31_3 : zeroT Try.prog 31 = some (.nilslice) := by kernel_rfl
theorem ty31_4 : sliceT Try.prog 31 = some 3 := by kernel_rfl
theorem ty31_5 : isIfaceT Try.prog 31 = some false := by kernel_rfl
theorem ty31_6 : hasZero Try.prog 31 1 = true := by kernel_rfl
theorem ty31_7 : kindT Try.prog 31 = .slice := by kernel_rfl
theorem ty32_0 : isAggT Try.prog 32 = some false := by kernel_rfl
theorem ty32_1 : sizeT Try.prog 32 = some 1 := by kernel_rfl
theorem ty32_2 : bytesT Try.prog 32 = some 24 := by kernel_rfl
theorem ty32_3 : zeroT Try.prog 32 = some (.nilslice) := by kernel_rfl
theorem ty32_4 : sliceT Try.prog 32 = some 102 := by kernel_rfl
theorem ty32_5 : isIfaceT Try.prog 32 = some false := by kernel_rfl
theorem ty32_6 : hasZero Try.prog 32 1 = true := by kernel_rfl
theorem ty32_7 : kindT Try.prog 32 = .slice := by kernel_rfl
theorem ty33_0 : isAggT Try.prog 33 = some true := by kernel_rfl
theorem ty33_1 : sizeT Try.prog 33 = some 2 := by kernel_rfl
theorem ty33_2 : bytesT Try.prog 33 = some 32 := by kernel_rfl
theorem ty33_3 : zeroT Try.prog 33 = some (.agg [.nilslice, .int .i64 0]) := by kernel_rfl
theorem ty33_4 : fieldT Try.prog 33 0 = some (0, 32) := by kernel_rfl
theorem ty33_5 : fieldT Try.prog 33 1 = some (1, 3) := by kernel_rfl
theorem ty33_6 : isIfaceT Try.prog 33 = some false := by kernel_rfl
theorem ty33_7 : hasZero Try.prog 33 2 = true := by kernel_rfl
theorem ty33_8 : placesT Try.prog 33 = some [(0, 1), (1, 1)] := by kernel_rfl
theorem ty34_0 : isAggT Try.prog 34 = some true := by kernel_rfl
theorem ty34_1 : sizeT Try.prog 34 = some 2 := by kernel_rfl
theorem ty34_2 : bytesT Try.prog 34 = some 32 := by kernel_rfl
theorem ty34_3 : zeroT Try.prog 34 = some (.agg [.nilslice, .int .i64 0]) := by kernel_rfl
theorem ty34_4 : fieldT Try.prog 34 0 = some (0, 32) := by kernel_rfl
theorem ty34_5 : fieldT Try.prog 34 1 = some (1, 3) := by kernel_rfl
theorem ty34_6 : isIfaceT Try.prog 34 = some false := by kernel_rfl
theorem ty34_7 : hasZero Try.prog 34 2 = true := by kernel_rfl
theorem ty34_8 : placesT Try.prog 34 = some [(0, 1), (1, 1)] := by kernel_rfl
theorem ty35_0 : isAggT Try.prog 35 = some true := by kernel_rfl
theorem ty35_1 : sizeT Try.prog 35 = some 2 := by kernel_rfl
theorem ty35_2 : bytesT Try.prog 35 = some 16 := by kernel_rfl
theorem ty35_3 : zeroT Try.prog 35 = some (.agg [.int .i64 0, .int .i64 0]) := by kernel_rfl
theorem ty35_4 : fieldT Try.prog 35 0 = some (0, 3) := by kernel_rfl
theorem ty35_5 : fieldT Try.prog 35 1 = some (1, 3) := by kernel_rfl
theorem ty35_6 : isIfaceT Try.prog 35 = some false := by kernel_rfl
theorem ty35_7 : hasZero Try.prog 35 2 = true := by kernel_rfl
theorem ty35_8 : placesT Try.prog 35 = some [(0, 1), (1, 1)] := by kernel_rfl
theorem ty35_9 : eqAggT Try.prog 35 = some [.int, .int] := by kernel_rfl
theorem ty36_0 : isAggT Try.prog 36 = some true := by kernel_rfl
theorem ty36_1 : sizeT Try.prog 36 = some 2 := by kernel_rfl
theorem ty36_2 : bytesT Try.prog 36 = some 16 := by kernel_rfl
theorem ty36_3 : zeroT Try.prog 36 = some (.agg [.int .i64 0, .int .i64 0]) := by kernel_rfl
theorem ty36_4 : fieldT Try.prog 36 0 = some (0, 3) := by kernel_rfl
theorem ty36_5 : fieldT Try.prog 36 1 = some (1, 3) := by kernel_rfl
theorem ty36_6 : isIfaceT Try.prog 36 = some false := by kernel_rfl
theorem ty36_7 : hasZero Try.prog 36 2 = true := by kernel_rfl
theorem ty36_8 : placesT Try.prog 36 = some [(0, 1), (1, 1)] := by kernel_rfl
theorem ty36_9 : eqAggT Try.prog 36 = some [.int, .int] := by kernel_rfl
theorem ty37_0 : isAggT Try.prog 37 = some false := by kernel_rfl
theorem ty37_1 : sizeT Try.prog 37 = some 1 := by kernel_rfl
theorem ty37_2 : bytesT Try.prog 37 = some 0 := by kernel_rfl
theorem ty37_3 : isIfaceT Try.prog 37 = some false := by kernel_rfl
theorem ty37_4 : hasZero Try.prog 37 1 = true := by kernel_rfl
theorem ty38_0 : isAggT Try.prog 38 = some false := by kernel_rfl
theorem ty38_1 : sizeT Try.prog 38 = some 1 := by kernel_rfl
theorem ty38_2 : bytesT Try.prog 38 = some 8 := by kernel_rfl
theorem ty38_3 : zeroT Try.prog 38 = some (.nilfunc) := by kernel_rfl
theorem ty38_4 : isIfaceT Try.prog 38 = some false := by kernel_rfl
theorem ty38_5 : hasZero Try.prog 38 1 = true := by kernel_rfl
theorem ty39_0 : isAggT Try.prog 39 = some false := by kernel_rfl
theorem ty39_1 : sizeT Try.prog 39 = some 1 := by kernel_rfl
theorem ty39_2 : bytesT Try.prog 39 = some 8 := by kernel_rfl
theorem ty39_3 : zeroT Try.prog 39 = some (.nilfunc) := by kernel_rfl
theorem ty39_4 : isIfaceT Try.prog 39 = some false := by kernel_rfl
theorem ty39_5 : hasZero Try.prog 39 1 = true := by kernel_rfl
theorem ty40_0 : isAggT Try.prog 40 = some false := by kernel_rfl
theorem ty40_1 : sizeT Try.prog 40 = some 1 := by kernel_rfl
theorem ty40_2 : bytesT Try.prog 40 = some 0 := by kernel_rfl
theorem ty40_3 : zeroT Try.prog 40 = some (.tuple [.nilslice, .int .i64 0]) := by kernel_rfl
theorem ty40_4 : isIfaceT Try.prog 40 = some false := by kernel_rfl
theorem ty40_5 : hasZero Try.prog 40 1 = true := by kernel_rfl
theorem ty41_0 : isAggT Try.prog 41 = some false := by kernel_rfl
theorem ty41_1 : sizeT Try.prog 41 = some 1 := by kernel_rfl
theorem ty41_2 : bytesT Try.prog 41 = some 8 := by kernel_rfl
theorem ty41_3 : zeroT Try.prog 41 = some (.nilfunc) := by kernel_rfl
theorem ty41_4 : isIfaceT Try.prog 41 = some false := by kernel_rfl
theorem ty41_5 : hasZero Try.prog 41 1 = true := by kernel_rfl
theorem ty42_0 : isAggT Try.prog 42 = some false := by kernel_rfl
theorem ty42_1 : sizeT Try.prog 42 = some 1 := by kernel_rfl
theorem ty42_2 : bytesT Try.prog 42 = some 8 := by kernel_rfl
theorem ty42_3 : zeroT Try.prog 42 = some (.nilfunc) := by kernel_rfl
theorem ty42_4 : isIfaceT Try.prog 42 = some false := by kernel_rfl
theorem ty42_5 : hasZero Try.prog 42 1 = true := by kernel_rfl
theorem ty43_0 : isAggT Try.prog 43 = some false := by kernel_rfl
theorem ty43_1 : sizeT Try.prog 43 = some 1 := by kernel_rfl
theorem ty43_2 : bytesT Try.prog 43 = some 8 := by kernel_rfl
theorem ty43_3 : zeroT Try.prog 43 = some (.nilfunc) := by kernel_rfl
theorem ty43_4 : isIfaceT Try.prog 43 = some false := by kernel_rfl
theorem ty43_5 : hasZero Try.prog 43 1 = true := by kernel_rfl
theorem ty44_0 : isAggT Try.prog 44 = some false := by kernel_rfl
theorem ty44_1 : sizeT Try.prog 44 = some 1 := by kernel_rfl
theorem ty44_2 : bytesT Try.prog 44 = some 24 := by kernel_rfl
theorem ty44_3 : zeroT Try.prog 44 = some (.nilslice) := by kernel_rfl
theorem ty44_4 : sliceT Try.prog 44 = some 36 := by kernel_rfl
theorem ty44_5 : isIfaceT Try.prog 44 = some false := by kernel_rfl
theorem ty44_6 : hasZero Try.prog 44 1 = true := by kernel_rfl
theorem ty44_7 : kindT Try.prog 44 = .slice := by kernel_rfl
theorem ty45_0 : isAggT Try.prog 45 = some true := by kernel_rfl
theorem ty45_1 : sizeT Try.prog 45 = some 5 := by kernel_rfl
theorem ty45_2 : bytesT Try.prog 45 = some 56 := by kernel_rfl
theorem ty45_3 : zeroT Try.prog 45 = some (.agg [.nilslice, .int .i64 0, .int .i64 0, .int .i64 0, .int .i64 0]) := by kernel_rfl
theorem ty45_4 : fieldT Try.prog 45 0 = some (0, 44) := by kernel_rfl
theorem ty45_5 : fieldT Try.prog 45 1 = some (1, 36) := by kernel_rfl
theorem ty45_6 : fieldT Try.prog 45 2 = some (3, 36) := by kernel_rfl
theorem ty45_7 : isIfaceT Try.prog 45 = some false := by kernel_rfl
theorem ty45_8 : hasZero Try.prog 45 5 = true := by kernel_rfl
theorem ty45_9 : placesT Try.prog 45 = some [(0, 1), (1, 2), (3, 2)] := by kernel_rfl
theorem ty46_0 : isAggT Try.prog 46 = some true := by kernel_rfl
theorem ty46_1 : sizeT Try.prog 46 = some 5 := by kernel_rfl
theorem ty46_2 : bytesT Try.prog 46 = some 56 := by kernel_rfl
theorem ty46_3 : zeroT Try.prog 46 = some (.agg [.nilslice, .int .i64 0, .int .i64 0, .int .i64 0, .int .i64 0]) := by kernel_rfl
theorem ty46_4 : fieldT Try.prog 46 0 = some (0, 44) := by kernel_rfl
theorem ty46_5 : fieldT Try.prog 46 1 = some (1, 36) := by kernel_rfl
theorem ty46_6 : fieldT Try.prog 46 2 = some (3, 36) := by kernel_rfl
theorem ty46_7 : isIfaceT Try.prog 46 = some false := by kernel_rfl
theorem ty46_8 : hasZero Try.prog 46 5 = true := by kernel_rfl
theorem ty46_9 : placesT Try.prog 46 = some [(0, 1), (1, 2), (3, 2)] := by kernel_rfl
theorem ty47_0 : isAggT Try.prog 47 = some true := by kernel_rfl
theorem ty47_1 : sizeT Try.prog 47 = some 2 := by kernel_rfl
theorem ty47_2 : bytesT Try.prog 47 = some 32 := by kernel_rfl
theorem ty47_3 : zeroT Try.prog 47 = some (.agg [.nilslice, .int .i64 0]) := by kernel_rfl
theorem ty47_4 : fieldT Try.prog 47 0 = some (0, 31) := by kernel_rfl
theorem ty47_5 : fieldT Try.prog 47 1 = some (1, 3) := by kernel_rfl
theorem ty47_6 : isIfaceT Try.prog 47 = some false := by kernel_rfl
theorem ty47_7 : hasZero Try.prog 47 2 = true := by kernel_rfl
theorem ty47_8 : placesT Try.prog 47 = some [(0, 1), (1, 1)] := by kernel_rfl
theorem ty48_0 : isAggT Try.prog 48 = some true := by kernel_rfl
theorem ty48_1 : sizeT Try.prog 48 = some 2 := by kernel_rfl
theorem ty48_2 : bytesT Try.prog 48 = some 32 := by kernel_rfl
theorem ty48_3 : zeroT Try.prog 48 = some (.agg [.nilslice, .int .i64 0]) := by kernel_rfl
theorem ty48_4 : fieldT Try.prog 48 0 = some (0, 31) := by kernel_rfl
theorem ty48_5 : fieldT Try.prog 48 1 = some (1, 3) := by kernel_rfl
theorem ty48_6 : isIfaceT Try.prog 48 = some false := by kernel_rfl
theorem ty48_7 : hasZero Try.prog 48 2 = true := by kernel_rfl
theorem ty48_8 : placesT Try.prog 48 = some [(0, 1), (1, 1)] := by kernel_rfl
theorem ty49_0 : isAggT Try.prog 49 = some false := by kernel_rfl
theorem ty49_1 : sizeT Try.prog 49 = some 1 := by kernel_rfl
theorem ty49_2 : bytesT Try.prog 49 = some 8 := by kernel_rfl
theorem ty49_3 : zeroT Try.prog 49 = some (.nilfunc) := by kernel_rfl
theorem ty49_4 : isIfaceT Try.prog 49 = some false := by kernel_rfl
theorem ty49_5 : hasZero Try.prog 49 1 = true := by kernel_rfl
theorem ty50_0 : isAggT Try.prog 50 = some false := by kernel_rfl
theorem ty50_1 : sizeT Try.prog 50 = some 1 := by kernel_rfl
theorem ty50_2 : bytesT Try.prog 50 = some 0 := by kernel_rfl
theorem ty50_3 : zeroT Try.prog 50 = some (.tuple [.nilslice, .int .i64 0, .int .i64 0]) := by kernel_rfl
theorem ty50_4 : isIfaceT Try.prog 50 = some false := by kernel_rfl
theorem ty50_5 : hasZero Try.prog 50 1 = true := by kernel_rfl
theorem ty51_0 : isAggT Try.prog 51 = some false := by kernel_rfl
theorem ty51_1 : sizeT Try.prog 51 = some 1 := by kernel_rfl
theorem ty51_2 : bytesT Try.prog 51 = some 8 := by kernel_rfl
theorem ty51_3 : zeroT Try.prog 51 = some (.nilfunc) := by kernel_rfl
theorem ty51_4 : isIfaceT Try.prog 51 = some false := by kernel_rfl
theorem ty51_5 : hasZero Try.prog 51 1 = true := by kernel_rfl
theorem ty52_0 : isAggT Try.prog 52 = some false := by kernel_rfl
theorem ty52_1 : sizeT Try.prog 52 = some 1 := by kernel_rfl
theorem ty52_2 : bytesT Try.prog 52 = some 0 := by kernel_rfl
theorem ty52_3 : isIfaceT Try.prog 52 = some false := by kernel_rfl
theorem ty52_4 : hasZero Try.prog 52 1 = true := by kernel_rfl
theorem ty53_0 : isAggT Try.prog 53 = some false := by kernel_rfl
theorem ty53_1 : sizeT Try.prog 53 = some 1 := by kernel_rfl
theorem ty53_2 : bytesT Try.prog 53 = some 8 := by kernel_rfl
theorem ty53_3 : zeroT Try.prog 53 = some (.nilfunc) := by kernel_rfl
theorem ty53_4 : isIfaceT Try.prog 53 = some false := by kernel_rfl
theorem ty53_5 : hasZero Try.prog 53 1 = true := by kernel_rfl
theorem ty54_0 : isAggT Try.prog 54 = some false := by kernel_rfl
theorem ty54_1 : sizeT Try.prog 54 = some 1 := by kernel_rfl
theorem ty54_2 : bytesT Try.prog 54 = some 8 := by kernel_rfl
theorem ty54_3 : zeroT Try.prog 54 = some (.nilfunc) := by kernel_rfl
theorem ty54_4 : isIfaceT Try.prog 54 = some false := by kernel_rfl
theorem ty54_5 : hasZero Try.prog 54 1 = true := by kernel_rfl
theorem ty55_0 : isAggT Try.prog 55 = some false := by kernel_rfl
theorem ty55_1 : sizeT Try.prog 55 = some 1 := by kernel_rfl
theorem ty55_2 : bytesT Try.prog 55 = some 8 := by kernel_rfl
theorem ty55_3 : zeroT Try.prog 55 = some (.nilfunc) := by kernel_rfl
theorem ty55_4 : isIfaceT Try.prog 55 = some false := by kernel_rfl
theorem ty55_5 : hasZero Try.prog 55 1 = true := by kernel_rfl
theorem ty56_0 : isAggT Try.prog 56 = some false := by kernel_rfl
theorem ty56_1 : sizeT Try.prog 56 = some 1 := by kernel_rfl
theorem ty56_2 : bytesT Try.prog 56 = some 8 := by kernel_rfl
theorem ty56_3 : zeroT Try.prog 56 = some (.nilfunc) := by kernel_rfl
theorem ty56_4 : isIfaceT Try.prog 56 = some false := by kernel_rfl
theorem ty56_5 : hasZero Try.prog 56 1 = true := by kernel_rfl
theorem ty57_0 : isAggT Try.prog 57 = some false := by kernel_rfl
theorem ty57_1 : sizeT Try.prog 57 = some 1 := by kernel_rfl
theorem ty57_2 : bytesT Try.prog 57 = some 8 := by kernel_rfl
theorem ty57_3 : zeroT Try.prog 57 = some (.nilfunc) := by kernel_rfl
theorem ty57_4 : isIfaceT Try.prog 57 = some false := by kernel_rfl
theorem ty57_5 : hasZero Try.prog 57 1 = true := by kernel_rfl
theorem ty58_0 : isAggT Try.prog 58 = some false := by kernel_rfl
theorem ty58_1 : sizeT Try.prog 58 = some 1 := by kernel_rfl
theorem ty58_2 : bytesT Try.prog 58 = some 24 := by kernel_rfl
theorem ty58_3 : zeroT Try.prog 58 = some (.nilslice) := by kernel_rfl
theorem ty58_4 : sliceT Try.prog 58 = some 124 := by kernel_rfl
theorem ty58_5 : isIfaceT Try.prog 58 = some false := by kernel_rfl
theorem ty58_6 : hasZero Try.prog 58 1 = true := by kernel_rfl
theorem ty58_7 : kindT Try.prog 58 = .slice := by kernel_rfl
theorem ty59_0 : isAggT Try.prog 59 = some false := by kernel_rfl
theorem ty59_1 : sizeT Try.prog 59 = some 1 := by kernel_rfl
theorem ty59_2 : bytesT Try.prog 59 = some 8 := by kernel_rfl
theorem ty59_3 : zeroT Try.prog 59 = some (.nilfunc) := by kernel_rfl
theorem ty59_4 : isIfaceT Try.prog 59 = some false := by kernel_rfl
theorem ty59_5 : hasZero Try.prog 59 1 = true := by kernel_rfl
theorem ty60_0 : isAggT Try.prog 60 = some false := by kernel_rfl
theorem ty60_1 : sizeT Try.prog 60 = some 1 := by kernel_rfl
theorem ty60_2 : bytesT Try.prog 60 = some 8 := by kernel_rfl
theorem ty60_3 : zeroT Try.prog 60 = some (.nilfunc) := by kernel_rfl
theorem ty60_4 : isIfaceT Try.prog 60 = some false := by kernel_rfl
theorem ty60_5 : hasZero Try.prog 60 1 = true := by kernel_rfl
theorem ty61_0 : isAggT Try.prog 61 = some false := by kernel_rfl
theorem ty61_1 : sizeT Try.prog 61 = some 1 := by kernel_rfl
theorem ty61_2 : bytesT Try.prog 61 = some 8 := by kernel_rfl
theorem ty61_3 : zeroT Try.prog 61 = some (.nilfunc) := by kernel_rfl
theorem ty61_4 : isIfaceT Try.prog 61 = some false := by kernel_rfl
theorem ty61_5 : hasZero Try.prog 61 1 = true := by kernel_rfl
theorem ty62_0 : isAggT Try.prog 62 = some false := by kernel_rfl
theorem ty62_1 : sizeT Try.prog 62 = some 1 := by kernel_rfl
theorem ty62_2 : bytesT Try.prog 62 = some 8 := by kernel_rfl
theorem ty62_3 : zeroT Try.prog 62 = some (.nilfunc) := by kernel_rfl
theorem ty62_4 : isIfaceT Try.prog 62 = some false := by kernel_rfl
theorem ty62_5 : hasZero Try.prog 62 1 = true := by kernel_rfl
theorem ty63_0 : isAggT Try.prog 63 = some false := by kernel_rfl
theorem ty63_1 : sizeT Try.prog 63 = some 1 := by kernel_rfl
theorem ty63_2 : bytesT Try.prog 63 = some 8 := by kernel_rfl
theorem ty63_3 : zeroT Try.prog 63 = some (.nilfunc) := by kernel_rfl
theorem ty63_4 : isIfaceT Try.prog 63 = some false := by kernel_rfl
theorem ty63_5 : hasZero Try.prog 63 1 = true := by kernel_rfl
theorem ty64_0 : isAggT Try.prog 64 = some true := by kernel_rfl
theorem ty64_1 : sizeT Try.prog 64 = some 2 := by kernel_rfl
theorem ty64_2 : bytesT Try.prog 64 = some 48 := by kernel_rfl
theorem ty64_3 : zeroT Try.prog 64 = some (.agg [.nilslice, .nilslice]) := by kernel_rfl
theorem ty64_4 : arrayT Try.prog 64 = some (2, 58) := by kernel_rfl
theorem ty64_5 : isIfaceT Try.prog 64 = some false := by kernel_rfl
theorem ty64_6 : hasZero Try.prog 64 2 = true := by kernel_rfl
theorem ty64_7 : placesT Try.prog 64 = none := by kernel_rfl
theorem ty65_0 : isAggT Try.prog 65 = some false := by kernel_rfl
theorem ty65_1 : sizeT Try.prog 65 = some 1 := by kernel_rfl
theorem ty65_2 : bytesT Try.prog 65 = some 8 := by kernel_rfl
theorem ty65_3 : zeroT Try.prog 65 = some (.nilfunc) := by kernel_rfl
theorem ty65_4 : isIfaceT Try.prog 65 = some false := by kernel_rfl
theorem ty65_5 : hasZero Try.prog 65 1 = true := by kernel_rfl
theorem ty66_0 : isAggT Try.prog 66 = some false := by kernel_rfl
theorem ty66_1 : sizeT Try.prog 66 = some 1 := by kernel_rfl
theorem ty66_2 : bytesT Try.prog 66 = some 8 := by kernel_rfl
theorem ty66_3 : zeroT Try.prog 66 = some (.nilfunc) := by kernel_rfl
theorem ty66_4 : isIfaceT Try.prog 66 = some false := by kernel_rfl
theorem ty66_5 : hasZero Try.prog 66 1 = true := by kernel_rfl
theorem ty67_0 : isAggT Try.prog 67 = some false := by kernel_rfl
theorem ty67_1 : sizeT Try.prog 67 = some 1 := by kernel_rfl
theorem ty67_2 : bytesT Try.prog 67 = some 8 := by kernel_rfl
theorem ty67_3 : zeroT Try.prog 67 = some (.nilfunc) := by kernel_rfl
theorem ty67_4 : isIfaceT Try.prog 67 = some false := by kernel_rfl
theorem ty67_5 : hasZero Try.prog 67 1 = true := by kernel_rfl
theorem ty68_0 : isAggT Try.prog 68 = some false := by kernel_rfl
theorem ty68_1 : sizeT Try.prog 68 = some 1 := by kernel_rfl
theorem ty68_2 : bytesT Try.prog 68 = some 8 := by kernel_rfl
theorem ty68_3 : zeroT Try.prog 68 = some (.nilfunc) := by kernel_rfl
theorem ty68_4 : isIfaceT Try.prog 68 = some false := by kernel_rfl
theorem ty68_5 : hasZero Try.prog 68 1 = true := by kernel_rfl
theorem ty69_0 : isAggT Try.prog 69 = some false := by kernel_rfl
theorem ty69_1 : sizeT Try.prog 69 = some 1 := by kernel_rfl
theorem ty69_2 : bytesT Try.prog 69 = some 8 := by kernel_rfl
theorem ty69_3 : zeroT Try.prog 69 = some (.nilfunc) := by kernel_rfl
theorem ty69_4 : isIfaceT Try.prog 69 = some false := by kernel_rfl
theorem ty69_5 : hasZero Try.prog 69 1 = true := by kernel_rfl
theorem ty70_0 : isAggT Try.prog 70 = some false := by kernel_rfl
theorem ty70_1 : sizeT Try.prog 70 = some 1 := by kernel_rfl
theorem ty70_2 : bytesT Try.prog 70 = some 8 := by kernel_rfl
theorem ty70_3 : zeroT Try.prog 70 = some (.nilfunc) := by kernel_rfl
theorem ty70_4 : isIfaceT Try.prog 70 = some false := by kernel_rfl
theorem ty70_5 : hasZero Try.prog 70 1 = true := by kernel_rfl
theorem ty71_0 : isAggT Try.prog 71 = some false := by kernel_rfl
theorem ty71_1 : sizeT Try.prog 71 = some 1 := by kernel_rfl
theorem ty71_2 : bytesT Try.prog 71 = some 8 := by kernel_rfl
theorem ty71_3 : zeroT Try.prog 71 = some (.nilfunc) := by kernel_rfl
theorem ty71_4 : isIfaceT Try.prog 71 = some false := by kernel_rfl
theorem ty71_5 : hasZero Try.prog 71 1 = true := by kernel_rfl
theorem ty72_0 : isAggT Try.prog 72 = some false := by kernel_rfl
theorem ty72_1 : sizeT Try.prog 72 = some 1 := by kernel_rfl
theorem ty72_2 : bytesT Try.prog 72 = some 4 := by kernel_rfl
theorem ty72_3 : zeroT Try.prog 72 = some (.int .u32 0) := by kernel_rfl
theorem ty72_4 : isIfaceT Try.prog 72 = some false := by kernel_rfl
theorem ty72_5 : hasZero Try.prog 72 1 = true := by kernel_rfl
theorem ty73_0 : isAggT Try.prog 73 = some true := by kernel_rfl
theorem ty73_1 : sizeT Try.prog 73 = some 3 := by kernel_rfl
theorem ty73_2 : bytesT Try.prog 73 = some 32 := by kernel_rfl
theorem ty73_3 : zeroT Try.prog 73 = some (.agg [.int .u8 0, .int .u32 0, .nilslice]) := by kernel_rfl
theorem ty73_4 : fieldT Try.prog 73 0 = some (0, 5) := by kernel_rfl
theorem ty73_5 : fieldT Try.prog 73 1 = some (1, 72) := by kernel_rfl
theorem ty73_6 : fieldT Try.prog 73 2 = some (2, 58) := by kernel_rfl
theorem ty73_7 : isIfaceT Try.prog 73 = some false := by kernel_rfl
theorem ty73_8 : hasZero Try.prog 73 3 = true := by kernel_rfl
theorem ty73_9 : placesT Try.prog 73 = some [(0, 1), (1, 1), (2, 1)] := by kernel_rfl
theorem ty74_0 : isAggT Try.prog 74 = some true := by kernel_rfl
theorem ty74_1 : sizeT Try.prog 74 = some 3 := by kernel_rfl
theorem ty74_2 : bytesT Try.prog 74 = some 32 := by kernel_rfl
theorem ty74_3 : zeroT Try.prog 74 = some (.agg [.int .u8 0, .int .u32 0, .nilslice]) := by kernel_rfl
theorem ty74_4 : fieldT Try.prog 74 0 = some (0, 5) := by kernel_rfl
theorem ty74_5 : fieldT Try.prog 74 1 = some (1, 72) := by kernel_rfl
theorem ty74_6 : fieldT Try.prog 74 2 = some (2, 58) := by kernel_rfl
theorem ty74_7 : isIfaceT Try.prog 74 = some false := by kernel_rfl
theorem ty74_8 : hasZero Try.prog 74 3 = true := by kernel_rfl
theorem ty74_9 : placesT Try.prog 74 = some [(0, 1), (1, 1), (2, 1)] := by kernel_rfl
theorem ty75_0 : isAggT Try.prog 75 = some false := by kernel_rfl
theorem ty75_1 : sizeT Try.prog 75 = some 1 := by kernel_rfl
theorem ty75_2 : bytesT Try.prog 75 = some 8 := by kernel_rfl
theorem ty75_3 : zeroT Try.prog 75 = some (.nilfunc) := by kernel_rfl
theorem ty75_4 : isIfaceT Try.prog 75 = some false := by kernel_rfl
theorem ty75_5 : hasZero Try.prog 75 1 = true := by kernel_rfl
theorem ty76_0 : isAggT Try.prog 76 = some false := by kernel_rfl
theorem ty76_1 : sizeT Try.prog 76 = some 1 := by kernel_rfl
theorem ty76_2 : bytesT Try.prog 76 = some 24 := by kernel_rfl
theorem ty76_3 : zeroT Try.prog 76 = some (.nilslice) := by kernel_rfl
theorem ty76_4 : sliceT Try.prog 76 = some 84 := by kernel_rfl
theorem ty76_5 : isIfaceT Try.prog 76 = some false := by kernel_rfl
theorem ty76_6 : hasZero Try.prog 76 1 = true := by kernel_rfl
theorem ty76_7 : kindT Try.prog 76 = .slice := by kernel_rfl
theorem ty77_0 : isAggT Try.prog 77 = some true := by kernel_rfl
theorem ty77_1 : sizeT Try.prog 77 = some 7 := by kernel_rfl
theorem ty77_2 : bytesT Try.prog 77 = some 80 := by kernel_rfl
theorem ty77_3 : zeroT Try.prog 77 = some (.agg [.str ⟨#[]⟩, .int .i64 0, .int .i64 0, .int .i64 0, .int .i64 0, .int .i64 0, .nilslice]) := by kernel_rfl
theorem ty77_4 : fieldT Try.prog 77 0 = some (0, 9) := by kernel_rfl
theorem ty77_5 : fieldT Try.prog 77 1 = some (1, 3) := by kernel_rfl
theorem ty77_6 : fieldT Try.prog 77 2 = some (2, 36) := by kernel_rfl
theorem ty77_7 : fieldT Try.prog 77 3 = some (4, 36) := by kernel_rfl
theorem ty77_8 : fieldT Try.prog 77 4 = some (6, 76) := by kernel_rfl
theorem ty77_9 : isIfaceT Try.prog 77 = some false := by kernel_rfl
theorem ty77_10 : hasZero Try.prog 77 7 = true := by kernel_rfl
theorem ty77_11 : placesT Try.prog 77 = some [(0, 1), (1, 1), (2, 2), (4, 2), (6, 1)] := by kernel_rfl
theorem ty78_0 : isAggT Try.prog 78 = some true := by kernel_rfl
theorem ty78_1 : sizeT Try.prog 78 = some 7 := by kernel_rfl
theorem ty78_2 : bytesT Try.prog 78 = some 80 := by kernel_rfl
theorem ty78_3 : zeroT Try.prog 78 = some (.agg [.str ⟨#[]⟩, .int .i64 0, .int .i64 0, .int .i64 0, .int .i64 0, .int .i64 0, .nilslice]) := by kernel_rfl
theorem ty78_4 : fieldT Try.prog 78 0 = some (0, 9) := by kernel_rfl
theorem ty78_5 : fieldT Try.prog 78 1 = some (1, 3) := by kernel_rfl
theorem ty78_6 : fieldT Try.prog 78 2 = some (2, 36) := by kernel_rfl
theorem ty78_7 : fieldT Try.prog 78 3 = some (4, 36) := by kernel_rfl
theorem ty78_8 : fieldT Try.prog 78 4 = some (6, 76) := by kernel_rfl
theorem ty78_9 : isIfaceT Try.prog 78 = some false := by kernel_rfl
theorem ty78_10 : hasZero Try.prog 78 7 = true := by kernel_rfl
theorem ty78_11 : placesT Try.prog 78 = some [(0, 1), (1, 1), (2, 2), (4, 2), (6, 1)] := by kernel_rfl
theorem ty79_0 : isAggT Try.prog 79 = some false := by kernel_rfl
theorem ty79_1 : sizeT Try.prog 79 = some 1 := by kernel_rfl
theorem ty79_2 : bytesT Try.prog 79 = some 8 := by kernel_rfl
theorem ty79_3 : zeroT Try.prog 79 = some (.nilfunc) := by kernel_rfl
theorem ty79_4 : isIfaceT Try.prog 79 = some false := by kernel_rfl
theorem ty79_5 : hasZero Try.prog 79 1 = true := by kernel_rfl
theorem ty80_0 : isAggT Try.prog 80 = some false := by kernel_rfl
theorem ty80_1 : sizeT Try.prog 80 = some 1 := by kernel_rfl
theorem ty80_2 : bytesT Try.prog 80 = some 8 := by kernel_rfl
theorem ty80_3 : zeroT Try.prog 80 = some (.nilfunc) := by kernel_rfl
theorem ty80_4 : isIfaceT Try.prog 80 = some false := by kernel_rfl
theorem ty80_5 : hasZero Try.prog 80 1 = true := by kernel_rfl
theorem ty81_0 : isAggT Try.prog 81 = some false := by kernel_rfl
theorem ty81_1 : sizeT Try.prog 81 = some 1 := by kernel_rfl
theorem ty81_2 : bytesT Try.prog 81 = some 8 := by kernel_rfl
theorem ty81_3 : zeroT Try.prog 81 = some (.nilfunc) := by kernel_rfl
theorem ty81_4 : isIfaceT Try.prog 81 = some false := by kernel_rfl
theorem ty81_5 : hasZero Try.prog 81 1 = true := by kernel_rfl
theorem ty82_0 : isAggT Try.prog 82 = some false := by kernel_rfl
theorem ty82_1 : sizeT Try.prog 82 = some 1 := by kernel_rfl
theorem ty82_2 : bytesT Try.prog 82 = some 8 := by kernel_rfl
theorem ty82_3 : zeroT Try.prog 82 = some (.nilfunc) := by kernel_rfl
theorem ty82_4 : isIfaceT Try.prog 82 = some false := by kernel_rfl
theorem ty82_5 : hasZero Try.prog 82 1 = true := by kernel_rfl
theorem ty83_0 : isAggT Try.prog 83 = some true := by kernel_rfl
theorem ty83_1 : sizeT Try.prog 83 = some 2 := by kernel_rfl
theorem ty83_2 : bytesT Try.prog 83 = some 16 := by kernel_rfl
theorem ty83_3 : zeroT Try.prog 83 = some (.agg [.int .i64 0, .int .i64 0]) := by kernel_rfl
theorem ty83_4 : fieldT Try.prog 83 0 = some (0, 3) := by kernel_rfl
theorem ty83_5 : fieldT Try.prog 83 1 = some (1, 3) := by kernel_rfl
theorem ty83_6 : isIfaceT Try.prog 83 = some false := by kernel_rfl
theorem ty83_7 : hasZero Try.prog 83 2 = true := by kernel_rfl
theorem ty83_8 : placesT Try.prog 83 = some [(0, 1), (1, 1)] := by kernel_rfl
theorem ty83_9 : eqAggT Try.prog 83 = some [.int, .int] := by kernel_rfl
theorem ty84_0 : isAggT Try.prog 84 = some true := by kernel_rfl
theorem ty84_1 : sizeT Try.prog 84 = some 2 := by kernel_rfl
theorem ty84_2 : bytesT Try.prog 84 = some 16 := by kernel_rfl
theorem ty84_3 : zeroT Try.prog 84 = some (.agg [.int .i64 0, .int .i64 0]) := by kernel_rfl
theorem ty84_4 : fieldT Try.prog 84 0 = some (0, 3) := by kernel_rfl
theorem ty84_5 : fieldT Try.prog 84 1 = some (1, 3) := by kernel_rfl
theorem ty84_6 : isIfaceT Try.prog 84 = some false := by kernel_rfl
theorem ty84_7 : hasZero Try.prog 84 2 = true := by kernel_rfl
theorem ty84_8 : placesT Try.prog 84 = some [(0, 1), (1, 1)] := by kernel_rfl
theorem ty84_9 : eqAggT Try.prog 84 = some [.int, .int] := by kernel_rfl
theorem ty85_0 : isAggT Try.prog 85 = some false := by kernel_rfl
theorem ty85_1 : sizeT Try.prog 85 = some 1 := by kernel_rfl
theorem ty85_2 : bytesT Try.prog 85 = some 8 := by kernel_rfl
theorem ty85_3 : zeroT Try.prog 85 = some (.nilfunc) := by kernel_rfl
theorem ty85_4 : isIfaceT Try.prog 85 = some false := by kernel_rfl
theorem ty85_5 : hasZero Try.prog 85 1 = true := by kernel_rfl
theorem ty86_0 : isAggT Try.prog 86 = some false := by kernel_rfl
theorem ty86_1 : sizeT Try.prog 86 = some 1 := by kernel_rfl
theorem ty86_2 : bytesT Try.prog 86 = some 8 := by kernel_rfl
theorem ty86_3 : zeroT Try.prog 86 = some (.nilfunc) := by kernel_rfl
theorem ty86_4 : isIfaceT Try.prog 86 = some false := by kernel_rfl
theorem ty86_5 : hasZero Try.prog 86 1 = true := by kernel_rfl
theorem ty87_0 : isAggT Try.prog 87 = some false := by kernel_rfl
theorem ty87_1 : sizeT Try.prog 87 = some 1 := by kernel_rfl
theorem ty87_2 : bytesT Try.prog 87 = some 8 := by kernel_rfl
theorem ty87_3 : zeroT Try.prog 87 = some (.nilfunc) := by kernel_rfl
theorem ty87_4 : isIfaceT Try.prog 87 = some false := by kernel_rfl
theorem ty87_5 : hasZero Try.prog 87 1 = true := by kernel_rfl
theorem ty88_0 : isAggT Try.prog 88 = some false := by kernel_rfl
theorem ty88_1 : sizeT Try.prog 88 = some 1 := by kernel_rfl
theorem ty88_2 : bytesT Try.prog 88 = some 8 := by kernel_rfl
theorem ty88_3 : zeroT Try.prog 88 = some (.nilfunc) := by kernel_rfl
theorem ty88_4 : isIfaceT Try.prog 88 = some false := by kernel_rfl
theorem ty88_5 : hasZero Try.prog 88 1 = true := by kernel_rfl
theorem ty89_0 : isAggT Try.prog 89 = some false := by kernel_rfl
theorem ty89_1 : sizeT Try.prog 89 = some 1 := by kernel_rfl
theorem ty89_2 : bytesT Try.prog 89 = some 8 := by kernel_rfl
theorem ty89_3 : zeroT Try.prog 89 = some (.nilfunc) := by kernel_rfl
theorem ty89_4 : isIfaceT Try.prog 89 = some false := by kernel_rfl
theorem ty89_5 : hasZero Try.prog 89 1 = true := by kernel_rfl
theorem ty90_0 : isAggT Try.prog 90 = some false := by kernel_rfl
theorem ty90_1 : sizeT Try.prog 90 = some 1 := by kernel_rfl
theorem ty90_2 : bytesT Try.prog 90 = some 8 := by kernel_rfl
theorem ty90_3 : zeroT Try.prog 90 = some (.nilfunc) := by kernel_rfl
theorem ty90_4 : isIfaceT Try.prog 90 = some false := by kernel_rfl
theorem ty90_5 : hasZero Try.prog 90 1 = true := by kernel_rfl
theorem ty91_0 : isAggT Try.prog 91 = some true := by kernel_rfl
theorem ty91_1 : sizeT Try.prog 91 = some 2 := by kernel_rfl
theorem ty91_2 : bytesT Try.prog 91 = some 32 := by kernel_rfl
theorem ty91_3 : zeroT Try.prog 91 = some (.agg [.nilslice, .int .i64 0]) := by kernel_rfl
theorem ty91_4 : fieldT Try.prog 91 0 = some (0, 76) := by kernel_rfl
theorem ty91_5 : fieldT Try.prog 91 1 = some (1, 3) := by kernel_rfl
theorem ty91_6 : isIfaceT Try.prog 91 = some false := by kernel_rfl
theorem ty91_7 : hasZero Try.prog 91 2 = true := by kernel_rfl
theorem ty91_8 : placesT Try.prog 91 = some [(0, 1), (1, 1)] := by kernel_rfl
theorem ty92_0 : isAggT Try.prog 92 = some true := by kernel_rfl
theorem ty92_1 : sizeT Try.prog 92 = some 2 := by kernel_rfl
theorem ty92_2 : bytesT Try.prog 92 = some 32 := by kernel_rfl
theorem ty92_3 : zeroT Try.prog 92 = some (.agg [.nilslice, .int .i64 0]) := by kernel_rfl
theorem ty92_4 : fieldT Try.prog 92 0 = some (0, 76) := by kernel_rfl
theorem ty92_5 : fieldT Try.prog 92 1 = some (1, 3) := by kernel_rfl
theorem ty92_6 : isIfaceT Try.prog 92 = some false := by kernel_rfl
theorem ty92_7 : hasZero Try.prog 92 2 = true := by kernel_rfl
theorem ty92_8 : placesT Try.prog 92 = some [(0, 1), (1, 1)] := by kernel_rfl
theorem ty93_0 : isAggT Try.prog 93 = some false := by kernel_rfl
theorem ty93_1 : sizeT Try.prog 93 = some 1 := by kernel_rfl
theorem ty93_2 : bytesT Try.prog 93 = some 8 := by kernel_rfl
theorem ty93_3 : zeroT Try.prog 93 = some (.nilfunc) := by kernel_rfl
theorem ty93_4 : isIfaceT Try.prog 93 = some false := by kernel_rfl
theorem ty93_5 : hasZero Try.prog 93 1 = true := by kernel_rfl
theorem ty94_0 : isAggT Try.prog 94 = some false := by kernel_rfl
theorem ty94_1 : sizeT Try.prog 94 = some 1 := by kernel_rfl
theorem ty94_2 : bytesT Try.prog 94 = some 8 := by kernel_rfl
theorem ty94_3 : zeroT Try.prog 94 = some (.nilfunc) := by kernel_rfl
theorem ty94_4 : isIfaceT Try.prog 94 = some false := by kernel_rfl
theorem ty94_5 : hasZero Try.prog 94 1 = true := by kernel_rfl
theorem ty95_0 : isAggT Try.prog 95 = some false := by kernel_rfl
theorem ty95_1 : sizeT Try.prog 95 = some 1 := by kernel_rfl
theorem ty95_2 : bytesT Try.prog 95 = some 24 := by kernel_rfl
theorem ty95_3 : zeroT Try.prog 95 = some (.nilslice) := by kernel_rfl
theorem ty95_4 : sliceT Try.prog 95 = some 9 := by kernel_rfl
theorem ty95_5 : isIfaceT Try.prog 95 = some false := by kernel_rfl
theorem ty95_6 : hasZero Try.prog 95 1 = true := by kernel_rfl
theorem ty95_7 : kindT Try.prog 95 = .slice := by kernel_rfl
theorem ty96_0 : isAggT Try.prog 96 = some false := by kernel_rfl
theorem ty96_1 : sizeT Try.prog 96 = some 1 := by kernel_rfl
theorem ty96_2 : bytesT Try.prog 96 = some 8 := by kernel_rfl
theorem ty96_3 : zeroT Try.prog 96 = some (.nilfunc) := by kernel_rfl
theorem ty96_4 : isIfaceT Try.prog 96 = some false := by kernel_rfl
theorem ty96_5 : hasZero Try.prog 96 1 = true := by kernel_rfl
theorem ty97_0 : isAggT Try.prog 97 = some false := by kernel_rfl
theorem ty97_1 : sizeT Try.prog 97 = some 1 := by kernel_rfl
theorem ty97_2 : bytesT Try.prog 97 = some 8 := by kernel_rfl
theorem ty97_3 : zeroT Try.prog 97 = some (.nilfunc) := by kernel_rfl
theorem ty97_4 : isIfaceT Try.prog 97 = some false := by kernel_rfl
theorem ty97_5 : hasZero Try.prog 97 1 = true := by kernel_rfl
theorem ty98_0 : isAggT Try.prog 98 = some false := by kernel_rfl
theorem ty98_1 : sizeT Try.prog 98 = some 1 := by kernel_rfl
theorem ty98_2 : bytesT Try.prog 98 = some 8 := by kernel_rfl
theorem ty98_3 : zeroT Try.prog 98 = some (.nilfunc) := by kernel_rfl
theorem ty98_4 : isIfaceT Try.prog 98 = some false := by kernel_rfl
theorem ty98_5 : hasZero Try.prog 98 1 = true := by kernel_rfl
theorem ty99_0 : isAggT Try.prog 99 = some false := by kernel_rfl
theorem ty99_1 : sizeT Try.prog 99 = some 1 := by kernel_rfl
theorem ty99_2 : bytesT Try.prog 99 = some 8 := by kernel_rfl
theorem ty99_3 : zeroT Try.prog 99 = some (.nilfunc) := by kernel_rfl
theorem ty99_4 : isIfaceT Try.prog 99 = some false := by kernel_rfl
theorem ty99_5 : hasZero Try.prog 99 1 = true := by kernel_rfl
theorem ty100_0 : isAggT Try.prog 100 = some false := by kernel_rfl
theorem ty100_1 : sizeT Try.prog 100 = some 1 := by kernel_rfl
theorem ty100_2 : bytesT Try.prog 100 = some 8 := by kernel_rfl
theorem ty100_3 : zeroT Try.prog 100 = some (.nilfunc) := by kernel_rfl
theorem ty100_4 : isIfaceT Try.prog 100 = some false := by kernel_rfl
theorem ty100_5 : hasZero Try.prog 100 1 = true := by kernel_rfl
theorem ty101_0 : isAggT Try.prog 101 = some true := by kernel_rfl
theorem ty101_1 : sizeT Try.prog 101 = some 2 := by kernel_rfl
theorem ty101_2 : bytesT Try.prog 101 = some 16 := by kernel_rfl
theorem ty101_3 : zeroT Try.prog 101 = some (.agg [.int .i64 0, .int .i64 0]) := by kernel_rfl
theorem ty101_4 : fieldT Try.prog 101 0 = some (0, 3) := by kernel_rfl
theorem ty101_5 : fieldT Try.prog 101 1 = some (1, 3) := by kernel_rfl
theorem ty101_6 : isIfaceT Try.prog 101 = some false := by kernel_rfl
theorem ty101_7 : hasZero Try.prog 101 2 = true := by kernel_rfl
theorem ty101_8 : placesT Try.prog 101 = some [(0, 1), (1, 1)] := by kernel_rfl
theorem ty101_9 : eqAggT Try.prog 101 = some [.int, .int] := by kernel_rfl
theorem ty102_0 : isAggT Try.prog 102 = some true := by kernel_rfl
theorem ty102_1 : sizeT Try.prog 102 = some 2 := by kernel_rfl
theorem ty102_2 : bytesT Try.prog 102 = some 16 := by kernel_rfl
theorem ty102_3 : zeroT Try.prog 102 = some (.agg [.int .i64 0, .int .i64 0]) := by kernel_rfl
theorem ty102_4 : fieldT Try.prog 102 0 = some (0, 3) := by kernel_rfl
theorem ty102_5 : fieldT Try.prog 102 1 = some (1, 3) := by kernel_rfl
theorem ty102_6 : isIfaceT Try.prog 102 = some false := by kernel_rfl
theorem ty102_7 : hasZero Try.prog 102 2 = true := by kernel_rfl
theorem ty102_8 : placesT Try.prog 102 = some [(0, 1), (1, 1)] := by kernel_rfl
theorem ty102_9 : eqAggT Try.prog 102 = some [.int, .int] := by kernel_rfl
theorem ty103_0 : isAggT Try.prog 103 = some false := by kernel_rfl
theorem ty103_1 : sizeT Try.prog 103 = some 1 := by kernel_rfl
theorem ty103_2 : bytesT Try.prog 103 = some 8 := by kernel_rfl
theorem ty103_3 : zeroT Try.prog 103 = some (.nilfunc) := by kernel_rfl
theorem ty103_4 : isIfaceT Try.prog 103 = some false := by kernel_rfl
theorem ty103_5 : hasZero Try.prog 103 1 = true := by kernel_rfl
theorem ty104_0 : isAggT Try.prog 104 = some false := by kernel_rfl
theorem ty104_1 : sizeT Try.prog 104 = some 1 := by kernel_rfl
theorem ty104_2 : bytesT Try.prog 104 = some 0 := by kernel_rfl
theorem ty104_3 : isIfaceT Try.prog 104 = some false := by kernel_rfl
theorem ty104_4 : hasZero Try.prog 104 1 = true := by kernel_rfl
theorem ty105_0 : isAggT Try.prog 105 = some false := by kernel_rfl
theorem ty105_1 : sizeT Try.prog 105 = some 1 := by kernel_rfl
theorem ty105_2 : bytesT Try.prog 105 = some 8 := by kernel_rfl
theorem ty105_3 : zeroT Try.prog 105 = some (.nilfunc) := by kernel_rfl
theorem ty105_4 : isIfaceT Try.prog 105 = some false := by kernel_rfl
theorem ty105_5 : hasZero Try.prog 105 1 = true := by kernel_rfl
theorem ty106_0 : isAggT Try.prog 106 = some false := by kernel_rfl
theorem ty106_1 : sizeT Try.prog 106 = some 1 := by kernel_rfl
theorem ty106_2 : bytesT Try.prog 106 = some 24 := by kernel_rfl
theorem ty106_3 : zeroT Try.prog 106 = some (.nilslice) := by kernel_rfl
theorem ty106_4 : sliceT Try.prog 106 = some 111 := by kernel_rfl
theorem ty106_5 : isIfaceT Try.prog 106 = some false := by kernel_rfl
theorem ty106_6 : hasZero Try.prog 106 1 = true := by kernel_rfl
theorem ty106_7 : kindT Try.prog 106 = .slice := by kernel_rfl
theorem ty107_0 : isAggT Try.prog 107 = some false := by kernel_rfl
theorem ty107_1 : sizeT Try.prog 107 = some 1 := by kernel_rfl
theorem ty107_2 : bytesT Try.prog 107 = some 8 := by kernel_rfl
theorem ty107_3 : zeroT Try.prog 107 = some (.nilfunc) := by kernel_rfl
theorem ty107_4 : isIfaceT Try.prog 107 = some false := by kernel_rfl
theorem ty107_5 : hasZero Try.prog 107 1 = true := by kernel_rfl
theorem ty108_0 : isAggT Try.prog 108 = some false := by kernel_rfl
theorem ty108_1 : sizeT Try.prog 108 = some 1 := by kernel_rfl
theorem ty108_2 : bytesT Try.prog 108 = some 8 := by kernel_rfl
theorem ty108_3 : zeroT Try.prog 108 = some (.nilfunc) := by kernel_rfl
theorem ty108_4 : isIfaceT Try.prog 108 = some false := by kernel_rfl
theorem ty108_5 : hasZero Try.prog 108 1 = true := by kernel_rfl
theorem ty109_0 : isAggT Try.prog 109 = some false := by kernel_rfl
theorem ty109_1 : sizeT Try.prog 109 = some 1 := by kernel_rfl
theorem ty109_2 : bytesT Try.prog 109 = some 8 := by kernel_rfl
theorem ty109_3 : zeroT Try.prog 109 = some (.nilfunc) := by kernel_rfl
theorem ty109_4 : isIfaceT Try.prog 109 = some false := by kernel_rfl
theorem ty109_5 : hasZero Try.prog 109 1 = true := by kernel_rfl
theorem ty110_0 : isAggT Try.prog 110 = some true := by kernel_rfl
theorem ty110_1 : sizeT Try.prog 110 = some 8 := by kernel_rfl
theorem ty110_2 : bytesT Try.prog 110 = some 88 := by kernel_rfl
theorem ty110_3 : zeroT Try.prog 110 = some (.agg [.str ⟨#[]⟩, .int .i64 0, .int .i64 0, .int .i64 0, .int .i64 0, .int .i64 0, .nilslice, .int .i64 0]) := by kernel_rfl
theorem ty110_4 : fieldT Try.prog 110 0 = some (0, 78) := by kernel_rfl
theorem ty110_5 : fieldT Try.prog 110 1 = some (7, 3) := by kernel_rfl
theorem ty110_6 : isIfaceT Try.prog 110 = some false := by kernel_rfl
theorem ty110_7 : hasZero Try.prog 110 8 = true := by kernel_rfl
theorem ty110_8 : placesT Try.prog 110 = some [(0, 7), (7, 1)] := by kernel_rfl
theorem ty111_0 : isAggT Try.prog 111 = some true := by kernel_rfl
theorem ty111_1 : sizeT Try.prog 111 = some 8 := by kernel_rfl
theorem ty111_2 : bytesT Try.prog 111 = some 88 := by kernel_rfl
theorem ty111_3 : zeroT Try.prog 111 = some (.agg [.str ⟨#[]⟩, .int .i64 0, .int .i64 0, .int .i64 0, .int .i64 0, .int .i64 0, .nilslice, .int .i64 0]) := by kernel_rfl
theorem ty111_4 : fieldT Try.prog 111 0 = some (0, 78) := by kernel_rfl
theorem ty111_5 : fieldT Try.prog 111 1 = some (7, 3) := by kernel_rfl
theorem ty111_6 : isIfaceT Try.prog 111 = some false := by kernel_rfl
theorem ty111_7 : hasZero Try.prog 111 8 = true := by kernel_rfl
theorem ty111_8 : placesT Try.prog 111 = some [(0, 7), (7, 1)] := by kernel_rfl
theorem ty112_0 : isAggT Try.prog 112 = some false := by kernel_rfl
theorem ty112_1 : sizeT Try.prog 112 = some 1 := by kernel_rfl
theorem ty112_2 : bytesT Try.prog 112 = some 8 := by kernel_rfl
theorem ty112_3 : zeroT Try.prog 112 = some (.nilfunc) := by kernel_rfl
theorem ty112_4 : isIfaceT Try.prog 112 = some false := by kernel_rfl
theorem ty112_5 : hasZero Try.prog 112 1 = true := by kernel_rfl
theorem ty113_0 : isAggT Try.prog 113 = some false := by kernel_rfl
theorem ty113_1 : sizeT Try.prog 113 = some 1 := by kernel_rfl
theorem ty113_2 : bytesT Try.prog 113 = some 8 := by kernel_rfl
theorem ty113_3 : zeroT Try.prog 113 = some (.nilfunc) := by kernel_rfl
theorem ty113_4 : isIfaceT Try.prog 113 = some false := by kernel_rfl
theorem ty113_5 : hasZero Try.prog 113 1 = true := by kernel_rfl
theorem ty114_0 : isAggT Try.prog 114 = some false := by kernel_rfl
theorem ty114_1 : sizeT Try.prog 114 = some 1 := by kernel_rfl
theorem ty114_2 : bytesT Try.prog 114 = some 8 := by kernel_rfl
theorem ty114_3 : zeroT Try.prog 114 = some (.nilfunc) := by kernel_rfl
theorem ty114_4 : isIfaceT Try.prog 114 = some false := by kernel_rfl
theorem ty114_5 : hasZero Try.prog 114 1 = true := by kernel_rfl
theorem ty115_0 : isAggT Try.prog 115 = some false := by kernel_rfl
theorem ty115_1 : sizeT Try.prog 115 = some 1 := by kernel_rfl
theorem ty115_2 : bytesT Try.prog 115 = some 8 := by kernel_rfl
theorem ty115_3 : zeroT Try.prog 115 = some (.nilfunc) := by kernel_rfl
theorem ty115_4 : isIfaceT Try.prog 115 = some false := by kernel_rfl
theorem ty115_5 : hasZero Try.prog 115 1 = true := by kernel_rfl
theorem ty116_0 : isAggT Try.prog 116 = some false := by kernel_rfl
theorem ty116_1 : sizeT Try.prog 116 = some 1 := by kernel_rfl
theorem ty116_2 : bytesT Try.prog 116 = some 8 := by kernel_rfl
theorem ty116_3 : zeroT Try.prog 116 = some (.nilfunc) := by kernel_rfl
theorem ty116_4 : isIfaceT Try.prog 116 = some false := by kernel_rfl
theorem ty116_5 : hasZero Try.prog 116 1 = true := by kernel_rfl
theorem ty117_0 : isAggT Try.prog 117 = some false := by kernel_rfl
theorem ty117_1 : sizeT Try.prog 117 = some 1 := by kernel_rfl
theorem ty117_2 : bytesT Try.prog 117 = some 8 := by kernel_rfl
theorem ty117_3 : zeroT Try.prog 117 = some (.nilfunc) := by kernel_rfl
theorem ty117_4 : isIfaceT Try.prog 117 = some false := by kernel_rfl
theorem ty117_5 : hasZero Try.prog 117 1 = true := by kernel_rfl
theorem ty118_0 : isAggT Try.prog 118 = some false := by kernel_rfl
theorem ty118_1 : sizeT Try.prog 118 = some 1 := by kernel_rfl
theorem ty118_2 : bytesT Try.prog 118 = some 8 := by kernel_rfl
theorem ty118_3 : zeroT Try.prog 118 = some (.nilfunc) := by kernel_rfl
theorem ty118_4 : isIfaceT Try.prog 118 = some false := by kernel_rfl
theorem ty118_5 : hasZero Try.prog 118 1 = true := by kernel_rfl
theorem ty119_0 : isAggT Try.prog 119 = some false := by kernel_rfl
theorem ty119_1 : sizeT Try.prog 119 = some 1 := by kernel_rfl
theorem ty119_2 : bytesT Try.prog 119 = some 24 := by kernel_rfl
theorem ty119_3 : zeroT Try.prog 119 = some (.nilslice) := by kernel_rfl
theorem ty119_4 : sliceT Try.prog 119 = some 31 := by kernel_rfl
theorem ty119_5 : isIfaceT Try.prog 119 = some false := by kernel_rfl
theorem ty119_6 : hasZero Try.prog 119 1 = true := by kernel_rfl
theorem ty119_7 : kindT Try.prog 119 = .slice := by kernel_rfl
theorem ty120_0 : isAggT Try.prog 120 = some false := by kernel_rfl
theorem ty120_1 : sizeT Try.prog 120 = some 1 := by kernel_rfl
theorem ty120_2 : bytesT Try.prog 120 = some 8 := by kernel_rfl
theorem ty120_3 : zeroT Try.prog 120 = some (.nilfunc) := by kernel_rfl
theorem ty120_4 : isIfaceT Try.prog 120 = some false := by kernel_rfl
theorem ty120_5 : hasZero Try.prog 120 1 = true := by kernel_rfl
theorem ty121_0 : isAggT Try.prog 121 = some false := by kernel_rfl
theorem ty121_1 : sizeT Try.prog 121 = some 1 := by kernel_rfl
theorem ty121_2 : bytesT Try.prog 121 = some 8 := by kernel_rfl
theorem ty121_3 : zeroT Try.prog 121 = some (.nilfunc) := by kernel_rfl
theorem ty121_4 : isIfaceT Try.prog 121 = some false := by kernel_rfl
theorem ty121_5 : hasZero Try.prog 121 1 = true := by kernel_rfl
theorem ty122_0 : isAggT Try.prog 122 = some false := by kernel_rfl
theorem ty122_1 : sizeT Try.prog 122 = some 1 := by kernel_rfl
theorem ty122_2 : bytesT Try.prog 122 = some 8 := by kernel_rfl
theorem ty122_3 : zeroT Try.prog 122 = some (.nilfunc) := by kernel_rfl
theorem ty122_4 : isIfaceT Try.prog 122 = some false := by kernel_rfl
theorem ty122_5 : hasZero Try.prog 122 1 = true := by kernel_rfl
theorem ty123_0 : isAggT Try.prog 123 = some false := by kernel_rfl
theorem ty123_1 : sizeT Try.prog 123 = some 1 := by kernel_rfl
theorem ty123_2 : bytesT Try.prog 123 = some 8 := by kernel_rfl
theorem ty123_3 : zeroT Try.prog 123 = some (.nilfunc) := by kernel_rfl
theorem ty123_4 : isIfaceT Try.prog 123 = some false := by kernel_rfl
theorem ty123_5 : hasZero Try.prog 123 1 = true := by kernel_rfl
theorem ty124_0 : isAggT Try.prog 124 = some false := by kernel_rfl
theorem ty124_1 : sizeT Try.prog 124 = some 1 := by kernel_rfl
theorem ty124_2 : bytesT Try.prog 124 = some 2 := by kernel_rfl
theorem ty124_3 : zeroT Try.prog 124 = some (.int .u16 0) := by kernel_rfl
theorem ty124_4 : isIfaceT Try.prog 124 = some false := by kernel_rfl
theorem ty124_5 : hasZero Try.prog 124 1 = true := by kernel_rfl
theorem ty125_0 : isAggT Try.prog 125 = some false := by kernel_rfl
theorem ty125_1 : sizeT Try.prog 125 = some 1 := by kernel_rfl
theorem ty125_2 : bytesT Try.prog 125 = some 8 := by kernel_rfl
theorem ty125_3 : zeroT Try.prog 125 = some (.nilfunc) := by kernel_rfl
theorem ty125_4 : isIfaceT Try.prog 125 = some false := by kernel_rfl
theorem ty125_5 : hasZero Try.prog 125 1 = true := by kernel_rfl
theorem ty126_0 : isAggT Try.prog 126 = some false := by kernel_rfl
theorem ty126_1 : sizeT Try.prog 126 = some 1 := by kernel_rfl
theorem ty126_2 : bytesT Try.prog 126 = some 8 := by kernel_rfl
theorem ty126_3 : zeroT Try.prog 126 = some (.nilfunc) := by kernel_rfl
theorem ty126_4 : isIfaceT Try.prog 126 = some false := by kernel_rfl
theorem ty126_5 : hasZero Try.prog 126 1 = true := by kernel_rfl
theorem ty127_0 : isAggT Try.prog 127 = some false := by kernel_rfl
theorem ty127_1 : sizeT Try.prog 127 = some 1 := by kernel_rfl
theorem ty127_2 : bytesT Try.prog 127 = some 8 := by kernel_rfl
theorem ty127_3 : zeroT Try.prog 127 = some (.nilfunc) := by kernel_rfl
theorem ty127_4 : isIfaceT Try.prog 127 = some false := by kernel_rfl
theorem ty127_5 : hasZero Try.prog 127 1 = true := by kernel_rfl
theorem ty128_0 : isAggT Try.prog 128 = some false := by kernel_rfl
theorem ty128_1 : sizeT Try.prog 128 = some 1 := by kernel_rfl
theorem ty128_2 : bytesT Try.prog 128 = some 8 := by kernel_rfl
theorem ty128_3 : zeroT Try.prog 128 = some (.nilfunc) := by kernel_rfl
theorem ty128_4 : isIfaceT Try.prog 128 = some false := by kernel_rfl
theorem ty128_5 : hasZero Try.prog 128 1 = true := by kernel_rfl
theorem ty129_0 : isAggT Try.prog 129 = some true := by kernel_rfl
theorem ty129_1 : sizeT Try.prog 129 = some 5 := by kernel_rfl
theorem ty129_2 : bytesT Try.prog 129 = some 40 := by kernel_rfl
theorem ty129_3 : zeroT Try.prog 129 = some (.agg [.int .i64 0, .int .i64 0, .int .i64 0, .int .i64 0, .int .i64 0]) := by kernel_rfl
theorem ty129_4 : arrayT Try.prog 129 = some (5, 3) := by kernel_rfl
theorem ty129_5 : isIfaceT Try.prog 129 = some false := by kernel_rfl
theorem ty129_6 : hasZero Try.prog 129 5 = true := by kernel_rfl
theorem ty129_7 : placesT Try.prog 129 = none := by kernel_rfl
theorem ty130_0 : isAggT Try.prog 130 = some true := by kernel_rfl
theorem ty130_1 : sizeT Try.prog 130 = some 5 := by kernel_rfl
theorem ty130_2 : bytesT Try.prog 130 = some 40 := by kernel_rfl
theorem ty130_3 : zeroT Try.prog 130 = some (.agg [.nilfunc, .nilfunc, .nilfunc, .nilfunc, .nilfunc]) := by kernel_rfl
theorem ty130_4 : arrayT Try.prog 130 = some (5, 109) := by kernel_rfl
theorem ty130_5 : isIfaceT Try.prog 130 = some false := by kernel_rfl
theorem ty130_6 : hasZero Try.prog 130 5 = true := by kernel_rfl
theorem ty130_7 : placesT Try.prog 130 = none := by kernel_rfl
theorem ty131_0 : isAggT Try.prog 131 = some false := by kernel_rfl
theorem ty131_1 : sizeT Try.prog 131 = some 1 := by kernel_rfl
theorem ty131_2 : bytesT Try.prog 131 = some 8 := by kernel_rfl
theorem ty131_3 : zeroT Try.prog 131 = some (.nilfunc) := by kernel_rfl
theorem ty131_4 : isIfaceT Try.prog 131 = some false := by kernel_rfl
theorem ty131_5 : hasZero Try.prog 131 1 = true := by kernel_rfl
theorem ty132_0 : isAggT Try.prog 132 = some false := by kernel_rfl
theorem ty132_1 : sizeT Try.prog 132 = some 1 := by kernel_rfl
theorem ty132_2 : bytesT Try.prog 132 = some 8 := by kernel_rfl
theorem ty132_3 : zeroT Try.prog 132 = some (.nilfunc) := by kernel_rfl
theorem ty132_4 : isIfaceT Try.prog 132 = some false := by kernel_rfl
theorem ty132_5 : hasZero Try.prog 132 1 = true := by kernel_rfl
theorem ty133_0 : isAggT Try.prog 133 = some false := by kernel_rfl
theorem ty133_1 : sizeT Try.prog 133 = some 1 := by kernel_rfl
theorem ty133_2 : bytesT Try.prog 133 = some 8 := by kernel_rfl
theorem ty133_3 : zeroT Try.prog 133 = some (.nilfunc) := by kernel_rfl
theorem ty133_4 : isIfaceT Try.prog 133 = some false := by kernel_rfl
theorem ty133_5 : hasZero Try.prog 133 1 = true := by kernel_rfl
theorem ty134_0 : isAggT Try.prog 134 = some false := by kernel_rfl
theorem ty134_1 : sizeT Try.prog 134 = some 1 := by kernel_rfl
theorem ty134_2 : bytesT Try.prog 134 = some 8 := by kernel_rfl
theorem ty134_3 : zeroT Try.prog 134 = some (.nilfunc) := by kernel_rfl
theorem ty134_4 : isIfaceT Try.prog 134 = some false := by kernel_rfl
theorem ty134_5 : hasZero Try.prog 134 1 = true := by kernel_rfl
theorem ty135_0 : isAggT Try.prog 135 = some false := by kernel_rfl
theorem ty135_1 : sizeT Try.prog 135 = some 1 := by kernel_rfl
theorem ty135_2 : bytesT Try.prog 135 = some 8 := by kernel_rfl
theorem ty135_3 : zeroT Try.prog 135 = some (.nilfunc) := by kernel_rfl
theorem ty135_4 : isIfaceT Try.prog 135 = some false := by kernel_rfl
theorem ty135_5 : hasZero Try.prog 135 1 = true := by kernel_rfl
theorem ty136_0 : isAggT Try.prog 136 = some false := by kernel_rfl
theorem ty136_1 : sizeT Try.prog 136 = some 1 := by kernel_rfl
theorem ty136_2 : bytesT Try.prog 136 = some 8 := by kernel_rfl
theorem ty136_3 : zeroT Try.prog 136 = some (.nilfunc) := by kernel_rfl
theorem ty136_4 : isIfaceT Try.prog 136 = some false := by kernel_rfl
theorem ty136_5 : hasZero Try.prog 136 1 = true := by kernel_rfl
theorem ty137_0 : isAggT Try.prog 137 = some false := by kernel_rfl
theorem ty137_1 : sizeT Try.prog 137 = some 1 := by kernel_rfl
theorem ty137_2 : bytesT Try.prog 137 = some 8 := by kernel_rfl
theorem ty137_3 : zeroT Try.prog 137 = some (.nilfunc) := by kernel_rfl
theorem ty137_4 : isIfaceT Try.prog 137 = some false := by kernel_rfl
theorem ty137_5 : hasZero Try.prog 137 1 = true := by kernel_rfl
theorem ty138_0 : isAggT Try.prog 138 = some false := by kernel_rfl
theorem ty138_1 : sizeT Try.prog 138 = some 1 := by kernel_rfl
theorem ty138_2 : bytesT Try.prog 138 = some 8 := by kernel_rfl
theorem ty138_3 : zeroT Try.prog 138 = some (.int .u64 0) := by kernel_rfl
theorem ty138_4 : isIfaceT Try.prog 138 = some false := by kernel_rfl
theorem ty138_5 : hasZero Try.prog 138 1 = true := by kernel_rfl
theorem ty139_0 : isAggT Try.prog 139 = some false := by kernel_rfl
theorem ty139_1 : sizeT Try.prog 139 = some 1 := by kernel_rfl
theorem ty139_2 : bytesT Try.prog 139 = some 8 := by kernel_rfl
theorem ty139_3 : zeroT Try.prog 139 = some (.nilfunc) := by kernel_rfl
theorem ty139_4 : isIfaceT Try.prog 139 = some false := by kernel_rfl
theorem ty139_5 : hasZero Try.prog 139 1 = true := by kernel_rfl
theorem ty140_0 : isAggT Try.prog 140 = some true := by kernel_rfl
theorem ty140_1 : sizeT Try.prog 140 = some 4 := by kernel_rfl
theorem ty140_2 : bytesT Try.prog 140 = some 40 := by kernel_rfl
theorem ty140_3 : zeroT Try.prog 140 = some (.agg [.nilptr, .nilptr, .nilptr, .str ⟨#[]⟩]) := by kernel_rfl
theorem ty140_4 : fieldT Try.prog 140 0 = some (0, 17) := by kernel_rfl
theorem ty140_5 : fieldT Try.prog 140 1 = some (1, 17) := by kernel_rfl
theorem ty140_6 : fieldT Try.prog 140 2 = some (2, 17) := by kernel_rfl
theorem ty140_7 : fieldT Try.prog 140 3 = some (3, 9) := by kernel_rfl
theorem ty140_8 : isIfaceT Try.prog 140 = some false := by kernel_rfl
theorem ty140_9 : hasZero Try.prog 140 4 = true := by kernel_rfl
theorem ty140_10 : placesT Try.prog 140 = some [(0, 1), (1, 1), (2, 1), (3, 1)] := by kernel_rfl
theorem ty141_0 : isAggT Try.prog 141 = some true := by kernel_rfl
theorem ty141_1 : sizeT Try.prog 141 = some 4 := by kernel_rfl
theorem ty141_2 : bytesT Try.prog 141 = some 40 := by kernel_rfl
theorem ty141_3 : zeroT Try.prog 141 = some (.agg [.nilptr, .nilptr, .nilptr, .str ⟨#[]⟩]) := by kernel_rfl
theorem ty141_4 : fieldT Try.prog 141 0 = some (0, 17) := by kernel_rfl
theorem ty141_5 : fieldT Try.prog 141 1 = some (1, 17) := by kernel_rfl
theorem ty141_6 : fieldT Try.prog 141 2 = some (2, 17) := by kernel_rfl
theorem ty141_7 : fieldT Try.prog 141 3 = some (3, 9) := by kernel_rfl
theorem ty141_8 : isIfaceT Try.prog 141 = some false := by kernel_rfl
theorem ty141_9 : hasZero Try.prog 141 4 = true := by kernel_rfl
theorem ty141_10 : placesT Try.prog 141 = some [(0, 1), (1, 1), (2, 1), (3, 1)] := by kernel_rfl
theorem ty142_0 : isAggT Try.prog 142 = some true := by kernel_rfl
theorem ty142_1 : sizeT Try.prog 142 = some 0 := by kernel_rfl
theorem ty142_2 : bytesT Try.prog 142 = some 0 := by kernel_rfl
theorem ty142_3 : zeroT Try.prog 142 = some (.agg []) := by kernel_rfl
theorem ty142_4 : arrayT Try.prog 142 = some (0, 16) := by kernel_rfl
theorem ty142_5 : isIfaceT Try.prog 142 = some false := by kernel_rfl
theorem ty142_6 : hasZero Try.prog 142 0 = true := by kernel_rfl
theorem ty142_7 : placesT Try.prog 142 = none := by kernel_rfl
theorem ty143_0 : isAggT Try.prog 143 = some true := by kernel_rfl
theorem ty143_1 : sizeT Try.prog 143 = some 0 := by kernel_rfl
theorem ty143_2 : bytesT Try.prog 143 = some 0 := by kernel_rfl
theorem ty143_3 : zeroT Try.prog 143 = some (.agg []) := by kernel_rfl
theorem ty143_4 : fieldT Try.prog 143 0 = some (0, 142) := by kernel_rfl
theorem ty143_5 : isIfaceT Try.prog 143 = some false := by kernel_rfl
theorem ty143_6 : hasZero Try.prog 143 0 = true := by kernel_rfl
theorem ty143_7 : placesT Try.prog 143 = some [(0, 0)] := by kernel_rfl
theorem ty144_0 : isAggT Try.prog 144 = some true := by kernel_rfl
theorem ty144_1 : sizeT Try.prog 144 = some 0 := by kernel_rfl
theorem ty144_2 : bytesT Try.prog 144 = some 0 := by kernel_rfl
theorem ty144_3 : zeroT Try.prog 144 = some (.agg []) := by kernel_rfl
theorem ty144_4 : fieldT Try.prog 144 0 = some (0, 142) := by kernel_rfl
theorem ty144_5 : isIfaceT Try.prog 144 = some false := by kernel_rfl
theorem ty144_6 : hasZero Try.prog 144 0 = true := by kernel_rfl
theorem ty144_7 : placesT Try.prog 144 = some [(0, 0)] := by kernel_rfl
theorem ty145_0 : isAggT Try.prog 145 = some false := by kernel_rfl
theorem ty145_1 : sizeT Try.prog 145 = some 1 := by kernel_rfl
theorem ty145_2 : bytesT Try.prog 145 = some 1 := by kernel_rfl
theorem ty145_3 : zeroT Try.prog 145 = some (.int .u8 0) := by kernel_rfl
theorem ty145_4 : isIfaceT Try.prog 145 = some false := by kernel_rfl
theorem ty145_5 : hasZero Try.prog 145 1 = true := by kernel_rfl
theorem ty146_0 : isAggT Try.prog 146 = some false := by kernel_rfl
theorem ty146_1 : sizeT Try.prog 146 = some 1 := by kernel_rfl
theorem ty146_2 : bytesT Try.prog 146 = some 1 := by kernel_rfl
theorem ty146_3 : zeroT Try.prog 146 = some (.int .u8 0) := by kernel_rfl
theorem ty146_4 : isIfaceT Try.prog 146 = some false := by kernel_rfl
theorem ty146_5 : hasZero Try.prog 146 1 = true := by kernel_rfl
theorem ty147_0 : isAggT Try.prog 147 = some false := by kernel_rfl
theorem ty147_1 : sizeT Try.prog 147 = some 1 := by kernel_rfl
theorem ty147_2 : bytesT Try.prog 147 = some 8 := by kernel_rfl
theorem ty147_3 : zeroT Try.prog 147 = some (.nilfunc) := by kernel_rfl
theorem ty147_4 : isIfaceT Try.prog 147 = some false := by kernel_rfl
theorem ty147_5 : hasZero Try.prog 147 1 = true := by kernel_rfl
theorem ty148_0 : isAggT Try.prog 148 = some false := by kernel_rfl
theorem ty148_1 : sizeT Try.prog 148 = some 1 := by kernel_rfl
theorem ty148_2 : bytesT Try.prog 148 = some 8 := by kernel_rfl
theorem ty148_3 : zeroT Try.prog 148 = some (.nilptr) := by kernel_rfl
theorem ty148_4 : isIfaceT Try.prog 148 = some false := by kernel_rfl
theorem ty148_5 : hasZero Try.prog 148 1 = true := by kernel_rfl
theorem ty148_6 : kindT Try.prog 148 = .ptr := by kernel_rfl
theorem ty149_0 : isAggT Try.prog 149 = some false := by kernel_rfl
theorem ty149_1 : sizeT Try.prog 149 = some 1 := by kernel_rfl
theorem ty149_2 : bytesT Try.prog 149 = some 4 := by kernel_rfl
theorem ty149_3 : zeroT Try.prog 149 = some (.int .i32 0) := by kernel_rfl
theorem ty149_4 : isIfaceT Try.prog 149 = some false := by kernel_rfl
theorem ty149_5 : hasZero Try.prog 149 1 = true := by kernel_rfl
theorem ty150_0 : isAggT Try.prog 150 = some false := by kernel_rfl
theorem ty150_1 : sizeT Try.prog 150 = some 1 := by kernel_rfl
theorem ty150_2 : bytesT Try.prog 150 = some 4 := by kernel_rfl
theorem ty150_3 : zeroT Try.prog 150 = some (.int .i32 0) := by kernel_rfl
theorem ty150_4 : isIfaceT Try.prog 150 = some false := by kernel_rfl
theorem ty150_5 : hasZero Try.prog 150 1 = true := by kernel_rfl
theorem ty151_0 : isAggT Try.prog 151 = some true := by kernel_rfl
theorem ty151_1 : sizeT Try.prog 151 = some 11 := by kernel_rfl
theorem ty151_2 : bytesT Try.prog 151 = some 48 := by kernel_rfl
theorem ty151_3 : zeroT Try.prog 151 = some (.agg [.int .u64 0, .int .u64 0, .int .u32 0, .int .u8 0, .int .u8 0, .int .u8 0, .int .u8 0, .nilfunc, .nilptr, .int .i32 0, .int .i32 0]) := by kernel_rfl
theorem ty151_4 : fieldT Try.prog 151 0 = some (0, 12) := by kernel_rfl
theorem ty151_5 : fieldT Try.prog 151 1 = some (1, 12) := by kernel_rfl
theorem ty151_6 : fieldT Try.prog 151 2 = some (2, 72) := by kernel_rfl
theorem ty151_7 : fieldT Try.prog 151 3 = some (3, 145) := by kernel_rfl
theorem ty151_8 : fieldT Try.prog 151 4 = some (4, 5) := by kernel_rfl
theorem ty151_9 : fieldT Try.prog 151 5 = some (5, 5) := by kernel_rfl
theorem ty151_10 : fieldT Try.prog 151 6 = some (6, 146) := by kernel_rfl
theorem ty151_11 : fieldT Try.prog 151 7 = some (7, 147) := by kernel_rfl
theorem ty151_12 : fieldT Try.prog 151 8 = some (8, 148) := by kernel_rfl
theorem ty151_13 : fieldT Try.prog 151 9 = some (9, 149) := by kernel_rfl
theorem ty151_14 : fieldT Try.prog 151 10 = some (10, 150) := by kernel_rfl
theorem ty151_15 : isIfaceT Try.prog 151 = some false := by kernel_rfl
theorem ty151_16 : hasZero Try.prog 151 11 = true := by kernel_rfl
theorem ty151_17 : placesT Try.prog 151 = some [(0, 1), (1, 1), (2, 1), (3, 1), (4, 1), (5, 1), (6, 1), (7, 1), (8, 1), (9, 1), (10, 1)] := by kernel_rfl
theorem ty152_0 : isAggT Try.prog 152 = some true := by kernel_rfl
theorem ty152_1 : sizeT Try.prog 152 = some 11 := by kernel_rfl
theorem ty152_2 : bytesT Try.prog 152 = some 48 := by kernel_rfl
theorem ty152_3 : zeroT Try.prog 152 = some (.agg [.int .u64 0, .int .u64 0, .int .u32 0, .int .u8 0, .int .u8 0, .int .u8 0, .int .u8 0, .nilfunc, .nilptr, .int .i32 0, .int .i32 0]) := by kernel_rfl
theorem ty152_4 : fieldT Try.prog 152 0 = some (0, 12) := by kernel_rfl
theorem ty152_5 : fieldT Try.prog 152 1 = some (1, 12) := by kernel_rfl
theorem ty152_6 : fieldT Try.prog 152 2 = some (2, 72) := by kernel_rfl
theorem ty152_7 : fieldT Try.prog 152 3 = some (3, 145) := by kernel_rfl
theorem ty152_8 : fieldT Try.prog 152 4 = some (4, 5) := by kernel_rfl
theorem ty152_9 : fieldT Try.prog 152 5 = some (5, 5) := by kernel_rfl
theorem ty152_10 : fieldT Try.prog 152 6 = some (6, 146) := by kernel_rfl
theorem ty152_11 : fieldT Try.prog 152 7 = some (7, 147) := by kernel_rfl
theorem ty152_12 : fieldT Try.prog 152 8 = some (8, 148) := by kernel_rfl
theorem ty152_13 : fieldT Try.prog 152 9 = some (9, 149) := by kernel_rfl
theorem ty152_14 : fieldT Try.prog 152 10 = some (10, 150) := by kernel_rfl
theorem ty152_15 : isIfaceT Try.prog 152 = some false := by kernel_rfl
theorem ty152_16 : hasZero Try.prog 152 11 = true := by kernel_rfl
theorem ty152_17 : placesT Try.prog 152 = some [(0, 1), (1, 1), (2, 1), (3, 1), (4, 1), (5, 1), (6, 1), (7, 1), (8, 1), (9, 1), (10, 1)] := by kernel_rfl
theorem ty153_0 : isAggT Try.prog 153 = some false := by kernel_rfl
theorem ty153_1 : sizeT Try.prog 153 = some 1 := by kernel_rfl
theorem ty153_2 : bytesT Try.prog 153 = some 8 := by kernel_rfl
theorem ty153_3 : zeroT Try.prog 153 = some (.nilptr) := by kernel_rfl
theorem ty153_4 : isIfaceT Try.prog 153 = some false := by kernel_rfl
theorem ty153_5 : hasZero Try.prog 153 1 = true := by kernel_rfl
theorem cv5_3 : convIntT Try.prog 5 3 = some .i64 := by kernel_rfl
theorem cv72_3 : convIntT Try.prog 72 3 = some .i64 := by kernel_rfl
theorem cv124_3 : convIntT Try.prog 124 3 = some .i64 := by kernel_rfl
theorem cv3_138 : convIntT Try.prog 3 138 = some .u64 := by kernel_rfl
theorem cv138_3 : convIntT Try.prog 138 3 = some .i64 := by kernel_rfl
attribute [go_sem] ty0_0 ty0_1 ty0_2 ty0_3 ty0_4 ty0_5 ty1_0 ty1_1 ty1_2 ty1_3 ty1_4 ty1_5 ty2_0 ty2_1 ty2_2 ty2_3 ty2_4 ty2_5 ty3_0 ty3_1 ty3_2 ty3_3 ty3_4 ty3_5 ty4_0 ty4_1 ty4_2 ty4_3 ty4_4 ty4_5 ty4_6 ty5_0 ty5_1 ty5_2 ty5_3 ty5_4 ty5_5 ty6_0 ty6_1 ty6_2 ty6_3 ty6_4 ty6_5 ty7_0 ty7_1 ty7_2 ty7_3 ty7_4 ty7_5 ty7_6 ty7_7 ty7_8 ty7_9 ty7_10 ty7_11 ty8_0 ty8_1 ty8_2 ty8_3 ty8_4 ty8_5 ty8_6 ty8_7 ty8_8 ty8_9 ty8_10 ty8_11 ty9_0 ty9_1 ty9_2 ty9_3 ty9_4 ty9_5 ty9_6 ty10_0 ty10_1 ty10_2 ty10_3 ty10_4 ty10_5 ty10_6 ty11_0 ty11_1 ty11_2 ty11_3 ty11_4 ty11_5 ty11_6 ty12_0 ty12_1 ty12_2 ty12_3 ty12_4 ty12_5 ty13_0 ty13_1 ty13_2 ty13_3 ty13_4 ty13_5
attribute [go_sem] ty13_6 ty13_7 ty13_8 ty14_0 ty14_1 ty14_2 ty14_3 ty14_4 ty14_5 ty14_6 ty14_7 ty14_8 ty15_0 ty15_1 ty15_2 ty15_3 ty15_4 ty15_5 ty15_6 ty16_0 ty16_1 ty16_2 ty16_3 ty16_4 ty16_5 ty17_0 ty17_1 ty17_2 ty17_3 ty17_4 ty17_5 ty17_6 ty18_0 ty18_1 ty18_2 ty18_3 ty18_4 ty18_5 ty18_6 ty18_7 ty19_0 ty19_1 ty19_2 ty19_3 ty19_4 ty19_5 ty19_6 ty19_7 ty20_0 ty20_1 ty20_2 ty20_3 ty20_4 ty20_5 ty20_6 ty21_0 ty21_1 ty21_2 ty21_3 ty21_4 ty21_5 ty22_0 ty22_1 ty22_2 ty22_3 ty22_4 ty22_5 ty22_6 ty22_7 ty23_0 ty23_1 ty23_2 ty23_3 ty23_4 ty23_5 ty23_6 ty23_7 ty24_0 ty24_1 ty24_2 ty24_3 ty24_4 ty24_5 ty25_0 ty25_1 ty25_2 ty25_3 ty25_4 ty25_5 ty26_0 ty26_1 ty26_2 ty26_3 ty26_4 ty26_5 ty27_0 ty27_1 ty27_2 ty27_3 ty27_4
attribute [go_sem] ty27_5 ty28_0 ty28_1 ty28_2 ty28_3 ty28_4 ty28_5 ty29_0 ty29_1 ty29_2 ty29_3 ty29_4 ty29_5 ty30_0 ty30_1 ty30_2 ty30_3 ty30_4 ty30_5 ty31_0 ty31_1 ty31_2 ty31_3 ty31_4 ty31_5 ty31_6 ty31_7 ty32_0 ty32_1 ty32_2 ty32_3 ty32_4 ty32_5 ty32_6 ty32_7 ty33_0 ty33_1 ty33_2 ty33_3 ty33_4 ty33_5 ty33_6 ty33_7 ty33_8 ty34_0 ty34_1 ty34_2 ty34_3 ty34_4 ty34_5 ty34_6 ty34_7 ty34_8 ty35_0 ty35_1 ty35_2 ty35_3 ty35_4 ty35_5 ty35_6 ty35_7 ty35_8 ty35_9 ty36_0 ty36_1 ty36_2 ty36_3 ty36_4 ty36_5 ty36_6 ty36_7 ty36_8 ty36_9 ty37_0 ty37_1 ty37_2 ty37_3 ty37_4 ty38_0 ty38_1 ty38_2 ty38_3 ty38_4 ty38_5 ty39_0 ty39_1 ty39_2 ty39_3 ty39_4 ty39_5 ty40_0 ty40_1 ty40_2 ty40_3 ty40_4 ty40_5 ty41_0 ty41_1 ty41_2 ty41_3
attribute [go_sem] ty41_4 ty41_5 ty42_0 ty42_1 ty42_2 ty42_3 ty42_4 ty42_5 ty43_0 ty43_1 ty43_2 ty43_3 ty43_4 ty43_5 ty44_0 ty44_1 ty44_2 ty44_3 ty44_4 ty44_5 ty44_6 ty44_7 ty45_0 ty45_1 ty45_2 ty45_3 ty45_4 ty45_5 ty45_6 ty45_7 ty45_8 ty45_9 ty46_0 ty46_1 ty46_2 ty46_3 ty46_4 ty46_5 ty46_6 ty46_7 ty46_8 ty46_9 ty47_0 ty47_1 ty47_2 ty47_3 ty47_4 ty47_5 ty47_6 ty47_7 ty47_8 ty48_0 ty48_1 ty48_2 ty48_3 ty48_4 ty48_5 ty48_6 ty48_7 ty48_8 ty49_0 ty49_1 ty49_2 ty49_3 ty49_4 ty49_5 ty50_0 ty50_1 ty50_2 ty50_3 ty50_4 ty50_5 ty51_0 ty51_1 ty51_2 ty51_3 ty51_4 ty51_5 ty52_0 ty52_1 ty52_2 ty52_3 ty52_4 ty53_0 ty53_1 ty53_2 ty53_3 ty53_4 ty53_5 ty54_0 ty54_1 ty54_2 ty54_3 ty54_4 ty54_5 ty55_0 ty55_1 ty55_2 ty55_3 ty55_4
attribute [go_sem] ty55_5 ty56_0 ty56_1 ty56_2 ty56_3 ty56_4 ty56_5 ty57_0 ty57_1 ty57_2 ty57_3 ty57_4 ty57_5 ty58_0 ty58_1 ty58_2 ty58_3 ty58_4 ty58_5 ty58_6 ty58_7 ty59_0 ty59_1 ty59_2 ty59_3 ty59_4 ty59_5 ty60_0 ty60_1 ty60_2 ty60_3 ty60_4 ty60_5 ty61_0 ty61_1 ty61_2 ty61_3 ty61_4 ty61_5 ty62_0 ty62_1 ty62_2 ty62_3 ty62_4 ty62_5 ty63_0 ty63_1 ty63_2 ty63_3 ty63_4 ty63_5 ty64_0 ty64_1 ty64_2 ty64_3 ty64_4 ty64_5 ty64_6 ty64_7 ty65_0 ty65_1 ty65_2 ty65_3 ty65_4 ty65_5 ty66_0 ty66_1 ty66_2 ty66_3 ty66_4 ty66_5 ty67_0 ty67_1 ty67_2 ty67_3 ty67_4 ty67_5 ty68_0 ty68_1 ty68_2 ty68_3 ty68_4 ty68_5 ty69_0 ty69_1 ty69_2 ty69_3 ty69_4 ty69_5 ty70_0 ty70_1 ty70_2 ty70_3 ty70_4 ty70_5 ty71_0 ty71_1 ty71_2 ty71_3 ty71_4
attribute [go_sem] ty71_5 ty72_0 ty72_1 ty72_2 ty72_3 ty72_4 ty72_5 ty73_0 ty73_1 ty73_2 ty73_3 ty73_4 ty73_5 ty73_6 ty73_7 ty73_8 ty73_9 ty74_0 ty74_1 ty74_2 ty74_3 ty74_4 ty74_5 ty74_6 ty74_7 ty74_8 ty74_9 ty75_0 ty75_1 ty75_2 ty75_3 ty75_4 ty75_5 ty76_0 ty76_1 ty76_2 ty76_3 ty76_4 ty76_5 ty76_6 ty76_7 ty77_0 ty77_1 ty77_2 ty77_3 ty77_4 ty77_5 ty77_6 ty77_7 ty77_8 ty77_9 ty77_10 ty77_11 ty78_0 ty78_1 ty78_2 ty78_3 ty78_4 ty78_5 ty78_6 ty78_7 ty78_8 ty78_9 ty78_10 ty78_11 ty79_0 ty79_1 ty79_2 ty79_3 ty79_4 ty79_5 ty80_0 ty80_1 ty80_2 ty80_3 ty80_4 ty80_5 ty81_0 ty81_1 ty81_2 ty81_3 ty81_4 ty81_5 ty82_0 ty82_1 ty82_2 ty82_3 ty82_4 ty82_5 ty83_0 ty83_1 ty83_2 ty83_3 ty83_4 ty83_5 ty83_6 ty83_7 ty83_8 ty83_9 ty84_0
attribute [go_sem] ty84_1 ty84_2 ty84_3 ty84_4 ty84_5 ty84_6 ty84_7 ty84_8 ty84_9 ty85_0 ty85_1 ty85_2 ty85_3 ty85_4 ty85_5 ty86_0 ty86_1 ty86_2 ty86_3 ty86_4 ty86_5 ty87_0 ty87_1 ty87_2 ty87_3 ty87_4 ty87_5 ty88_0 ty88_1 ty88_2 ty88_3 ty88_4 ty88_5 ty89_0 ty89_1 ty89_2 ty89_3 ty89_4 ty89_5 ty90_0 ty90_1 ty90_2 ty90_3 ty90_4 ty90_5 ty91_0 ty91_1 ty91_2 ty91_3 ty91_4 ty91_5 ty91_6 ty91_7 ty91_8 ty92_0 ty92_1 ty92_2 ty92_3 ty92_4 ty92_5 ty92_6 ty92_7 ty92_8 ty93_0 ty93_1 ty93_2 ty93_3 ty93_4 ty93_5 ty94_0 ty94_1 ty94_2 ty94_3 ty94_4 ty94_5 ty95_0 ty95_1 ty95_2 ty95_3 ty95_4 ty95_5 ty95_6 ty95_7 ty96_0 ty96_1 ty96_2 ty96_3 ty96_4 ty96_5 ty97_0 ty97_1 ty97_2 ty97_3 ty97_4 ty97_5 ty98_0 ty98_1 ty98_2 ty98_3 ty98_4
attribute [go_sem] ty98_5 ty99_0 ty99_1 ty99_2 ty99_3 ty99_4 ty99_5 ty100_0 ty100_1 ty100_2 ty100_3 ty100_4 ty100_5 ty101_0 ty101_1 ty101_2 ty101_3 ty101_4 ty101_5 ty101_6 ty101_7 ty101_8 ty101_9 ty102_0 ty102_1 ty102_2 ty102_3 ty102_4 ty102_5 ty102_6 ty102_7 ty102_8 ty102_9 ty103_0 ty103_1 ty103_2 ty103_3 ty103_4 ty103_5 ty104_0 ty104_1 ty104_2 ty104_3 ty104_4 ty105_0 ty105_1 ty105_2 ty105_3 ty105_4 ty105_5 ty106_0 ty106_1 ty106_2 ty106_3 ty106_4 ty106_5 ty106_6 ty106_7 ty107_0 ty107_1 ty107_2 ty107_3 ty107_4 ty107_5 ty108_0 ty108_1 ty108_2 ty108_3 ty108_4 ty108_5 ty109_0 ty109_1 ty109_2 ty109_3 ty109_4 ty109_5 ty110_0 ty110_1 ty110_2 ty110_3 ty110_4 ty110_5 ty110_6 ty110_7 ty110_8 ty111_0 ty111_1 ty111_2 ty111_3 ty111_4 ty111_5 ty111_6 ty111_7 ty111_8 ty112_0 ty112_1 ty112_2 ty112_3 ty112_4 ty112_5
attribute [go_sem] ty113_0 ty113_1 ty113_2 ty113_3 ty113_4 ty113_5 ty114_0 ty114_1 ty114_2 ty114_3 ty114_4 ty114_5 ty115_0 ty115_1 ty115_2 ty115_3 ty115_4 ty115_5 ty116_0 ty116_1 ty116_2 ty116_3 ty116_4 ty116_5 ty117_0 ty117_1 ty117_2 ty117_3 ty117_4 ty117_5 ty118_0 ty118_1 ty118_2 ty118_3 ty118_4 ty118_5 ty119_0 ty119_1 ty119_2 ty119_3 ty119_4 ty119_5 ty119_6 ty119_7 ty120_0 ty120_1 ty120_2 ty120_3 ty120_4 ty120_5 ty121_0 ty121_1 ty121_2 ty121_3 ty121_4 ty121_5 ty122_0 ty122_1 ty122_2 ty122_3 ty122_4 ty122_5 ty123_0 ty123_1 ty123_2 ty123_3 ty123_4 ty123_5 ty124_0 ty124_1 ty124_2 ty124_3 ty124_4 ty124_5 ty125_0 ty125_1 ty125_2 ty125_3 ty125_4 ty125_5 ty126_0 ty126_1 ty126_2 ty126_3 ty126_4 ty126_5 ty127_0 ty127_1 ty127_2 ty127_3 ty127_4 ty127_5 ty128_0 ty128_1 ty128_2 ty128_3 ty128_4 ty128_5 ty129_0 ty129_1
attribute [go_sem] ty129_2 ty129_3 ty129_4 ty129_5 ty129_6 ty129_7 ty130_0 ty130_1 ty130_2 ty130_3 ty130_4 ty130_5 ty130_6 ty130_7 ty131_0 ty131_1 ty131_2 ty131_3 ty131_4 ty131_5 ty132_0 ty132_1 ty132_2 ty132_3 ty132_4 ty132_5 ty133_0 ty133_1 ty133_2 ty133_3 ty133_4 ty133_5 ty134_0 ty134_1 ty134_2 ty134_3 ty134_4 ty134_5 ty135_0 ty135_1 ty135_2 ty135_3 ty135_4 ty135_5 ty136_0 ty136_1 ty136_2 ty136_3 ty136_4 ty136_5 ty137_0 ty137_1 ty137_2 ty137_3 ty137_4 ty137_5 ty138_0 ty138_1 ty138_2 ty138_3 ty138_4 ty138_5 ty139_0 ty139_1 ty139_2 ty139_3 ty139_4 ty139_5 ty140_0 ty140_1 ty140_2 ty140_3 ty140_4 ty140_5 ty140_6 ty140_7 ty140_8 ty140_9 ty140_10 ty141_0 ty141_1 ty141_2 ty141_3 ty141_4 ty141_5 ty141_6 ty141_7 ty141_8 ty141_9 ty141_10 ty142_0 ty142_1 ty142_2 ty142_3 ty142_4 ty142_5 ty142_6 ty142_7 ty143_0 ty143_1
attribute [go_sem] ty143_2 ty143_3 ty143_4 ty143_5 ty143_6 ty143_7 ty144_0 ty144_1 ty144_2 ty144_3 ty144_4 ty144_5 ty144_6 ty144_7 ty145_0 ty145_1 ty145_2 ty145_3 ty145_4 ty145_5 ty146_0 ty146_1 ty146_2 ty146_3 ty146_4 ty146_5 ty147_0 ty147_1 ty147_2 ty147_3 ty147_4 ty147_5 ty148_0 ty148_1 ty148_2 ty148_3 ty148_4 ty148_5 ty148_6 ty149_0 ty149_1 ty149_2 ty149_3 ty149_4 ty149_5 ty150_0 ty150_1 ty150_2 ty150_3 ty150_4 ty150_5 ty151_0 ty151_1 ty151_2 ty151_3 ty151_4 ty151_5 ty151_6 ty151_7 ty151_8 ty151_9 ty151_10 ty151_11 ty151_12 ty151_13 ty151_14 ty151_15 ty151_16 ty151_17 ty152_0 ty152_1 ty152_2 ty152_3 ty152_4 ty152_5 ty152_6 ty152_7 ty152_8 ty152_9 ty152_10 ty152_11 ty152_12 ty152_13 ty152_14 ty152_15 ty152_16 ty152_17 ty153_0 ty153_1 ty153_2 ty153_3 ty153_4 ty153_5 cv5_3 cv72_3 cv124_3 cv3_138 cv138_3
theorem draws : DrawLaw Try.prog := drawLaw (by kernel_rfl)
theorem ok3 : fnOk H0 Try.f3 = true := by kernel_rfl
theorem ok4 : fnOk H0 Try.f4 = true := by kernel_rfl
theorem ok5 : fnOk H0 Try.f5 = true := by kernel_rfl
theorem ok6 : fnOk H0 Try.f6 = true := by kernel_rfl
theorem ok7 : fnOk H0 Try.f7 = true := by kernel_rfl
theorem ok8 : fnOk H0 Try.f8 = true := by kernel_rfl
theorem ok9 : fnOk H0 Try.f9 = true := by kernel_rfl
theorem ok10 : fnOk H0 Try.f10 = true := by kernel_rfl
theorem ok11 : fnOk H0 Try.f11 = true := by kernel_rfl
def H12 : Hints := hintL [(128, .app 7), (129, .low), (130, .low), (131, .low), (70, .low), (71, .low), (72, .low), (73, .low), (11, .slot 1 7), (12, .slot 0 7), (74, .low), (1011073, .sto), (75, .low), (76, .low), (77, .low)]
theorem ok12 : fnOk H12 Try.f12 = true := by kernel_rfl
theorem ok13 : fnOk H0 Try.f13 = true := by kernel_rfl
theorem ok14 : fnOk H0 Try.f14 = true := by kernel_rfl
theorem ok15 : fnOk H0 Try.f15 = true := by kernel_rfl
theorem ok16 : fnOk H0 Try.f16 = true := by kernel_rfl
theorem ok17 : fnOk H0 Try.f17 = true := by kernel_rfl
theorem ok18 : fnOk H0 Try.f18 = true := by kernel_rfl
theorem ok19 : fnOk H0 Try.f19 = true := by kernel_rfl
def H20 : Hints := hintL [(24, .low), (1004023, .nop), (14, .low), (1004013, .nop), (15, .low), (1005014, .nop)]
theorem ok20 : fnOk H20 Try.f20 = true := by kernel_rfl
def H21 : Hints := hintL [(26, .low), (1004025, .sto)]
theorem ok21 : fnOk H21 Try.f21 = true := by kernel_rfl
theorem ok22 : fnOk H0 Try.f22 = true := by kernel_rfl
theorem ok23 : fnOk H0 Try.f23 = true := by kernel_rfl
theorem ok24 : fnOk H0 Try.f24 = true := by kernel_rfl
theorem ok25 : fnOk H0 Try.f25 = true := by kernel_rfl
theorem ok26 : fnOk H0 Try.f26 = true := by kernel_rfl
theorem ok27 : fnOk H0 Try.f27 = true := by kernel_rfl
theorem ok28 : fnOk H0 Try.f28 = true := by kernel_rfl
def H29 : Hints := hintL [(36, .low), (1004035, .nop)]
theorem ok29 : fnOk H29 Try.f29 = true := by kernel_rfl
theorem ok30 : fnOk H0 Try.f30 = true := by kernel_rfl
theorem ok31 : fnOk H0 Try.f31 = true := by kernel_rfl
theorem ok32 : fnOk H0 Try.f32 = true := by kernel_rfl
theorem ok33 : fnOk H0 Try.f33 = true := by kernel_rfl
theorem ok34 : fnOk H0 Try.f34 = true := by kernel_rfl
theorem ok35 : fnOk H0 Try.f35 = true := by kernel_rfl
theorem ok36 : fnOk H0 Try.f36 = true := by kernel_rfl
theorem ok37 : fnOk H0 Try.f37 = true := by kernel_rfl
theorem ok38 : fnOk H0 Try.f38 = true := by kernel_rfl
theorem ok39 : fnOk H0 Try.f39 = true := by kernel_rfl
theorem ok40 : fnOk H0 Try.f40 = true := by kernel_rfl
theorem ok41 : fnOk H0 Try.f41 = true := by kernel_rfl
theorem ok42 : fnOk H0 Try.f42 = true := by kernel_rfl
theorem ok43 : fnOk H0 Try.f43 = true := by kernel_rfl
theorem ok44 : fnOk H0 Try.f44 = true := by kernel_rfl
theorem ok45 : fnOk H0 Try.f45 = true := by kernel_rfl
theorem ok46 : fnOk H0 Try.f46 = true := by kernel_rfl
theorem ok47 : fnOk H0 Try.f47 = true := by kernel_rfl
theorem ok48 : fnOk H0 Try.f48 = true := by kernel_rfl
theorem ok49 : fnOk H0 Try.f49 = true := by kernel_rfl
theorem ok50 : fnOk H0 Try.f50 = true := by kernel_rfl
theorem ok51 : fnOk H0 Try.f51 = true := by kernel_rfl
theorem ok52 : fnOk H0 Try.f52 = true := by kernel_rfl
theorem ok53 : fnOk H0 Try.f53 = true := by kernel_rfl
theorem ok54 : fnOk H0 Try.f54 = true := by kernel_rfl
theorem ok55 : fnOk H0 Try.f55 = true := by kernel_rfl
theorem ok56 : fnOk H0 Try.f56 = true := by kernel_rfl
def H57 : Hints := hintL [(36, .low), (37, .low), (38, .low), (39, .low), (40, .low), (41, .low), (4, .slot 1 2), (5, .slot 0 2), (42, .low), (1004041, .sto), (43, .low), (44, .low), (45, .low), (46, .low)]
theorem ok57 : fnOk H57 Try.f57 = true := by kernel_rfl
def H58 : Hints := hintL [(27, .low), (28, .low), (29, .low), (30, .low), (31, .low), (6, .slot 1 2), (7, .slot 0 2), (32, .low), (1006031, .sto), (33, .low), (34, .low), (35, .low)]
theorem ok58 : fnOk H58 Try.f58 = true := by kernel_rfl
theorem ok59 : fnOk H0 Try.f59 = true := by kernel_rfl
def H60 : Hints := hintL [(29, .low), (1002028, .sto), (30, .low), (31, .low), (32, .low), (33, .low)]
theorem ok60 : fnOk H60 Try.f60 = true := by kernel_rfl
theorem ok61 : fnOk H0 Try.f61 = true := by kernel_rfl
theorem ok62 : fnOk H0 Try.f62 = true := by kernel_rfl
theorem ok63 : fnOk H0 Try.f63 = true := by kernel_rfl
theorem ok64 : fnOk H0 Try.f64 = true := by kernel_rfl
def H65 : Hints := hintL [(82, .low), (1004081, .sto)]
theorem ok65 : fnOk H65 Try.f65 = true := by kernel_rfl
theorem ok66 : fnOk H0 Try.f66 = true := by kernel_rfl
theorem ok67 : fnOk H0 Try.f67 = true := by kernel_rfl
theorem ok68 : fnOk H0 Try.f68 = true := by kernel_rfl
theorem ok69 : fnOk H0 Try.f69 = true := by kernel_rfl
theorem ok70 : fnOk H0 Try.f70 = true := by kernel_rfl
theorem ok71 : fnOk H0 Try.f71 = true := by kernel_rfl
theorem ok72 : fnOk H0 Try.f72 = true := by kernel_rfl
theorem ok73 : fnOk H0 Try.f73 = true := by kernel_rfl
theorem ok74 : fnOk H0 Try.f74 = true := by kernel_rfl
theorem ok75 : fnOk H0 Try.f75 = true := by kernel_rfl
theorem ok76 : fnOk H0 Try.f76 = true := by kernel_rfl
theorem ok77 : fnOk H0 Try.f77 = true := by kernel_rfl
theorem ok78 : fnOk H0 Try.f78 = true := by kernel_rfl
theorem ok79 : fnOk H0 Try.f79 = true := by kernel_rfl
theorem ok80 : fnOk H0 Try.f80 = true := by kernel_rfl
theorem ok81 : fnOk H0 Try.f81 = true := by kernel_rfl
theorem ok82 : fnOk H0 Try.f82 = true := by kernel_rfl
theorem ok83 : fnOk H0 Try.f83 = true := by kernel_rfl
theorem ok84 : fnOk H0 Try.f84 = true := by kernel_rfl
theorem ok85 : fnOk H0 Try.f85 = true := by kernel_rfl
theorem ok86 : fnOk H0 Try.f86 = true := by kernel_rfl
theorem ok87 : fnOk H0 Try.f87 = true := by kernel_rfl
theorem ok88 : fnOk H0 Try.f88 = true := by kernel_rfl
theorem ok89 : fnOk H0 Try.f89 = true := by kernel_rfl
theorem ok90 : fnOk H0 Try.f90 = true := by kernel_rfl
theorem ok91 : fnOk H0 Try.f91 = true := by kernel_rfl
theorem ok92 : fnOk H0 Try.f92 = true := by kernel_rfl
theorem ok93 : fnOk H0 Try.f93 = true := by kernel_rfl
theorem ok94 : fnOk H0 Try.f94 = true := by kernel_rfl
theorem ok95 : fnOk H0 Try.f95 = true := by kernel_rfl
theorem ok96 : fnOk H0 Try.f96 = true := by kernel_rfl
theorem ok97 : fnOk H0 Try.f97 = true := by kernel_rfl
theorem ok98 : fnOk H0 Try.f98 = true := by kernel_rfl
theorem ok99 : fnOk H0 Try.f99 = true := by kernel_rfl
end Abs
end Go.Proofs.Ythekmbikolpmlaa
