/- Closed facts of this translation's tables, reckoned by the kernel; no conditions. -/
import Derived.Test.YtcmmhpkgjcepdaaProg
import Derived.Test.YtcmmhpkgjcepdaaBaseAll
namespace Go.Proofs.Ytcmmhpkgjcepdaa
open Go.EW
theorem c1_1 : cell1B Try.prog 1 = true := by kernel_rfl
theorem sz_1 : sizeV Try.prog 1 = some 1 := by kernel_rfl
theorem ze_1 : zeroV Try.prog 1 = some (.nilFunc) := by kernel_rfl
theorem c1_2 : cell1B Try.prog 2 = true := by kernel_rfl
theorem sz_2 : sizeV Try.prog 2 = some 1 := by kernel_rfl
theorem ze_2 : zeroV Try.prog 2 = some (.int .i64 0) := by kernel_rfl
theorem in_2 : intT Try.prog 2 = some .i64 := by kernel_rfl
theorem c1_3 : cell1B Try.prog 3 = true := by kernel_rfl
theorem sz_3 : sizeV Try.prog 3 = some 1 := by kernel_rfl
theorem ze_3 : zeroV Try.prog 3 = some (.int .i64 0) := by kernel_rfl
theorem in_3 : intT Try.prog 3 = some .i64 := by kernel_rfl
theorem c1_4 : cell1B Try.prog 4 = true := by kernel_rfl
theorem sz_4 : sizeV Try.prog 4 = some 1 := by kernel_rfl
theorem ze_4 : zeroV Try.prog 4 = some (.bool false) := by kernel_rfl
theorem bo_4 : isBoolT Try.prog 4 = true := by kernel_rfl
theorem c1_5 : cell1B Try.prog 5 = true := by kernel_rfl
theorem sz_5 : sizeV Try.prog 5 = some 1 := by kernel_rfl
theorem ze_5 : zeroV Try.prog 5 = some (.int .u8 0) := by kernel_rfl
theorem in_5 : intT Try.prog 5 = some .u8 := by kernel_rfl
theorem c1_6 : cell1B Try.prog 6 = true := by kernel_rfl
theorem sz_6 : sizeV Try.prog 6 = some 1 := by kernel_rfl
theorem ze_6 : zeroV Try.prog 6 = some (.int .u8 0) := by kernel_rfl
theorem in_6 : intT Try.prog 6 = some .u8 := by kernel_rfl
theorem ag_7 : aggB Try.prog 7 4 = true := by kernel_rfl
theorem sz_7 : sizeV Try.prog 7 = some 4 := by kernel_rfl
theorem ze_7 : zeroV Try.prog 7 = some (.agg #[.int .i64 0, .int .i64 0, .bool false, .int .u8 0]) := by kernel_rfl
theorem fo7_0 : fieldOff Try.prog 7 0 = some 0 := by kernel_rfl
theorem fo7_1 : fieldOff Try.prog 7 1 = some 1 := by kernel_rfl
theorem fo7_2 : fieldOff Try.prog 7 2 = some 2 := by kernel_rfl
theorem fo7_3 : fieldOff Try.prog 7 3 = some 3 := by kernel_rfl
theorem sp_7 : strPl Try.prog 7 = some ([(0, 1), (1, 1), (2, 1), (3, 1)], [.int .i64 0, .int .i64 0, .bool false, .int .u8 0]) := by kernel_rfl
theorem ag_8 : aggB Try.prog 8 4 = true := by kernel_rfl
theorem sz_8 : sizeV Try.prog 8 = some 4 := by kernel_rfl
theorem ze_8 : zeroV Try.prog 8 = some (.agg #[.int .i64 0, .int .i64 0, .bool false, .int .u8 0]) := by kernel_rfl
theorem fo8_0 : fieldOff Try.prog 8 0 = some 0 := by kernel_rfl
theorem fo8_1 : fieldOff Try.prog 8 1 = some 1 := by kernel_rfl
theorem fo8_2 : fieldOff Try.prog 8 2 = some 2 := by kernel_rfl
theorem fo8_3 : fieldOff Try.prog 8 3 = some 3 := by kernel_rfl
theorem sp_8 : strPl Try.prog 8 = some ([(0, 1), (1, 1), (2, 1), (3, 1)], [.int .i64 0, .int .i64 0, .bool false, .int .u8 0]) := by kernel_rfl
theorem c1_9 : cell1B Try.prog 9 = true := by kernel_rfl
theorem sz_9 : sizeV Try.prog 9 = some 1 := by kernel_rfl
theorem ze_9 : zeroV Try.prog 9 = some (.string ⟨#[]⟩) := by kernel_rfl
theorem st_9 : isStrT Try.prog 9 = true := by kernel_rfl
theorem c1_10 : cell1B Try.prog 10 = true := by kernel_rfl
theorem sz_10 : sizeV Try.prog 10 = some 1 := by kernel_rfl
theorem ze_10 : zeroV Try.prog 10 = some (.string ⟨#[]⟩) := by kernel_rfl
theorem st_10 : isStrT Try.prog 10 = true := by kernel_rfl
theorem c1_11 : cell1B Try.prog 11 = true := by kernel_rfl
theorem sz_11 : sizeV Try.prog 11 = some 1 := by kernel_rfl
theorem ze_11 : zeroV Try.prog 11 = some (.string ⟨#[]⟩) := by kernel_rfl
theorem st_11 : isStrT Try.prog 11 = true := by kernel_rfl
theorem c1_12 : cell1B Try.prog 12 = true := by kernel_rfl
theorem sz_12 : sizeV Try.prog 12 = some 1 := by kernel_rfl
theorem ze_12 : zeroV Try.prog 12 = some (.int .u64 0) := by kernel_rfl
theorem in_12 : intT Try.prog 12 = some .u64 := by kernel_rfl
theorem ag_13 : aggB Try.prog 13 2 = true := by kernel_rfl
theorem sz_13 : sizeV Try.prog 13 = some 2 := by kernel_rfl
theorem ze_13 : zeroV Try.prog 13 = some (.agg #[.string ⟨#[]⟩, .int .u64 0]) := by kernel_rfl
theorem fo13_0 : fieldOff Try.prog 13 0 = some 0 := by kernel_rfl
theorem fo13_1 : fieldOff Try.prog 13 1 = some 1 := by kernel_rfl
theorem sp_13 : strPl Try.prog 13 = some ([(0, 1), (1, 1)], [.string ⟨#[]⟩, .int .u64 0]) := by kernel_rfl
theorem ag_14 : aggB Try.prog 14 2 = true := by kernel_rfl
theorem sz_14 : sizeV Try.prog 14 = some 2 := by kernel_rfl
theorem ze_14 : zeroV Try.prog 14 = some (.agg #[.string ⟨#[]⟩, .int .u64 0]) := by kernel_rfl
theorem fo14_0 : fieldOff Try.prog 14 0 = some 0 := by kernel_rfl
theorem fo14_1 : fieldOff Try.prog 14 1 = some 1 := by kernel_rfl
theorem sp_14 : strPl Try.prog 14 = some ([(0, 1), (1, 1)], [.string ⟨#[]⟩, .int .u64 0]) := by kernel_rfl
theorem c1_15 : cell1B Try.prog 15 = true := by kernel_rfl
theorem sz_15 : sizeV Try.prog 15 = some 1 := by kernel_rfl
theorem ze_15 : zeroV Try.prog 15 = some (.pointer none) := by kernel_rfl
theorem pt_15 : isPtrT Try.prog 15 = true := by kernel_rfl
theorem c1_16 : cell1B Try.prog 16 = true := by kernel_rfl
theorem sz_16 : sizeV Try.prog 16 = some 1 := by kernel_rfl
theorem ze_16 : zeroV Try.prog 16 = some (.pointer none) := by kernel_rfl
theorem pt_16 : isPtrT Try.prog 16 = true := by kernel_rfl
theorem c1_17 : cell1B Try.prog 17 = true := by kernel_rfl
theorem sz_17 : sizeV Try.prog 17 = some 1 := by kernel_rfl
theorem ze_17 : zeroV Try.prog 17 = some (.pointer none) := by kernel_rfl
theorem pt_17 : isPtrT Try.prog 17 = true := by kernel_rfl
theorem ag_18 : aggB Try.prog 18 1 = true := by kernel_rfl
theorem sz_18 : sizeV Try.prog 18 = some 1 := by kernel_rfl
theorem ze_18 : zeroV Try.prog 18 = some (.agg #[.pointer none]) := by kernel_rfl
theorem fo18_0 : fieldOff Try.prog 18 0 = some 0 := by kernel_rfl
theorem sp_18 : strPl Try.prog 18 = some ([(0, 1)], [.pointer none]) := by kernel_rfl
theorem ag_19 : aggB Try.prog 19 1 = true := by kernel_rfl
theorem sz_19 : sizeV Try.prog 19 = some 1 := by kernel_rfl
theorem ze_19 : zeroV Try.prog 19 = some (.agg #[.pointer none]) := by kernel_rfl
theorem fo19_0 : fieldOff Try.prog 19 0 = some 0 := by kernel_rfl
theorem sp_19 : strPl Try.prog 19 = some ([(0, 1)], [.pointer none]) := by kernel_rfl
theorem c1_20 : cell1B Try.prog 20 = true := by kernel_rfl
theorem sz_20 : sizeV Try.prog 20 = some 1 := by kernel_rfl
theorem ze_20 : zeroV Try.prog 20 = some (.nilIface) := by kernel_rfl
theorem c1_21 : cell1B Try.prog 21 = true := by kernel_rfl
theorem sz_21 : sizeV Try.prog 21 = some 1 := by kernel_rfl
theorem ze_21 : zeroV Try.prog 21 = some (.int .i32 0) := by kernel_rfl
theorem in_21 : intT Try.prog 21 = some .i32 := by kernel_rfl
theorem c1_22 : cell1B Try.prog 22 = true := by kernel_rfl
theorem sz_22 : sizeV Try.prog 22 = some 1 := by kernel_rfl
theorem ze_22 : zeroV Try.prog 22 = some (.slice none 0 0) := by kernel_rfl
theorem el_22 : elT Try.prog 22 = some (28, 5, 48) := by kernel_rfl
theorem ag_23 : aggB Try.prog 23 32 = true := by kernel_rfl
theorem sz_23 : sizeV Try.prog 23 = some 32 := by kernel_rfl
theorem ze_23 : zeroV Try.prog 23 = some (.agg #[.int .u8 0, .int .u8 0, .int .u8 0, .int .u8 0, .int .u8 0, .int .u8 0, .int .u8 0, .int .u8 0, .int .u8 0, .int .u8 0, .int .u8 0, .int .u8 0, .int .u8 0, .int .u8 0, .int .u8 0, .int .u8 0, .int .u8 0, .int .u8 0, .int .u8 0, .int .u8 0, .int .u8 0, .int .u8 0, .int .u8 0, .int .u8 0, .int .u8 0, .int .u8 0, .int .u8 0, .int .u8 0, .int .u8 0, .int .u8 0, .int .u8 0, .int .u8 0]) := by kernel_rfl
theorem ar_23 : arrT Try.prog 23 = some (32, 5, 1) := by kernel_rfl
theorem ag_24 : aggB Try.prog 24 32 = true := by kernel_rfl
theorem sz_24 : sizeV Try.prog 24 = some 32 := by kernel_rfl
theorem ze_24 : zeroV Try.prog 24 = some (.agg #[.int .u8 0, .int .u8 0, .int .u8 0, .int .u8 0, .int .u8 0, .int .u8 0, .int .u8 0, .int .u8 0, .int .u8 0, .int .u8 0, .int .u8 0, .int .u8 0, .int .u8 0, .int .u8 0, .int .u8 0, .int .u8 0, .int .u8 0, .int .u8 0, .int .u8 0, .int .u8 0, .int .u8 0, .int .u8 0, .int .u8 0, .int .u8 0, .int .u8 0, .int .u8 0, .int .u8 0, .int .u8 0, .int .u8 0, .int .u8 0, .int .u8 0, .int .u8 0]) := by kernel_rfl
theorem ar_24 : arrT Try.prog 24 = some (32, 5, 1) := by kernel_rfl
theorem ag_25 : aggB Try.prog 25 3 = true := by kernel_rfl
theorem sz_25 : sizeV Try.prog 25 = some 3 := by kernel_rfl
theorem ze_25 : zeroV Try.prog 25 = some (.agg #[.int .i64 0, .int .i64 0, .string ⟨#[]⟩]) := by kernel_rfl
theorem fo25_0 : fieldOff Try.prog 25 0 = some 0 := by kernel_rfl
theorem fo25_1 : fieldOff Try.prog 25 1 = some 1 := by kernel_rfl
theorem fo25_2 : fieldOff Try.prog 25 2 = some 2 := by kernel_rfl
theorem sp_25 : strPl Try.prog 25 = some ([(0, 1), (1, 1), (2, 1)], [.int .i64 0, .int .i64 0, .string ⟨#[]⟩]) := by kernel_rfl
theorem ag_26 : aggB Try.prog 26 3 = true := by kernel_rfl
theorem sz_26 : sizeV Try.prog 26 = some 3 := by kernel_rfl
theorem ze_26 : zeroV Try.prog 26 = some (.agg #[.int .i64 0, .int .i64 0, .string ⟨#[]⟩]) := by kernel_rfl
theorem fo26_0 : fieldOff Try.prog 26 0 = some 0 := by kernel_rfl
theorem fo26_1 : fieldOff Try.prog 26 1 = some 1 := by kernel_rfl
theorem fo26_2 : fieldOff Try.prog 26 2 = some 2 := by kernel_rfl
theorem sp_26 : strPl Try.prog 26 = some ([(0, 1), (1, 1), (2, 1)], [.int .i64 0, .int .i64 0, .string ⟨#[]⟩]) := by kernel_rfl
theorem ag_27 : aggB Try.prog 27 5 = true := by kernel_rfl
theorem sz_27 : sizeV Try.prog 27 = some 5 := by kernel_rfl
theorem ze_27 : zeroV Try.prog 27 = some (.agg #[.int .i64 0, .int .i64 0, .int .i64 0, .int .i64 0, .string ⟨#[]⟩]) := by kernel_rfl
theorem fo27_0 : fieldOff Try.prog 27 0 = some 0 := by kernel_rfl
theorem fo27_1 : fieldOff Try.prog 27 1 = some 1 := by kernel_rfl
theorem fo27_2 : fieldOff Try.prog 27 2 = some 2 := by kernel_rfl
theorem sp_27 : strPl Try.prog 27 = some ([(0, 1), (1, 1), (2, 3)], [.int .i64 0, .int .i64 0, .int .i64 0, .int .i64 0, .string ⟨#[]⟩]) := by kernel_rfl
theorem ag_28 : aggB Try.prog 28 5 = true := by kernel_rfl
theorem sz_28 : sizeV Try.prog 28 = some 5 := by kernel_rfl
theorem ze_28 : zeroV Try.prog 28 = some (.agg #[.int .i64 0, .int .i64 0, .int .i64 0, .int .i64 0, .string ⟨#[]⟩]) := by kernel_rfl
theorem fo28_0 : fieldOff Try.prog 28 0 = some 0 := by kernel_rfl
theorem fo28_1 : fieldOff Try.prog 28 1 = some 1 := by kernel_rfl
theorem fo28_2 : fieldOff Try.prog 28 2 = some 2 := by kernel_rfl
theorem sp_28 : strPl Try.prog 28 = some ([(0, 1), (1, 1), (2, 3)], [.int .i64 0, .int .i64 0, .int .i64 0, .int .i64 0, .string ⟨#[]⟩]) := by kernel_rfl
theorem c1_29 : cell1B Try.prog 29 = true := by kernel_rfl
theorem sz_29 : sizeV Try.prog 29 = some 1 := by kernel_rfl
theorem ze_29 : zeroV Try.prog 29 = some (.slice none 0 0) := by kernel_rfl
theorem el_29 : elT Try.prog 29 = some (90, 1, 24) := by kernel_rfl
theorem c1_30 : cell1B Try.prog 30 = true := by kernel_rfl
theorem sz_30 : sizeV Try.prog 30 = some 1 := by kernel_rfl
theorem ze_30 : zeroV Try.prog 30 = some (.slice none 0 0) := by kernel_rfl
theorem el_30 : elT Try.prog 30 = some (97, 1, 24) := by kernel_rfl
theorem c1_31 : cell1B Try.prog 31 = true := by kernel_rfl
theorem sz_31 : sizeV Try.prog 31 = some 1 := by kernel_rfl
theorem ze_31 : zeroV Try.prog 31 = some (.slice none 0 0) := by kernel_rfl
theorem el_31 : elT Try.prog 31 = some (22, 1, 24) := by kernel_rfl
theorem c1_32 : cell1B Try.prog 32 = true := by kernel_rfl
theorem sz_32 : sizeV Try.prog 32 = some 1 := by kernel_rfl
theorem ze_32 : zeroV Try.prog 32 = some (.slice none 0 0) := by kernel_rfl
theorem el_32 : elT Try.prog 32 = some (105, 1, 24) := by kernel_rfl
theorem c1_33 : cell1B Try.prog 33 = true := by kernel_rfl
theorem sz_33 : sizeV Try.prog 33 = some 1 := by kernel_rfl
theorem ze_33 : zeroV Try.prog 33 = some (.slice none 0 0) := by kernel_rfl
theorem el_33 : elT Try.prog 33 = some (103, 12, 192) := by kernel_rfl
theorem ag_34 : aggB Try.prog 34 10 = true := by kernel_rfl
theorem sz_34 : sizeV Try.prog 34 = some 10 := by kernel_rfl
theorem ze_34 : zeroV Try.prog 34 = some (.agg #[.slice none 0 0, .slice none 0 0, .slice none 0 0, .slice none 0 0, .slice none 0 0, .slice none 0 0, .slice none 0 0, .slice none 0 0, .slice none 0 0, .slice none 0 0]) := by kernel_rfl
theorem fo34_0 : fieldOff Try.prog 34 0 = some 0 := by kernel_rfl
theorem fo34_1 : fieldOff Try.prog 34 1 = some 1 := by kernel_rfl
theorem fo34_2 : fieldOff Try.prog 34 2 = some 2 := by kernel_rfl
theorem fo34_3 : fieldOff Try.prog 34 3 = some 3 := by kernel_rfl
theorem fo34_4 : fieldOff Try.prog 34 4 = some 4 := by kernel_rfl
theorem fo34_5 : fieldOff Try.prog 34 5 = some 5 := by kernel_rfl
theorem fo34_6 : fieldOff Try.prog 34 6 = some 6 := by kernel_rfl
theorem fo34_7 : fieldOff Try.prog 34 7 = some 7 := by kernel_rfl
theorem fo34_8 : fieldOff Try.prog 34 8 = some 8 := by kernel_rfl
theorem fo34_9 : fieldOff Try.prog 34 9 = some 9 := by kernel_rfl
theorem sp_34 : strPl Try.prog 34 = some ([(0, 1), (1, 1), (2, 1), (3, 1), (4, 1), (5, 1), (6, 1), (7, 1), (8, 1), (9, 1)], [.slice none 0 0, .slice none 0 0, .slice none 0 0, .slice none 0 0, .slice none 0 0, .slice none 0 0, .slice none 0 0, .slice none 0 0, .slice none 0 0, .slice none 0 0]) := by kernel_rfl
theorem ag_35 : aggB Try.prog 35 10 = true := by kernel_rfl
theorem sz_35 : sizeV Try.prog 35 = some 10 := by kernel_rfl
theorem ze_35 : zeroV Try.prog 35 = some (.agg #[.slice none 0 0, .slice none 0 0, .slice none 0 0, .slice none 0 0, .slice none 0 0, .slice none 0 0, .slice none 0 0, .slice none 0 0, .slice none 0 0, .slice none 0 0]) := by kernel_rfl
theorem fo35_0 : fieldOff Try.prog 35 0 = some 0 := by kernel_rfl
theorem fo35_1 : fieldOff Try.prog 35 1 = some 1 := by kernel_rfl
theorem fo35_2 : fieldOff Try.prog 35 2 = some 2 := by kernel_rfl
theorem fo35_3 : fieldOff Try.prog 35 3 = some 3 := by kernel_rfl
theorem fo35_4 : fieldOff Try.prog 35 4 = some 4 := by kernel_rfl
theorem fo35_5 : fieldOff Try.prog 35 5 = some 5 := by kernel_rfl
theorem fo35_6 : fieldOff Try.prog 35 6 = some 6 := by kernel_rfl
theorem fo35_7 : fieldOff Try.prog 35 7 = some 7 := by kernel_rfl
theorem fo35_8 : fieldOff Try.prog 35 8 = some 8 := by kernel_rfl
theorem fo35_9 : fieldOff Try.prog 35 9 = some 9 := by kernel_rfl
theorem sp_35 : strPl Try.prog 35 = some ([(0, 1), (1, 1), (2, 1), (3, 1), (4, 1), (5, 1), (6, 1), (7, 1), (8, 1), (9, 1)], [.slice none 0 0, .slice none 0 0, .slice none 0 0, .slice none 0 0, .slice none 0 0, .slice none 0 0, .slice none 0 0, .slice none 0 0, .slice none 0 0, .slice none 0 0]) := by kernel_rfl
theorem c1_36 : cell1B Try.prog 36 = true := by kernel_rfl
theorem sz_36 : sizeV Try.prog 36 = some 1 := by kernel_rfl
theorem ze_36 : zeroV Try.prog 36 = some (.nilFunc) := by kernel_rfl
theorem c1_37 : cell1B Try.prog 37 = true := by kernel_rfl
theorem sz_37 : sizeV Try.prog 37 = some 1 := by kernel_rfl
theorem ze_37 : zeroV Try.prog 37 = some (.nilFunc) := by kernel_rfl
theorem c1_38 : cell1B Try.prog 38 = true := by kernel_rfl
theorem sz_38 : sizeV Try.prog 38 = some 1 := by kernel_rfl
theorem ze_38 : zeroV Try.prog 38 = some (.nilFunc) := by kernel_rfl
theorem c1_39 : cell1B Try.prog 39 = true := by kernel_rfl
theorem sz_39 : sizeV Try.prog 39 = some 1 := by kernel_rfl
theorem ze_39 : zeroV Try.prog 39 = some (.nilFunc) := by kernel_rfl
theorem c1_40 : cell1B Try.prog 40 = true := by kernel_rfl
theorem sz_40 : sizeV Try.prog 40 = some 1 := by kernel_rfl
theorem ze_40 : zeroV Try.prog 40 = some (.nilFunc) := by kernel_rfl
theorem c1_41 : cell1B Try.prog 41 = true := by kernel_rfl
theorem sz_41 : sizeV Try.prog 41 = some 1 := by kernel_rfl
theorem ze_41 : zeroV Try.prog 41 = some (.nilFunc) := by kernel_rfl
theorem c1_42 : cell1B Try.prog 42 = true := by kernel_rfl
theorem sz_42 : sizeV Try.prog 42 = some 1 := by kernel_rfl
theorem ze_42 : zeroV Try.prog 42 = some (.slice none 0 0) := by kernel_rfl
theorem el_42 : elT Try.prog 42 = some (24, 32, 32) := by kernel_rfl
theorem c1_43 : cell1B Try.prog 43 = true := by kernel_rfl
theorem sz_43 : sizeV Try.prog 43 = some 1 := by kernel_rfl
theorem ze_43 : zeroV Try.prog 43 = some (.nilFunc) := by kernel_rfl
theorem c1_44 : cell1B Try.prog 44 = true := by kernel_rfl
theorem sz_44 : sizeV Try.prog 44 = some 1 := by kernel_rfl
theorem ze_44 : zeroV Try.prog 44 = some (.int .i64 0) := by kernel_rfl
theorem in_44 : intT Try.prog 44 = some .i64 := by kernel_rfl
theorem c1_45 : cell1B Try.prog 45 = true := by kernel_rfl
theorem sz_45 : sizeV Try.prog 45 = some 1 := by kernel_rfl
theorem ze_45 : zeroV Try.prog 45 = some (.nilFunc) := by kernel_rfl
theorem c1_46 : cell1B Try.prog 46 = true := by kernel_rfl
theorem sz_46 : sizeV Try.prog 46 = some 1 := by kernel_rfl
theorem ze_46 : zeroV Try.prog 46 = some (.nilFunc) := by kernel_rfl
theorem c1_47 : cell1B Try.prog 47 = true := by kernel_rfl
theorem sz_47 : sizeV Try.prog 47 = some 1 := by kernel_rfl
theorem ze_47 : zeroV Try.prog 47 = some (.nilFunc) := by kernel_rfl
theorem c1_48 : cell1B Try.prog 48 = true := by kernel_rfl
theorem sz_48 : sizeV Try.prog 48 = some 1 := by kernel_rfl
theorem ze_48 : zeroV Try.prog 48 = some (.nilFunc) := by kernel_rfl
theorem c1_49 : cell1B Try.prog 49 = true := by kernel_rfl
theorem sz_49 : sizeV Try.prog 49 = some 1 := by kernel_rfl
theorem ze_49 : zeroV Try.prog 49 = some (.nilFunc) := by kernel_rfl
theorem c1_50 : cell1B Try.prog 50 = true := by kernel_rfl
theorem sz_50 : sizeV Try.prog 50 = some 1 := by kernel_rfl
theorem ze_50 : zeroV Try.prog 50 = some (.nilFunc) := by kernel_rfl
theorem c1_51 : cell1B Try.prog 51 = true := by kernel_rfl
theorem sz_51 : sizeV Try.prog 51 = some 1 := by kernel_rfl
theorem ze_51 : zeroV Try.prog 51 = some (.nilFunc) := by kernel_rfl
theorem ag_52 : aggB Try.prog 52 8 = true := by kernel_rfl
theorem sz_52 : sizeV Try.prog 52 = some 8 := by kernel_rfl
theorem ze_52 : zeroV Try.prog 52 = some (.agg #[.int .i64 0, .int .i64 0, .int .i64 0, .int .i64 0, .int .i64 0, .string ⟨#[]⟩, .slice none 0 0, .int .i64 0]) := by kernel_rfl
theorem fo52_0 : fieldOff Try.prog 52 0 = some 0 := by kernel_rfl
theorem fo52_1 : fieldOff Try.prog 52 1 = some 1 := by kernel_rfl
theorem fo52_2 : fieldOff Try.prog 52 2 = some 6 := by kernel_rfl
theorem fo52_3 : fieldOff Try.prog 52 3 = some 7 := by kernel_rfl
theorem sp_52 : strPl Try.prog 52 = some ([(0, 1), (1, 5), (6, 1), (7, 1)], [.int .i64 0, .int .i64 0, .int .i64 0, .int .i64 0, .int .i64 0, .string ⟨#[]⟩, .slice none 0 0, .int .i64 0]) := by kernel_rfl
theorem ag_53 : aggB Try.prog 53 8 = true := by kernel_rfl
theorem sz_53 : sizeV Try.prog 53 = some 8 := by kernel_rfl
theorem ze_53 : zeroV Try.prog 53 = some (.agg #[.int .i64 0, .int .i64 0, .int .i64 0, .int .i64 0, .int .i64 0, .string ⟨#[]⟩, .slice none 0 0, .int .i64 0]) := by kernel_rfl
theorem fo53_0 : fieldOff Try.prog 53 0 = some 0 := by kernel_rfl
theorem fo53_1 : fieldOff Try.prog 53 1 = some 1 := by kernel_rfl
theorem fo53_2 : fieldOff Try.prog 53 2 = some 6 := by kernel_rfl
theorem fo53_3 : fieldOff Try.prog 53 3 = some 7 := by kernel_rfl
theorem sp_53 : strPl Try.prog 53 = some ([(0, 1), (1, 5), (6, 1), (7, 1)], [.int .i64 0, .int .i64 0, .int .i64 0, .int .i64 0, .int .i64 0, .string ⟨#[]⟩, .slice none 0 0, .int .i64 0]) := by kernel_rfl
theorem c1_54 : cell1B Try.prog 54 = true := by kernel_rfl
theorem sz_54 : sizeV Try.prog 54 = some 1 := by kernel_rfl
theorem ze_54 : zeroV Try.prog 54 = some (.nilFunc) := by kernel_rfl
theorem c1_56 : cell1B Try.prog 56 = true := by kernel_rfl
theorem sz_56 : sizeV Try.prog 56 = some 1 := by kernel_rfl
theorem ze_56 : zeroV Try.prog 56 = some (.nilFunc) := by kernel_rfl
theorem c1_58 : cell1B Try.prog 58 = true := by kernel_rfl
theorem sz_58 : sizeV Try.prog 58 = some 1 := by kernel_rfl
theorem ze_58 : zeroV Try.prog 58 = some (.nilFunc) := by kernel_rfl
theorem c1_59 : cell1B Try.prog 59 = true := by kernel_rfl
theorem sz_59 : sizeV Try.prog 59 = some 1 := by kernel_rfl
theorem ze_59 : zeroV Try.prog 59 = some (.nilFunc) := by kernel_rfl
theorem c1_60 : cell1B Try.prog 60 = true := by kernel_rfl
theorem sz_60 : sizeV Try.prog 60 = some 1 := by kernel_rfl
theorem ze_60 : zeroV Try.prog 60 = some (.nilFunc) := by kernel_rfl
theorem c1_62 : cell1B Try.prog 62 = true := by kernel_rfl
theorem sz_62 : sizeV Try.prog 62 = some 1 := by kernel_rfl
theorem ze_62 : zeroV Try.prog 62 = some (.nilFunc) := by kernel_rfl
theorem c1_63 : cell1B Try.prog 63 = true := by kernel_rfl
theorem sz_63 : sizeV Try.prog 63 = some 1 := by kernel_rfl
theorem ze_63 : zeroV Try.prog 63 = some (.nilFunc) := by kernel_rfl
theorem c1_64 : cell1B Try.prog 64 = true := by kernel_rfl
theorem sz_64 : sizeV Try.prog 64 = some 1 := by kernel_rfl
theorem ze_64 : zeroV Try.prog 64 = some (.nilFunc) := by kernel_rfl
theorem c1_66 : cell1B Try.prog 66 = true := by kernel_rfl
theorem sz_66 : sizeV Try.prog 66 = some 1 := by kernel_rfl
theorem ze_66 : zeroV Try.prog 66 = some (.nilFunc) := by kernel_rfl
theorem c1_67 : cell1B Try.prog 67 = true := by kernel_rfl
theorem sz_67 : sizeV Try.prog 67 = some 1 := by kernel_rfl
theorem ze_67 : zeroV Try.prog 67 = some (.nilFunc) := by kernel_rfl
theorem c1_68 : cell1B Try.prog 68 = true := by kernel_rfl
theorem sz_68 : sizeV Try.prog 68 = some 1 := by kernel_rfl
theorem ze_68 : zeroV Try.prog 68 = some (.pointer none) := by kernel_rfl
theorem pt_68 : isPtrT Try.prog 68 = true := by kernel_rfl
theorem c1_69 : cell1B Try.prog 69 = true := by kernel_rfl
theorem sz_69 : sizeV Try.prog 69 = some 1 := by kernel_rfl
theorem ze_69 : zeroV Try.prog 69 = some (.nilFunc) := by kernel_rfl
theorem c1_70 : cell1B Try.prog 70 = true := by kernel_rfl
theorem sz_70 : sizeV Try.prog 70 = some 1 := by kernel_rfl
theorem ze_70 : zeroV Try.prog 70 = some (.nilFunc) := by kernel_rfl
theorem c1_71 : cell1B Try.prog 71 = true := by kernel_rfl
theorem sz_71 : sizeV Try.prog 71 = some 1 := by kernel_rfl
theorem ze_71 : zeroV Try.prog 71 = some (.nilFunc) := by kernel_rfl
theorem c1_72 : cell1B Try.prog 72 = true := by kernel_rfl
theorem sz_72 : sizeV Try.prog 72 = some 1 := by kernel_rfl
theorem ze_72 : zeroV Try.prog 72 = some (.nilFunc) := by kernel_rfl
theorem c1_73 : cell1B Try.prog 73 = true := by kernel_rfl
theorem sz_73 : sizeV Try.prog 73 = some 1 := by kernel_rfl
theorem ze_73 : zeroV Try.prog 73 = some (.slice none 0 0) := by kernel_rfl
theorem el_73 : elT Try.prog 73 = some (42, 1, 24) := by kernel_rfl
theorem c1_74 : cell1B Try.prog 74 = true := by kernel_rfl
theorem sz_74 : sizeV Try.prog 74 = some 1 := by kernel_rfl
theorem ze_74 : zeroV Try.prog 74 = some (.nilFunc) := by kernel_rfl
theorem c1_75 : cell1B Try.prog 75 = true := by kernel_rfl
theorem sz_75 : sizeV Try.prog 75 = some 1 := by kernel_rfl
theorem ze_75 : zeroV Try.prog 75 = some (.nilFunc) := by kernel_rfl
theorem c1_76 : cell1B Try.prog 76 = true := by kernel_rfl
theorem sz_76 : sizeV Try.prog 76 = some 1 := by kernel_rfl
theorem ze_76 : zeroV Try.prog 76 = some (.nilFunc) := by kernel_rfl
theorem ag_77 : aggB Try.prog 77 2048 = true := by kernel_rfl
theorem sz_77 : sizeV Try.prog 77 = some 2048 := by kernel_rfl
theorem ar_77 : arrT Try.prog 77 = some (64, 24, 32) := by kernel_rfl
theorem ag_78 : aggB Try.prog 78 2049 = true := by kernel_rfl
theorem sz_78 : sizeV Try.prog 78 = some 2049 := by kernel_rfl
theorem fo78_0 : fieldOff Try.prog 78 0 = some 0 := by kernel_rfl
theorem fo78_1 : fieldOff Try.prog 78 1 = some 1 := by kernel_rfl
theorem ag_79 : aggB Try.prog 79 2049 = true := by kernel_rfl
theorem sz_79 : sizeV Try.prog 79 = some 2049 := by kernel_rfl
theorem fo79_0 : fieldOff Try.prog 79 0 = some 0 := by kernel_rfl
theorem fo79_1 : fieldOff Try.prog 79 1 = some 1 := by kernel_rfl
theorem c1_81 : cell1B Try.prog 81 = true := by kernel_rfl
theorem sz_81 : sizeV Try.prog 81 = some 1 := by kernel_rfl
theorem ze_81 : zeroV Try.prog 81 = some (.nilFunc) := by kernel_rfl
theorem c1_82 : cell1B Try.prog 82 = true := by kernel_rfl
theorem sz_82 : sizeV Try.prog 82 = some 1 := by kernel_rfl
theorem ze_82 : zeroV Try.prog 82 = some (.slice none 0 0) := by kernel_rfl
theorem el_82 : elT Try.prog 82 = some (84, 8, 72) := by kernel_rfl
theorem ag_83 : aggB Try.prog 83 8 = true := by kernel_rfl
theorem sz_83 : sizeV Try.prog 83 = some 8 := by kernel_rfl
theorem ze_83 : zeroV Try.prog 83 = some (.agg #[.int .i64 0, .int .i64 0, .int .i64 0, .int .i64 0, .int .i64 0, .string ⟨#[]⟩, .int .i64 0, .int .i64 0]) := by kernel_rfl
theorem fo83_0 : fieldOff Try.prog 83 0 = some 0 := by kernel_rfl
theorem fo83_1 : fieldOff Try.prog 83 1 = some 1 := by kernel_rfl
theorem fo83_2 : fieldOff Try.prog 83 2 = some 6 := by kernel_rfl
theorem fo83_3 : fieldOff Try.prog 83 3 = some 7 := by kernel_rfl
theorem sp_83 : strPl Try.prog 83 = some ([(0, 1), (1, 5), (6, 1), (7, 1)], [.int .i64 0, .int .i64 0, .int .i64 0, .int .i64 0, .int .i64 0, .string ⟨#[]⟩, .int .i64 0, .int .i64 0]) := by kernel_rfl
theorem ag_84 : aggB Try.prog 84 8 = true := by kernel_rfl
theorem sz_84 : sizeV Try.prog 84 = some 8 := by kernel_rfl
theorem ze_84 : zeroV Try.prog 84 = some (.agg #[.int .i64 0, .int .i64 0, .int .i64 0, .int .i64 0, .int .i64 0, .string ⟨#[]⟩, .int .i64 0, .int .i64 0]) := by kernel_rfl
theorem fo84_0 : fieldOff Try.prog 84 0 = some 0 := by kernel_rfl
theorem fo84_1 : fieldOff Try.prog 84 1 = some 1 := by kernel_rfl
theorem fo84_2 : fieldOff Try.prog 84 2 = some 6 := by kernel_rfl
theorem fo84_3 : fieldOff Try.prog 84 3 = some 7 := by kernel_rfl
theorem sp_84 : strPl Try.prog 84 = some ([(0, 1), (1, 5), (6, 1), (7, 1)], [.int .i64 0, .int .i64 0, .int .i64 0, .int .i64 0, .int .i64 0, .string ⟨#[]⟩, .int .i64 0, .int .i64 0]) := by kernel_rfl
theorem c1_85 : cell1B Try.prog 85 = true := by kernel_rfl
theorem sz_85 : sizeV Try.prog 85 = some 1 := by kernel_rfl
theorem ze_85 : zeroV Try.prog 85 = some (.nilFunc) := by kernel_rfl
theorem c1_86 : cell1B Try.prog 86 = true := by kernel_rfl
theorem sz_86 : sizeV Try.prog 86 = some 1 := by kernel_rfl
theorem ze_86 : zeroV Try.prog 86 = some (.nilFunc) := by kernel_rfl
theorem c1_87 : cell1B Try.prog 87 = true := by kernel_rfl
theorem sz_87 : sizeV Try.prog 87 = some 1 := by kernel_rfl
theorem ze_87 : zeroV Try.prog 87 = some (.nilFunc) := by kernel_rfl
theorem c1_88 : cell1B Try.prog 88 = true := by kernel_rfl
theorem sz_88 : sizeV Try.prog 88 = some 1 := by kernel_rfl
theorem ze_88 : zeroV Try.prog 88 = some (.pointer none) := by kernel_rfl
theorem pt_88 : isPtrT Try.prog 88 = true := by kernel_rfl
theorem c1_89 : cell1B Try.prog 89 = true := by kernel_rfl
theorem sz_89 : sizeV Try.prog 89 = some 1 := by kernel_rfl
theorem ze_89 : zeroV Try.prog 89 = some (.nilFunc) := by kernel_rfl
theorem c1_90 : cell1B Try.prog 90 = true := by kernel_rfl
theorem sz_90 : sizeV Try.prog 90 = some 1 := by kernel_rfl
theorem ze_90 : zeroV Try.prog 90 = some (.slice none 0 0) := by kernel_rfl
theorem el_90 : elT Try.prog 90 = some (5, 1, 1) := by kernel_rfl
theorem by_90 : isBytesT Try.prog 90 = true := by kernel_rfl
theorem c1_91 : cell1B Try.prog 91 = true := by kernel_rfl
theorem sz_91 : sizeV Try.prog 91 = some 1 := by kernel_rfl
theorem ze_91 : zeroV Try.prog 91 = some (.nilFunc) := by kernel_rfl
theorem c1_92 : cell1B Try.prog 92 = true := by kernel_rfl
theorem sz_92 : sizeV Try.prog 92 = some 1 := by kernel_rfl
theorem ze_92 : zeroV Try.prog 92 = some (.nilFunc) := by kernel_rfl
theorem c1_93 : cell1B Try.prog 93 = true := by kernel_rfl
theorem sz_93 : sizeV Try.prog 93 = some 1 := by kernel_rfl
theorem ze_93 : zeroV Try.prog 93 = some (.nilFunc) := by kernel_rfl
theorem c1_94 : cell1B Try.prog 94 = true := by kernel_rfl
theorem sz_94 : sizeV Try.prog 94 = some 1 := by kernel_rfl
theorem ze_94 : zeroV Try.prog 94 = some (.nilFunc) := by kernel_rfl
theorem c1_95 : cell1B Try.prog 95 = true := by kernel_rfl
theorem sz_95 : sizeV Try.prog 95 = some 1 := by kernel_rfl
theorem ze_95 : zeroV Try.prog 95 = some (.int .i64 0) := by kernel_rfl
theorem in_95 : intT Try.prog 95 = some .i64 := by kernel_rfl
theorem c1_96 : cell1B Try.prog 96 = true := by kernel_rfl
theorem sz_96 : sizeV Try.prog 96 = some 1 := by kernel_rfl
theorem ze_96 : zeroV Try.prog 96 = some (.slice none 0 0) := by kernel_rfl
theorem el_96 : elT Try.prog 96 = some (145, 2, 16) := by kernel_rfl
theorem c1_97 : cell1B Try.prog 97 = true := by kernel_rfl
theorem sz_97 : sizeV Try.prog 97 = some 1 := by kernel_rfl
theorem ze_97 : zeroV Try.prog 97 = some (.slice none 0 0) := by kernel_rfl
theorem el_97 : elT Try.prog 97 = some (145, 2, 16) := by kernel_rfl
theorem c1_98 : cell1B Try.prog 98 = true := by kernel_rfl
theorem sz_98 : sizeV Try.prog 98 = some 1 := by kernel_rfl
theorem ze_98 : zeroV Try.prog 98 = some (.slice none 0 0) := by kernel_rfl
theorem el_98 : elT Try.prog 98 = some (163, 4, 32) := by kernel_rfl
theorem c1_99 : cell1B Try.prog 99 = true := by kernel_rfl
theorem sz_99 : sizeV Try.prog 99 = some 1 := by kernel_rfl
theorem ze_99 : zeroV Try.prog 99 = some (.slice none 0 0) := by kernel_rfl
theorem el_99 : elT Try.prog 99 = some (165, 3, 24) := by kernel_rfl
theorem c1_100 : cell1B Try.prog 100 = true := by kernel_rfl
theorem sz_100 : sizeV Try.prog 100 = some 1 := by kernel_rfl
theorem ze_100 : zeroV Try.prog 100 = some (.slice none 0 0) := by kernel_rfl
theorem el_100 : elT Try.prog 100 = some (167, 6, 64) := by kernel_rfl
theorem c1_101 : cell1B Try.prog 101 = true := by kernel_rfl
theorem sz_101 : sizeV Try.prog 101 = some 1 := by kernel_rfl
theorem ze_101 : zeroV Try.prog 101 = some (.slice none 0 0) := by kernel_rfl
theorem el_101 : elT Try.prog 101 = some (169, 6, 64) := by kernel_rfl
theorem ag_102 : aggB Try.prog 102 12 = true := by kernel_rfl
theorem sz_102 : sizeV Try.prog 102 = some 12 := by kernel_rfl
theorem ze_102 : zeroV Try.prog 102 = some (.agg #[.int .i64 0, .int .i64 0, .int .i64 0, .int .i64 0, .slice none 0 0, .int .i64 0, .slice none 0 0, .int .i64 0, .slice none 0 0, .slice none 0 0, .slice none 0 0, .slice none 0 0]) := by kernel_rfl
theorem fo102_0 : fieldOff Try.prog 102 0 = some 0 := by kernel_rfl
theorem fo102_1 : fieldOff Try.prog 102 1 = some 1 := by kernel_rfl
theorem fo102_2 : fieldOff Try.prog 102 2 = some 2 := by kernel_rfl
theorem fo102_3 : fieldOff Try.prog 102 3 = some 3 := by kernel_rfl
theorem fo102_4 : fieldOff Try.prog 102 4 = some 4 := by kernel_rfl
theorem fo102_5 : fieldOff Try.prog 102 5 = some 5 := by kernel_rfl
theorem fo102_6 : fieldOff Try.prog 102 6 = some 6 := by kernel_rfl
theorem fo102_7 : fieldOff Try.prog 102 7 = some 7 := by kernel_rfl
theorem fo102_8 : fieldOff Try.prog 102 8 = some 8 := by kernel_rfl
theorem fo102_9 : fieldOff Try.prog 102 9 = some 9 := by kernel_rfl
theorem fo102_10 : fieldOff Try.prog 102 10 = some 10 := by kernel_rfl
theorem fo102_11 : fieldOff Try.prog 102 11 = some 11 := by kernel_rfl
theorem sp_102 : strPl Try.prog 102 = some ([(0, 1), (1, 1), (2, 1), (3, 1), (4, 1), (5, 1), (6, 1), (7, 1), (8, 1), (9, 1), (10, 1), (11, 1)], [.int .i64 0, .int .i64 0, .int .i64 0, .int .i64 0, .slice none 0 0, .int .i64 0, .slice none 0 0, .int .i64 0, .slice none 0 0, .slice none 0 0, .slice none 0 0, .slice none 0 0]) := by kernel_rfl
theorem ag_103 : aggB Try.prog 103 12 = true := by kernel_rfl
theorem sz_103 : sizeV Try.prog 103 = some 12 := by kernel_rfl
theorem ze_103 : zeroV Try.prog 103 = some (.agg #[.int .i64 0, .int .i64 0, .int .i64 0, .int .i64 0, .slice none 0 0, .int .i64 0, .slice none 0 0, .int .i64 0, .slice none 0 0, .slice none 0 0, .slice none 0 0, .slice none 0 0]) := by kernel_rfl
theorem fo103_0 : fieldOff Try.prog 103 0 = some 0 := by kernel_rfl
theorem fo103_1 : fieldOff Try.prog 103 1 = some 1 := by kernel_rfl
theorem fo103_2 : fieldOff Try.prog 103 2 = some 2 := by kernel_rfl
theorem fo103_3 : fieldOff Try.prog 103 3 = some 3 := by kernel_rfl
theorem fo103_4 : fieldOff Try.prog 103 4 = some 4 := by kernel_rfl
theorem fo103_5 : fieldOff Try.prog 103 5 = some 5 := by kernel_rfl
theorem fo103_6 : fieldOff Try.prog 103 6 = some 6 := by kernel_rfl
theorem fo103_7 : fieldOff Try.prog 103 7 = some 7 := by kernel_rfl
theorem fo103_8 : fieldOff Try.prog 103 8 = some 8 := by kernel_rfl
theorem fo103_9 : fieldOff Try.prog 103 9 = some 9 := by kernel_rfl
theorem fo103_10 : fieldOff Try.prog 103 10 = some 10 := by kernel_rfl
theorem fo103_11 : fieldOff Try.prog 103 11 = some 11 := by kernel_rfl
theorem sp_103 : strPl Try.prog 103 = some ([(0, 1), (1, 1), (2, 1), (3, 1), (4, 1), (5, 1), (6, 1), (7, 1), (8, 1), (9, 1), (10, 1), (11, 1)], [.int .i64 0, .int .i64 0, .int .i64 0, .int .i64 0, .slice none 0 0, .int .i64 0, .slice none 0 0, .int .i64 0, .slice none 0 0, .slice none 0 0, .slice none 0 0, .slice none 0 0]) := by kernel_rfl
theorem c1_104 : cell1B Try.prog 104 = true := by kernel_rfl
theorem sz_104 : sizeV Try.prog 104 = some 1 := by kernel_rfl
theorem ze_104 : zeroV Try.prog 104 = some (.nilFunc) := by kernel_rfl
theorem c1_105 : cell1B Try.prog 105 = true := by kernel_rfl
theorem sz_105 : sizeV Try.prog 105 = some 1 := by kernel_rfl
theorem ze_105 : zeroV Try.prog 105 = some (.slice none 0 0) := by kernel_rfl
theorem el_105 : elT Try.prog 105 = some (3, 1, 8) := by kernel_rfl
theorem c1_106 : cell1B Try.prog 106 = true := by kernel_rfl
theorem sz_106 : sizeV Try.prog 106 = some 1 := by kernel_rfl
theorem ze_106 : zeroV Try.prog 106 = some (.nilFunc) := by kernel_rfl
theorem c1_107 : cell1B Try.prog 107 = true := by kernel_rfl
theorem sz_107 : sizeV Try.prog 107 = some 1 := by kernel_rfl
theorem ze_107 : zeroV Try.prog 107 = some (.nilFunc) := by kernel_rfl
theorem c1_108 : cell1B Try.prog 108 = true := by kernel_rfl
theorem sz_108 : sizeV Try.prog 108 = some 1 := by kernel_rfl
theorem ze_108 : zeroV Try.prog 108 = some (.slice none 0 0) := by kernel_rfl
theorem el_108 : elT Try.prog 108 = some (4, 1, 1) := by kernel_rfl
theorem c1_109 : cell1B Try.prog 109 = true := by kernel_rfl
theorem sz_109 : sizeV Try.prog 109 = some 1 := by kernel_rfl
theorem ze_109 : zeroV Try.prog 109 = some (.nilFunc) := by kernel_rfl
theorem c1_110 : cell1B Try.prog 110 = true := by kernel_rfl
theorem sz_110 : sizeV Try.prog 110 = some 1 := by kernel_rfl
theorem ze_110 : zeroV Try.prog 110 = some (.nilFunc) := by kernel_rfl
theorem c1_111 : cell1B Try.prog 111 = true := by kernel_rfl
theorem sz_111 : sizeV Try.prog 111 = some 1 := by kernel_rfl
theorem ze_111 : zeroV Try.prog 111 = some (.nilFunc) := by kernel_rfl
theorem c1_113 : cell1B Try.prog 113 = true := by kernel_rfl
theorem sz_113 : sizeV Try.prog 113 = some 1 := by kernel_rfl
theorem ze_113 : zeroV Try.prog 113 = some (.nilFunc) := by kernel_rfl
theorem c1_114 : cell1B Try.prog 114 = true := by kernel_rfl
theorem sz_114 : sizeV Try.prog 114 = some 1 := by kernel_rfl
theorem ze_114 : zeroV Try.prog 114 = some (.nilFunc) := by kernel_rfl
theorem ag_115 : aggB Try.prog 115 64 = true := by kernel_rfl
theorem sz_115 : sizeV Try.prog 115 = some 64 := by kernel_rfl
theorem ze_115 : zeroV Try.prog 115 = some (.agg #[.int .u8 0, .int .u8 0, .int .u8 0, .int .u8 0, .int .u8 0, .int .u8 0, .int .u8 0, .int .u8 0, .int .u8 0, .int .u8 0, .int .u8 0, .int .u8 0, .int .u8 0, .int .u8 0, .int .u8 0, .int .u8 0, .int .u8 0, .int .u8 0, .int .u8 0, .int .u8 0, .int .u8 0, .int .u8 0, .int .u8 0, .int .u8 0, .int .u8 0, .int .u8 0, .int .u8 0, .int .u8 0, .int .u8 0, .int .u8 0, .int .u8 0, .int .u8 0, .int .u8 0, .int .u8 0, .int .u8 0, .int .u8 0, .int .u8 0, .int .u8 0, .int .u8 0, .int .u8 0, .int .u8 0, .int .u8 0, .int .u8 0, .int .u8 0, .int .u8 0, .int .u8 0, .int .u8 0, .int .u8 0, .int .u8 0, .int .u8 0, .int .u8 0, .int .u8 0, .int .u8 0, .int .u8 0, .int .u8 0, .int .u8 0, .int .u8 0, .int .u8 0, .int .u8 0, .int .u8 0, .int .u8 0, .int .u8 0, .int .u8 0, .int .u8 0]) := by kernel_rfl
theorem fo115_0 : fieldOff Try.prog 115 0 = some 0 := by kernel_rfl
theorem fo115_1 : fieldOff Try.prog 115 1 = some 32 := by kernel_rfl
theorem sp_115 : strPl Try.prog 115 = some ([(0, 32), (32, 32)], [.int .u8 0, .int .u8 0, .int .u8 0, .int .u8 0, .int .u8 0, .int .u8 0, .int .u8 0, .int .u8 0, .int .u8 0, .int .u8 0, .int .u8 0, .int .u8 0, .int .u8 0, .int .u8 0, .int .u8 0, .int .u8 0, .int .u8 0, .int .u8 0, .int .u8 0, .int .u8 0, .int .u8 0, .int .u8 0, .int .u8 0, .int .u8 0, .int .u8 0, .int .u8 0, .int .u8 0, .int .u8 0, .int .u8 0, .int .u8 0, .int .u8 0, .int .u8 0, .int .u8 0, .int .u8 0, .int .u8 0, .int .u8 0, .int .u8 0, .int .u8 0, .int .u8 0, .int .u8 0, .int .u8 0, .int .u8 0, .int .u8 0, .int .u8 0, .int .u8 0, .int .u8 0, .int .u8 0, .int .u8 0, .int .u8 0, .int .u8 0, .int .u8 0, .int .u8 0, .int .u8 0, .int .u8 0, .int .u8 0, .int .u8 0, .int .u8 0, .int .u8 0, .int .u8 0, .int .u8 0, .int .u8 0, .int .u8 0, .int .u8 0, .int .u8 0]) := by kernel_rfl
theorem ag_116 : aggB Try.prog 116 64 = true := by kernel_rfl
theorem sz_116 : sizeV Try.prog 116 = some 64 := by kernel_rfl
theorem ze_116 : zeroV Try.prog 116 = some (.agg #[.int .u8 0, .int .u8 0, .int .u8 0, .int .u8 0, .int .u8 0, .int .u8 0, .int .u8 0, .int .u8 0, .int .u8 0, .int .u8 0, .int .u8 0, .int .u8 0, .int .u8 0, .int .u8 0, .int .u8 0, .int .u8 0, .int .u8 0, .int .u8 0, .int .u8 0, .int .u8 0, .int .u8 0, .int .u8 0, .int .u8 0, .int .u8 0, .int .u8 0, .int .u8 0, .int .u8 0, .int .u8 0, .int .u8 0, .int .u8 0, .int .u8 0, .int .u8 0, .int .u8 0, .int .u8 0, .int .u8 0, .int .u8 0, .int .u8 0, .int .u8 0, .int .u8 0, .int .u8 0, .int .u8 0, .int .u8 0, .int .u8 0, .int .u8 0, .int .u8 0, .int .u8 0, .int .u8 0, .int .u8 0, .int .u8 0, .int .u8 0, .int .u8 0, .int .u8 0, .int .u8 0, .int .u8 0, .int .u8 0, .int .u8 0, .int .u8 0, .int .u8 0, .int .u8 0, .int .u8 0, .int .u8 0, .int .u8 0, .int .u8 0, .int .u8 0]) := by kernel_rfl
theorem fo116_0 : fieldOff Try.prog 116 0 = some 0 := by kernel_rfl
theorem fo116_1 : fieldOff Try.prog 116 1 = some 32 := by kernel_rfl
theorem sp_116 : strPl Try.prog 116 = some ([(0, 32), (32, 32)], [.int .u8 0, .int .u8 0, .int .u8 0, .int .u8 0, .int .u8 0, .int .u8 0, .int .u8 0, .int .u8 0, .int .u8 0, .int .u8 0, .int .u8 0, .int .u8 0, .int .u8 0, .int .u8 0, .int .u8 0, .int .u8 0, .int .u8 0, .int .u8 0, .int .u8 0, .int .u8 0, .int .u8 0, .int .u8 0, .int .u8 0, .int .u8 0, .int .u8 0, .int .u8 0, .int .u8 0, .int .u8 0, .int .u8 0, .int .u8 0, .int .u8 0, .int .u8 0, .int .u8 0, .int .u8 0, .int .u8 0, .int .u8 0, .int .u8 0, .int .u8 0, .int .u8 0, .int .u8 0, .int .u8 0, .int .u8 0, .int .u8 0, .int .u8 0, .int .u8 0, .int .u8 0, .int .u8 0, .int .u8 0, .int .u8 0, .int .u8 0, .int .u8 0, .int .u8 0, .int .u8 0, .int .u8 0, .int .u8 0, .int .u8 0, .int .u8 0, .int .u8 0, .int .u8 0, .int .u8 0, .int .u8 0, .int .u8 0, .int .u8 0, .int .u8 0]) := by kernel_rfl
theorem c1_117 : cell1B Try.prog 117 = true := by kernel_rfl
theorem sz_117 : sizeV Try.prog 117 = some 1 := by kernel_rfl
theorem ze_117 : zeroV Try.prog 117 = some (.nilFunc) := by kernel_rfl
theorem c1_118 : cell1B Try.prog 118 = true := by kernel_rfl
theorem sz_118 : sizeV Try.prog 118 = some 1 := by kernel_rfl
theorem ze_118 : zeroV Try.prog 118 = some (.nilFunc) := by kernel_rfl
theorem c1_119 : cell1B Try.prog 119 = true := by kernel_rfl
theorem sz_119 : sizeV Try.prog 119 = some 1 := by kernel_rfl
theorem ze_119 : zeroV Try.prog 119 = some (.nilFunc) := by kernel_rfl
theorem c1_120 : cell1B Try.prog 120 = true := by kernel_rfl
theorem sz_120 : sizeV Try.prog 120 = some 1 := by kernel_rfl
theorem ze_120 : zeroV Try.prog 120 = some (.nilFunc) := by kernel_rfl
theorem c1_122 : cell1B Try.prog 122 = true := by kernel_rfl
theorem sz_122 : sizeV Try.prog 122 = some 1 := by kernel_rfl
theorem ze_122 : zeroV Try.prog 122 = some (.nilFunc) := by kernel_rfl
theorem c1_123 : cell1B Try.prog 123 = true := by kernel_rfl
theorem sz_123 : sizeV Try.prog 123 = some 1 := by kernel_rfl
theorem ze_123 : zeroV Try.prog 123 = some (.int .u32 0) := by kernel_rfl
theorem in_123 : intT Try.prog 123 = some .u32 := by kernel_rfl
theorem c1_124 : cell1B Try.prog 124 = true := by kernel_rfl
theorem sz_124 : sizeV Try.prog 124 = some 1 := by kernel_rfl
theorem ze_124 : zeroV Try.prog 124 = some (.slice none 0 0) := by kernel_rfl
theorem el_124 : elT Try.prog 124 = some (123, 1, 4) := by kernel_rfl
theorem c1_125 : cell1B Try.prog 125 = true := by kernel_rfl
theorem sz_125 : sizeV Try.prog 125 = some 1 := by kernel_rfl
theorem ze_125 : zeroV Try.prog 125 = some (.nilFunc) := by kernel_rfl
theorem c1_126 : cell1B Try.prog 126 = true := by kernel_rfl
theorem sz_126 : sizeV Try.prog 126 = some 1 := by kernel_rfl
theorem ze_126 : zeroV Try.prog 126 = some (.nilFunc) := by kernel_rfl
theorem c1_127 : cell1B Try.prog 127 = true := by kernel_rfl
theorem sz_127 : sizeV Try.prog 127 = some 1 := by kernel_rfl
theorem ze_127 : zeroV Try.prog 127 = some (.nilFunc) := by kernel_rfl
theorem c1_128 : cell1B Try.prog 128 = true := by kernel_rfl
theorem sz_128 : sizeV Try.prog 128 = some 1 := by kernel_rfl
theorem ze_128 : zeroV Try.prog 128 = some (.int .u64 0) := by kernel_rfl
theorem in_128 : intT Try.prog 128 = some .u64 := by kernel_rfl
theorem c1_129 : cell1B Try.prog 129 = true := by kernel_rfl
theorem sz_129 : sizeV Try.prog 129 = some 1 := by kernel_rfl
theorem ze_129 : zeroV Try.prog 129 = some (.pointer none) := by kernel_rfl
theorem pt_129 : isPtrT Try.prog 129 = true := by kernel_rfl
theorem c1_130 : cell1B Try.prog 130 = true := by kernel_rfl
theorem sz_130 : sizeV Try.prog 130 = some 1 := by kernel_rfl
theorem ze_130 : zeroV Try.prog 130 = some (.nilFunc) := by kernel_rfl
theorem c1_131 : cell1B Try.prog 131 = true := by kernel_rfl
theorem sz_131 : sizeV Try.prog 131 = some 1 := by kernel_rfl
theorem ze_131 : zeroV Try.prog 131 = some (.nilFunc) := by kernel_rfl
theorem ag_132 : aggB Try.prog 132 2 = true := by kernel_rfl
theorem sz_132 : sizeV Try.prog 132 = some 2 := by kernel_rfl
theorem ze_132 : zeroV Try.prog 132 = some (.agg #[.slice none 0 0, .int .i64 0]) := by kernel_rfl
theorem fo132_0 : fieldOff Try.prog 132 0 = some 0 := by kernel_rfl
theorem fo132_1 : fieldOff Try.prog 132 1 = some 1 := by kernel_rfl
theorem sp_132 : strPl Try.prog 132 = some ([(0, 1), (1, 1)], [.slice none 0 0, .int .i64 0]) := by kernel_rfl
theorem ag_133 : aggB Try.prog 133 2 = true := by kernel_rfl
theorem sz_133 : sizeV Try.prog 133 = some 2 := by kernel_rfl
theorem ze_133 : zeroV Try.prog 133 = some (.agg #[.slice none 0 0, .int .i64 0]) := by kernel_rfl
theorem fo133_0 : fieldOff Try.prog 133 0 = some 0 := by kernel_rfl
theorem fo133_1 : fieldOff Try.prog 133 1 = some 1 := by kernel_rfl
theorem sp_133 : strPl Try.prog 133 = some ([(0, 1), (1, 1)], [.slice none 0 0, .int .i64 0]) := by kernel_rfl
theorem ag_134 : aggB Try.prog 134 4 = true := by kernel_rfl
theorem sz_134 : sizeV Try.prog 134 = some 4 := by kernel_rfl
theorem ze_134 : zeroV Try.prog 134 = some (.agg #[.int .i64 0, .int .i64 0, .int .i64 0, .int .i64 0]) := by kernel_rfl
theorem ar_134 : arrT Try.prog 134 = some (4, 3, 1) := by kernel_rfl
theorem c1_135 : cell1B Try.prog 135 = true := by kernel_rfl
theorem sz_135 : sizeV Try.prog 135 = some 1 := by kernel_rfl
theorem ze_135 : zeroV Try.prog 135 = some (.nilFunc) := by kernel_rfl
theorem c1_136 : cell1B Try.prog 136 = true := by kernel_rfl
theorem sz_136 : sizeV Try.prog 136 = some 1 := by kernel_rfl
theorem ze_136 : zeroV Try.prog 136 = some (.int .u64 0) := by kernel_rfl
theorem in_136 : intT Try.prog 136 = some .u64 := by kernel_rfl
theorem c1_137 : cell1B Try.prog 137 = true := by kernel_rfl
theorem sz_137 : sizeV Try.prog 137 = some 1 := by kernel_rfl
theorem ze_137 : zeroV Try.prog 137 = some (.nilFunc) := by kernel_rfl
theorem c1_139 : cell1B Try.prog 139 = true := by kernel_rfl
theorem sz_139 : sizeV Try.prog 139 = some 1 := by kernel_rfl
theorem ze_139 : zeroV Try.prog 139 = some (.nilFunc) := by kernel_rfl
theorem c1_140 : cell1B Try.prog 140 = true := by kernel_rfl
theorem sz_140 : sizeV Try.prog 140 = some 1 := by kernel_rfl
theorem ze_140 : zeroV Try.prog 140 = some (.nilFunc) := by kernel_rfl
theorem c1_141 : cell1B Try.prog 141 = true := by kernel_rfl
theorem sz_141 : sizeV Try.prog 141 = some 1 := by kernel_rfl
theorem ze_141 : zeroV Try.prog 141 = some (.nilFunc) := by kernel_rfl
theorem c1_142 : cell1B Try.prog 142 = true := by kernel_rfl
theorem sz_142 : sizeV Try.prog 142 = some 1 := by kernel_rfl
theorem ze_142 : zeroV Try.prog 142 = some (.nilFunc) := by kernel_rfl
theorem c1_143 : cell1B Try.prog 143 = true := by kernel_rfl
theorem sz_143 : sizeV Try.prog 143 = some 1 := by kernel_rfl
theorem ze_143 : zeroV Try.prog 143 = some (.nilFunc) := by kernel_rfl
theorem ag_144 : aggB Try.prog 144 2 = true := by kernel_rfl
theorem sz_144 : sizeV Try.prog 144 = some 2 := by kernel_rfl
theorem ze_144 : zeroV Try.prog 144 = some (.agg #[.int .u64 0, .int .u64 0]) := by kernel_rfl
theorem fo144_0 : fieldOff Try.prog 144 0 = some 0 := by kernel_rfl
theorem fo144_1 : fieldOff Try.prog 144 1 = some 1 := by kernel_rfl
theorem sp_144 : strPl Try.prog 144 = some ([(0, 1), (1, 1)], [.int .u64 0, .int .u64 0]) := by kernel_rfl
theorem ag_145 : aggB Try.prog 145 2 = true := by kernel_rfl
theorem sz_145 : sizeV Try.prog 145 = some 2 := by kernel_rfl
theorem ze_145 : zeroV Try.prog 145 = some (.agg #[.int .u64 0, .int .u64 0]) := by kernel_rfl
theorem fo145_0 : fieldOff Try.prog 145 0 = some 0 := by kernel_rfl
theorem fo145_1 : fieldOff Try.prog 145 1 = some 1 := by kernel_rfl
theorem sp_145 : strPl Try.prog 145 = some ([(0, 1), (1, 1)], [.int .u64 0, .int .u64 0]) := by kernel_rfl
theorem c1_146 : cell1B Try.prog 146 = true := by kernel_rfl
theorem sz_146 : sizeV Try.prog 146 = some 1 := by kernel_rfl
theorem ze_146 : zeroV Try.prog 146 = some (.slice none 0 0) := by kernel_rfl
theorem el_146 : elT Try.prog 146 = some (136, 1, 8) := by kernel_rfl
theorem c1_147 : cell1B Try.prog 147 = true := by kernel_rfl
theorem sz_147 : sizeV Try.prog 147 = some 1 := by kernel_rfl
theorem ze_147 : zeroV Try.prog 147 = some (.nilFunc) := by kernel_rfl
theorem c1_148 : cell1B Try.prog 148 = true := by kernel_rfl
theorem sz_148 : sizeV Try.prog 148 = some 1 := by kernel_rfl
theorem ze_148 : zeroV Try.prog 148 = some (.nilFunc) := by kernel_rfl
theorem c1_149 : cell1B Try.prog 149 = true := by kernel_rfl
theorem sz_149 : sizeV Try.prog 149 = some 1 := by kernel_rfl
theorem ze_149 : zeroV Try.prog 149 = some (.nilFunc) := by kernel_rfl
theorem ag_150 : aggB Try.prog 150 8 = true := by kernel_rfl
theorem sz_150 : sizeV Try.prog 150 = some 8 := by kernel_rfl
theorem ze_150 : zeroV Try.prog 150 = some (.agg #[.int .u32 0, .int .u32 0, .int .u32 0, .int .u32 0, .int .u32 0, .int .u32 0, .int .u32 0, .int .u32 0]) := by kernel_rfl
theorem ar_150 : arrT Try.prog 150 = some (8, 123, 1) := by kernel_rfl
theorem ag_151 : aggB Try.prog 151 8 = true := by kernel_rfl
theorem sz_151 : sizeV Try.prog 151 = some 8 := by kernel_rfl
theorem ze_151 : zeroV Try.prog 151 = some (.agg #[.int .u32 0, .int .u32 0, .int .u32 0, .int .u32 0, .int .u32 0, .int .u32 0, .int .u32 0, .int .u32 0]) := by kernel_rfl
theorem ar_151 : arrT Try.prog 151 = some (8, 123, 1) := by kernel_rfl
theorem c1_152 : cell1B Try.prog 152 = true := by kernel_rfl
theorem sz_152 : sizeV Try.prog 152 = some 1 := by kernel_rfl
theorem ze_152 : zeroV Try.prog 152 = some (.nilFunc) := by kernel_rfl
theorem ag_153 : aggB Try.prog 153 11 = true := by kernel_rfl
theorem sz_153 : sizeV Try.prog 153 = some 11 := by kernel_rfl
theorem ze_153 : zeroV Try.prog 153 = some (.agg #[.int .u32 0, .int .u32 0, .int .u32 0, .int .u32 0, .int .u32 0, .int .u32 0, .int .u32 0, .int .u32 0, .slice none 0 0, .int .i64 0, .bool false]) := by kernel_rfl
theorem fo153_0 : fieldOff Try.prog 153 0 = some 0 := by kernel_rfl
theorem fo153_1 : fieldOff Try.prog 153 1 = some 8 := by kernel_rfl
theorem fo153_2 : fieldOff Try.prog 153 2 = some 9 := by kernel_rfl
theorem fo153_3 : fieldOff Try.prog 153 3 = some 10 := by kernel_rfl
theorem sp_153 : strPl Try.prog 153 = some ([(0, 8), (8, 1), (9, 1), (10, 1)], [.int .u32 0, .int .u32 0, .int .u32 0, .int .u32 0, .int .u32 0, .int .u32 0, .int .u32 0, .int .u32 0, .slice none 0 0, .int .i64 0, .bool false]) := by kernel_rfl
theorem ag_154 : aggB Try.prog 154 11 = true := by kernel_rfl
theorem sz_154 : sizeV Try.prog 154 = some 11 := by kernel_rfl
theorem ze_154 : zeroV Try.prog 154 = some (.agg #[.int .u32 0, .int .u32 0, .int .u32 0, .int .u32 0, .int .u32 0, .int .u32 0, .int .u32 0, .int .u32 0, .slice none 0 0, .int .i64 0, .bool false]) := by kernel_rfl
theorem fo154_0 : fieldOff Try.prog 154 0 = some 0 := by kernel_rfl
theorem fo154_1 : fieldOff Try.prog 154 1 = some 8 := by kernel_rfl
theorem fo154_2 : fieldOff Try.prog 154 2 = some 9 := by kernel_rfl
theorem fo154_3 : fieldOff Try.prog 154 3 = some 10 := by kernel_rfl
theorem sp_154 : strPl Try.prog 154 = some ([(0, 8), (8, 1), (9, 1), (10, 1)], [.int .u32 0, .int .u32 0, .int .u32 0, .int .u32 0, .int .u32 0, .int .u32 0, .int .u32 0, .int .u32 0, .slice none 0 0, .int .i64 0, .bool false]) := by kernel_rfl
theorem ag_155 : aggB Try.prog 155 64 = true := by kernel_rfl
theorem sz_155 : sizeV Try.prog 155 = some 64 := by kernel_rfl
theorem ze_155 : zeroV Try.prog 155 = some (.agg #[.int .u32 0, .int .u32 0, .int .u32 0, .int .u32 0, .int .u32 0, .int .u32 0, .int .u32 0, .int .u32 0, .int .u32 0, .int .u32 0, .int .u32 0, .int .u32 0, .int .u32 0, .int .u32 0, .int .u32 0, .int .u32 0, .int .u32 0, .int .u32 0, .int .u32 0, .int .u32 0, .int .u32 0, .int .u32 0, .int .u32 0, .int .u32 0, .int .u32 0, .int .u32 0, .int .u32 0, .int .u32 0, .int .u32 0, .int .u32 0, .int .u32 0, .int .u32 0, .int .u32 0, .int .u32 0, .int .u32 0, .int .u32 0, .int .u32 0, .int .u32 0, .int .u32 0, .int .u32 0, .int .u32 0, .int .u32 0, .int .u32 0, .int .u32 0, .int .u32 0, .int .u32 0, .int .u32 0, .int .u32 0, .int .u32 0, .int .u32 0, .int .u32 0, .int .u32 0, .int .u32 0, .int .u32 0, .int .u32 0, .int .u32 0, .int .u32 0, .int .u32 0, .int .u32 0, .int .u32 0, .int .u32 0, .int .u32 0, .int .u32 0, .int .u32 0]) := by kernel_rfl
theorem ar_155 : arrT Try.prog 155 = some (64, 123, 1) := by kernel_rfl
theorem c1_156 : cell1B Try.prog 156 = true := by kernel_rfl
theorem sz_156 : sizeV Try.prog 156 = some 1 := by kernel_rfl
theorem ze_156 : zeroV Try.prog 156 = some (.nilFunc) := by kernel_rfl
theorem c1_157 : cell1B Try.prog 157 = true := by kernel_rfl
theorem sz_157 : sizeV Try.prog 157 = some 1 := by kernel_rfl
theorem ze_157 : zeroV Try.prog 157 = some (.nilFunc) := by kernel_rfl
theorem c1_158 : cell1B Try.prog 158 = true := by kernel_rfl
theorem sz_158 : sizeV Try.prog 158 = some 1 := by kernel_rfl
theorem ze_158 : zeroV Try.prog 158 = some (.pointer none) := by kernel_rfl
theorem pt_158 : isPtrT Try.prog 158 = true := by kernel_rfl
theorem c1_159 : cell1B Try.prog 159 = true := by kernel_rfl
theorem sz_159 : sizeV Try.prog 159 = some 1 := by kernel_rfl
theorem ze_159 : zeroV Try.prog 159 = some (.pointer none) := by kernel_rfl
theorem pt_159 : isPtrT Try.prog 159 = true := by kernel_rfl
theorem c1_160 : cell1B Try.prog 160 = true := by kernel_rfl
theorem sz_160 : sizeV Try.prog 160 = some 1 := by kernel_rfl
theorem ze_160 : zeroV Try.prog 160 = some (.nilFunc) := by kernel_rfl
theorem c1_161 : cell1B Try.prog 161 = true := by kernel_rfl
theorem sz_161 : sizeV Try.prog 161 = some 1 := by kernel_rfl
theorem ze_161 : zeroV Try.prog 161 = some (.nilFunc) := by kernel_rfl
theorem ag_162 : aggB Try.prog 162 4 = true := by kernel_rfl
theorem sz_162 : sizeV Try.prog 162 = some 4 := by kernel_rfl
theorem ze_162 : zeroV Try.prog 162 = some (.agg #[.int .i64 0, .int .u64 0, .int .u64 0, .int .i64 0]) := by kernel_rfl
theorem fo162_0 : fieldOff Try.prog 162 0 = some 0 := by kernel_rfl
theorem fo162_1 : fieldOff Try.prog 162 1 = some 1 := by kernel_rfl
theorem fo162_2 : fieldOff Try.prog 162 2 = some 3 := by kernel_rfl
theorem sp_162 : strPl Try.prog 162 = some ([(0, 1), (1, 2), (3, 1)], [.int .i64 0, .int .u64 0, .int .u64 0, .int .i64 0]) := by kernel_rfl
theorem ag_163 : aggB Try.prog 163 4 = true := by kernel_rfl
theorem sz_163 : sizeV Try.prog 163 = some 4 := by kernel_rfl
theorem ze_163 : zeroV Try.prog 163 = some (.agg #[.int .i64 0, .int .u64 0, .int .u64 0, .int .i64 0]) := by kernel_rfl
theorem fo163_0 : fieldOff Try.prog 163 0 = some 0 := by kernel_rfl
theorem fo163_1 : fieldOff Try.prog 163 1 = some 1 := by kernel_rfl
theorem fo163_2 : fieldOff Try.prog 163 2 = some 3 := by kernel_rfl
theorem sp_163 : strPl Try.prog 163 = some ([(0, 1), (1, 2), (3, 1)], [.int .i64 0, .int .u64 0, .int .u64 0, .int .i64 0]) := by kernel_rfl
theorem ag_164 : aggB Try.prog 164 3 = true := by kernel_rfl
theorem sz_164 : sizeV Try.prog 164 = some 3 := by kernel_rfl
theorem ze_164 : zeroV Try.prog 164 = some (.agg #[.int .i64 0, .int .u64 0, .int .u64 0]) := by kernel_rfl
theorem fo164_0 : fieldOff Try.prog 164 0 = some 0 := by kernel_rfl
theorem fo164_1 : fieldOff Try.prog 164 1 = some 1 := by kernel_rfl
theorem sp_164 : strPl Try.prog 164 = some ([(0, 1), (1, 2)], [.int .i64 0, .int .u64 0, .int .u64 0]) := by kernel_rfl
theorem ag_165 : aggB Try.prog 165 3 = true := by kernel_rfl
theorem sz_165 : sizeV Try.prog 165 = some 3 := by kernel_rfl
theorem ze_165 : zeroV Try.prog 165 = some (.agg #[.int .i64 0, .int .u64 0, .int .u64 0]) := by kernel_rfl
theorem fo165_0 : fieldOff Try.prog 165 0 = some 0 := by kernel_rfl
theorem fo165_1 : fieldOff Try.prog 165 1 = some 1 := by kernel_rfl
theorem sp_165 : strPl Try.prog 165 = some ([(0, 1), (1, 2)], [.int .i64 0, .int .u64 0, .int .u64 0]) := by kernel_rfl
theorem ag_166 : aggB Try.prog 166 6 = true := by kernel_rfl
theorem sz_166 : sizeV Try.prog 166 = some 6 := by kernel_rfl
theorem ze_166 : zeroV Try.prog 166 = some (.agg #[.int .i64 0, .int .u64 0, .int .u64 0, .int .i64 0, .int .i64 0, .slice none 0 0]) := by kernel_rfl
theorem fo166_0 : fieldOff Try.prog 166 0 = some 0 := by kernel_rfl
theorem fo166_1 : fieldOff Try.prog 166 1 = some 1 := by kernel_rfl
theorem fo166_2 : fieldOff Try.prog 166 2 = some 3 := by kernel_rfl
theorem fo166_3 : fieldOff Try.prog 166 3 = some 4 := by kernel_rfl
theorem fo166_4 : fieldOff Try.prog 166 4 = some 5 := by kernel_rfl
theorem sp_166 : strPl Try.prog 166 = some ([(0, 1), (1, 2), (3, 1), (4, 1), (5, 1)], [.int .i64 0, .int .u64 0, .int .u64 0, .int .i64 0, .int .i64 0, .slice none 0 0]) := by kernel_rfl
theorem ag_167 : aggB Try.prog 167 6 = true := by kernel_rfl
theorem sz_167 : sizeV Try.prog 167 = some 6 := by kernel_rfl
theorem ze_167 : zeroV Try.prog 167 = some (.agg #[.int .i64 0, .int .u64 0, .int .u64 0, .int .i64 0, .int .i64 0, .slice none 0 0]) := by kernel_rfl
theorem fo167_0 : fieldOff Try.prog 167 0 = some 0 := by kernel_rfl
theorem fo167_1 : fieldOff Try.prog 167 1 = some 1 := by kernel_rfl
theorem fo167_2 : fieldOff Try.prog 167 2 = some 3 := by kernel_rfl
theorem fo167_3 : fieldOff Try.prog 167 3 = some 4 := by kernel_rfl
theorem fo167_4 : fieldOff Try.prog 167 4 = some 5 := by kernel_rfl
theorem sp_167 : strPl Try.prog 167 = some ([(0, 1), (1, 2), (3, 1), (4, 1), (5, 1)], [.int .i64 0, .int .u64 0, .int .u64 0, .int .i64 0, .int .i64 0, .slice none 0 0]) := by kernel_rfl
theorem ag_168 : aggB Try.prog 168 6 = true := by kernel_rfl
theorem sz_168 : sizeV Try.prog 168 = some 6 := by kernel_rfl
theorem ze_168 : zeroV Try.prog 168 = some (.agg #[.int .i64 0, .int .u64 0, .int .u64 0, .int .i64 0, .int .i64 0, .slice none 0 0]) := by kernel_rfl
theorem fo168_0 : fieldOff Try.prog 168 0 = some 0 := by kernel_rfl
theorem fo168_1 : fieldOff Try.prog 168 1 = some 1 := by kernel_rfl
theorem fo168_2 : fieldOff Try.prog 168 2 = some 3 := by kernel_rfl
theorem fo168_3 : fieldOff Try.prog 168 3 = some 4 := by kernel_rfl
theorem fo168_4 : fieldOff Try.prog 168 4 = some 5 := by kernel_rfl
theorem sp_168 : strPl Try.prog 168 = some ([(0, 1), (1, 2), (3, 1), (4, 1), (5, 1)], [.int .i64 0, .int .u64 0, .int .u64 0, .int .i64 0, .int .i64 0, .slice none 0 0]) := by kernel_rfl
theorem ag_169 : aggB Try.prog 169 6 = true := by kernel_rfl
theorem sz_169 : sizeV Try.prog 169 = some 6 := by kernel_rfl
theorem ze_169 : zeroV Try.prog 169 = some (.agg #[.int .i64 0, .int .u64 0, .int .u64 0, .int .i64 0, .int .i64 0, .slice none 0 0]) := by kernel_rfl
theorem fo169_0 : fieldOff Try.prog 169 0 = some 0 := by kernel_rfl
theorem fo169_1 : fieldOff Try.prog 169 1 = some 1 := by kernel_rfl
theorem fo169_2 : fieldOff Try.prog 169 2 = some 3 := by kernel_rfl
theorem fo169_3 : fieldOff Try.prog 169 3 = some 4 := by kernel_rfl
theorem fo169_4 : fieldOff Try.prog 169 4 = some 5 := by kernel_rfl
theorem sp_169 : strPl Try.prog 169 = some ([(0, 1), (1, 2), (3, 1), (4, 1), (5, 1)], [.int .i64 0, .int .u64 0, .int .u64 0, .int .i64 0, .int .i64 0, .slice none 0 0]) := by kernel_rfl
theorem c1_170 : cell1B Try.prog 170 = true := by kernel_rfl
theorem sz_170 : sizeV Try.prog 170 = some 1 := by kernel_rfl
theorem ze_170 : zeroV Try.prog 170 = some (.nilFunc) := by kernel_rfl
theorem c1_171 : cell1B Try.prog 171 = true := by kernel_rfl
theorem sz_171 : sizeV Try.prog 171 = some 1 := by kernel_rfl
theorem ze_171 : zeroV Try.prog 171 = some (.nilFunc) := by kernel_rfl
theorem c1_172 : cell1B Try.prog 172 = true := by kernel_rfl
theorem sz_172 : sizeV Try.prog 172 = some 1 := by kernel_rfl
theorem ze_172 : zeroV Try.prog 172 = some (.nilFunc) := by kernel_rfl
theorem c1_173 : cell1B Try.prog 173 = true := by kernel_rfl
theorem sz_173 : sizeV Try.prog 173 = some 1 := by kernel_rfl
theorem ze_173 : zeroV Try.prog 173 = some (.nilFunc) := by kernel_rfl
theorem c1_174 : cell1B Try.prog 174 = true := by kernel_rfl
theorem sz_174 : sizeV Try.prog 174 = some 1 := by kernel_rfl
theorem ze_174 : zeroV Try.prog 174 = some (.nilFunc) := by kernel_rfl
theorem c1_175 : cell1B Try.prog 175 = true := by kernel_rfl
theorem sz_175 : sizeV Try.prog 175 = some 1 := by kernel_rfl
theorem ze_175 : zeroV Try.prog 175 = some (.nilFunc) := by kernel_rfl
theorem ag_176 : aggB Try.prog 176 4 = true := by kernel_rfl
theorem sz_176 : sizeV Try.prog 176 = some 4 := by kernel_rfl
theorem ze_176 : zeroV Try.prog 176 = some (.agg #[.pointer none, .pointer none, .pointer none, .string ⟨#[]⟩]) := by kernel_rfl
theorem fo176_0 : fieldOff Try.prog 176 0 = some 0 := by kernel_rfl
theorem fo176_1 : fieldOff Try.prog 176 1 = some 1 := by kernel_rfl
theorem fo176_2 : fieldOff Try.prog 176 2 = some 2 := by kernel_rfl
theorem fo176_3 : fieldOff Try.prog 176 3 = some 3 := by kernel_rfl
theorem sp_176 : strPl Try.prog 176 = some ([(0, 1), (1, 1), (2, 1), (3, 1)], [.pointer none, .pointer none, .pointer none, .string ⟨#[]⟩]) := by kernel_rfl
theorem ag_177 : aggB Try.prog 177 4 = true := by kernel_rfl
theorem sz_177 : sizeV Try.prog 177 = some 4 := by kernel_rfl
theorem ze_177 : zeroV Try.prog 177 = some (.agg #[.pointer none, .pointer none, .pointer none, .string ⟨#[]⟩]) := by kernel_rfl
theorem fo177_0 : fieldOff Try.prog 177 0 = some 0 := by kernel_rfl
theorem fo177_1 : fieldOff Try.prog 177 1 = some 1 := by kernel_rfl
theorem fo177_2 : fieldOff Try.prog 177 2 = some 2 := by kernel_rfl
theorem fo177_3 : fieldOff Try.prog 177 3 = some 3 := by kernel_rfl
theorem sp_177 : strPl Try.prog 177 = some ([(0, 1), (1, 1), (2, 1), (3, 1)], [.pointer none, .pointer none, .pointer none, .string ⟨#[]⟩]) := by kernel_rfl
theorem ag_178 : aggB Try.prog 178 0 = true := by kernel_rfl
theorem sz_178 : sizeV Try.prog 178 = some 0 := by kernel_rfl
theorem ze_178 : zeroV Try.prog 178 = some (.agg #[]) := by kernel_rfl
theorem ar_178 : arrT Try.prog 178 = some (0, 16, 1) := by kernel_rfl
theorem ag_179 : aggB Try.prog 179 0 = true := by kernel_rfl
theorem sz_179 : sizeV Try.prog 179 = some 0 := by kernel_rfl
theorem ze_179 : zeroV Try.prog 179 = some (.agg #[]) := by kernel_rfl
theorem sp_179 : strPl Try.prog 179 = some ([(0, 0)], []) := by kernel_rfl
theorem ag_180 : aggB Try.prog 180 0 = true := by kernel_rfl
theorem sz_180 : sizeV Try.prog 180 = some 0 := by kernel_rfl
theorem ze_180 : zeroV Try.prog 180 = some (.agg #[]) := by kernel_rfl
theorem sp_180 : strPl Try.prog 180 = some ([(0, 0)], []) := by kernel_rfl
theorem c1_181 : cell1B Try.prog 181 = true := by kernel_rfl
theorem sz_181 : sizeV Try.prog 181 = some 1 := by kernel_rfl
theorem ze_181 : zeroV Try.prog 181 = some (.int .u8 0) := by kernel_rfl
theorem in_181 : intT Try.prog 181 = some .u8 := by kernel_rfl
theorem c1_182 : cell1B Try.prog 182 = true := by kernel_rfl
theorem sz_182 : sizeV Try.prog 182 = some 1 := by kernel_rfl
theorem ze_182 : zeroV Try.prog 182 = some (.int .u8 0) := by kernel_rfl
theorem in_182 : intT Try.prog 182 = some .u8 := by kernel_rfl
theorem c1_183 : cell1B Try.prog 183 = true := by kernel_rfl
theorem sz_183 : sizeV Try.prog 183 = some 1 := by kernel_rfl
theorem ze_183 : zeroV Try.prog 183 = some (.nilFunc) := by kernel_rfl
theorem c1_184 : cell1B Try.prog 184 = true := by kernel_rfl
theorem sz_184 : sizeV Try.prog 184 = some 1 := by kernel_rfl
theorem ze_184 : zeroV Try.prog 184 = some (.pointer none) := by kernel_rfl
theorem pt_184 : isPtrT Try.prog 184 = true := by kernel_rfl
theorem c1_185 : cell1B Try.prog 185 = true := by kernel_rfl
theorem sz_185 : sizeV Try.prog 185 = some 1 := by kernel_rfl
theorem ze_185 : zeroV Try.prog 185 = some (.int .i32 0) := by kernel_rfl
theorem in_185 : intT Try.prog 185 = some .i32 := by kernel_rfl
theorem c1_186 : cell1B Try.prog 186 = true := by kernel_rfl
theorem sz_186 : sizeV Try.prog 186 = some 1 := by kernel_rfl
theorem ze_186 : zeroV Try.prog 186 = some (.int .i32 0) := by kernel_rfl
theorem in_186 : intT Try.prog 186 = some .i32 := by kernel_rfl
theorem ag_187 : aggB Try.prog 187 11 = true := by kernel_rfl
theorem sz_187 : sizeV Try.prog 187 = some 11 := by kernel_rfl
theorem ze_187 : zeroV Try.prog 187 = some (.agg #[.int .u64 0, .int .u64 0, .int .u32 0, .int .u8 0, .int .u8 0, .int .u8 0, .int .u8 0, .nilFunc, .pointer none, .int .i32 0, .int .i32 0]) := by kernel_rfl
theorem fo187_0 : fieldOff Try.prog 187 0 = some 0 := by kernel_rfl
theorem fo187_1 : fieldOff Try.prog 187 1 = some 1 := by kernel_rfl
theorem fo187_2 : fieldOff Try.prog 187 2 = some 2 := by kernel_rfl
theorem fo187_3 : fieldOff Try.prog 187 3 = some 3 := by kernel_rfl
theorem fo187_4 : fieldOff Try.prog 187 4 = some 4 := by kernel_rfl
theorem fo187_5 : fieldOff Try.prog 187 5 = some 5 := by kernel_rfl
theorem fo187_6 : fieldOff Try.prog 187 6 = some 6 := by kernel_rfl
theorem fo187_7 : fieldOff Try.prog 187 7 = some 7 := by kernel_rfl
theorem fo187_8 : fieldOff Try.prog 187 8 = some 8 := by kernel_rfl
theorem fo187_9 : fieldOff Try.prog 187 9 = some 9 := by kernel_rfl
theorem fo187_10 : fieldOff Try.prog 187 10 = some 10 := by kernel_rfl
theorem sp_187 : strPl Try.prog 187 = some ([(0, 1), (1, 1), (2, 1), (3, 1), (4, 1), (5, 1), (6, 1), (7, 1), (8, 1), (9, 1), (10, 1)], [.int .u64 0, .int .u64 0, .int .u32 0, .int .u8 0, .int .u8 0, .int .u8 0, .int .u8 0, .nilFunc, .pointer none, .int .i32 0, .int .i32 0]) := by kernel_rfl
theorem ag_188 : aggB Try.prog 188 11 = true := by kernel_rfl
theorem sz_188 : sizeV Try.prog 188 = some 11 := by kernel_rfl
theorem ze_188 : zeroV Try.prog 188 = some (.agg #[.int .u64 0, .int .u64 0, .int .u32 0, .int .u8 0, .int .u8 0, .int .u8 0, .int .u8 0, .nilFunc, .pointer none, .int .i32 0, .int .i32 0]) := by kernel_rfl
theorem fo188_0 : fieldOff Try.prog 188 0 = some 0 := by kernel_rfl
theorem fo188_1 : fieldOff Try.prog 188 1 = some 1 := by kernel_rfl
theorem fo188_2 : fieldOff Try.prog 188 2 = some 2 := by kernel_rfl
theorem fo188_3 : fieldOff Try.prog 188 3 = some 3 := by kernel_rfl
theorem fo188_4 : fieldOff Try.prog 188 4 = some 4 := by kernel_rfl
theorem fo188_5 : fieldOff Try.prog 188 5 = some 5 := by kernel_rfl
theorem fo188_6 : fieldOff Try.prog 188 6 = some 6 := by kernel_rfl
theorem fo188_7 : fieldOff Try.prog 188 7 = some 7 := by kernel_rfl
theorem fo188_8 : fieldOff Try.prog 188 8 = some 8 := by kernel_rfl
theorem fo188_9 : fieldOff Try.prog 188 9 = some 9 := by kernel_rfl
theorem fo188_10 : fieldOff Try.prog 188 10 = some 10 := by kernel_rfl
theorem sp_188 : strPl Try.prog 188 = some ([(0, 1), (1, 1), (2, 1), (3, 1), (4, 1), (5, 1), (6, 1), (7, 1), (8, 1), (9, 1), (10, 1)], [.int .u64 0, .int .u64 0, .int .u32 0, .int .u8 0, .int .u8 0, .int .u8 0, .int .u8 0, .nilFunc, .pointer none, .int .i32 0, .int .i32 0]) := by kernel_rfl
theorem c1_189 : cell1B Try.prog 189 = true := by kernel_rfl
theorem sz_189 : sizeV Try.prog 189 = some 1 := by kernel_rfl
theorem ze_189 : zeroV Try.prog 189 = some (.nilFunc) := by kernel_rfl
theorem c1_190 : cell1B Try.prog 190 = true := by kernel_rfl
theorem sz_190 : sizeV Try.prog 190 = some 1 := by kernel_rfl
theorem ze_190 : zeroV Try.prog 190 = some (.pointer none) := by kernel_rfl
theorem cb_2 : callB Try.prog 2 = true := by kernel_rfl
theorem cb_3 : callB Try.prog 3 = true := by kernel_rfl
theorem cb_4 : callB Try.prog 4 = true := by kernel_rfl
theorem cb_5 : callB Try.prog 5 = true := by kernel_rfl
theorem cb_6 : callB Try.prog 6 = true := by kernel_rfl
theorem cb_7 : callB Try.prog 7 = true := by kernel_rfl
theorem cb_8 : callB Try.prog 8 = true := by kernel_rfl
theorem cb_9 : callB Try.prog 9 = true := by kernel_rfl
theorem cb_10 : callB Try.prog 10 = true := by kernel_rfl
theorem cb_11 : callB Try.prog 11 = true := by kernel_rfl
theorem cb_12 : callB Try.prog 12 = true := by kernel_rfl
theorem cb_13 : callB Try.prog 13 = true := by kernel_rfl
theorem cb_14 : callB Try.prog 14 = true := by kernel_rfl
theorem cb_15 : callB Try.prog 15 = true := by kernel_rfl
theorem cb_16 : callB Try.prog 16 = true := by kernel_rfl
theorem cb_17 : callB Try.prog 17 = true := by kernel_rfl
theorem cb_18 : callB Try.prog 18 = true := by kernel_rfl
theorem cb_19 : callB Try.prog 19 = true := by kernel_rfl
theorem cb_20 : callB Try.prog 20 = true := by kernel_rfl
theorem cb_21 : callB Try.prog 21 = true := by kernel_rfl
theorem cb_22 : callB Try.prog 22 = true := by kernel_rfl
theorem cb_23 : callB Try.prog 23 = true := by kernel_rfl
theorem cb_24 : callB Try.prog 24 = true := by kernel_rfl
theorem cb_25 : callB Try.prog 25 = true := by kernel_rfl
theorem cb_26 : callB Try.prog 26 = true := by kernel_rfl
theorem cb_27 : callB Try.prog 27 = true := by kernel_rfl
theorem cb_28 : callB Try.prog 28 = true := by kernel_rfl
theorem cb_29 : callB Try.prog 29 = true := by kernel_rfl
theorem cb_30 : callB Try.prog 30 = true := by kernel_rfl
theorem cb_31 : callB Try.prog 31 = true := by kernel_rfl
theorem cb_32 : callB Try.prog 32 = true := by kernel_rfl
theorem cb_33 : callB Try.prog 33 = true := by kernel_rfl
theorem cb_34 : callB Try.prog 34 = true := by kernel_rfl
theorem cb_35 : callB Try.prog 35 = true := by kernel_rfl
theorem cb_36 : callB Try.prog 36 = true := by kernel_rfl
theorem cb_37 : callB Try.prog 37 = true := by kernel_rfl
theorem cb_38 : callB Try.prog 38 = true := by kernel_rfl
theorem cb_39 : callB Try.prog 39 = true := by kernel_rfl
theorem cb_40 : callB Try.prog 40 = true := by kernel_rfl
theorem cb_41 : callB Try.prog 41 = true := by kernel_rfl
theorem cb_42 : callB Try.prog 42 = true := by kernel_rfl
theorem cb_43 : callB Try.prog 43 = true := by kernel_rfl
theorem cb_44 : callB Try.prog 44 = true := by kernel_rfl
theorem cb_45 : callB Try.prog 45 = true := by kernel_rfl
theorem cb_46 : callB Try.prog 46 = true := by kernel_rfl
theorem cb_47 : callB Try.prog 47 = true := by kernel_rfl
theorem cb_48 : callB Try.prog 48 = true := by kernel_rfl
theorem cb_49 : callB Try.prog 49 = true := by kernel_rfl
theorem cb_50 : callB Try.prog 50 = true := by kernel_rfl
theorem cb_51 : callB Try.prog 51 = true := by kernel_rfl
theorem cb_52 : callB Try.prog 52 = true := by kernel_rfl
theorem cb_53 : callB Try.prog 53 = true := by kernel_rfl
theorem cb_54 : callB Try.prog 54 = true := by kernel_rfl
theorem cb_55 : callB Try.prog 55 = true := by kernel_rfl
theorem cb_56 : callB Try.prog 56 = true := by kernel_rfl
theorem cb_57 : callB Try.prog 57 = true := by kernel_rfl
theorem cb_58 : callB Try.prog 58 = true := by kernel_rfl
theorem cb_59 : callB Try.prog 59 = true := by kernel_rfl
theorem cb_60 : callB Try.prog 60 = true := by kernel_rfl
theorem cb_61 : callB Try.prog 61 = true := by kernel_rfl
theorem cb_62 : callB Try.prog 62 = true := by kernel_rfl
theorem cb_63 : callB Try.prog 63 = true := by kernel_rfl
theorem cb_64 : callB Try.prog 64 = true := by kernel_rfl
theorem cb_65 : callB Try.prog 65 = true := by kernel_rfl
theorem cb_66 : callB Try.prog 66 = true := by kernel_rfl
theorem cb_67 : callB Try.prog 67 = true := by kernel_rfl
theorem cb_68 : callB Try.prog 68 = true := by kernel_rfl
theorem cb_69 : callB Try.prog 69 = true := by kernel_rfl
theorem cb_70 : callB Try.prog 70 = true := by kernel_rfl
theorem cb_71 : callB Try.prog 71 = true := by kernel_rfl
theorem cb_72 : callB Try.prog 72 = true := by kernel_rfl
theorem cb_73 : callB Try.prog 73 = true := by kernel_rfl
theorem cb_74 : callB Try.prog 74 = true := by kernel_rfl
theorem cb_75 : callB Try.prog 75 = true := by kernel_rfl
theorem cb_76 : callB Try.prog 76 = true := by kernel_rfl
theorem cb_77 : callB Try.prog 77 = true := by kernel_rfl
theorem cb_78 : callB Try.prog 78 = true := by kernel_rfl
theorem cb_79 : callB Try.prog 79 = true := by kernel_rfl
theorem cb_80 : callB Try.prog 80 = true := by kernel_rfl
theorem cb_81 : callB Try.prog 81 = true := by kernel_rfl
theorem cb_82 : callB Try.prog 82 = true := by kernel_rfl
theorem cb_83 : callB Try.prog 83 = true := by kernel_rfl
theorem cb_84 : callB Try.prog 84 = true := by kernel_rfl
theorem cb_85 : callB Try.prog 85 = true := by kernel_rfl
theorem cb_86 : callB Try.prog 86 = true := by kernel_rfl
theorem cb_87 : callB Try.prog 87 = true := by kernel_rfl
theorem cb_88 : callB Try.prog 88 = true := by kernel_rfl
theorem cb_89 : callB Try.prog 89 = true := by kernel_rfl
theorem cb_90 : callB Try.prog 90 = true := by kernel_rfl
theorem cb_91 : callB Try.prog 91 = true := by kernel_rfl
theorem cb_92 : callB Try.prog 92 = true := by kernel_rfl
theorem cb_93 : callB Try.prog 93 = true := by kernel_rfl
theorem cb_94 : callB Try.prog 94 = true := by kernel_rfl
theorem cb_95 : callB Try.prog 95 = true := by kernel_rfl
theorem cb_96 : callB Try.prog 96 = true := by kernel_rfl
theorem cb_97 : callB Try.prog 97 = true := by kernel_rfl
theorem cb_98 : callB Try.prog 98 = true := by kernel_rfl
theorem cb_99 : callB Try.prog 99 = true := by kernel_rfl
theorem cb_100 : callB Try.prog 100 = true := by kernel_rfl
theorem cb_101 : callB Try.prog 101 = true := by kernel_rfl
theorem cb_102 : callB Try.prog 102 = true := by kernel_rfl
theorem cb_103 : callB Try.prog 103 = true := by kernel_rfl
theorem cb_104 : callB Try.prog 104 = true := by kernel_rfl
theorem cb_105 : callB Try.prog 105 = true := by kernel_rfl
theorem cb_106 : callB Try.prog 106 = true := by kernel_rfl
theorem cb_107 : callB Try.prog 107 = true := by kernel_rfl
theorem cb_108 : callB Try.prog 108 = true := by kernel_rfl
theorem cb_109 : callB Try.prog 109 = true := by kernel_rfl
theorem mixed : Try.prog.follows .mixedOrders = true := by kernel_rfl
end Go.Proofs.Ytcmmhpkgjcepdaa
