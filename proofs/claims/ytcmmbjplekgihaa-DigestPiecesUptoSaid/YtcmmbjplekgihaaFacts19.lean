/- Closed facts of this translation's tables, reckoned by the kernel; no conditions. -/
import Derived.Test.YtcmmbjplekgihaaProg
import Derived.Test.YtcmmbjplekgihaaBase15
namespace Go.Proofs.Ytcmmbjplekgihaa
open Go.EW
theorem c1_1 : cell1B Try.prog 1 = true := by kernel_rfl
theorem sz_1 : sizeV Try.prog 1 = some 1 := by kernel_rfl
theorem ze_1 : zeroV Try.prog 1 = some (.nilFunc) := by kernel_rfl
theorem c1_2 : cell1B Try.prog 2 = true := by kernel_rfl
theorem sz_2 : sizeV Try.prog 2 = some 1 := by kernel_rfl
theorem ze_2 : zeroV Try.prog 2 = some (.int .i64 0) := by kernel_rfl
theorem in_2 : intT Try.prog 2 = some .i64 := by kernel_rfl
theorem c1_3 : cell1B Try.prog 3 = true := by kernel_rfl
theorem sz_3 : sizeV Try.prog 3 = some 1 := by kernel_rfl
theorem ze_3 : zeroV Try.prog 3 = some (.int .i64 0) := by kernel_rfl
theorem in_3 : intT Try.prog 3 = some .i64 := by kernel_rfl
theorem c1_4 : cell1B Try.prog 4 = true := by kernel_rfl
theorem sz_4 : sizeV Try.prog 4 = some 1 := by kernel_rfl
theorem ze_4 : zeroV Try.prog 4 = some (.bool false) := by kernel_rfl
theorem bo_4 : isBoolT Try.prog 4 = true := by kernel_rfl
theorem c1_5 : cell1B Try.prog 5 = true := by kernel_rfl
theorem sz_5 : sizeV Try.prog 5 = some 1 := by kernel_rfl
theorem ze_5 : zeroV Try.prog 5 = some (.int .u8 0) := by kernel_rfl
theorem in_5 : intT Try.prog 5 = some .u8 := by kernel_rfl
theorem c1_6 : cell1B Try.prog 6 = true := by kernel_rfl
theorem sz_6 : sizeV Try.prog 6 = some 1 := by kernel_rfl
theorem ze_6 : zeroV Try.prog 6 = some (.int .u8 0) := by kernel_rfl
theorem in_6 : intT Try.prog 6 = some .u8 := by kernel_rfl
theorem ag_7 : aggB Try.prog 7 4 = true := by kernel_rfl
theorem sz_7 : sizeV Try.prog 7 = some 4 := by kernel_rfl
theorem ze_7 : zeroV Try.prog 7 = some (.agg #[.int .i64 0, .int .i64 0, .bool false, .int .u8 0]) := by kernel_rfl
theorem fo7_0 : fieldOff Try.prog 7 0 = some 0 := by kernel_rfl
theorem fo7_1 : fieldOff Try.prog 7 1 = some 1 := by kernel_rfl
theorem fo7_2 : fieldOff Try.prog 7 2 = some 2 := by kernel_rfl
theorem fo7_3 : fieldOff Try.prog 7 3 = some 3 := by kernel_rfl
theorem sp_7 : strPl Try.prog 7 = some ([(0, 1), (1, 1), (2, 1), (3, 1)], [.int .i64 0, .int .i64 0, .bool false, .int .u8 0]) := by kernel_rfl
theorem ag_8 : aggB Try.prog 8 4 = true := by kernel_rfl
theorem sz_8 : sizeV Try.prog 8 = some 4 := by kernel_rfl
theorem ze_8 : zeroV Try.prog 8 = some (.agg #[.int .i64 0, .int .i64 0, .bool false, .int .u8 0]) := by kernel_rfl
theorem fo8_0 : fieldOff Try.prog 8 0 = some 0 := by kernel_rfl
theorem fo8_1 : fieldOff Try.prog 8 1 = some 1 := by kernel_rfl
theorem fo8_2 : fieldOff Try.prog 8 2 = some 2 := by kernel_rfl
theorem fo8_3 : fieldOff Try.prog 8 3 = some 3 := by kernel_rfl
theorem sp_8 : strPl Try.prog 8 = some ([(0, 1), (1, 1), (2, 1), (3, 1)], [.int .i64 0, .int .i64 0, .bool false, .int .u8 0]) := by kernel_rfl
theorem c1_9 : cell1B Try.prog 9 = true := by kernel_rfl
theorem sz_9 : sizeV Try.prog 9 = some 1 := by kernel_rfl
theorem ze_9 : zeroV Try.prog 9 = some (.string ⟨#[]⟩) := by kernel_rfl
theorem st_9 : isStrT Try.prog 9 = true := by kernel_rfl
theorem c1_10 : cell1B Try.prog 10 = true := by kernel_rfl
theorem sz_10 : sizeV Try.prog 10 = some 1 := by kernel_rfl
theorem ze_10 : zeroV Try.prog 10 = some (.string ⟨#[]⟩) := by kernel_rfl
theorem st_10 : isStrT Try.prog 10 = true := by kernel_rfl
theorem c1_11 : cell1B Try.prog 11 = true := by kernel_rfl
theorem sz_11 : sizeV Try.prog 11 = some 1 := by kernel_rfl
theorem ze_11 : zeroV Try.prog 11 = some (.string ⟨#[]⟩) := by kernel_rfl
theorem st_11 : isStrT Try.prog 11 = true := by kernel_rfl
theorem c1_12 : cell1B Try.prog 12 = true := by kernel_rfl
theorem sz_12 : sizeV Try.prog 12 = some 1 := by kernel_rfl
theorem ze_12 : zeroV Try.prog 12 = some (.int .u64 0) := by kernel_rfl
theorem in_12 : intT Try.prog 12 = some .u64 := by kernel_rfl
theorem ag_13 : aggB Try.prog 13 2 = true := by kernel_rfl
theorem sz_13 : sizeV Try.prog 13 = some 2 := by kernel_rfl
theorem ze_13 : zeroV Try.prog 13 = some (.agg #[.string ⟨#[]⟩, .int .u64 0]) := by kernel_rfl
theorem fo13_0 : fieldOff Try.prog 13 0 = some 0 := by kernel_rfl
theorem fo13_1 : fieldOff Try.prog 13 1 = some 1 := by kernel_rfl
theorem sp_13 : strPl Try.prog 13 = some ([(0, 1), (1, 1)], [.string ⟨#[]⟩, .int .u64 0]) := by kernel_rfl
theorem ag_14 : aggB Try.prog 14 2 = true := by kernel_rfl
theorem sz_14 : sizeV Try.prog 14 = some 2 := by kernel_rfl
theorem ze_14 : zeroV Try.prog 14 = some (.agg #[.string ⟨#[]⟩, .int .u64 0]) := by kernel_rfl
theorem fo14_0 : fieldOff Try.prog 14 0 = some 0 := by kernel_rfl
theorem fo14_1 : fieldOff Try.prog 14 1 = some 1 := by kernel_rfl
theorem sp_14 : strPl Try.prog 14 = some ([(0, 1), (1, 1)], [.string ⟨#[]⟩, .int .u64 0]) := by kernel_rfl
theorem c1_15 : cell1B Try.prog 15 = true := by kernel_rfl
theorem sz_15 : sizeV Try.prog 15 = some 1 := by kernel_rfl
theorem ze_15 : zeroV Try.prog 15 = some (.pointer none) := by kernel_rfl
theorem pt_15 : isPtrT Try.prog 15 = true := by kernel_rfl
theorem c1_16 : cell1B Try.prog 16 = true := by kernel_rfl
theorem sz_16 : sizeV Try.prog 16 = some 1 := by kernel_rfl
theorem ze_16 : zeroV Try.prog 16 = some (.pointer none) := by kernel_rfl
theorem pt_16 : isPtrT Try.prog 16 = true := by kernel_rfl
theorem c1_17 : cell1B Try.prog 17 = true := by kernel_rfl
theorem sz_17 : sizeV Try.prog 17 = some 1 := by kernel_rfl
theorem ze_17 : zeroV Try.prog 17 = some (.pointer none) := by kernel_rfl
theorem pt_17 : isPtrT Try.prog 17 = true := by kernel_rfl
theorem ag_18 : aggB Try.prog 18 1 = true := by kernel_rfl
theorem sz_18 : sizeV Try.prog 18 = some 1 := by kernel_rfl
theorem ze_18 : zeroV Try.prog 18 = some (.agg #[.pointer none]) := by kernel_rfl
theorem fo18_0 : fieldOff Try.prog 18 0 = some 0 := by kernel_rfl
theorem sp_18 : strPl Try.prog 18 = some ([(0, 1)], [.pointer none]) := by kernel_rfl
theorem ag_19 : aggB Try.prog 19 1 = true := by kernel_rfl
theorem sz_19 : sizeV Try.prog 19 = some 1 := by kernel_rfl
theorem ze_19 : zeroV Try.prog 19 = some (.agg #[.pointer none]) := by kernel_rfl
theorem fo19_0 : fieldOff Try.prog 19 0 = some 0 := by kernel_rfl
theorem sp_19 : strPl Try.prog 19 = some ([(0, 1)], [.pointer none]) := by kernel_rfl
theorem c1_20 : cell1B Try.prog 20 = true := by kernel_rfl
theorem sz_20 : sizeV Try.prog 20 = some 1 := by kernel_rfl
theorem ze_20 : zeroV Try.prog 20 = some (.nilIface) := by kernel_rfl
theorem c1_21 : cell1B Try.prog 21 = true := by kernel_rfl
theorem sz_21 : sizeV Try.prog 21 = some 1 := by kernel_rfl
theorem ze_21 : zeroV Try.prog 21 = some (.int .i32 0) := by kernel_rfl
theorem in_21 : intT Try.prog 21 = some .i32 := by kernel_rfl
theorem c1_22 : cell1B Try.prog 22 = true := by kernel_rfl
theorem sz_22 : sizeV Try.prog 22 = some 1 := by kernel_rfl
theorem ze_22 : zeroV Try.prog 22 = some (.slice none 0 0) := by kernel_rfl
theorem el_22 : elT Try.prog 22 = some (5, 1, 1) := by kernel_rfl
theorem by_22 : isBytesT Try.prog 22 = true := by kernel_rfl
theorem c1_23 : cell1B Try.prog 23 = true := by kernel_rfl
theorem sz_23 : sizeV Try.prog 23 = some 1 := by kernel_rfl
theorem ze_23 : zeroV Try.prog 23 = some (.slice none 0 0) := by kernel_rfl
theorem el_23 : elT Try.prog 23 = some (22, 1, 24) := by kernel_rfl
theorem c1_24 : cell1B Try.prog 24 = true := by kernel_rfl
theorem sz_24 : sizeV Try.prog 24 = some 1 := by kernel_rfl
theorem ze_24 : zeroV Try.prog 24 = some (.slice none 0 0) := by kernel_rfl
theorem el_24 : elT Try.prog 24 = some (69, 1, 24) := by kernel_rfl
theorem c1_25 : cell1B Try.prog 25 = true := by kernel_rfl
theorem sz_25 : sizeV Try.prog 25 = some 1 := by kernel_rfl
theorem ze_25 : zeroV Try.prog 25 = some (.slice none 0 0) := by kernel_rfl
theorem el_25 : elT Try.prog 25 = some (67, 1, 24) := by kernel_rfl
theorem c1_26 : cell1B Try.prog 26 = true := by kernel_rfl
theorem sz_26 : sizeV Try.prog 26 = some 1 := by kernel_rfl
theorem ze_26 : zeroV Try.prog 26 = some (.slice none 0 0) := by kernel_rfl
theorem el_26 : elT Try.prog 26 = some (77, 1, 24) := by kernel_rfl
theorem c1_27 : cell1B Try.prog 27 = true := by kernel_rfl
theorem sz_27 : sizeV Try.prog 27 = some 1 := by kernel_rfl
theorem ze_27 : zeroV Try.prog 27 = some (.slice none 0 0) := by kernel_rfl
theorem el_27 : elT Try.prog 27 = some (75, 12, 192) := by kernel_rfl
theorem ag_28 : aggB Try.prog 28 10 = true := by kernel_rfl
theorem sz_28 : sizeV Try.prog 28 = some 10 := by kernel_rfl
theorem ze_28 : zeroV Try.prog 28 = some (.agg #[.slice none 0 0, .slice none 0 0, .slice none 0 0, .slice none 0 0, .slice none 0 0, .slice none 0 0, .slice none 0 0, .slice none 0 0, .slice none 0 0, .slice none 0 0]) := by kernel_rfl
theorem fo28_0 : fieldOff Try.prog 28 0 = some 0 := by kernel_rfl
theorem fo28_1 : fieldOff Try.prog 28 1 = some 1 := by kernel_rfl
theorem fo28_2 : fieldOff Try.prog 28 2 = some 2 := by kernel_rfl
theorem fo28_3 : fieldOff Try.prog 28 3 = some 3 := by kernel_rfl
theorem fo28_4 : fieldOff Try.prog 28 4 = some 4 := by kernel_rfl
theorem fo28_5 : fieldOff Try.prog 28 5 = some 5 := by kernel_rfl
theorem fo28_6 : fieldOff Try.prog 28 6 = some 6 := by kernel_rfl
theorem fo28_7 : fieldOff Try.prog 28 7 = some 7 := by kernel_rfl
theorem fo28_8 : fieldOff Try.prog 28 8 = some 8 := by kernel_rfl
theorem fo28_9 : fieldOff Try.prog 28 9 = some 9 := by kernel_rfl
theorem sp_28 : strPl Try.prog 28 = some ([(0, 1), (1, 1), (2, 1), (3, 1), (4, 1), (5, 1), (6, 1), (7, 1), (8, 1), (9, 1)], [.slice none 0 0, .slice none 0 0, .slice none 0 0, .slice none 0 0, .slice none 0 0, .slice none 0 0, .slice none 0 0, .slice none 0 0, .slice none 0 0, .slice none 0 0]) := by kernel_rfl
theorem ag_29 : aggB Try.prog 29 10 = true := by kernel_rfl
theorem sz_29 : sizeV Try.prog 29 = some 10 := by kernel_rfl
theorem ze_29 : zeroV Try.prog 29 = some (.agg #[.slice none 0 0, .slice none 0 0, .slice none 0 0, .slice none 0 0, .slice none 0 0, .slice none 0 0, .slice none 0 0, .slice none 0 0, .slice none 0 0, .slice none 0 0]) := by kernel_rfl
theorem fo29_0 : fieldOff Try.prog 29 0 = some 0 := by kernel_rfl
theorem fo29_1 : fieldOff Try.prog 29 1 = some 1 := by kernel_rfl
theorem fo29_2 : fieldOff Try.prog 29 2 = some 2 := by kernel_rfl
theorem fo29_3 : fieldOff Try.prog 29 3 = some 3 := by kernel_rfl
theorem fo29_4 : fieldOff Try.prog 29 4 = some 4 := by kernel_rfl
theorem fo29_5 : fieldOff Try.prog 29 5 = some 5 := by kernel_rfl
theorem fo29_6 : fieldOff Try.prog 29 6 = some 6 := by kernel_rfl
theorem fo29_7 : fieldOff Try.prog 29 7 = some 7 := by kernel_rfl
theorem fo29_8 : fieldOff Try.prog 29 8 = some 8 := by kernel_rfl
theorem fo29_9 : fieldOff Try.prog 29 9 = some 9 := by kernel_rfl
theorem sp_29 : strPl Try.prog 29 = some ([(0, 1), (1, 1), (2, 1), (3, 1), (4, 1), (5, 1), (6, 1), (7, 1), (8, 1), (9, 1)], [.slice none 0 0, .slice none 0 0, .slice none 0 0, .slice none 0 0, .slice none 0 0, .slice none 0 0, .slice none 0 0, .slice none 0 0, .slice none 0 0, .slice none 0 0]) := by kernel_rfl
theorem c1_30 : cell1B Try.prog 30 = true := by kernel_rfl
theorem sz_30 : sizeV Try.prog 30 = some 1 := by kernel_rfl
theorem ze_30 : zeroV Try.prog 30 = some (.nilFunc) := by kernel_rfl
theorem ag_31 : aggB Try.prog 31 32 = true := by kernel_rfl
theorem sz_31 : sizeV Try.prog 31 = some 32 := by kernel_rfl
theorem ze_31 : zeroV Try.prog 31 = some (.agg #[.int .u8 0, .int .u8 0, .int .u8 0, .int .u8 0, .int .u8 0, .int .u8 0, .int .u8 0, .int .u8 0, .int .u8 0, .int .u8 0, .int .u8 0, .int .u8 0, .int .u8 0, .int .u8 0, .int .u8 0, .int .u8 0, .int .u8 0, .int .u8 0, .int .u8 0, .int .u8 0, .int .u8 0, .int .u8 0, .int .u8 0, .int .u8 0, .int .u8 0, .int .u8 0, .int .u8 0, .int .u8 0, .int .u8 0, .int .u8 0, .int .u8 0, .int .u8 0]) := by kernel_rfl
theorem ar_31 : arrT Try.prog 31 = some (32, 5, 1) := by kernel_rfl
theorem ag_32 : aggB Try.prog 32 32 = true := by kernel_rfl
theorem sz_32 : sizeV Try.prog 32 = some 32 := by kernel_rfl
theorem ze_32 : zeroV Try.prog 32 = some (.agg #[.int .u8 0, .int .u8 0, .int .u8 0, .int .u8 0, .int .u8 0, .int .u8 0, .int .u8 0, .int .u8 0, .int .u8 0, .int .u8 0, .int .u8 0, .int .u8 0, .int .u8 0, .int .u8 0, .int .u8 0, .int .u8 0, .int .u8 0, .int .u8 0, .int .u8 0, .int .u8 0, .int .u8 0, .int .u8 0, .int .u8 0, .int .u8 0, .int .u8 0, .int .u8 0, .int .u8 0, .int .u8 0, .int .u8 0, .int .u8 0, .int .u8 0, .int .u8 0]) := by kernel_rfl
theorem ar_32 : arrT Try.prog 32 = some (32, 5, 1) := by kernel_rfl
theorem c1_33 : cell1B Try.prog 33 = true := by kernel_rfl
theorem sz_33 : sizeV Try.prog 33 = some 1 := by kernel_rfl
theorem ze_33 : zeroV Try.prog 33 = some (.nilFunc) := by kernel_rfl
theorem c1_34 : cell1B Try.prog 34 = true := by kernel_rfl
theorem sz_34 : sizeV Try.prog 34 = some 1 := by kernel_rfl
theorem ze_34 : zeroV Try.prog 34 = some (.nilFunc) := by kernel_rfl
theorem c1_35 : cell1B Try.prog 35 = true := by kernel_rfl
theorem sz_35 : sizeV Try.prog 35 = some 1 := by kernel_rfl
theorem ze_35 : zeroV Try.prog 35 = some (.nilFunc) := by kernel_rfl
theorem c1_36 : cell1B Try.prog 36 = true := by kernel_rfl
theorem sz_36 : sizeV Try.prog 36 = some 1 := by kernel_rfl
theorem ze_36 : zeroV Try.prog 36 = some (.nilFunc) := by kernel_rfl
theorem c1_37 : cell1B Try.prog 37 = true := by kernel_rfl
theorem sz_37 : sizeV Try.prog 37 = some 1 := by kernel_rfl
theorem ze_37 : zeroV Try.prog 37 = some (.nilFunc) := by kernel_rfl
theorem c1_38 : cell1B Try.prog 38 = true := by kernel_rfl
theorem sz_38 : sizeV Try.prog 38 = some 1 := by kernel_rfl
theorem ze_38 : zeroV Try.prog 38 = some (.slice none 0 0) := by kernel_rfl
theorem el_38 : elT Try.prog 38 = some (4, 1, 1) := by kernel_rfl
theorem c1_39 : cell1B Try.prog 39 = true := by kernel_rfl
theorem sz_39 : sizeV Try.prog 39 = some 1 := by kernel_rfl
theorem ze_39 : zeroV Try.prog 39 = some (.pointer none) := by kernel_rfl
theorem pt_39 : isPtrT Try.prog 39 = true := by kernel_rfl
theorem c1_40 : cell1B Try.prog 40 = true := by kernel_rfl
theorem sz_40 : sizeV Try.prog 40 = some 1 := by kernel_rfl
theorem ze_40 : zeroV Try.prog 40 = some (.nilFunc) := by kernel_rfl
theorem c1_41 : cell1B Try.prog 41 = true := by kernel_rfl
theorem sz_41 : sizeV Try.prog 41 = some 1 := by kernel_rfl
theorem ze_41 : zeroV Try.prog 41 = some (.nilFunc) := by kernel_rfl
theorem c1_42 : cell1B Try.prog 42 = true := by kernel_rfl
theorem sz_42 : sizeV Try.prog 42 = some 1 := by kernel_rfl
theorem ze_42 : zeroV Try.prog 42 = some (.nilFunc) := by kernel_rfl
theorem c1_43 : cell1B Try.prog 43 = true := by kernel_rfl
theorem sz_43 : sizeV Try.prog 43 = some 1 := by kernel_rfl
theorem ze_43 : zeroV Try.prog 43 = some (.nilFunc) := by kernel_rfl
theorem c1_44 : cell1B Try.prog 44 = true := by kernel_rfl
theorem sz_44 : sizeV Try.prog 44 = some 1 := by kernel_rfl
theorem ze_44 : zeroV Try.prog 44 = some (.nilFunc) := by kernel_rfl
theorem c1_45 : cell1B Try.prog 45 = true := by kernel_rfl
theorem sz_45 : sizeV Try.prog 45 = some 1 := by kernel_rfl
theorem ze_45 : zeroV Try.prog 45 = some (.int .u32 0) := by kernel_rfl
theorem in_45 : intT Try.prog 45 = some .u32 := by kernel_rfl
theorem ag_46 : aggB Try.prog 46 8 = true := by kernel_rfl
theorem sz_46 : sizeV Try.prog 46 = some 8 := by kernel_rfl
theorem ze_46 : zeroV Try.prog 46 = some (.agg #[.int .u32 0, .int .u32 0, .int .u32 0, .int .u32 0, .int .u32 0, .int .u32 0, .int .u32 0, .int .u32 0]) := by kernel_rfl
theorem ar_46 : arrT Try.prog 46 = some (8, 45, 1) := by kernel_rfl
theorem ag_47 : aggB Try.prog 47 8 = true := by kernel_rfl
theorem sz_47 : sizeV Try.prog 47 = some 8 := by kernel_rfl
theorem ze_47 : zeroV Try.prog 47 = some (.agg #[.int .u32 0, .int .u32 0, .int .u32 0, .int .u32 0, .int .u32 0, .int .u32 0, .int .u32 0, .int .u32 0]) := by kernel_rfl
theorem ar_47 : arrT Try.prog 47 = some (8, 45, 1) := by kernel_rfl
theorem ag_48 : aggB Try.prog 48 11 = true := by kernel_rfl
theorem sz_48 : sizeV Try.prog 48 = some 11 := by kernel_rfl
theorem ze_48 : zeroV Try.prog 48 = some (.agg #[.int .u32 0, .int .u32 0, .int .u32 0, .int .u32 0, .int .u32 0, .int .u32 0, .int .u32 0, .int .u32 0, .slice none 0 0, .int .i64 0, .bool false]) := by kernel_rfl
theorem fo48_0 : fieldOff Try.prog 48 0 = some 0 := by kernel_rfl
theorem fo48_1 : fieldOff Try.prog 48 1 = some 8 := by kernel_rfl
theorem fo48_2 : fieldOff Try.prog 48 2 = some 9 := by kernel_rfl
theorem fo48_3 : fieldOff Try.prog 48 3 = some 10 := by kernel_rfl
theorem sp_48 : strPl Try.prog 48 = some ([(0, 8), (8, 1), (9, 1), (10, 1)], [.int .u32 0, .int .u32 0, .int .u32 0, .int .u32 0, .int .u32 0, .int .u32 0, .int .u32 0, .int .u32 0, .slice none 0 0, .int .i64 0, .bool false]) := by kernel_rfl
theorem ag_49 : aggB Try.prog 49 11 = true := by kernel_rfl
theorem sz_49 : sizeV Try.prog 49 = some 11 := by kernel_rfl
theorem ze_49 : zeroV Try.prog 49 = some (.agg #[.int .u32 0, .int .u32 0, .int .u32 0, .int .u32 0, .int .u32 0, .int .u32 0, .int .u32 0, .int .u32 0, .slice none 0 0, .int .i64 0, .bool false]) := by kernel_rfl
theorem fo49_0 : fieldOff Try.prog 49 0 = some 0 := by kernel_rfl
theorem fo49_1 : fieldOff Try.prog 49 1 = some 8 := by kernel_rfl
theorem fo49_2 : fieldOff Try.prog 49 2 = some 9 := by kernel_rfl
theorem fo49_3 : fieldOff Try.prog 49 3 = some 10 := by kernel_rfl
theorem sp_49 : strPl Try.prog 49 = some ([(0, 8), (8, 1), (9, 1), (10, 1)], [.int .u32 0, .int .u32 0, .int .u32 0, .int .u32 0, .int .u32 0, .int .u32 0, .int .u32 0, .int .u32 0, .slice none 0 0, .int .i64 0, .bool false]) := by kernel_rfl
theorem c1_50 : cell1B Try.prog 50 = true := by kernel_rfl
theorem sz_50 : sizeV Try.prog 50 = some 1 := by kernel_rfl
theorem ze_50 : zeroV Try.prog 50 = some (.nilFunc) := by kernel_rfl
theorem c1_51 : cell1B Try.prog 51 = true := by kernel_rfl
theorem sz_51 : sizeV Try.prog 51 = some 1 := by kernel_rfl
theorem ze_51 : zeroV Try.prog 51 = some (.int .i64 0) := by kernel_rfl
theorem in_51 : intT Try.prog 51 = some .i64 := by kernel_rfl
theorem c1_53 : cell1B Try.prog 53 = true := by kernel_rfl
theorem sz_53 : sizeV Try.prog 53 = some 1 := by kernel_rfl
theorem ze_53 : zeroV Try.prog 53 = some (.nilFunc) := by kernel_rfl
theorem c1_55 : cell1B Try.prog 55 = true := by kernel_rfl
theorem sz_55 : sizeV Try.prog 55 = some 1 := by kernel_rfl
theorem ze_55 : zeroV Try.prog 55 = some (.nilFunc) := by kernel_rfl
theorem c1_56 : cell1B Try.prog 56 = true := by kernel_rfl
theorem sz_56 : sizeV Try.prog 56 = some 1 := by kernel_rfl
theorem ze_56 : zeroV Try.prog 56 = some (.nilFunc) := by kernel_rfl
theorem c1_57 : cell1B Try.prog 57 = true := by kernel_rfl
theorem sz_57 : sizeV Try.prog 57 = some 1 := by kernel_rfl
theorem ze_57 : zeroV Try.prog 57 = some (.nilFunc) := by kernel_rfl
theorem c1_58 : cell1B Try.prog 58 = true := by kernel_rfl
theorem sz_58 : sizeV Try.prog 58 = some 1 := by kernel_rfl
theorem ze_58 : zeroV Try.prog 58 = some (.nilFunc) := by kernel_rfl
theorem c1_59 : cell1B Try.prog 59 = true := by kernel_rfl
theorem sz_59 : sizeV Try.prog 59 = some 1 := by kernel_rfl
theorem ze_59 : zeroV Try.prog 59 = some (.nilFunc) := by kernel_rfl
theorem c1_60 : cell1B Try.prog 60 = true := by kernel_rfl
theorem sz_60 : sizeV Try.prog 60 = some 1 := by kernel_rfl
theorem ze_60 : zeroV Try.prog 60 = some (.pointer none) := by kernel_rfl
theorem pt_60 : isPtrT Try.prog 60 = true := by kernel_rfl
theorem c1_61 : cell1B Try.prog 61 = true := by kernel_rfl
theorem sz_61 : sizeV Try.prog 61 = some 1 := by kernel_rfl
theorem ze_61 : zeroV Try.prog 61 = some (.slice none 0 0) := by kernel_rfl
theorem el_61 : elT Try.prog 61 = some (45, 1, 4) := by kernel_rfl
theorem c1_62 : cell1B Try.prog 62 = true := by kernel_rfl
theorem sz_62 : sizeV Try.prog 62 = some 1 := by kernel_rfl
theorem ze_62 : zeroV Try.prog 62 = some (.nilFunc) := by kernel_rfl
theorem c1_63 : cell1B Try.prog 63 = true := by kernel_rfl
theorem sz_63 : sizeV Try.prog 63 = some 1 := by kernel_rfl
theorem ze_63 : zeroV Try.prog 63 = some (.nilFunc) := by kernel_rfl
theorem c1_64 : cell1B Try.prog 64 = true := by kernel_rfl
theorem sz_64 : sizeV Try.prog 64 = some 1 := by kernel_rfl
theorem ze_64 : zeroV Try.prog 64 = some (.int .u64 0) := by kernel_rfl
theorem in_64 : intT Try.prog 64 = some .u64 := by kernel_rfl
theorem c1_65 : cell1B Try.prog 65 = true := by kernel_rfl
theorem sz_65 : sizeV Try.prog 65 = some 1 := by kernel_rfl
theorem ze_65 : zeroV Try.prog 65 = some (.nilFunc) := by kernel_rfl
theorem c1_66 : cell1B Try.prog 66 = true := by kernel_rfl
theorem sz_66 : sizeV Try.prog 66 = some 1 := by kernel_rfl
theorem ze_66 : zeroV Try.prog 66 = some (.int .i64 0) := by kernel_rfl
theorem in_66 : intT Try.prog 66 = some .i64 := by kernel_rfl
theorem c1_67 : cell1B Try.prog 67 = true := by kernel_rfl
theorem sz_67 : sizeV Try.prog 67 = some 1 := by kernel_rfl
theorem ze_67 : zeroV Try.prog 67 = some (.slice none 0 0) := by kernel_rfl
theorem el_67 : elT Try.prog 67 = some (100, 5, 48) := by kernel_rfl
theorem c1_68 : cell1B Try.prog 68 = true := by kernel_rfl
theorem sz_68 : sizeV Try.prog 68 = some 1 := by kernel_rfl
theorem ze_68 : zeroV Try.prog 68 = some (.slice none 0 0) := by kernel_rfl
theorem el_68 : elT Try.prog 68 = some (96, 2, 16) := by kernel_rfl
theorem c1_69 : cell1B Try.prog 69 = true := by kernel_rfl
theorem sz_69 : sizeV Try.prog 69 = some 1 := by kernel_rfl
theorem ze_69 : zeroV Try.prog 69 = some (.slice none 0 0) := by kernel_rfl
theorem el_69 : elT Try.prog 69 = some (96, 2, 16) := by kernel_rfl
theorem c1_70 : cell1B Try.prog 70 = true := by kernel_rfl
theorem sz_70 : sizeV Try.prog 70 = some 1 := by kernel_rfl
theorem ze_70 : zeroV Try.prog 70 = some (.slice none 0 0) := by kernel_rfl
theorem el_70 : elT Try.prog 70 = some (106, 4, 32) := by kernel_rfl
theorem c1_71 : cell1B Try.prog 71 = true := by kernel_rfl
theorem sz_71 : sizeV Try.prog 71 = some 1 := by kernel_rfl
theorem ze_71 : zeroV Try.prog 71 = some (.slice none 0 0) := by kernel_rfl
theorem el_71 : elT Try.prog 71 = some (108, 3, 24) := by kernel_rfl
theorem c1_72 : cell1B Try.prog 72 = true := by kernel_rfl
theorem sz_72 : sizeV Try.prog 72 = some 1 := by kernel_rfl
theorem ze_72 : zeroV Try.prog 72 = some (.slice none 0 0) := by kernel_rfl
theorem el_72 : elT Try.prog 72 = some (110, 6, 64) := by kernel_rfl
theorem c1_73 : cell1B Try.prog 73 = true := by kernel_rfl
theorem sz_73 : sizeV Try.prog 73 = some 1 := by kernel_rfl
theorem ze_73 : zeroV Try.prog 73 = some (.slice none 0 0) := by kernel_rfl
theorem el_73 : elT Try.prog 73 = some (112, 6, 64) := by kernel_rfl
theorem ag_74 : aggB Try.prog 74 12 = true := by kernel_rfl
theorem sz_74 : sizeV Try.prog 74 = some 12 := by kernel_rfl
theorem ze_74 : zeroV Try.prog 74 = some (.agg #[.int .i64 0, .int .i64 0, .int .i64 0, .int .i64 0, .slice none 0 0, .int .i64 0, .slice none 0 0, .int .i64 0, .slice none 0 0, .slice none 0 0, .slice none 0 0, .slice none 0 0]) := by kernel_rfl
theorem fo74_0 : fieldOff Try.prog 74 0 = some 0 := by kernel_rfl
theorem fo74_1 : fieldOff Try.prog 74 1 = some 1 := by kernel_rfl
theorem fo74_2 : fieldOff Try.prog 74 2 = some 2 := by kernel_rfl
theorem fo74_3 : fieldOff Try.prog 74 3 = some 3 := by kernel_rfl
theorem fo74_4 : fieldOff Try.prog 74 4 = some 4 := by kernel_rfl
theorem fo74_5 : fieldOff Try.prog 74 5 = some 5 := by kernel_rfl
theorem fo74_6 : fieldOff Try.prog 74 6 = some 6 := by kernel_rfl
theorem fo74_7 : fieldOff Try.prog 74 7 = some 7 := by kernel_rfl
theorem fo74_8 : fieldOff Try.prog 74 8 = some 8 := by kernel_rfl
theorem fo74_9 : fieldOff Try.prog 74 9 = some 9 := by kernel_rfl
theorem fo74_10 : fieldOff Try.prog 74 10 = some 10 := by kernel_rfl
theorem fo74_11 : fieldOff Try.prog 74 11 = some 11 := by kernel_rfl
theorem sp_74 : strPl Try.prog 74 = some ([(0, 1), (1, 1), (2, 1), (3, 1), (4, 1), (5, 1), (6, 1), (7, 1), (8, 1), (9, 1), (10, 1), (11, 1)], [.int .i64 0, .int .i64 0, .int .i64 0, .int .i64 0, .slice none 0 0, .int .i64 0, .slice none 0 0, .int .i64 0, .slice none 0 0, .slice none 0 0, .slice none 0 0, .slice none 0 0]) := by kernel_rfl
theorem ag_75 : aggB Try.prog 75 12 = true := by kernel_rfl
theorem sz_75 : sizeV Try.prog 75 = some 12 := by kernel_rfl
theorem ze_75 : zeroV Try.prog 75 = some (.agg #[.int .i64 0, .int .i64 0, .int .i64 0, .int .i64 0, .slice none 0 0, .int .i64 0, .slice none 0 0, .int .i64 0, .slice none 0 0, .slice none 0 0, .slice none 0 0, .slice none 0 0]) := by kernel_rfl
theorem fo75_0 : fieldOff Try.prog 75 0 = some 0 := by kernel_rfl
theorem fo75_1 : fieldOff Try.prog 75 1 = some 1 := by kernel_rfl
theorem fo75_2 : fieldOff Try.prog 75 2 = some 2 := by kernel_rfl
theorem fo75_3 : fieldOff Try.prog 75 3 = some 3 := by kernel_rfl
theorem fo75_4 : fieldOff Try.prog 75 4 = some 4 := by kernel_rfl
theorem fo75_5 : fieldOff Try.prog 75 5 = some 5 := by kernel_rfl
theorem fo75_6 : fieldOff Try.prog 75 6 = some 6 := by kernel_rfl
theorem fo75_7 : fieldOff Try.prog 75 7 = some 7 := by kernel_rfl
theorem fo75_8 : fieldOff Try.prog 75 8 = some 8 := by kernel_rfl
theorem fo75_9 : fieldOff Try.prog 75 9 = some 9 := by kernel_rfl
theorem fo75_10 : fieldOff Try.prog 75 10 = some 10 := by kernel_rfl
theorem fo75_11 : fieldOff Try.prog 75 11 = some 11 := by kernel_rfl
theorem sp_75 : strPl Try.prog 75 = some ([(0, 1), (1, 1), (2, 1), (3, 1), (4, 1), (5, 1), (6, 1), (7, 1), (8, 1), (9, 1), (10, 1), (11, 1)], [.int .i64 0, .int .i64 0, .int .i64 0, .int .i64 0, .slice none 0 0, .int .i64 0, .slice none 0 0, .int .i64 0, .slice none 0 0, .slice none 0 0, .slice none 0 0, .slice none 0 0]) := by kernel_rfl
theorem c1_76 : cell1B Try.prog 76 = true := by kernel_rfl
theorem sz_76 : sizeV Try.prog 76 = some 1 := by kernel_rfl
theorem ze_76 : zeroV Try.prog 76 = some (.nilFunc) := by kernel_rfl
theorem c1_77 : cell1B Try.prog 77 = true := by kernel_rfl
theorem sz_77 : sizeV Try.prog 77 = some 1 := by kernel_rfl
theorem ze_77 : zeroV Try.prog 77 = some (.slice none 0 0) := by kernel_rfl
theorem el_77 : elT Try.prog 77 = some (3, 1, 8) := by kernel_rfl
theorem c1_78 : cell1B Try.prog 78 = true := by kernel_rfl
theorem sz_78 : sizeV Try.prog 78 = some 1 := by kernel_rfl
theorem ze_78 : zeroV Try.prog 78 = some (.nilFunc) := by kernel_rfl
theorem c1_79 : cell1B Try.prog 79 = true := by kernel_rfl
theorem sz_79 : sizeV Try.prog 79 = some 1 := by kernel_rfl
theorem ze_79 : zeroV Try.prog 79 = some (.nilFunc) := by kernel_rfl
theorem c1_80 : cell1B Try.prog 80 = true := by kernel_rfl
theorem sz_80 : sizeV Try.prog 80 = some 1 := by kernel_rfl
theorem ze_80 : zeroV Try.prog 80 = some (.nilFunc) := by kernel_rfl
theorem c1_81 : cell1B Try.prog 81 = true := by kernel_rfl
theorem sz_81 : sizeV Try.prog 81 = some 1 := by kernel_rfl
theorem ze_81 : zeroV Try.prog 81 = some (.int .u64 0) := by kernel_rfl
theorem in_81 : intT Try.prog 81 = some .u64 := by kernel_rfl
theorem ag_82 : aggB Try.prog 82 64 = true := by kernel_rfl
theorem sz_82 : sizeV Try.prog 82 = some 64 := by kernel_rfl
theorem ze_82 : zeroV Try.prog 82 = some (.agg #[.int .u32 0, .int .u32 0, .int .u32 0, .int .u32 0, .int .u32 0, .int .u32 0, .int .u32 0, .int .u32 0, .int .u32 0, .int .u32 0, .int .u32 0, .int .u32 0, .int .u32 0, .int .u32 0, .int .u32 0, .int .u32 0, .int .u32 0, .int .u32 0, .int .u32 0, .int .u32 0, .int .u32 0, .int .u32 0, .int .u32 0, .int .u32 0, .int .u32 0, .int .u32 0, .int .u32 0, .int .u32 0, .int .u32 0, .int .u32 0, .int .u32 0, .int .u32 0, .int .u32 0, .int .u32 0, .int .u32 0, .int .u32 0, .int .u32 0, .int .u32 0, .int .u32 0, .int .u32 0, .int .u32 0, .int .u32 0, .int .u32 0, .int .u32 0, .int .u32 0, .int .u32 0, .int .u32 0, .int .u32 0, .int .u32 0, .int .u32 0, .int .u32 0, .int .u32 0, .int .u32 0, .int .u32 0, .int .u32 0, .int .u32 0, .int .u32 0, .int .u32 0, .int .u32 0, .int .u32 0, .int .u32 0, .int .u32 0, .int .u32 0, .int .u32 0]) := by kernel_rfl
theorem ar_82 : arrT Try.prog 82 = some (64, 45, 1) := by kernel_rfl
theorem c1_83 : cell1B Try.prog 83 = true := by kernel_rfl
theorem sz_83 : sizeV Try.prog 83 = some 1 := by kernel_rfl
theorem ze_83 : zeroV Try.prog 83 = some (.nilFunc) := by kernel_rfl
theorem c1_84 : cell1B Try.prog 84 = true := by kernel_rfl
theorem sz_84 : sizeV Try.prog 84 = some 1 := by kernel_rfl
theorem ze_84 : zeroV Try.prog 84 = some (.nilFunc) := by kernel_rfl
theorem c1_85 : cell1B Try.prog 85 = true := by kernel_rfl
theorem sz_85 : sizeV Try.prog 85 = some 1 := by kernel_rfl
theorem ze_85 : zeroV Try.prog 85 = some (.pointer none) := by kernel_rfl
theorem pt_85 : isPtrT Try.prog 85 = true := by kernel_rfl
theorem c1_86 : cell1B Try.prog 86 = true := by kernel_rfl
theorem sz_86 : sizeV Try.prog 86 = some 1 := by kernel_rfl
theorem ze_86 : zeroV Try.prog 86 = some (.nilFunc) := by kernel_rfl
theorem c1_87 : cell1B Try.prog 87 = true := by kernel_rfl
theorem sz_87 : sizeV Try.prog 87 = some 1 := by kernel_rfl
theorem ze_87 : zeroV Try.prog 87 = some (.slice none 0 0) := by kernel_rfl
theorem el_87 : elT Try.prog 87 = some (81, 1, 8) := by kernel_rfl
theorem c1_88 : cell1B Try.prog 88 = true := by kernel_rfl
theorem sz_88 : sizeV Try.prog 88 = some 1 := by kernel_rfl
theorem ze_88 : zeroV Try.prog 88 = some (.nilFunc) := by kernel_rfl
theorem c1_89 : cell1B Try.prog 89 = true := by kernel_rfl
theorem sz_89 : sizeV Try.prog 89 = some 1 := by kernel_rfl
theorem ze_89 : zeroV Try.prog 89 = some (.nilFunc) := by kernel_rfl
theorem c1_90 : cell1B Try.prog 90 = true := by kernel_rfl
theorem sz_90 : sizeV Try.prog 90 = some 1 := by kernel_rfl
theorem ze_90 : zeroV Try.prog 90 = some (.nilFunc) := by kernel_rfl
theorem c1_91 : cell1B Try.prog 91 = true := by kernel_rfl
theorem sz_91 : sizeV Try.prog 91 = some 1 := by kernel_rfl
theorem ze_91 : zeroV Try.prog 91 = some (.nilFunc) := by kernel_rfl
theorem c1_92 : cell1B Try.prog 92 = true := by kernel_rfl
theorem sz_92 : sizeV Try.prog 92 = some 1 := by kernel_rfl
theorem ze_92 : zeroV Try.prog 92 = some (.nilFunc) := by kernel_rfl
theorem c1_93 : cell1B Try.prog 93 = true := by kernel_rfl
theorem sz_93 : sizeV Try.prog 93 = some 1 := by kernel_rfl
theorem ze_93 : zeroV Try.prog 93 = some (.nilFunc) := by kernel_rfl
theorem c1_94 : cell1B Try.prog 94 = true := by kernel_rfl
theorem sz_94 : sizeV Try.prog 94 = some 1 := by kernel_rfl
theorem ze_94 : zeroV Try.prog 94 = some (.nilFunc) := by kernel_rfl
theorem ag_95 : aggB Try.prog 95 2 = true := by kernel_rfl
theorem sz_95 : sizeV Try.prog 95 = some 2 := by kernel_rfl
theorem ze_95 : zeroV Try.prog 95 = some (.agg #[.int .u64 0, .int .u64 0]) := by kernel_rfl
theorem fo95_0 : fieldOff Try.prog 95 0 = some 0 := by kernel_rfl
theorem fo95_1 : fieldOff Try.prog 95 1 = some 1 := by kernel_rfl
theorem sp_95 : strPl Try.prog 95 = some ([(0, 1), (1, 1)], [.int .u64 0, .int .u64 0]) := by kernel_rfl
theorem ag_96 : aggB Try.prog 96 2 = true := by kernel_rfl
theorem sz_96 : sizeV Try.prog 96 = some 2 := by kernel_rfl
theorem ze_96 : zeroV Try.prog 96 = some (.agg #[.int .u64 0, .int .u64 0]) := by kernel_rfl
theorem fo96_0 : fieldOff Try.prog 96 0 = some 0 := by kernel_rfl
theorem fo96_1 : fieldOff Try.prog 96 1 = some 1 := by kernel_rfl
theorem sp_96 : strPl Try.prog 96 = some ([(0, 1), (1, 1)], [.int .u64 0, .int .u64 0]) := by kernel_rfl
theorem ag_97 : aggB Try.prog 97 3 = true := by kernel_rfl
theorem sz_97 : sizeV Try.prog 97 = some 3 := by kernel_rfl
theorem ze_97 : zeroV Try.prog 97 = some (.agg #[.int .i64 0, .int .i64 0, .string ⟨#[]⟩]) := by kernel_rfl
theorem fo97_0 : fieldOff Try.prog 97 0 = some 0 := by kernel_rfl
theorem fo97_1 : fieldOff Try.prog 97 1 = some 1 := by kernel_rfl
theorem fo97_2 : fieldOff Try.prog 97 2 = some 2 := by kernel_rfl
theorem sp_97 : strPl Try.prog 97 = some ([(0, 1), (1, 1), (2, 1)], [.int .i64 0, .int .i64 0, .string ⟨#[]⟩]) := by kernel_rfl
theorem ag_98 : aggB Try.prog 98 3 = true := by kernel_rfl
theorem sz_98 : sizeV Try.prog 98 = some 3 := by kernel_rfl
theorem ze_98 : zeroV Try.prog 98 = some (.agg #[.int .i64 0, .int .i64 0, .string ⟨#[]⟩]) := by kernel_rfl
theorem fo98_0 : fieldOff Try.prog 98 0 = some 0 := by kernel_rfl
theorem fo98_1 : fieldOff Try.prog 98 1 = some 1 := by kernel_rfl
theorem fo98_2 : fieldOff Try.prog 98 2 = some 2 := by kernel_rfl
theorem sp_98 : strPl Try.prog 98 = some ([(0, 1), (1, 1), (2, 1)], [.int .i64 0, .int .i64 0, .string ⟨#[]⟩]) := by kernel_rfl
theorem ag_99 : aggB Try.prog 99 5 = true := by kernel_rfl
theorem sz_99 : sizeV Try.prog 99 = some 5 := by kernel_rfl
theorem ze_99 : zeroV Try.prog 99 = some (.agg #[.int .i64 0, .int .i64 0, .int .i64 0, .int .i64 0, .string ⟨#[]⟩]) := by kernel_rfl
theorem fo99_0 : fieldOff Try.prog 99 0 = some 0 := by kernel_rfl
theorem fo99_1 : fieldOff Try.prog 99 1 = some 1 := by kernel_rfl
theorem fo99_2 : fieldOff Try.prog 99 2 = some 2 := by kernel_rfl
theorem sp_99 : strPl Try.prog 99 = some ([(0, 1), (1, 1), (2, 3)], [.int .i64 0, .int .i64 0, .int .i64 0, .int .i64 0, .string ⟨#[]⟩]) := by kernel_rfl
theorem ag_100 : aggB Try.prog 100 5 = true := by kernel_rfl
theorem sz_100 : sizeV Try.prog 100 = some 5 := by kernel_rfl
theorem ze_100 : zeroV Try.prog 100 = some (.agg #[.int .i64 0, .int .i64 0, .int .i64 0, .int .i64 0, .string ⟨#[]⟩]) := by kernel_rfl
theorem fo100_0 : fieldOff Try.prog 100 0 = some 0 := by kernel_rfl
theorem fo100_1 : fieldOff Try.prog 100 1 = some 1 := by kernel_rfl
theorem fo100_2 : fieldOff Try.prog 100 2 = some 2 := by kernel_rfl
theorem sp_100 : strPl Try.prog 100 = some ([(0, 1), (1, 1), (2, 3)], [.int .i64 0, .int .i64 0, .int .i64 0, .int .i64 0, .string ⟨#[]⟩]) := by kernel_rfl
theorem c1_101 : cell1B Try.prog 101 = true := by kernel_rfl
theorem sz_101 : sizeV Try.prog 101 = some 1 := by kernel_rfl
theorem ze_101 : zeroV Try.prog 101 = some (.nilFunc) := by kernel_rfl
theorem c1_102 : cell1B Try.prog 102 = true := by kernel_rfl
theorem sz_102 : sizeV Try.prog 102 = some 1 := by kernel_rfl
theorem ze_102 : zeroV Try.prog 102 = some (.nilFunc) := by kernel_rfl
theorem c1_103 : cell1B Try.prog 103 = true := by kernel_rfl
theorem sz_103 : sizeV Try.prog 103 = some 1 := by kernel_rfl
theorem ze_103 : zeroV Try.prog 103 = some (.nilFunc) := by kernel_rfl
theorem c1_104 : cell1B Try.prog 104 = true := by kernel_rfl
theorem sz_104 : sizeV Try.prog 104 = some 1 := by kernel_rfl
theorem ze_104 : zeroV Try.prog 104 = some (.nilFunc) := by kernel_rfl
theorem ag_105 : aggB Try.prog 105 4 = true := by kernel_rfl
theorem sz_105 : sizeV Try.prog 105 = some 4 := by kernel_rfl
theorem ze_105 : zeroV Try.prog 105 = some (.agg #[.int .i64 0, .int .u64 0, .int .u64 0, .int .i64 0]) := by kernel_rfl
theorem fo105_0 : fieldOff Try.prog 105 0 = some 0 := by kernel_rfl
theorem fo105_1 : fieldOff Try.prog 105 1 = some 1 := by kernel_rfl
theorem fo105_2 : fieldOff Try.prog 105 2 = some 3 := by kernel_rfl
theorem sp_105 : strPl Try.prog 105 = some ([(0, 1), (1, 2), (3, 1)], [.int .i64 0, .int .u64 0, .int .u64 0, .int .i64 0]) := by kernel_rfl
theorem ag_106 : aggB Try.prog 106 4 = true := by kernel_rfl
theorem sz_106 : sizeV Try.prog 106 = some 4 := by kernel_rfl
theorem ze_106 : zeroV Try.prog 106 = some (.agg #[.int .i64 0, .int .u64 0, .int .u64 0, .int .i64 0]) := by kernel_rfl
theorem fo106_0 : fieldOff Try.prog 106 0 = some 0 := by kernel_rfl
theorem fo106_1 : fieldOff Try.prog 106 1 = some 1 := by kernel_rfl
theorem fo106_2 : fieldOff Try.prog 106 2 = some 3 := by kernel_rfl
theorem sp_106 : strPl Try.prog 106 = some ([(0, 1), (1, 2), (3, 1)], [.int .i64 0, .int .u64 0, .int .u64 0, .int .i64 0]) := by kernel_rfl
theorem ag_107 : aggB Try.prog 107 3 = true := by kernel_rfl
theorem sz_107 : sizeV Try.prog 107 = some 3 := by kernel_rfl
theorem ze_107 : zeroV Try.prog 107 = some (.agg #[.int .i64 0, .int .u64 0, .int .u64 0]) := by kernel_rfl
theorem fo107_0 : fieldOff Try.prog 107 0 = some 0 := by kernel_rfl
theorem fo107_1 : fieldOff Try.prog 107 1 = some 1 := by kernel_rfl
theorem sp_107 : strPl Try.prog 107 = some ([(0, 1), (1, 2)], [.int .i64 0, .int .u64 0, .int .u64 0]) := by kernel_rfl
theorem ag_108 : aggB Try.prog 108 3 = true := by kernel_rfl
theorem sz_108 : sizeV Try.prog 108 = some 3 := by kernel_rfl
theorem ze_108 : zeroV Try.prog 108 = some (.agg #[.int .i64 0, .int .u64 0, .int .u64 0]) := by kernel_rfl
theorem fo108_0 : fieldOff Try.prog 108 0 = some 0 := by kernel_rfl
theorem fo108_1 : fieldOff Try.prog 108 1 = some 1 := by kernel_rfl
theorem sp_108 : strPl Try.prog 108 = some ([(0, 1), (1, 2)], [.int .i64 0, .int .u64 0, .int .u64 0]) := by kernel_rfl
theorem ag_109 : aggB Try.prog 109 6 = true := by kernel_rfl
theorem sz_109 : sizeV Try.prog 109 = some 6 := by kernel_rfl
theorem ze_109 : zeroV Try.prog 109 = some (.agg #[.int .i64 0, .int .u64 0, .int .u64 0, .int .i64 0, .int .i64 0, .slice none 0 0]) := by kernel_rfl
theorem fo109_0 : fieldOff Try.prog 109 0 = some 0 := by kernel_rfl
theorem fo109_1 : fieldOff Try.prog 109 1 = some 1 := by kernel_rfl
theorem fo109_2 : fieldOff Try.prog 109 2 = some 3 := by kernel_rfl
theorem fo109_3 : fieldOff Try.prog 109 3 = some 4 := by kernel_rfl
theorem fo109_4 : fieldOff Try.prog 109 4 = some 5 := by kernel_rfl
theorem sp_109 : strPl Try.prog 109 = some ([(0, 1), (1, 2), (3, 1), (4, 1), (5, 1)], [.int .i64 0, .int .u64 0, .int .u64 0, .int .i64 0, .int .i64 0, .slice none 0 0]) := by kernel_rfl
theorem ag_110 : aggB Try.prog 110 6 = true := by kernel_rfl
theorem sz_110 : sizeV Try.prog 110 = some 6 := by kernel_rfl
theorem ze_110 : zeroV Try.prog 110 = some (.agg #[.int .i64 0, .int .u64 0, .int .u64 0, .int .i64 0, .int .i64 0, .slice none 0 0]) := by kernel_rfl
theorem fo110_0 : fieldOff Try.prog 110 0 = some 0 := by kernel_rfl
theorem fo110_1 : fieldOff Try.prog 110 1 = some 1 := by kernel_rfl
theorem fo110_2 : fieldOff Try.prog 110 2 = some 3 := by kernel_rfl
theorem fo110_3 : fieldOff Try.prog 110 3 = some 4 := by kernel_rfl
theorem fo110_4 : fieldOff Try.prog 110 4 = some 5 := by kernel_rfl
theorem sp_110 : strPl Try.prog 110 = some ([(0, 1), (1, 2), (3, 1), (4, 1), (5, 1)], [.int .i64 0, .int .u64 0, .int .u64 0, .int .i64 0, .int .i64 0, .slice none 0 0]) := by kernel_rfl
theorem ag_111 : aggB Try.prog 111 6 = true := by kernel_rfl
theorem sz_111 : sizeV Try.prog 111 = some 6 := by kernel_rfl
theorem ze_111 : zeroV Try.prog 111 = some (.agg #[.int .i64 0, .int .u64 0, .int .u64 0, .int .i64 0, .int .i64 0, .slice none 0 0]) := by kernel_rfl
theorem fo111_0 : fieldOff Try.prog 111 0 = some 0 := by kernel_rfl
theorem fo111_1 : fieldOff Try.prog 111 1 = some 1 := by kernel_rfl
theorem fo111_2 : fieldOff Try.prog 111 2 = some 3 := by kernel_rfl
theorem fo111_3 : fieldOff Try.prog 111 3 = some 4 := by kernel_rfl
theorem fo111_4 : fieldOff Try.prog 111 4 = some 5 := by kernel_rfl
theorem sp_111 : strPl Try.prog 111 = some ([(0, 1), (1, 2), (3, 1), (4, 1), (5, 1)], [.int .i64 0, .int .u64 0, .int .u64 0, .int .i64 0, .int .i64 0, .slice none 0 0]) := by kernel_rfl
theorem ag_112 : aggB Try.prog 112 6 = true := by kernel_rfl
theorem sz_112 : sizeV Try.prog 112 = some 6 := by kernel_rfl
theorem ze_112 : zeroV Try.prog 112 = some (.agg #[.int .i64 0, .int .u64 0, .int .u64 0, .int .i64 0, .int .i64 0, .slice none 0 0]) := by kernel_rfl
theorem fo112_0 : fieldOff Try.prog 112 0 = some 0 := by kernel_rfl
theorem fo112_1 : fieldOff Try.prog 112 1 = some 1 := by kernel_rfl
theorem fo112_2 : fieldOff Try.prog 112 2 = some 3 := by kernel_rfl
theorem fo112_3 : fieldOff Try.prog 112 3 = some 4 := by kernel_rfl
theorem fo112_4 : fieldOff Try.prog 112 4 = some 5 := by kernel_rfl
theorem sp_112 : strPl Try.prog 112 = some ([(0, 1), (1, 2), (3, 1), (4, 1), (5, 1)], [.int .i64 0, .int .u64 0, .int .u64 0, .int .i64 0, .int .i64 0, .slice none 0 0]) := by kernel_rfl
theorem c1_113 : cell1B Try.prog 113 = true := by kernel_rfl
theorem sz_113 : sizeV Try.prog 113 = some 1 := by kernel_rfl
theorem ze_113 : zeroV Try.prog 113 = some (.nilFunc) := by kernel_rfl
theorem ag_114 : aggB Try.prog 114 4 = true := by kernel_rfl
theorem sz_114 : sizeV Try.prog 114 = some 4 := by kernel_rfl
theorem ze_114 : zeroV Try.prog 114 = some (.agg #[.pointer none, .pointer none, .pointer none, .string ⟨#[]⟩]) := by kernel_rfl
theorem fo114_0 : fieldOff Try.prog 114 0 = some 0 := by kernel_rfl
theorem fo114_1 : fieldOff Try.prog 114 1 = some 1 := by kernel_rfl
theorem fo114_2 : fieldOff Try.prog 114 2 = some 2 := by kernel_rfl
theorem fo114_3 : fieldOff Try.prog 114 3 = some 3 := by kernel_rfl
theorem sp_114 : strPl Try.prog 114 = some ([(0, 1), (1, 1), (2, 1), (3, 1)], [.pointer none, .pointer none, .pointer none, .string ⟨#[]⟩]) := by kernel_rfl
theorem ag_115 : aggB Try.prog 115 4 = true := by kernel_rfl
theorem sz_115 : sizeV Try.prog 115 = some 4 := by kernel_rfl
theorem ze_115 : zeroV Try.prog 115 = some (.agg #[.pointer none, .pointer none, .pointer none, .string ⟨#[]⟩]) := by kernel_rfl
theorem fo115_0 : fieldOff Try.prog 115 0 = some 0 := by kernel_rfl
theorem fo115_1 : fieldOff Try.prog 115 1 = some 1 := by kernel_rfl
theorem fo115_2 : fieldOff Try.prog 115 2 = some 2 := by kernel_rfl
theorem fo115_3 : fieldOff Try.prog 115 3 = some 3 := by kernel_rfl
theorem sp_115 : strPl Try.prog 115 = some ([(0, 1), (1, 1), (2, 1), (3, 1)], [.pointer none, .pointer none, .pointer none, .string ⟨#[]⟩]) := by kernel_rfl
theorem ag_116 : aggB Try.prog 116 0 = true := by kernel_rfl
theorem sz_116 : sizeV Try.prog 116 = some 0 := by kernel_rfl
theorem ze_116 : zeroV Try.prog 116 = some (.agg #[]) := by kernel_rfl
theorem ar_116 : arrT Try.prog 116 = some (0, 16, 1) := by kernel_rfl
theorem ag_117 : aggB Try.prog 117 0 = true := by kernel_rfl
theorem sz_117 : sizeV Try.prog 117 = some 0 := by kernel_rfl
theorem ze_117 : zeroV Try.prog 117 = some (.agg #[]) := by kernel_rfl
theorem sp_117 : strPl Try.prog 117 = some ([(0, 0)], []) := by kernel_rfl
theorem ag_118 : aggB Try.prog 118 0 = true := by kernel_rfl
theorem sz_118 : sizeV Try.prog 118 = some 0 := by kernel_rfl
theorem ze_118 : zeroV Try.prog 118 = some (.agg #[]) := by kernel_rfl
theorem sp_118 : strPl Try.prog 118 = some ([(0, 0)], []) := by kernel_rfl
theorem c1_119 : cell1B Try.prog 119 = true := by kernel_rfl
theorem sz_119 : sizeV Try.prog 119 = some 1 := by kernel_rfl
theorem ze_119 : zeroV Try.prog 119 = some (.int .u8 0) := by kernel_rfl
theorem in_119 : intT Try.prog 119 = some .u8 := by kernel_rfl
theorem c1_120 : cell1B Try.prog 120 = true := by kernel_rfl
theorem sz_120 : sizeV Try.prog 120 = some 1 := by kernel_rfl
theorem ze_120 : zeroV Try.prog 120 = some (.int .u8 0) := by kernel_rfl
theorem in_120 : intT Try.prog 120 = some .u8 := by kernel_rfl
theorem c1_121 : cell1B Try.prog 121 = true := by kernel_rfl
theorem sz_121 : sizeV Try.prog 121 = some 1 := by kernel_rfl
theorem ze_121 : zeroV Try.prog 121 = some (.nilFunc) := by kernel_rfl
theorem c1_122 : cell1B Try.prog 122 = true := by kernel_rfl
theorem sz_122 : sizeV Try.prog 122 = some 1 := by kernel_rfl
theorem ze_122 : zeroV Try.prog 122 = some (.pointer none) := by kernel_rfl
theorem pt_122 : isPtrT Try.prog 122 = true := by kernel_rfl
theorem c1_123 : cell1B Try.prog 123 = true := by kernel_rfl
theorem sz_123 : sizeV Try.prog 123 = some 1 := by kernel_rfl
theorem ze_123 : zeroV Try.prog 123 = some (.int .i32 0) := by kernel_rfl
theorem in_123 : intT Try.prog 123 = some .i32 := by kernel_rfl
theorem c1_124 : cell1B Try.prog 124 = true := by kernel_rfl
theorem sz_124 : sizeV Try.prog 124 = some 1 := by kernel_rfl
theorem ze_124 : zeroV Try.prog 124 = some (.int .i32 0) := by kernel_rfl
theorem in_124 : intT Try.prog 124 = some .i32 := by kernel_rfl
theorem ag_125 : aggB Try.prog 125 11 = true := by kernel_rfl
theorem sz_125 : sizeV Try.prog 125 = some 11 := by kernel_rfl
theorem ze_125 : zeroV Try.prog 125 = some (.agg #[.int .u64 0, .int .u64 0, .int .u32 0, .int .u8 0, .int .u8 0, .int .u8 0, .int .u8 0, .nilFunc, .pointer none, .int .i32 0, .int .i32 0]) := by kernel_rfl
theorem fo125_0 : fieldOff Try.prog 125 0 = some 0 := by kernel_rfl
theorem fo125_1 : fieldOff Try.prog 125 1 = some 1 := by kernel_rfl
theorem fo125_2 : fieldOff Try.prog 125 2 = some 2 := by kernel_rfl
theorem fo125_3 : fieldOff Try.prog 125 3 = some 3 := by kernel_rfl
theorem fo125_4 : fieldOff Try.prog 125 4 = some 4 := by kernel_rfl
theorem fo125_5 : fieldOff Try.prog 125 5 = some 5 := by kernel_rfl
theorem fo125_6 : fieldOff Try.prog 125 6 = some 6 := by kernel_rfl
theorem fo125_7 : fieldOff Try.prog 125 7 = some 7 := by kernel_rfl
theorem fo125_8 : fieldOff Try.prog 125 8 = some 8 := by kernel_rfl
theorem fo125_9 : fieldOff Try.prog 125 9 = some 9 := by kernel_rfl
theorem fo125_10 : fieldOff Try.prog 125 10 = some 10 := by kernel_rfl
theorem sp_125 : strPl Try.prog 125 = some ([(0, 1), (1, 1), (2, 1), (3, 1), (4, 1), (5, 1), (6, 1), (7, 1), (8, 1), (9, 1), (10, 1)], [.int .u64 0, .int .u64 0, .int .u32 0, .int .u8 0, .int .u8 0, .int .u8 0, .int .u8 0, .nilFunc, .pointer none, .int .i32 0, .int .i32 0]) := by kernel_rfl
theorem ag_126 : aggB Try.prog 126 11 = true := by kernel_rfl
theorem sz_126 : sizeV Try.prog 126 = some 11 := by kernel_rfl
theorem ze_126 : zeroV Try.prog 126 = some (.agg #[.int .u64 0, .int .u64 0, .int .u32 0, .int .u8 0, .int .u8 0, .int .u8 0, .int .u8 0, .nilFunc, .pointer none, .int .i32 0, .int .i32 0]) := by kernel_rfl
theorem fo126_0 : fieldOff Try.prog 126 0 = some 0 := by kernel_rfl
theorem fo126_1 : fieldOff Try.prog 126 1 = some 1 := by kernel_rfl
theorem fo126_2 : fieldOff Try.prog 126 2 = some 2 := by kernel_rfl
theorem fo126_3 : fieldOff Try.prog 126 3 = some 3 := by kernel_rfl
theorem fo126_4 : fieldOff Try.prog 126 4 = some 4 := by kernel_rfl
theorem fo126_5 : fieldOff Try.prog 126 5 = some 5 := by kernel_rfl
theorem fo126_6 : fieldOff Try.prog 126 6 = some 6 := by kernel_rfl
theorem fo126_7 : fieldOff Try.prog 126 7 = some 7 := by kernel_rfl
theorem fo126_8 : fieldOff Try.prog 126 8 = some 8 := by kernel_rfl
theorem fo126_9 : fieldOff Try.prog 126 9 = some 9 := by kernel_rfl
theorem fo126_10 : fieldOff Try.prog 126 10 = some 10 := by kernel_rfl
theorem sp_126 : strPl Try.prog 126 = some ([(0, 1), (1, 1), (2, 1), (3, 1), (4, 1), (5, 1), (6, 1), (7, 1), (8, 1), (9, 1), (10, 1)], [.int .u64 0, .int .u64 0, .int .u32 0, .int .u8 0, .int .u8 0, .int .u8 0, .int .u8 0, .nilFunc, .pointer none, .int .i32 0, .int .i32 0]) := by kernel_rfl
theorem c1_127 : cell1B Try.prog 127 = true := by kernel_rfl
theorem sz_127 : sizeV Try.prog 127 = some 1 := by kernel_rfl
theorem ze_127 : zeroV Try.prog 127 = some (.pointer none) := by kernel_rfl
theorem cb_2 : callB Try.prog 2 = true := by kernel_rfl
theorem cb_3 : callB Try.prog 3 = true := by kernel_rfl
theorem cb_4 : callB Try.prog 4 = true := by kernel_rfl
theorem cb_5 : callB Try.prog 5 = true := by kernel_rfl
theorem cb_6 : callB Try.prog 6 = true := by kernel_rfl
theorem cb_7 : callB Try.prog 7 = true := by kernel_rfl
theorem cb_8 : callB Try.prog 8 = true := by kernel_rfl
theorem cb_9 : callB Try.prog 9 = true := by kernel_rfl
theorem cb_10 : callB Try.prog 10 = true := by kernel_rfl
theorem cb_11 : callB Try.prog 11 = true := by kernel_rfl
theorem cb_12 : callB Try.prog 12 = true := by kernel_rfl
theorem cb_13 : callB Try.prog 13 = true := by kernel_rfl
theorem cb_14 : callB Try.prog 14 = true := by kernel_rfl
theorem cb_15 : callB Try.prog 15 = true := by kernel_rfl
theorem cb_16 : callB Try.prog 16 = true := by kernel_rfl
theorem cb_17 : callB Try.prog 17 = true := by kernel_rfl
theorem cb_18 : callB Try.prog 18 = true := by kernel_rfl
theorem cb_19 : callB Try.prog 19 = true := by kernel_rfl
theorem cb_20 : callB Try.prog 20 = true := by kernel_rfl
theorem cb_21 : callB Try.prog 21 = true := by kernel_rfl
theorem cb_22 : callB Try.prog 22 = true := by kernel_rfl
theorem cb_23 : callB Try.prog 23 = true := by kernel_rfl
theorem cb_24 : callB Try.prog 24 = true := by kernel_rfl
theorem cb_25 : callB Try.prog 25 = true := by kernel_rfl
theorem cb_26 : callB Try.prog 26 = true := by kernel_rfl
theorem cb_27 : callB Try.prog 27 = true := by kernel_rfl
theorem cb_28 : callB Try.prog 28 = true := by kernel_rfl
theorem cb_29 : callB Try.prog 29 = true := by kernel_rfl
theorem cb_30 : callB Try.prog 30 = true := by kernel_rfl
theorem cb_31 : callB Try.prog 31 = true := by kernel_rfl
theorem cb_32 : callB Try.prog 32 = true := by kernel_rfl
theorem cb_33 : callB Try.prog 33 = true := by kernel_rfl
theorem cb_34 : callB Try.prog 34 = true := by kernel_rfl
theorem cb_35 : callB Try.prog 35 = true := by kernel_rfl
theorem cb_36 : callB Try.prog 36 = true := by kernel_rfl
theorem cb_37 : callB Try.prog 37 = true := by kernel_rfl
theorem cb_38 : callB Try.prog 38 = true := by kernel_rfl
theorem cb_39 : callB Try.prog 39 = true := by kernel_rfl
theorem cb_40 : callB Try.prog 40 = true := by kernel_rfl
theorem cb_41 : callB Try.prog 41 = true := by kernel_rfl
theorem cb_42 : callB Try.prog 42 = true := by kernel_rfl
theorem cb_43 : callB Try.prog 43 = true := by kernel_rfl
theorem cb_44 : callB Try.prog 44 = true := by kernel_rfl
theorem cb_45 : callB Try.prog 45 = true := by kernel_rfl
theorem cb_46 : callB Try.prog 46 = true := by kernel_rfl
theorem cb_47 : callB Try.prog 47 = true := by kernel_rfl
theorem cb_48 : callB Try.prog 48 = true := by kernel_rfl
theorem cb_49 : callB Try.prog 49 = true := by kernel_rfl
theorem cb_50 : callB Try.prog 50 = true := by kernel_rfl
theorem mixed : Try.prog.follows .mixedOrders = true := by kernel_rfl
end Go.Proofs.Ytcmmbjplekgihaa
