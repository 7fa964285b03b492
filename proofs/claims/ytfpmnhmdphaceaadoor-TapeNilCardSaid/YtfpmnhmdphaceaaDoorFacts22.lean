/- Closed facts of the seat's tables. -/
import Derived.Test.YtfpmnhmdphaceaaDoorProg
import Derived.Test.YtfpmnhmdphaceaaDoorBaseAll
namespace Go.Proofs.YtfpmnhmdphaceaaDoor
open Go.EW
theorem c1_1 : cell1B Tryd.prog 1 = true := by kernel_rfl
theorem sz_1 : sizeV Tryd.prog 1 = some 1 := by kernel_rfl
theorem ze_1 : zeroV Tryd.prog 1 = some (.nilFunc) := by kernel_rfl
theorem c1_2 : cell1B Tryd.prog 2 = true := by kernel_rfl
theorem sz_2 : sizeV Tryd.prog 2 = some 1 := by kernel_rfl
theorem ze_2 : zeroV Tryd.prog 2 = some (.int .i64 0) := by kernel_rfl
theorem in_2 : intT Tryd.prog 2 = some .i64 := by kernel_rfl
theorem c1_3 : cell1B Tryd.prog 3 = true := by kernel_rfl
theorem sz_3 : sizeV Tryd.prog 3 = some 1 := by kernel_rfl
theorem ze_3 : zeroV Tryd.prog 3 = some (.int .i64 0) := by kernel_rfl
theorem in_3 : intT Tryd.prog 3 = some .i64 := by kernel_rfl
theorem c1_4 : cell1B Tryd.prog 4 = true := by kernel_rfl
theorem sz_4 : sizeV Tryd.prog 4 = some 1 := by kernel_rfl
theorem ze_4 : zeroV Tryd.prog 4 = some (.bool false) := by kernel_rfl
theorem bo_4 : isBoolT Tryd.prog 4 = true := by kernel_rfl
theorem c1_5 : cell1B Tryd.prog 5 = true := by kernel_rfl
theorem sz_5 : sizeV Tryd.prog 5 = some 1 := by kernel_rfl
theorem ze_5 : zeroV Tryd.prog 5 = some (.int .u8 0) := by kernel_rfl
theorem in_5 : intT Tryd.prog 5 = some .u8 := by kernel_rfl
theorem c1_6 : cell1B Tryd.prog 6 = true := by kernel_rfl
theorem sz_6 : sizeV Tryd.prog 6 = some 1 := by kernel_rfl
theorem ze_6 : zeroV Tryd.prog 6 = some (.int .u8 0) := by kernel_rfl
theorem in_6 : intT Tryd.prog 6 = some .u8 := by kernel_rfl
theorem ag_7 : aggB Tryd.prog 7 4 = true := by kernel_rfl
theorem sz_7 : sizeV Tryd.prog 7 = some 4 := by kernel_rfl
theorem ze_7 : zeroV Tryd.prog 7 = some (.agg #[.int .i64 0, .int .i64 0, .bool false, .int .u8 0]) := by kernel_rfl
theorem fo7_0 : fieldOff Tryd.prog 7 0 = some 0 := by kernel_rfl
theorem fo7_1 : fieldOff Tryd.prog 7 1 = some 1 := by kernel_rfl
theorem fo7_2 : fieldOff Tryd.prog 7 2 = some 2 := by kernel_rfl
theorem fo7_3 : fieldOff Tryd.prog 7 3 = some 3 := by kernel_rfl
theorem sp_7 : strPl Tryd.prog 7 = some ([(0, 1), (1, 1), (2, 1), (3, 1)], [.int .i64 0, .int .i64 0, .bool false, .int .u8 0]) := by kernel_rfl
theorem ag_8 : aggB Tryd.prog 8 4 = true := by kernel_rfl
theorem sz_8 : sizeV Tryd.prog 8 = some 4 := by kernel_rfl
theorem ze_8 : zeroV Tryd.prog 8 = some (.agg #[.int .i64 0, .int .i64 0, .bool false, .int .u8 0]) := by kernel_rfl
theorem fo8_0 : fieldOff Tryd.prog 8 0 = some 0 := by kernel_rfl
theorem fo8_1 : fieldOff Tryd.prog 8 1 = some 1 := by kernel_rfl
theorem fo8_2 : fieldOff Tryd.prog 8 2 = some 2 := by kernel_rfl
theorem fo8_3 : fieldOff Tryd.prog 8 3 = some 3 := by kernel_rfl
theorem sp_8 : strPl Tryd.prog 8 = some ([(0, 1), (1, 1), (2, 1), (3, 1)], [.int .i64 0, .int .i64 0, .bool false, .int .u8 0]) := by kernel_rfl
theorem c1_9 : cell1B Tryd.prog 9 = true := by kernel_rfl
theorem sz_9 : sizeV Tryd.prog 9 = some 1 := by kernel_rfl
theorem ze_9 : zeroV Tryd.prog 9 = some (.string ⟨#[]⟩) := by kernel_rfl
theorem st_9 : isStrT Tryd.prog 9 = true := by kernel_rfl
theorem c1_10 : cell1B Tryd.prog 10 = true := by kernel_rfl
theorem sz_10 : sizeV Tryd.prog 10 = some 1 := by kernel_rfl
theorem ze_10 : zeroV Tryd.prog 10 = some (.string ⟨#[]⟩) := by kernel_rfl
theorem st_10 : isStrT Tryd.prog 10 = true := by kernel_rfl
theorem c1_11 : cell1B Tryd.prog 11 = true := by kernel_rfl
theorem sz_11 : sizeV Tryd.prog 11 = some 1 := by kernel_rfl
theorem ze_11 : zeroV Tryd.prog 11 = some (.string ⟨#[]⟩) := by kernel_rfl
theorem st_11 : isStrT Tryd.prog 11 = true := by kernel_rfl
theorem c1_12 : cell1B Tryd.prog 12 = true := by kernel_rfl
theorem sz_12 : sizeV Tryd.prog 12 = some 1 := by kernel_rfl
theorem ze_12 : zeroV Tryd.prog 12 = some (.int .u64 0) := by kernel_rfl
theorem in_12 : intT Tryd.prog 12 = some .u64 := by kernel_rfl
theorem ag_13 : aggB Tryd.prog 13 2 = true := by kernel_rfl
theorem sz_13 : sizeV Tryd.prog 13 = some 2 := by kernel_rfl
theorem ze_13 : zeroV Tryd.prog 13 = some (.agg #[.string ⟨#[]⟩, .int .u64 0]) := by kernel_rfl
theorem fo13_0 : fieldOff Tryd.prog 13 0 = some 0 := by kernel_rfl
theorem fo13_1 : fieldOff Tryd.prog 13 1 = some 1 := by kernel_rfl
theorem sp_13 : strPl Tryd.prog 13 = some ([(0, 1), (1, 1)], [.string ⟨#[]⟩, .int .u64 0]) := by kernel_rfl
theorem ag_14 : aggB Tryd.prog 14 2 = true := by kernel_rfl
theorem sz_14 : sizeV Tryd.prog 14 = some 2 := by kernel_rfl
theorem ze_14 : zeroV Tryd.prog 14 = some (.agg #[.string ⟨#[]⟩, .int .u64 0]) := by kernel_rfl
theorem fo14_0 : fieldOff Tryd.prog 14 0 = some 0 := by kernel_rfl
theorem fo14_1 : fieldOff Tryd.prog 14 1 = some 1 := by kernel_rfl
theorem sp_14 : strPl Tryd.prog 14 = some ([(0, 1), (1, 1)], [.string ⟨#[]⟩, .int .u64 0]) := by kernel_rfl
theorem c1_15 : cell1B Tryd.prog 15 = true := by kernel_rfl
theorem sz_15 : sizeV Tryd.prog 15 = some 1 := by kernel_rfl
theorem ze_15 : zeroV Tryd.prog 15 = some (.pointer none) := by kernel_rfl
theorem pt_15 : isPtrT Tryd.prog 15 = true := by kernel_rfl
theorem c1_16 : cell1B Tryd.prog 16 = true := by kernel_rfl
theorem sz_16 : sizeV Tryd.prog 16 = some 1 := by kernel_rfl
theorem ze_16 : zeroV Tryd.prog 16 = some (.pointer none) := by kernel_rfl
theorem pt_16 : isPtrT Tryd.prog 16 = true := by kernel_rfl
theorem c1_17 : cell1B Tryd.prog 17 = true := by kernel_rfl
theorem sz_17 : sizeV Tryd.prog 17 = some 1 := by kernel_rfl
theorem ze_17 : zeroV Tryd.prog 17 = some (.pointer none) := by kernel_rfl
theorem pt_17 : isPtrT Tryd.prog 17 = true := by kernel_rfl
theorem ag_18 : aggB Tryd.prog 18 1 = true := by kernel_rfl
theorem sz_18 : sizeV Tryd.prog 18 = some 1 := by kernel_rfl
theorem ze_18 : zeroV Tryd.prog 18 = some (.agg #[.pointer none]) := by kernel_rfl
theorem fo18_0 : fieldOff Tryd.prog 18 0 = some 0 := by kernel_rfl
theorem sp_18 : strPl Tryd.prog 18 = some ([(0, 1)], [.pointer none]) := by kernel_rfl
theorem ag_19 : aggB Tryd.prog 19 1 = true := by kernel_rfl
theorem sz_19 : sizeV Tryd.prog 19 = some 1 := by kernel_rfl
theorem ze_19 : zeroV Tryd.prog 19 = some (.agg #[.pointer none]) := by kernel_rfl
theorem fo19_0 : fieldOff Tryd.prog 19 0 = some 0 := by kernel_rfl
theorem sp_19 : strPl Tryd.prog 19 = some ([(0, 1)], [.pointer none]) := by kernel_rfl
theorem c1_20 : cell1B Tryd.prog 20 = true := by kernel_rfl
theorem sz_20 : sizeV Tryd.prog 20 = some 1 := by kernel_rfl
theorem ze_20 : zeroV Tryd.prog 20 = some (.nilIface) := by kernel_rfl
theorem c1_21 : cell1B Tryd.prog 21 = true := by kernel_rfl
theorem sz_21 : sizeV Tryd.prog 21 = some 1 := by kernel_rfl
theorem ze_21 : zeroV Tryd.prog 21 = some (.int .i32 0) := by kernel_rfl
theorem in_21 : intT Tryd.prog 21 = some .i32 := by kernel_rfl
theorem c1_22 : cell1B Tryd.prog 22 = true := by kernel_rfl
theorem sz_22 : sizeV Tryd.prog 22 = some 1 := by kernel_rfl
theorem ze_22 : zeroV Tryd.prog 22 = some (.int .i64 0) := by kernel_rfl
theorem in_22 : intT Tryd.prog 22 = some .i64 := by kernel_rfl
theorem c1_23 : cell1B Tryd.prog 23 = true := by kernel_rfl
theorem sz_23 : sizeV Tryd.prog 23 = some 1 := by kernel_rfl
theorem ze_23 : zeroV Tryd.prog 23 = some (.int .u64 0) := by kernel_rfl
theorem in_23 : intT Tryd.prog 23 = some .u64 := by kernel_rfl
theorem ag_24 : aggB Tryd.prog 24 2 = true := by kernel_rfl
theorem sz_24 : sizeV Tryd.prog 24 = some 2 := by kernel_rfl
theorem ze_24 : zeroV Tryd.prog 24 = some (.agg #[.int .u64 0, .int .u64 0]) := by kernel_rfl
theorem fo24_0 : fieldOff Tryd.prog 24 0 = some 0 := by kernel_rfl
theorem fo24_1 : fieldOff Tryd.prog 24 1 = some 1 := by kernel_rfl
theorem sp_24 : strPl Tryd.prog 24 = some ([(0, 1), (1, 1)], [.int .u64 0, .int .u64 0]) := by kernel_rfl
theorem ag_25 : aggB Tryd.prog 25 2 = true := by kernel_rfl
theorem sz_25 : sizeV Tryd.prog 25 = some 2 := by kernel_rfl
theorem ze_25 : zeroV Tryd.prog 25 = some (.agg #[.int .u64 0, .int .u64 0]) := by kernel_rfl
theorem fo25_0 : fieldOff Tryd.prog 25 0 = some 0 := by kernel_rfl
theorem fo25_1 : fieldOff Tryd.prog 25 1 = some 1 := by kernel_rfl
theorem sp_25 : strPl Tryd.prog 25 = some ([(0, 1), (1, 1)], [.int .u64 0, .int .u64 0]) := by kernel_rfl
theorem ag_26 : aggB Tryd.prog 26 3 = true := by kernel_rfl
theorem sz_26 : sizeV Tryd.prog 26 = some 3 := by kernel_rfl
theorem ze_26 : zeroV Tryd.prog 26 = some (.agg #[.int .i64 0, .int .i64 0, .string ⟨#[]⟩]) := by kernel_rfl
theorem fo26_0 : fieldOff Tryd.prog 26 0 = some 0 := by kernel_rfl
theorem fo26_1 : fieldOff Tryd.prog 26 1 = some 1 := by kernel_rfl
theorem fo26_2 : fieldOff Tryd.prog 26 2 = some 2 := by kernel_rfl
theorem sp_26 : strPl Tryd.prog 26 = some ([(0, 1), (1, 1), (2, 1)], [.int .i64 0, .int .i64 0, .string ⟨#[]⟩]) := by kernel_rfl
theorem ag_27 : aggB Tryd.prog 27 3 = true := by kernel_rfl
theorem sz_27 : sizeV Tryd.prog 27 = some 3 := by kernel_rfl
theorem ze_27 : zeroV Tryd.prog 27 = some (.agg #[.int .i64 0, .int .i64 0, .string ⟨#[]⟩]) := by kernel_rfl
theorem fo27_0 : fieldOff Tryd.prog 27 0 = some 0 := by kernel_rfl
theorem fo27_1 : fieldOff Tryd.prog 27 1 = some 1 := by kernel_rfl
theorem fo27_2 : fieldOff Tryd.prog 27 2 = some 2 := by kernel_rfl
theorem sp_27 : strPl Tryd.prog 27 = some ([(0, 1), (1, 1), (2, 1)], [.int .i64 0, .int .i64 0, .string ⟨#[]⟩]) := by kernel_rfl
theorem c1_28 : cell1B Tryd.prog 28 = true := by kernel_rfl
theorem sz_28 : sizeV Tryd.prog 28 = some 1 := by kernel_rfl
theorem ze_28 : zeroV Tryd.prog 28 = some (.slice none 0 0) := by kernel_rfl
theorem el_28 : elT Tryd.prog 28 = some (5, 1, 1) := by kernel_rfl
theorem by_28 : isBytesT Tryd.prog 28 = true := by kernel_rfl
theorem ag_29 : aggB Tryd.prog 29 13 = true := by kernel_rfl
theorem sz_29 : sizeV Tryd.prog 29 = some 13 := by kernel_rfl
theorem ze_29 : zeroV Tryd.prog 29 = some (.agg #[.int .i64 0, .int .i64 0, .int .i64 0, .int .i64 0, .int .i64 0, .int .i64 0, .int .i64 0, .int .u64 0, .int .u64 0, .int .i64 0, .int .i64 0, .string ⟨#[]⟩, .slice none 0 0]) := by kernel_rfl
theorem fo29_0 : fieldOff Tryd.prog 29 0 = some 0 := by kernel_rfl
theorem fo29_1 : fieldOff Tryd.prog 29 1 = some 1 := by kernel_rfl
theorem fo29_2 : fieldOff Tryd.prog 29 2 = some 2 := by kernel_rfl
theorem fo29_3 : fieldOff Tryd.prog 29 3 = some 3 := by kernel_rfl
theorem fo29_4 : fieldOff Tryd.prog 29 4 = some 4 := by kernel_rfl
theorem fo29_5 : fieldOff Tryd.prog 29 5 = some 5 := by kernel_rfl
theorem fo29_6 : fieldOff Tryd.prog 29 6 = some 6 := by kernel_rfl
theorem fo29_7 : fieldOff Tryd.prog 29 7 = some 7 := by kernel_rfl
theorem fo29_8 : fieldOff Tryd.prog 29 8 = some 9 := by kernel_rfl
theorem fo29_9 : fieldOff Tryd.prog 29 9 = some 12 := by kernel_rfl
theorem sp_29 : strPl Tryd.prog 29 = some ([(0, 1), (1, 1), (2, 1), (3, 1), (4, 1), (5, 1), (6, 1), (7, 2), (9, 3), (12, 1)], [.int .i64 0, .int .i64 0, .int .i64 0, .int .i64 0, .int .i64 0, .int .i64 0, .int .i64 0, .int .u64 0, .int .u64 0, .int .i64 0, .int .i64 0, .string ⟨#[]⟩, .slice none 0 0]) := by kernel_rfl
theorem ag_30 : aggB Tryd.prog 30 13 = true := by kernel_rfl
theorem sz_30 : sizeV Tryd.prog 30 = some 13 := by kernel_rfl
theorem ze_30 : zeroV Tryd.prog 30 = some (.agg #[.int .i64 0, .int .i64 0, .int .i64 0, .int .i64 0, .int .i64 0, .int .i64 0, .int .i64 0, .int .u64 0, .int .u64 0, .int .i64 0, .int .i64 0, .string ⟨#[]⟩, .slice none 0 0]) := by kernel_rfl
theorem fo30_0 : fieldOff Tryd.prog 30 0 = some 0 := by kernel_rfl
theorem fo30_1 : fieldOff Tryd.prog 30 1 = some 1 := by kernel_rfl
theorem fo30_2 : fieldOff Tryd.prog 30 2 = some 2 := by kernel_rfl
theorem fo30_3 : fieldOff Tryd.prog 30 3 = some 3 := by kernel_rfl
theorem fo30_4 : fieldOff Tryd.prog 30 4 = some 4 := by kernel_rfl
theorem fo30_5 : fieldOff Tryd.prog 30 5 = some 5 := by kernel_rfl
theorem fo30_6 : fieldOff Tryd.prog 30 6 = some 6 := by kernel_rfl
theorem fo30_7 : fieldOff Tryd.prog 30 7 = some 7 := by kernel_rfl
theorem fo30_8 : fieldOff Tryd.prog 30 8 = some 9 := by kernel_rfl
theorem fo30_9 : fieldOff Tryd.prog 30 9 = some 12 := by kernel_rfl
theorem sp_30 : strPl Tryd.prog 30 = some ([(0, 1), (1, 1), (2, 1), (3, 1), (4, 1), (5, 1), (6, 1), (7, 2), (9, 3), (12, 1)], [.int .i64 0, .int .i64 0, .int .i64 0, .int .i64 0, .int .i64 0, .int .i64 0, .int .i64 0, .int .u64 0, .int .u64 0, .int .i64 0, .int .i64 0, .string ⟨#[]⟩, .slice none 0 0]) := by kernel_rfl
theorem c1_31 : cell1B Tryd.prog 31 = true := by kernel_rfl
theorem sz_31 : sizeV Tryd.prog 31 = some 1 := by kernel_rfl
theorem ze_31 : zeroV Tryd.prog 31 = some (.slice none 0 0) := by kernel_rfl
theorem el_31 : elT Tryd.prog 31 = some (28, 1, 24) := by kernel_rfl
theorem c1_32 : cell1B Tryd.prog 32 = true := by kernel_rfl
theorem sz_32 : sizeV Tryd.prog 32 = some 1 := by kernel_rfl
theorem ze_32 : zeroV Tryd.prog 32 = some (.slice none 0 0) := by kernel_rfl
theorem el_32 : elT Tryd.prog 32 = some (134, 1, 24) := by kernel_rfl
theorem c1_33 : cell1B Tryd.prog 33 = true := by kernel_rfl
theorem sz_33 : sizeV Tryd.prog 33 = some 1 := by kernel_rfl
theorem ze_33 : zeroV Tryd.prog 33 = some (.slice none 0 0) := by kernel_rfl
theorem el_33 : elT Tryd.prog 33 = some (132, 1, 24) := by kernel_rfl
theorem c1_34 : cell1B Tryd.prog 34 = true := by kernel_rfl
theorem sz_34 : sizeV Tryd.prog 34 = some 1 := by kernel_rfl
theorem ze_34 : zeroV Tryd.prog 34 = some (.slice none 0 0) := by kernel_rfl
theorem el_34 : elT Tryd.prog 34 = some (66, 1, 24) := by kernel_rfl
theorem c1_35 : cell1B Tryd.prog 35 = true := by kernel_rfl
theorem sz_35 : sizeV Tryd.prog 35 = some 1 := by kernel_rfl
theorem ze_35 : zeroV Tryd.prog 35 = some (.slice none 0 0) := by kernel_rfl
theorem el_35 : elT Tryd.prog 35 = some (140, 12, 192) := by kernel_rfl
theorem ag_36 : aggB Tryd.prog 36 10 = true := by kernel_rfl
theorem sz_36 : sizeV Tryd.prog 36 = some 10 := by kernel_rfl
theorem ze_36 : zeroV Tryd.prog 36 = some (.agg #[.slice none 0 0, .slice none 0 0, .slice none 0 0, .slice none 0 0, .slice none 0 0, .slice none 0 0, .slice none 0 0, .slice none 0 0, .slice none 0 0, .slice none 0 0]) := by kernel_rfl
theorem fo36_0 : fieldOff Tryd.prog 36 0 = some 0 := by kernel_rfl
theorem fo36_1 : fieldOff Tryd.prog 36 1 = some 1 := by kernel_rfl
theorem fo36_2 : fieldOff Tryd.prog 36 2 = some 2 := by kernel_rfl
theorem fo36_3 : fieldOff Tryd.prog 36 3 = some 3 := by kernel_rfl
theorem fo36_4 : fieldOff Tryd.prog 36 4 = some 4 := by kernel_rfl
theorem fo36_5 : fieldOff Tryd.prog 36 5 = some 5 := by kernel_rfl
theorem fo36_6 : fieldOff Tryd.prog 36 6 = some 6 := by kernel_rfl
theorem fo36_7 : fieldOff Tryd.prog 36 7 = some 7 := by kernel_rfl
theorem fo36_8 : fieldOff Tryd.prog 36 8 = some 8 := by kernel_rfl
theorem fo36_9 : fieldOff Tryd.prog 36 9 = some 9 := by kernel_rfl
theorem sp_36 : strPl Tryd.prog 36 = some ([(0, 1), (1, 1), (2, 1), (3, 1), (4, 1), (5, 1), (6, 1), (7, 1), (8, 1), (9, 1)], [.slice none 0 0, .slice none 0 0, .slice none 0 0, .slice none 0 0, .slice none 0 0, .slice none 0 0, .slice none 0 0, .slice none 0 0, .slice none 0 0, .slice none 0 0]) := by kernel_rfl
theorem ag_37 : aggB Tryd.prog 37 10 = true := by kernel_rfl
theorem sz_37 : sizeV Tryd.prog 37 = some 10 := by kernel_rfl
theorem ze_37 : zeroV Tryd.prog 37 = some (.agg #[.slice none 0 0, .slice none 0 0, .slice none 0 0, .slice none 0 0, .slice none 0 0, .slice none 0 0, .slice none 0 0, .slice none 0 0, .slice none 0 0, .slice none 0 0]) := by kernel_rfl
theorem fo37_0 : fieldOff Tryd.prog 37 0 = some 0 := by kernel_rfl
theorem fo37_1 : fieldOff Tryd.prog 37 1 = some 1 := by kernel_rfl
theorem fo37_2 : fieldOff Tryd.prog 37 2 = some 2 := by kernel_rfl
theorem fo37_3 : fieldOff Tryd.prog 37 3 = some 3 := by kernel_rfl
theorem fo37_4 : fieldOff Tryd.prog 37 4 = some 4 := by kernel_rfl
theorem fo37_5 : fieldOff Tryd.prog 37 5 = some 5 := by kernel_rfl
theorem fo37_6 : fieldOff Tryd.prog 37 6 = some 6 := by kernel_rfl
theorem fo37_7 : fieldOff Tryd.prog 37 7 = some 7 := by kernel_rfl
theorem fo37_8 : fieldOff Tryd.prog 37 8 = some 8 := by kernel_rfl
theorem fo37_9 : fieldOff Tryd.prog 37 9 = some 9 := by kernel_rfl
theorem sp_37 : strPl Tryd.prog 37 = some ([(0, 1), (1, 1), (2, 1), (3, 1), (4, 1), (5, 1), (6, 1), (7, 1), (8, 1), (9, 1)], [.slice none 0 0, .slice none 0 0, .slice none 0 0, .slice none 0 0, .slice none 0 0, .slice none 0 0, .slice none 0 0, .slice none 0 0, .slice none 0 0, .slice none 0 0]) := by kernel_rfl
theorem c1_38 : cell1B Tryd.prog 38 = true := by kernel_rfl
theorem sz_38 : sizeV Tryd.prog 38 = some 1 := by kernel_rfl
theorem ze_38 : zeroV Tryd.prog 38 = some (.int .i64 0) := by kernel_rfl
theorem in_38 : intT Tryd.prog 38 = some .i64 := by kernel_rfl
theorem c1_40 : cell1B Tryd.prog 40 = true := by kernel_rfl
theorem sz_40 : sizeV Tryd.prog 40 = some 1 := by kernel_rfl
theorem ze_40 : zeroV Tryd.prog 40 = some (.nilFunc) := by kernel_rfl
theorem c1_41 : cell1B Tryd.prog 41 = true := by kernel_rfl
theorem sz_41 : sizeV Tryd.prog 41 = some 1 := by kernel_rfl
theorem ze_41 : zeroV Tryd.prog 41 = some (.nilFunc) := by kernel_rfl
theorem c1_43 : cell1B Tryd.prog 43 = true := by kernel_rfl
theorem sz_43 : sizeV Tryd.prog 43 = some 1 := by kernel_rfl
theorem ze_43 : zeroV Tryd.prog 43 = some (.nilFunc) := by kernel_rfl
theorem c1_45 : cell1B Tryd.prog 45 = true := by kernel_rfl
theorem sz_45 : sizeV Tryd.prog 45 = some 1 := by kernel_rfl
theorem ze_45 : zeroV Tryd.prog 45 = some (.nilFunc) := by kernel_rfl
theorem c1_46 : cell1B Tryd.prog 46 = true := by kernel_rfl
theorem sz_46 : sizeV Tryd.prog 46 = some 1 := by kernel_rfl
theorem ze_46 : zeroV Tryd.prog 46 = some (.nilFunc) := by kernel_rfl
theorem c1_48 : cell1B Tryd.prog 48 = true := by kernel_rfl
theorem sz_48 : sizeV Tryd.prog 48 = some 1 := by kernel_rfl
theorem ze_48 : zeroV Tryd.prog 48 = some (.nilFunc) := by kernel_rfl
theorem c1_49 : cell1B Tryd.prog 49 = true := by kernel_rfl
theorem sz_49 : sizeV Tryd.prog 49 = some 1 := by kernel_rfl
theorem ze_49 : zeroV Tryd.prog 49 = some (.nilFunc) := by kernel_rfl
theorem c1_50 : cell1B Tryd.prog 50 = true := by kernel_rfl
theorem sz_50 : sizeV Tryd.prog 50 = some 1 := by kernel_rfl
theorem ze_50 : zeroV Tryd.prog 50 = some (.nilFunc) := by kernel_rfl
theorem c1_51 : cell1B Tryd.prog 51 = true := by kernel_rfl
theorem sz_51 : sizeV Tryd.prog 51 = some 1 := by kernel_rfl
theorem ze_51 : zeroV Tryd.prog 51 = some (.nilFunc) := by kernel_rfl
theorem ag_52 : aggB Tryd.prog 52 4 = true := by kernel_rfl
theorem sz_52 : sizeV Tryd.prog 52 = some 4 := by kernel_rfl
theorem ze_52 : zeroV Tryd.prog 52 = some (.agg #[.int .i64 0, .int .i64 0, .int .i64 0, .bool false]) := by kernel_rfl
theorem fo52_0 : fieldOff Tryd.prog 52 0 = some 0 := by kernel_rfl
theorem fo52_1 : fieldOff Tryd.prog 52 1 = some 1 := by kernel_rfl
theorem fo52_2 : fieldOff Tryd.prog 52 2 = some 2 := by kernel_rfl
theorem fo52_3 : fieldOff Tryd.prog 52 3 = some 3 := by kernel_rfl
theorem sp_52 : strPl Tryd.prog 52 = some ([(0, 1), (1, 1), (2, 1), (3, 1)], [.int .i64 0, .int .i64 0, .int .i64 0, .bool false]) := by kernel_rfl
theorem ag_53 : aggB Tryd.prog 53 4 = true := by kernel_rfl
theorem sz_53 : sizeV Tryd.prog 53 = some 4 := by kernel_rfl
theorem ze_53 : zeroV Tryd.prog 53 = some (.agg #[.int .i64 0, .int .i64 0, .int .i64 0, .bool false]) := by kernel_rfl
theorem fo53_0 : fieldOff Tryd.prog 53 0 = some 0 := by kernel_rfl
theorem fo53_1 : fieldOff Tryd.prog 53 1 = some 1 := by kernel_rfl
theorem fo53_2 : fieldOff Tryd.prog 53 2 = some 2 := by kernel_rfl
theorem fo53_3 : fieldOff Tryd.prog 53 3 = some 3 := by kernel_rfl
theorem sp_53 : strPl Tryd.prog 53 = some ([(0, 1), (1, 1), (2, 1), (3, 1)], [.int .i64 0, .int .i64 0, .int .i64 0, .bool false]) := by kernel_rfl
theorem c1_54 : cell1B Tryd.prog 54 = true := by kernel_rfl
theorem sz_54 : sizeV Tryd.prog 54 = some 1 := by kernel_rfl
theorem ze_54 : zeroV Tryd.prog 54 = some (.slice none 0 0) := by kernel_rfl
theorem el_54 : elT Tryd.prog 54 = some (150, 1, 8) := by kernel_rfl
theorem ag_55 : aggB Tryd.prog 55 5 = true := by kernel_rfl
theorem sz_55 : sizeV Tryd.prog 55 = some 5 := by kernel_rfl
theorem ze_55 : zeroV Tryd.prog 55 = some (.agg #[.int .i64 0, .int .i64 0, .int .i64 0, .bool false, .slice none 0 0]) := by kernel_rfl
theorem fo55_0 : fieldOff Tryd.prog 55 0 = some 0 := by kernel_rfl
theorem fo55_1 : fieldOff Tryd.prog 55 1 = some 4 := by kernel_rfl
theorem sp_55 : strPl Tryd.prog 55 = some ([(0, 4), (4, 1)], [.int .i64 0, .int .i64 0, .int .i64 0, .bool false, .slice none 0 0]) := by kernel_rfl
theorem ag_56 : aggB Tryd.prog 56 5 = true := by kernel_rfl
theorem sz_56 : sizeV Tryd.prog 56 = some 5 := by kernel_rfl
theorem ze_56 : zeroV Tryd.prog 56 = some (.agg #[.int .i64 0, .int .i64 0, .int .i64 0, .bool false, .slice none 0 0]) := by kernel_rfl
theorem fo56_0 : fieldOff Tryd.prog 56 0 = some 0 := by kernel_rfl
theorem fo56_1 : fieldOff Tryd.prog 56 1 = some 4 := by kernel_rfl
theorem sp_56 : strPl Tryd.prog 56 = some ([(0, 4), (4, 1)], [.int .i64 0, .int .i64 0, .int .i64 0, .bool false, .slice none 0 0]) := by kernel_rfl
theorem c1_57 : cell1B Tryd.prog 57 = true := by kernel_rfl
theorem sz_57 : sizeV Tryd.prog 57 = some 1 := by kernel_rfl
theorem ze_57 : zeroV Tryd.prog 57 = some (.slice none 0 0) := by kernel_rfl
theorem el_57 : elT Tryd.prog 57 = some (30, 13, 128) := by kernel_rfl
theorem c1_59 : cell1B Tryd.prog 59 = true := by kernel_rfl
theorem sz_59 : sizeV Tryd.prog 59 = some 1 := by kernel_rfl
theorem ze_59 : zeroV Tryd.prog 59 = some (.nilFunc) := by kernel_rfl
theorem c1_60 : cell1B Tryd.prog 60 = true := by kernel_rfl
theorem sz_60 : sizeV Tryd.prog 60 = some 1 := by kernel_rfl
theorem ze_60 : zeroV Tryd.prog 60 = some (.nilFunc) := by kernel_rfl
theorem c1_61 : cell1B Tryd.prog 61 = true := by kernel_rfl
theorem sz_61 : sizeV Tryd.prog 61 = some 1 := by kernel_rfl
theorem ze_61 : zeroV Tryd.prog 61 = some (.pointer none) := by kernel_rfl
theorem pt_61 : isPtrT Tryd.prog 61 = true := by kernel_rfl
theorem c1_63 : cell1B Tryd.prog 63 = true := by kernel_rfl
theorem sz_63 : sizeV Tryd.prog 63 = some 1 := by kernel_rfl
theorem ze_63 : zeroV Tryd.prog 63 = some (.nilFunc) := by kernel_rfl
theorem c1_64 : cell1B Tryd.prog 64 = true := by kernel_rfl
theorem sz_64 : sizeV Tryd.prog 64 = some 1 := by kernel_rfl
theorem ze_64 : zeroV Tryd.prog 64 = some (.nilFunc) := by kernel_rfl
theorem c1_65 : cell1B Tryd.prog 65 = true := by kernel_rfl
theorem sz_65 : sizeV Tryd.prog 65 = some 1 := by kernel_rfl
theorem ze_65 : zeroV Tryd.prog 65 = some (.nilFunc) := by kernel_rfl
theorem c1_66 : cell1B Tryd.prog 66 = true := by kernel_rfl
theorem sz_66 : sizeV Tryd.prog 66 = some 1 := by kernel_rfl
theorem ze_66 : zeroV Tryd.prog 66 = some (.slice none 0 0) := by kernel_rfl
theorem el_66 : elT Tryd.prog 66 = some (3, 1, 8) := by kernel_rfl
theorem c1_68 : cell1B Tryd.prog 68 = true := by kernel_rfl
theorem sz_68 : sizeV Tryd.prog 68 = some 1 := by kernel_rfl
theorem ze_68 : zeroV Tryd.prog 68 = some (.nilFunc) := by kernel_rfl
theorem c1_69 : cell1B Tryd.prog 69 = true := by kernel_rfl
theorem sz_69 : sizeV Tryd.prog 69 = some 1 := by kernel_rfl
theorem ze_69 : zeroV Tryd.prog 69 = some (.nilFunc) := by kernel_rfl
theorem c1_71 : cell1B Tryd.prog 71 = true := by kernel_rfl
theorem sz_71 : sizeV Tryd.prog 71 = some 1 := by kernel_rfl
theorem ze_71 : zeroV Tryd.prog 71 = some (.nilFunc) := by kernel_rfl
theorem c1_72 : cell1B Tryd.prog 72 = true := by kernel_rfl
theorem sz_72 : sizeV Tryd.prog 72 = some 1 := by kernel_rfl
theorem ze_72 : zeroV Tryd.prog 72 = some (.nilFunc) := by kernel_rfl
theorem c1_73 : cell1B Tryd.prog 73 = true := by kernel_rfl
theorem sz_73 : sizeV Tryd.prog 73 = some 1 := by kernel_rfl
theorem ze_73 : zeroV Tryd.prog 73 = some (.nilFunc) := by kernel_rfl
theorem c1_75 : cell1B Tryd.prog 75 = true := by kernel_rfl
theorem sz_75 : sizeV Tryd.prog 75 = some 1 := by kernel_rfl
theorem ze_75 : zeroV Tryd.prog 75 = some (.nilFunc) := by kernel_rfl
theorem c1_76 : cell1B Tryd.prog 76 = true := by kernel_rfl
theorem sz_76 : sizeV Tryd.prog 76 = some 1 := by kernel_rfl
theorem ze_76 : zeroV Tryd.prog 76 = some (.nilFunc) := by kernel_rfl
theorem c1_78 : cell1B Tryd.prog 78 = true := by kernel_rfl
theorem sz_78 : sizeV Tryd.prog 78 = some 1 := by kernel_rfl
theorem ze_78 : zeroV Tryd.prog 78 = some (.nilFunc) := by kernel_rfl
theorem c1_79 : cell1B Tryd.prog 79 = true := by kernel_rfl
theorem sz_79 : sizeV Tryd.prog 79 = some 1 := by kernel_rfl
theorem ze_79 : zeroV Tryd.prog 79 = some (.nilFunc) := by kernel_rfl
theorem c1_80 : cell1B Tryd.prog 80 = true := by kernel_rfl
theorem sz_80 : sizeV Tryd.prog 80 = some 1 := by kernel_rfl
theorem ze_80 : zeroV Tryd.prog 80 = some (.nilFunc) := by kernel_rfl
theorem ag_81 : aggB Tryd.prog 81 2 = true := by kernel_rfl
theorem sz_81 : sizeV Tryd.prog 81 = some 2 := by kernel_rfl
theorem ze_81 : zeroV Tryd.prog 81 = some (.agg #[.slice none 0 0, .int .i64 0]) := by kernel_rfl
theorem fo81_0 : fieldOff Tryd.prog 81 0 = some 0 := by kernel_rfl
theorem fo81_1 : fieldOff Tryd.prog 81 1 = some 1 := by kernel_rfl
theorem sp_81 : strPl Tryd.prog 81 = some ([(0, 1), (1, 1)], [.slice none 0 0, .int .i64 0]) := by kernel_rfl
theorem ag_82 : aggB Tryd.prog 82 2 = true := by kernel_rfl
theorem sz_82 : sizeV Tryd.prog 82 = some 2 := by kernel_rfl
theorem ze_82 : zeroV Tryd.prog 82 = some (.agg #[.slice none 0 0, .int .i64 0]) := by kernel_rfl
theorem fo82_0 : fieldOff Tryd.prog 82 0 = some 0 := by kernel_rfl
theorem fo82_1 : fieldOff Tryd.prog 82 1 = some 1 := by kernel_rfl
theorem sp_82 : strPl Tryd.prog 82 = some ([(0, 1), (1, 1)], [.slice none 0 0, .int .i64 0]) := by kernel_rfl
theorem ag_83 : aggB Tryd.prog 83 5 = true := by kernel_rfl
theorem sz_83 : sizeV Tryd.prog 83 = some 5 := by kernel_rfl
theorem ze_83 : zeroV Tryd.prog 83 = some (.agg #[.slice none 0 0, .int .i64 0, .int .i64 0, .slice none 0 0, .int .i64 0]) := by kernel_rfl
theorem fo83_0 : fieldOff Tryd.prog 83 0 = some 0 := by kernel_rfl
theorem fo83_1 : fieldOff Tryd.prog 83 1 = some 2 := by kernel_rfl
theorem fo83_2 : fieldOff Tryd.prog 83 2 = some 3 := by kernel_rfl
theorem fo83_3 : fieldOff Tryd.prog 83 3 = some 4 := by kernel_rfl
theorem sp_83 : strPl Tryd.prog 83 = some ([(0, 2), (2, 1), (3, 1), (4, 1)], [.slice none 0 0, .int .i64 0, .int .i64 0, .slice none 0 0, .int .i64 0]) := by kernel_rfl
theorem ag_84 : aggB Tryd.prog 84 5 = true := by kernel_rfl
theorem sz_84 : sizeV Tryd.prog 84 = some 5 := by kernel_rfl
theorem ze_84 : zeroV Tryd.prog 84 = some (.agg #[.slice none 0 0, .int .i64 0, .int .i64 0, .slice none 0 0, .int .i64 0]) := by kernel_rfl
theorem fo84_0 : fieldOff Tryd.prog 84 0 = some 0 := by kernel_rfl
theorem fo84_1 : fieldOff Tryd.prog 84 1 = some 2 := by kernel_rfl
theorem fo84_2 : fieldOff Tryd.prog 84 2 = some 3 := by kernel_rfl
theorem fo84_3 : fieldOff Tryd.prog 84 3 = some 4 := by kernel_rfl
theorem sp_84 : strPl Tryd.prog 84 = some ([(0, 2), (2, 1), (3, 1), (4, 1)], [.slice none 0 0, .int .i64 0, .int .i64 0, .slice none 0 0, .int .i64 0]) := by kernel_rfl
theorem ag_85 : aggB Tryd.prog 85 8 = true := by kernel_rfl
theorem sz_85 : sizeV Tryd.prog 85 = some 8 := by kernel_rfl
theorem ze_85 : zeroV Tryd.prog 85 = some (.agg #[.slice none 0 0, .slice none 0 0, .slice none 0 0, .int .i64 0, .int .i64 0, .slice none 0 0, .int .i64 0, .int .i64 0]) := by kernel_rfl
theorem fo85_0 : fieldOff Tryd.prog 85 0 = some 0 := by kernel_rfl
theorem fo85_1 : fieldOff Tryd.prog 85 1 = some 1 := by kernel_rfl
theorem fo85_2 : fieldOff Tryd.prog 85 2 = some 2 := by kernel_rfl
theorem fo85_3 : fieldOff Tryd.prog 85 3 = some 7 := by kernel_rfl
theorem sp_85 : strPl Tryd.prog 85 = some ([(0, 1), (1, 1), (2, 5), (7, 1)], [.slice none 0 0, .slice none 0 0, .slice none 0 0, .int .i64 0, .int .i64 0, .slice none 0 0, .int .i64 0, .int .i64 0]) := by kernel_rfl
theorem ag_86 : aggB Tryd.prog 86 8 = true := by kernel_rfl
theorem sz_86 : sizeV Tryd.prog 86 = some 8 := by kernel_rfl
theorem ze_86 : zeroV Tryd.prog 86 = some (.agg #[.slice none 0 0, .slice none 0 0, .slice none 0 0, .int .i64 0, .int .i64 0, .slice none 0 0, .int .i64 0, .int .i64 0]) := by kernel_rfl
theorem fo86_0 : fieldOff Tryd.prog 86 0 = some 0 := by kernel_rfl
theorem fo86_1 : fieldOff Tryd.prog 86 1 = some 1 := by kernel_rfl
theorem fo86_2 : fieldOff Tryd.prog 86 2 = some 2 := by kernel_rfl
theorem fo86_3 : fieldOff Tryd.prog 86 3 = some 7 := by kernel_rfl
theorem sp_86 : strPl Tryd.prog 86 = some ([(0, 1), (1, 1), (2, 5), (7, 1)], [.slice none 0 0, .slice none 0 0, .slice none 0 0, .int .i64 0, .int .i64 0, .slice none 0 0, .int .i64 0, .int .i64 0]) := by kernel_rfl
theorem c1_88 : cell1B Tryd.prog 88 = true := by kernel_rfl
theorem sz_88 : sizeV Tryd.prog 88 = some 1 := by kernel_rfl
theorem ze_88 : zeroV Tryd.prog 88 = some (.nilFunc) := by kernel_rfl
theorem c1_90 : cell1B Tryd.prog 90 = true := by kernel_rfl
theorem sz_90 : sizeV Tryd.prog 90 = some 1 := by kernel_rfl
theorem ze_90 : zeroV Tryd.prog 90 = some (.nilFunc) := by kernel_rfl
theorem c1_92 : cell1B Tryd.prog 92 = true := by kernel_rfl
theorem sz_92 : sizeV Tryd.prog 92 = some 1 := by kernel_rfl
theorem ze_92 : zeroV Tryd.prog 92 = some (.nilFunc) := by kernel_rfl
theorem c1_94 : cell1B Tryd.prog 94 = true := by kernel_rfl
theorem sz_94 : sizeV Tryd.prog 94 = some 1 := by kernel_rfl
theorem ze_94 : zeroV Tryd.prog 94 = some (.nilFunc) := by kernel_rfl
theorem c1_95 : cell1B Tryd.prog 95 = true := by kernel_rfl
theorem sz_95 : sizeV Tryd.prog 95 = some 1 := by kernel_rfl
theorem ze_95 : zeroV Tryd.prog 95 = some (.nilFunc) := by kernel_rfl
theorem c1_96 : cell1B Tryd.prog 96 = true := by kernel_rfl
theorem sz_96 : sizeV Tryd.prog 96 = some 1 := by kernel_rfl
theorem ze_96 : zeroV Tryd.prog 96 = some (.nilFunc) := by kernel_rfl
theorem c1_97 : cell1B Tryd.prog 97 = true := by kernel_rfl
theorem sz_97 : sizeV Tryd.prog 97 = some 1 := by kernel_rfl
theorem ze_97 : zeroV Tryd.prog 97 = some (.nilFunc) := by kernel_rfl
theorem c1_98 : cell1B Tryd.prog 98 = true := by kernel_rfl
theorem sz_98 : sizeV Tryd.prog 98 = some 1 := by kernel_rfl
theorem ze_98 : zeroV Tryd.prog 98 = some (.slice none 0 0) := by kernel_rfl
theorem el_98 : elT Tryd.prog 98 = some (209, 1, 24) := by kernel_rfl
theorem c1_99 : cell1B Tryd.prog 99 = true := by kernel_rfl
theorem sz_99 : sizeV Tryd.prog 99 = some 1 := by kernel_rfl
theorem ze_99 : zeroV Tryd.prog 99 = some (.slice none 0 0) := by kernel_rfl
theorem el_99 : elT Tryd.prog 99 = some (213, 1, 24) := by kernel_rfl
theorem c1_100 : cell1B Tryd.prog 100 = true := by kernel_rfl
theorem sz_100 : sizeV Tryd.prog 100 = some 1 := by kernel_rfl
theorem ze_100 : zeroV Tryd.prog 100 = some (.slice none 0 0) := by kernel_rfl
theorem el_100 : elT Tryd.prog 100 = some (219, 1, 24) := by kernel_rfl
theorem c1_101 : cell1B Tryd.prog 101 = true := by kernel_rfl
theorem sz_101 : sizeV Tryd.prog 101 = some 1 := by kernel_rfl
theorem ze_101 : zeroV Tryd.prog 101 = some (.slice none 0 0) := by kernel_rfl
theorem el_101 : elT Tryd.prog 101 = some (221, 1, 24) := by kernel_rfl
theorem c1_102 : cell1B Tryd.prog 102 = true := by kernel_rfl
theorem sz_102 : sizeV Tryd.prog 102 = some 1 := by kernel_rfl
theorem ze_102 : zeroV Tryd.prog 102 = some (.slice none 0 0) := by kernel_rfl
theorem el_102 : elT Tryd.prog 102 = some (135, 1, 24) := by kernel_rfl
theorem c1_103 : cell1B Tryd.prog 103 = true := by kernel_rfl
theorem sz_103 : sizeV Tryd.prog 103 = some 1 := by kernel_rfl
theorem ze_103 : zeroV Tryd.prog 103 = some (.slice none 0 0) := by kernel_rfl
theorem el_103 : elT Tryd.prog 103 = some (136, 1, 24) := by kernel_rfl
theorem ag_104 : aggB Tryd.prog 104 10 = true := by kernel_rfl
theorem sz_104 : sizeV Tryd.prog 104 = some 10 := by kernel_rfl
theorem ze_104 : zeroV Tryd.prog 104 = some (.agg #[.slice none 0 0, .slice none 0 0, .slice none 0 0, .slice none 0 0, .slice none 0 0, .slice none 0 0, .slice none 0 0, .slice none 0 0, .slice none 0 0, .slice none 0 0]) := by kernel_rfl
theorem fo104_0 : fieldOff Tryd.prog 104 0 = some 0 := by kernel_rfl
theorem fo104_1 : fieldOff Tryd.prog 104 1 = some 1 := by kernel_rfl
theorem fo104_2 : fieldOff Tryd.prog 104 2 = some 2 := by kernel_rfl
theorem fo104_3 : fieldOff Tryd.prog 104 3 = some 3 := by kernel_rfl
theorem fo104_4 : fieldOff Tryd.prog 104 4 = some 4 := by kernel_rfl
theorem fo104_5 : fieldOff Tryd.prog 104 5 = some 5 := by kernel_rfl
theorem fo104_6 : fieldOff Tryd.prog 104 6 = some 6 := by kernel_rfl
theorem fo104_7 : fieldOff Tryd.prog 104 7 = some 7 := by kernel_rfl
theorem fo104_8 : fieldOff Tryd.prog 104 8 = some 8 := by kernel_rfl
theorem fo104_9 : fieldOff Tryd.prog 104 9 = some 9 := by kernel_rfl
theorem sp_104 : strPl Tryd.prog 104 = some ([(0, 1), (1, 1), (2, 1), (3, 1), (4, 1), (5, 1), (6, 1), (7, 1), (8, 1), (9, 1)], [.slice none 0 0, .slice none 0 0, .slice none 0 0, .slice none 0 0, .slice none 0 0, .slice none 0 0, .slice none 0 0, .slice none 0 0, .slice none 0 0, .slice none 0 0]) := by kernel_rfl
theorem ag_105 : aggB Tryd.prog 105 10 = true := by kernel_rfl
theorem sz_105 : sizeV Tryd.prog 105 = some 10 := by kernel_rfl
theorem ze_105 : zeroV Tryd.prog 105 = some (.agg #[.slice none 0 0, .slice none 0 0, .slice none 0 0, .slice none 0 0, .slice none 0 0, .slice none 0 0, .slice none 0 0, .slice none 0 0, .slice none 0 0, .slice none 0 0]) := by kernel_rfl
theorem fo105_0 : fieldOff Tryd.prog 105 0 = some 0 := by kernel_rfl
theorem fo105_1 : fieldOff Tryd.prog 105 1 = some 1 := by kernel_rfl
theorem fo105_2 : fieldOff Tryd.prog 105 2 = some 2 := by kernel_rfl
theorem fo105_3 : fieldOff Tryd.prog 105 3 = some 3 := by kernel_rfl
theorem fo105_4 : fieldOff Tryd.prog 105 4 = some 4 := by kernel_rfl
theorem fo105_5 : fieldOff Tryd.prog 105 5 = some 5 := by kernel_rfl
theorem fo105_6 : fieldOff Tryd.prog 105 6 = some 6 := by kernel_rfl
theorem fo105_7 : fieldOff Tryd.prog 105 7 = some 7 := by kernel_rfl
theorem fo105_8 : fieldOff Tryd.prog 105 8 = some 8 := by kernel_rfl
theorem fo105_9 : fieldOff Tryd.prog 105 9 = some 9 := by kernel_rfl
theorem sp_105 : strPl Tryd.prog 105 = some ([(0, 1), (1, 1), (2, 1), (3, 1), (4, 1), (5, 1), (6, 1), (7, 1), (8, 1), (9, 1)], [.slice none 0 0, .slice none 0 0, .slice none 0 0, .slice none 0 0, .slice none 0 0, .slice none 0 0, .slice none 0 0, .slice none 0 0, .slice none 0 0, .slice none 0 0]) := by kernel_rfl
theorem c1_106 : cell1B Tryd.prog 106 = true := by kernel_rfl
theorem sz_106 : sizeV Tryd.prog 106 = some 1 := by kernel_rfl
theorem ze_106 : zeroV Tryd.prog 106 = some (.nilFunc) := by kernel_rfl
theorem c1_107 : cell1B Tryd.prog 107 = true := by kernel_rfl
theorem sz_107 : sizeV Tryd.prog 107 = some 1 := by kernel_rfl
theorem ze_107 : zeroV Tryd.prog 107 = some (.nilFunc) := by kernel_rfl
theorem c1_108 : cell1B Tryd.prog 108 = true := by kernel_rfl
theorem sz_108 : sizeV Tryd.prog 108 = some 1 := by kernel_rfl
theorem ze_108 : zeroV Tryd.prog 108 = some (.nilFunc) := by kernel_rfl
theorem c1_109 : cell1B Tryd.prog 109 = true := by kernel_rfl
theorem sz_109 : sizeV Tryd.prog 109 = some 1 := by kernel_rfl
theorem ze_109 : zeroV Tryd.prog 109 = some (.nilFunc) := by kernel_rfl
theorem c1_110 : cell1B Tryd.prog 110 = true := by kernel_rfl
theorem sz_110 : sizeV Tryd.prog 110 = some 1 := by kernel_rfl
theorem ze_110 : zeroV Tryd.prog 110 = some (.pointer none) := by kernel_rfl
theorem pt_110 : isPtrT Tryd.prog 110 = true := by kernel_rfl
theorem ag_111 : aggB Tryd.prog 111 6 = true := by kernel_rfl
theorem sz_111 : sizeV Tryd.prog 111 = some 6 := by kernel_rfl
theorem ze_111 : zeroV Tryd.prog 111 = some (.agg #[.pointer none, .pointer none, .pointer none, .pointer none, .pointer none, .pointer none]) := by kernel_rfl
theorem ar_111 : arrT Tryd.prog 111 = some (6, 110, 1) := by kernel_rfl
theorem c1_112 : cell1B Tryd.prog 112 = true := by kernel_rfl
theorem sz_112 : sizeV Tryd.prog 112 = some 1 := by kernel_rfl
theorem ze_112 : zeroV Tryd.prog 112 = some (.nilFunc) := by kernel_rfl
theorem c1_113 : cell1B Tryd.prog 113 = true := by kernel_rfl
theorem sz_113 : sizeV Tryd.prog 113 = some 1 := by kernel_rfl
theorem ze_113 : zeroV Tryd.prog 113 = some (.pointer none) := by kernel_rfl
theorem pt_113 : isPtrT Tryd.prog 113 = true := by kernel_rfl
theorem c1_114 : cell1B Tryd.prog 114 = true := by kernel_rfl
theorem sz_114 : sizeV Tryd.prog 114 = some 1 := by kernel_rfl
theorem ze_114 : zeroV Tryd.prog 114 = some (.nilFunc) := by kernel_rfl
theorem c1_115 : cell1B Tryd.prog 115 = true := by kernel_rfl
theorem sz_115 : sizeV Tryd.prog 115 = some 1 := by kernel_rfl
theorem ze_115 : zeroV Tryd.prog 115 = some (.nilFunc) := by kernel_rfl
theorem c1_116 : cell1B Tryd.prog 116 = true := by kernel_rfl
theorem sz_116 : sizeV Tryd.prog 116 = some 1 := by kernel_rfl
theorem ze_116 : zeroV Tryd.prog 116 = some (.nilFunc) := by kernel_rfl
theorem c1_117 : cell1B Tryd.prog 117 = true := by kernel_rfl
theorem sz_117 : sizeV Tryd.prog 117 = some 1 := by kernel_rfl
theorem ze_117 : zeroV Tryd.prog 117 = some (.nilFunc) := by kernel_rfl
theorem c1_118 : cell1B Tryd.prog 118 = true := by kernel_rfl
theorem sz_118 : sizeV Tryd.prog 118 = some 1 := by kernel_rfl
theorem ze_118 : zeroV Tryd.prog 118 = some (.pointer none) := by kernel_rfl
theorem pt_118 : isPtrT Tryd.prog 118 = true := by kernel_rfl
theorem c1_119 : cell1B Tryd.prog 119 = true := by kernel_rfl
theorem sz_119 : sizeV Tryd.prog 119 = some 1 := by kernel_rfl
theorem ze_119 : zeroV Tryd.prog 119 = some (.nilFunc) := by kernel_rfl
theorem c1_120 : cell1B Tryd.prog 120 = true := by kernel_rfl
theorem sz_120 : sizeV Tryd.prog 120 = some 1 := by kernel_rfl
theorem ze_120 : zeroV Tryd.prog 120 = some (.nilFunc) := by kernel_rfl
theorem c1_121 : cell1B Tryd.prog 121 = true := by kernel_rfl
theorem sz_121 : sizeV Tryd.prog 121 = some 1 := by kernel_rfl
theorem ze_121 : zeroV Tryd.prog 121 = some (.nilFunc) := by kernel_rfl
theorem c1_122 : cell1B Tryd.prog 122 = true := by kernel_rfl
theorem sz_122 : sizeV Tryd.prog 122 = some 1 := by kernel_rfl
theorem ze_122 : zeroV Tryd.prog 122 = some (.pointer none) := by kernel_rfl
theorem pt_122 : isPtrT Tryd.prog 122 = true := by kernel_rfl
theorem c1_123 : cell1B Tryd.prog 123 = true := by kernel_rfl
theorem sz_123 : sizeV Tryd.prog 123 = some 1 := by kernel_rfl
theorem ze_123 : zeroV Tryd.prog 123 = some (.nilFunc) := by kernel_rfl
theorem c1_124 : cell1B Tryd.prog 124 = true := by kernel_rfl
theorem sz_124 : sizeV Tryd.prog 124 = some 1 := by kernel_rfl
theorem ze_124 : zeroV Tryd.prog 124 = some (.nilFunc) := by kernel_rfl
theorem c1_125 : cell1B Tryd.prog 125 = true := by kernel_rfl
theorem sz_125 : sizeV Tryd.prog 125 = some 1 := by kernel_rfl
theorem ze_125 : zeroV Tryd.prog 125 = some (.nilFunc) := by kernel_rfl
theorem c1_126 : cell1B Tryd.prog 126 = true := by kernel_rfl
theorem sz_126 : sizeV Tryd.prog 126 = some 1 := by kernel_rfl
theorem ze_126 : zeroV Tryd.prog 126 = some (.nilFunc) := by kernel_rfl
theorem c1_127 : cell1B Tryd.prog 127 = true := by kernel_rfl
theorem sz_127 : sizeV Tryd.prog 127 = some 1 := by kernel_rfl
theorem ze_127 : zeroV Tryd.prog 127 = some (.pointer none) := by kernel_rfl
theorem pt_127 : isPtrT Tryd.prog 127 = true := by kernel_rfl
theorem ag_128 : aggB Tryd.prog 128 3 = true := by kernel_rfl
theorem sz_128 : sizeV Tryd.prog 128 = some 3 := by kernel_rfl
theorem ze_128 : zeroV Tryd.prog 128 = some (.agg #[.slice none 0 0, .int .i64 0, .int .i64 0]) := by kernel_rfl
theorem fo128_0 : fieldOff Tryd.prog 128 0 = some 0 := by kernel_rfl
theorem fo128_1 : fieldOff Tryd.prog 128 1 = some 1 := by kernel_rfl
theorem fo128_2 : fieldOff Tryd.prog 128 2 = some 2 := by kernel_rfl
theorem sp_128 : strPl Tryd.prog 128 = some ([(0, 1), (1, 1), (2, 1)], [.slice none 0 0, .int .i64 0, .int .i64 0]) := by kernel_rfl
theorem ag_129 : aggB Tryd.prog 129 3 = true := by kernel_rfl
theorem sz_129 : sizeV Tryd.prog 129 = some 3 := by kernel_rfl
theorem ze_129 : zeroV Tryd.prog 129 = some (.agg #[.slice none 0 0, .int .i64 0, .int .i64 0]) := by kernel_rfl
theorem fo129_0 : fieldOff Tryd.prog 129 0 = some 0 := by kernel_rfl
theorem fo129_1 : fieldOff Tryd.prog 129 1 = some 1 := by kernel_rfl
theorem fo129_2 : fieldOff Tryd.prog 129 2 = some 2 := by kernel_rfl
theorem sp_129 : strPl Tryd.prog 129 = some ([(0, 1), (1, 1), (2, 1)], [.slice none 0 0, .int .i64 0, .int .i64 0]) := by kernel_rfl
theorem c1_130 : cell1B Tryd.prog 130 = true := by kernel_rfl
theorem sz_130 : sizeV Tryd.prog 130 = some 1 := by kernel_rfl
theorem ze_130 : zeroV Tryd.prog 130 = some (.nilFunc) := by kernel_rfl
theorem c1_131 : cell1B Tryd.prog 131 = true := by kernel_rfl
theorem sz_131 : sizeV Tryd.prog 131 = some 1 := by kernel_rfl
theorem ze_131 : zeroV Tryd.prog 131 = some (.int .i64 0) := by kernel_rfl
theorem in_131 : intT Tryd.prog 131 = some .i64 := by kernel_rfl
theorem c1_132 : cell1B Tryd.prog 132 = true := by kernel_rfl
theorem sz_132 : sizeV Tryd.prog 132 = some 1 := by kernel_rfl
theorem ze_132 : zeroV Tryd.prog 132 = some (.slice none 0 0) := by kernel_rfl
theorem el_132 : elT Tryd.prog 132 = some (187, 5, 48) := by kernel_rfl
theorem c1_133 : cell1B Tryd.prog 133 = true := by kernel_rfl
theorem sz_133 : sizeV Tryd.prog 133 = some 1 := by kernel_rfl
theorem ze_133 : zeroV Tryd.prog 133 = some (.slice none 0 0) := by kernel_rfl
theorem el_133 : elT Tryd.prog 133 = some (25, 2, 16) := by kernel_rfl
theorem c1_134 : cell1B Tryd.prog 134 = true := by kernel_rfl
theorem sz_134 : sizeV Tryd.prog 134 = some 1 := by kernel_rfl
theorem ze_134 : zeroV Tryd.prog 134 = some (.slice none 0 0) := by kernel_rfl
theorem el_134 : elT Tryd.prog 134 = some (25, 2, 16) := by kernel_rfl
theorem c1_135 : cell1B Tryd.prog 135 = true := by kernel_rfl
theorem sz_135 : sizeV Tryd.prog 135 = some 1 := by kernel_rfl
theorem ze_135 : zeroV Tryd.prog 135 = some (.slice none 0 0) := by kernel_rfl
theorem el_135 : elT Tryd.prog 135 = some (226, 4, 32) := by kernel_rfl
theorem c1_136 : cell1B Tryd.prog 136 = true := by kernel_rfl
theorem sz_136 : sizeV Tryd.prog 136 = some 1 := by kernel_rfl
theorem ze_136 : zeroV Tryd.prog 136 = some (.slice none 0 0) := by kernel_rfl
theorem el_136 : elT Tryd.prog 136 = some (228, 3, 24) := by kernel_rfl
theorem c1_137 : cell1B Tryd.prog 137 = true := by kernel_rfl
theorem sz_137 : sizeV Tryd.prog 137 = some 1 := by kernel_rfl
theorem ze_137 : zeroV Tryd.prog 137 = some (.slice none 0 0) := by kernel_rfl
theorem el_137 : elT Tryd.prog 137 = some (231, 6, 64) := by kernel_rfl
theorem c1_138 : cell1B Tryd.prog 138 = true := by kernel_rfl
theorem sz_138 : sizeV Tryd.prog 138 = some 1 := by kernel_rfl
theorem ze_138 : zeroV Tryd.prog 138 = some (.slice none 0 0) := by kernel_rfl
theorem el_138 : elT Tryd.prog 138 = some (233, 6, 64) := by kernel_rfl
theorem ag_139 : aggB Tryd.prog 139 12 = true := by kernel_rfl
theorem sz_139 : sizeV Tryd.prog 139 = some 12 := by kernel_rfl
theorem ze_139 : zeroV Tryd.prog 139 = some (.agg #[.int .i64 0, .int .i64 0, .int .i64 0, .int .i64 0, .slice none 0 0, .int .i64 0, .slice none 0 0, .int .i64 0, .slice none 0 0, .slice none 0 0, .slice none 0 0, .slice none 0 0]) := by kernel_rfl
theorem fo139_0 : fieldOff Tryd.prog 139 0 = some 0 := by kernel_rfl
theorem fo139_1 : fieldOff Tryd.prog 139 1 = some 1 := by kernel_rfl
theorem fo139_2 : fieldOff Tryd.prog 139 2 = some 2 := by kernel_rfl
theorem fo139_3 : fieldOff Tryd.prog 139 3 = some 3 := by kernel_rfl
theorem fo139_4 : fieldOff Tryd.prog 139 4 = some 4 := by kernel_rfl
theorem fo139_5 : fieldOff Tryd.prog 139 5 = some 5 := by kernel_rfl
theorem fo139_6 : fieldOff Tryd.prog 139 6 = some 6 := by kernel_rfl
theorem fo139_7 : fieldOff Tryd.prog 139 7 = some 7 := by kernel_rfl
theorem fo139_8 : fieldOff Tryd.prog 139 8 = some 8 := by kernel_rfl
theorem fo139_9 : fieldOff Tryd.prog 139 9 = some 9 := by kernel_rfl
theorem fo139_10 : fieldOff Tryd.prog 139 10 = some 10 := by kernel_rfl
theorem fo139_11 : fieldOff Tryd.prog 139 11 = some 11 := by kernel_rfl
theorem sp_139 : strPl Tryd.prog 139 = some ([(0, 1), (1, 1), (2, 1), (3, 1), (4, 1), (5, 1), (6, 1), (7, 1), (8, 1), (9, 1), (10, 1), (11, 1)], [.int .i64 0, .int .i64 0, .int .i64 0, .int .i64 0, .slice none 0 0, .int .i64 0, .slice none 0 0, .int .i64 0, .slice none 0 0, .slice none 0 0, .slice none 0 0, .slice none 0 0]) := by kernel_rfl
theorem ag_140 : aggB Tryd.prog 140 12 = true := by kernel_rfl
theorem sz_140 : sizeV Tryd.prog 140 = some 12 := by kernel_rfl
theorem ze_140 : zeroV Tryd.prog 140 = some (.agg #[.int .i64 0, .int .i64 0, .int .i64 0, .int .i64 0, .slice none 0 0, .int .i64 0, .slice none 0 0, .int .i64 0, .slice none 0 0, .slice none 0 0, .slice none 0 0, .slice none 0 0]) := by kernel_rfl
theorem fo140_0 : fieldOff Tryd.prog 140 0 = some 0 := by kernel_rfl
theorem fo140_1 : fieldOff Tryd.prog 140 1 = some 1 := by kernel_rfl
theorem fo140_2 : fieldOff Tryd.prog 140 2 = some 2 := by kernel_rfl
theorem fo140_3 : fieldOff Tryd.prog 140 3 = some 3 := by kernel_rfl
theorem fo140_4 : fieldOff Tryd.prog 140 4 = some 4 := by kernel_rfl
theorem fo140_5 : fieldOff Tryd.prog 140 5 = some 5 := by kernel_rfl
theorem fo140_6 : fieldOff Tryd.prog 140 6 = some 6 := by kernel_rfl
theorem fo140_7 : fieldOff Tryd.prog 140 7 = some 7 := by kernel_rfl
theorem fo140_8 : fieldOff Tryd.prog 140 8 = some 8 := by kernel_rfl
theorem fo140_9 : fieldOff Tryd.prog 140 9 = some 9 := by kernel_rfl
theorem fo140_10 : fieldOff Tryd.prog 140 10 = some 10 := by kernel_rfl
theorem fo140_11 : fieldOff Tryd.prog 140 11 = some 11 := by kernel_rfl
theorem sp_140 : strPl Tryd.prog 140 = some ([(0, 1), (1, 1), (2, 1), (3, 1), (4, 1), (5, 1), (6, 1), (7, 1), (8, 1), (9, 1), (10, 1), (11, 1)], [.int .i64 0, .int .i64 0, .int .i64 0, .int .i64 0, .slice none 0 0, .int .i64 0, .slice none 0 0, .int .i64 0, .slice none 0 0, .slice none 0 0, .slice none 0 0, .slice none 0 0]) := by kernel_rfl
theorem c1_141 : cell1B Tryd.prog 141 = true := by kernel_rfl
theorem sz_141 : sizeV Tryd.prog 141 = some 1 := by kernel_rfl
theorem ze_141 : zeroV Tryd.prog 141 = some (.nilFunc) := by kernel_rfl
theorem c1_142 : cell1B Tryd.prog 142 = true := by kernel_rfl
theorem sz_142 : sizeV Tryd.prog 142 = some 1 := by kernel_rfl
theorem ze_142 : zeroV Tryd.prog 142 = some (.nilFunc) := by kernel_rfl
theorem c1_143 : cell1B Tryd.prog 143 = true := by kernel_rfl
theorem sz_143 : sizeV Tryd.prog 143 = some 1 := by kernel_rfl
theorem ze_143 : zeroV Tryd.prog 143 = some (.nilFunc) := by kernel_rfl
theorem c1_144 : cell1B Tryd.prog 144 = true := by kernel_rfl
theorem sz_144 : sizeV Tryd.prog 144 = some 1 := by kernel_rfl
theorem ze_144 : zeroV Tryd.prog 144 = some (.pointer none) := by kernel_rfl
theorem pt_144 : isPtrT Tryd.prog 144 = true := by kernel_rfl
theorem ag_145 : aggB Tryd.prog 145 14 = true := by kernel_rfl
theorem sz_145 : sizeV Tryd.prog 145 = some 14 := by kernel_rfl
theorem ze_145 : zeroV Tryd.prog 145 = some (.agg #[.slice none 0 0, .int .i64 0, .int .i64 0, .int .i64 0, .bool false, .slice none 0 0, .slice none 0 0, .slice none 0 0, .slice none 0 0, .int .i64 0, .int .i64 0, .slice none 0 0, .int .i64 0, .int .i64 0]) := by kernel_rfl
theorem fo145_0 : fieldOff Tryd.prog 145 0 = some 0 := by kernel_rfl
theorem fo145_1 : fieldOff Tryd.prog 145 1 = some 1 := by kernel_rfl
theorem fo145_2 : fieldOff Tryd.prog 145 2 = some 6 := by kernel_rfl
theorem fo145_3 : fieldOff Tryd.prog 145 3 = some 7 := by kernel_rfl
theorem fo145_4 : fieldOff Tryd.prog 145 4 = some 8 := by kernel_rfl
theorem fo145_5 : fieldOff Tryd.prog 145 5 = some 13 := by kernel_rfl
theorem sp_145 : strPl Tryd.prog 145 = some ([(0, 1), (1, 5), (6, 1), (7, 1), (8, 5), (13, 1)], [.slice none 0 0, .int .i64 0, .int .i64 0, .int .i64 0, .bool false, .slice none 0 0, .slice none 0 0, .slice none 0 0, .slice none 0 0, .int .i64 0, .int .i64 0, .slice none 0 0, .int .i64 0, .int .i64 0]) := by kernel_rfl
theorem ag_146 : aggB Tryd.prog 146 14 = true := by kernel_rfl
theorem sz_146 : sizeV Tryd.prog 146 = some 14 := by kernel_rfl
theorem ze_146 : zeroV Tryd.prog 146 = some (.agg #[.slice none 0 0, .int .i64 0, .int .i64 0, .int .i64 0, .bool false, .slice none 0 0, .slice none 0 0, .slice none 0 0, .slice none 0 0, .int .i64 0, .int .i64 0, .slice none 0 0, .int .i64 0, .int .i64 0]) := by kernel_rfl
theorem fo146_0 : fieldOff Tryd.prog 146 0 = some 0 := by kernel_rfl
theorem fo146_1 : fieldOff Tryd.prog 146 1 = some 1 := by kernel_rfl
theorem fo146_2 : fieldOff Tryd.prog 146 2 = some 6 := by kernel_rfl
theorem fo146_3 : fieldOff Tryd.prog 146 3 = some 7 := by kernel_rfl
theorem fo146_4 : fieldOff Tryd.prog 146 4 = some 8 := by kernel_rfl
theorem fo146_5 : fieldOff Tryd.prog 146 5 = some 13 := by kernel_rfl
theorem sp_146 : strPl Tryd.prog 146 = some ([(0, 1), (1, 5), (6, 1), (7, 1), (8, 5), (13, 1)], [.slice none 0 0, .int .i64 0, .int .i64 0, .int .i64 0, .bool false, .slice none 0 0, .slice none 0 0, .slice none 0 0, .slice none 0 0, .int .i64 0, .int .i64 0, .slice none 0 0, .int .i64 0, .int .i64 0]) := by kernel_rfl
theorem c1_148 : cell1B Tryd.prog 148 = true := by kernel_rfl
theorem sz_148 : sizeV Tryd.prog 148 = some 1 := by kernel_rfl
theorem ze_148 : zeroV Tryd.prog 148 = some (.nilFunc) := by kernel_rfl
theorem ag_149 : aggB Tryd.prog 149 1 = true := by kernel_rfl
theorem sz_149 : sizeV Tryd.prog 149 = some 1 := by kernel_rfl
theorem ze_149 : zeroV Tryd.prog 149 = some (.agg #[.int .i64 0]) := by kernel_rfl
theorem fo149_0 : fieldOff Tryd.prog 149 0 = some 0 := by kernel_rfl
theorem sp_149 : strPl Tryd.prog 149 = some ([(0, 1)], [.int .i64 0]) := by kernel_rfl
theorem ag_150 : aggB Tryd.prog 150 1 = true := by kernel_rfl
theorem sz_150 : sizeV Tryd.prog 150 = some 1 := by kernel_rfl
theorem ze_150 : zeroV Tryd.prog 150 = some (.agg #[.int .i64 0]) := by kernel_rfl
theorem fo150_0 : fieldOff Tryd.prog 150 0 = some 0 := by kernel_rfl
theorem sp_150 : strPl Tryd.prog 150 = some ([(0, 1)], [.int .i64 0]) := by kernel_rfl
theorem c1_151 : cell1B Tryd.prog 151 = true := by kernel_rfl
theorem sz_151 : sizeV Tryd.prog 151 = some 1 := by kernel_rfl
theorem ze_151 : zeroV Tryd.prog 151 = some (.nilFunc) := by kernel_rfl
theorem c1_152 : cell1B Tryd.prog 152 = true := by kernel_rfl
theorem sz_152 : sizeV Tryd.prog 152 = some 1 := by kernel_rfl
theorem ze_152 : zeroV Tryd.prog 152 = some (.nilFunc) := by kernel_rfl
theorem c1_153 : cell1B Tryd.prog 153 = true := by kernel_rfl
theorem sz_153 : sizeV Tryd.prog 153 = some 1 := by kernel_rfl
theorem ze_153 : zeroV Tryd.prog 153 = some (.nilFunc) := by kernel_rfl
theorem c1_154 : cell1B Tryd.prog 154 = true := by kernel_rfl
theorem sz_154 : sizeV Tryd.prog 154 = some 1 := by kernel_rfl
theorem ze_154 : zeroV Tryd.prog 154 = some (.nilFunc) := by kernel_rfl
theorem ag_155 : aggB Tryd.prog 155 7 = true := by kernel_rfl
theorem sz_155 : sizeV Tryd.prog 155 = some 7 := by kernel_rfl
theorem ze_155 : zeroV Tryd.prog 155 = some (.agg #[.int .i64 0, .int .i64 0, .int .i64 0, .int .i64 0, .int .i64 0, .int .i64 0, .int .i64 0]) := by kernel_rfl
theorem ar_155 : arrT Tryd.prog 155 = some (7, 3, 1) := by kernel_rfl
theorem c1_156 : cell1B Tryd.prog 156 = true := by kernel_rfl
theorem sz_156 : sizeV Tryd.prog 156 = some 1 := by kernel_rfl
theorem ze_156 : zeroV Tryd.prog 156 = some (.nilFunc) := by kernel_rfl
theorem c1_157 : cell1B Tryd.prog 157 = true := by kernel_rfl
theorem sz_157 : sizeV Tryd.prog 157 = some 1 := by kernel_rfl
theorem ze_157 : zeroV Tryd.prog 157 = some (.pointer none) := by kernel_rfl
theorem pt_157 : isPtrT Tryd.prog 157 = true := by kernel_rfl
theorem c1_158 : cell1B Tryd.prog 158 = true := by kernel_rfl
theorem sz_158 : sizeV Tryd.prog 158 = some 1 := by kernel_rfl
theorem ze_158 : zeroV Tryd.prog 158 = some (.nilFunc) := by kernel_rfl
theorem c1_159 : cell1B Tryd.prog 159 = true := by kernel_rfl
theorem sz_159 : sizeV Tryd.prog 159 = some 1 := by kernel_rfl
theorem ze_159 : zeroV Tryd.prog 159 = some (.nilFunc) := by kernel_rfl
theorem c1_160 : cell1B Tryd.prog 160 = true := by kernel_rfl
theorem sz_160 : sizeV Tryd.prog 160 = some 1 := by kernel_rfl
theorem ze_160 : zeroV Tryd.prog 160 = some (.nilFunc) := by kernel_rfl
theorem c1_161 : cell1B Tryd.prog 161 = true := by kernel_rfl
theorem sz_161 : sizeV Tryd.prog 161 = some 1 := by kernel_rfl
theorem ze_161 : zeroV Tryd.prog 161 = some (.int .u64 0) := by kernel_rfl
theorem in_161 : intT Tryd.prog 161 = some .u64 := by kernel_rfl
theorem c1_163 : cell1B Tryd.prog 163 = true := by kernel_rfl
theorem sz_163 : sizeV Tryd.prog 163 = some 1 := by kernel_rfl
theorem ze_163 : zeroV Tryd.prog 163 = some (.nilFunc) := by kernel_rfl
theorem c1_165 : cell1B Tryd.prog 165 = true := by kernel_rfl
theorem sz_165 : sizeV Tryd.prog 165 = some 1 := by kernel_rfl
theorem ze_165 : zeroV Tryd.prog 165 = some (.nilFunc) := by kernel_rfl
theorem c1_167 : cell1B Tryd.prog 167 = true := by kernel_rfl
theorem sz_167 : sizeV Tryd.prog 167 = some 1 := by kernel_rfl
theorem ze_167 : zeroV Tryd.prog 167 = some (.nilFunc) := by kernel_rfl
theorem c1_169 : cell1B Tryd.prog 169 = true := by kernel_rfl
theorem sz_169 : sizeV Tryd.prog 169 = some 1 := by kernel_rfl
theorem ze_169 : zeroV Tryd.prog 169 = some (.nilFunc) := by kernel_rfl
theorem c1_171 : cell1B Tryd.prog 171 = true := by kernel_rfl
theorem sz_171 : sizeV Tryd.prog 171 = some 1 := by kernel_rfl
theorem ze_171 : zeroV Tryd.prog 171 = some (.nilFunc) := by kernel_rfl
theorem c1_172 : cell1B Tryd.prog 172 = true := by kernel_rfl
theorem sz_172 : sizeV Tryd.prog 172 = some 1 := by kernel_rfl
theorem ze_172 : zeroV Tryd.prog 172 = some (.pointer none) := by kernel_rfl
theorem pt_172 : isPtrT Tryd.prog 172 = true := by kernel_rfl
theorem ag_173 : aggB Tryd.prog 173 13 = true := by kernel_rfl
theorem sz_173 : sizeV Tryd.prog 173 = some 13 := by kernel_rfl
theorem ze_173 : zeroV Tryd.prog 173 = some (.agg #[.int .i64 0, .int .i64 0, .int .i64 0, .int .i64 0, .int .i64 0, .int .i64 0, .int .i64 0, .int .i64 0, .int .i64 0, .int .i64 0, .int .i64 0, .int .i64 0, .int .i64 0]) := by kernel_rfl
theorem ar_173 : arrT Tryd.prog 173 = some (13, 3, 1) := by kernel_rfl
theorem c1_174 : cell1B Tryd.prog 174 = true := by kernel_rfl
theorem sz_174 : sizeV Tryd.prog 174 = some 1 := by kernel_rfl
theorem ze_174 : zeroV Tryd.prog 174 = some (.nilFunc) := by kernel_rfl
theorem c1_175 : cell1B Tryd.prog 175 = true := by kernel_rfl
theorem sz_175 : sizeV Tryd.prog 175 = some 1 := by kernel_rfl
theorem ze_175 : zeroV Tryd.prog 175 = some (.nilFunc) := by kernel_rfl
theorem ag_176 : aggB Tryd.prog 176 4 = true := by kernel_rfl
theorem sz_176 : sizeV Tryd.prog 176 = some 4 := by kernel_rfl
theorem ze_176 : zeroV Tryd.prog 176 = some (.agg #[.slice none 0 0, .int .i64 0, .int .i64 0, .bool false]) := by kernel_rfl
theorem fo176_0 : fieldOff Tryd.prog 176 0 = some 0 := by kernel_rfl
theorem fo176_1 : fieldOff Tryd.prog 176 1 = some 1 := by kernel_rfl
theorem fo176_2 : fieldOff Tryd.prog 176 2 = some 2 := by kernel_rfl
theorem fo176_3 : fieldOff Tryd.prog 176 3 = some 3 := by kernel_rfl
theorem sp_176 : strPl Tryd.prog 176 = some ([(0, 1), (1, 1), (2, 1), (3, 1)], [.slice none 0 0, .int .i64 0, .int .i64 0, .bool false]) := by kernel_rfl
theorem ag_177 : aggB Tryd.prog 177 4 = true := by kernel_rfl
theorem sz_177 : sizeV Tryd.prog 177 = some 4 := by kernel_rfl
theorem ze_177 : zeroV Tryd.prog 177 = some (.agg #[.slice none 0 0, .int .i64 0, .int .i64 0, .bool false]) := by kernel_rfl
theorem fo177_0 : fieldOff Tryd.prog 177 0 = some 0 := by kernel_rfl
theorem fo177_1 : fieldOff Tryd.prog 177 1 = some 1 := by kernel_rfl
theorem fo177_2 : fieldOff Tryd.prog 177 2 = some 2 := by kernel_rfl
theorem fo177_3 : fieldOff Tryd.prog 177 3 = some 3 := by kernel_rfl
theorem sp_177 : strPl Tryd.prog 177 = some ([(0, 1), (1, 1), (2, 1), (3, 1)], [.slice none 0 0, .int .i64 0, .int .i64 0, .bool false]) := by kernel_rfl
theorem c1_179 : cell1B Tryd.prog 179 = true := by kernel_rfl
theorem sz_179 : sizeV Tryd.prog 179 = some 1 := by kernel_rfl
theorem ze_179 : zeroV Tryd.prog 179 = some (.nilFunc) := by kernel_rfl
theorem c1_181 : cell1B Tryd.prog 181 = true := by kernel_rfl
theorem sz_181 : sizeV Tryd.prog 181 = some 1 := by kernel_rfl
theorem ze_181 : zeroV Tryd.prog 181 = some (.nilFunc) := by kernel_rfl
theorem c1_182 : cell1B Tryd.prog 182 = true := by kernel_rfl
theorem sz_182 : sizeV Tryd.prog 182 = some 1 := by kernel_rfl
theorem ze_182 : zeroV Tryd.prog 182 = some (.nilFunc) := by kernel_rfl
theorem c1_183 : cell1B Tryd.prog 183 = true := by kernel_rfl
theorem sz_183 : sizeV Tryd.prog 183 = some 1 := by kernel_rfl
theorem ze_183 : zeroV Tryd.prog 183 = some (.nilFunc) := by kernel_rfl
theorem c1_184 : cell1B Tryd.prog 184 = true := by kernel_rfl
theorem sz_184 : sizeV Tryd.prog 184 = some 1 := by kernel_rfl
theorem ze_184 : zeroV Tryd.prog 184 = some (.nilFunc) := by kernel_rfl
theorem c1_185 : cell1B Tryd.prog 185 = true := by kernel_rfl
theorem sz_185 : sizeV Tryd.prog 185 = some 1 := by kernel_rfl
theorem ze_185 : zeroV Tryd.prog 185 = some (.nilFunc) := by kernel_rfl
theorem ag_186 : aggB Tryd.prog 186 5 = true := by kernel_rfl
theorem sz_186 : sizeV Tryd.prog 186 = some 5 := by kernel_rfl
theorem ze_186 : zeroV Tryd.prog 186 = some (.agg #[.int .i64 0, .int .i64 0, .int .i64 0, .int .i64 0, .string ⟨#[]⟩]) := by kernel_rfl
theorem fo186_0 : fieldOff Tryd.prog 186 0 = some 0 := by kernel_rfl
theorem fo186_1 : fieldOff Tryd.prog 186 1 = some 1 := by kernel_rfl
theorem fo186_2 : fieldOff Tryd.prog 186 2 = some 2 := by kernel_rfl
theorem sp_186 : strPl Tryd.prog 186 = some ([(0, 1), (1, 1), (2, 3)], [.int .i64 0, .int .i64 0, .int .i64 0, .int .i64 0, .string ⟨#[]⟩]) := by kernel_rfl
theorem ag_187 : aggB Tryd.prog 187 5 = true := by kernel_rfl
theorem sz_187 : sizeV Tryd.prog 187 = some 5 := by kernel_rfl
theorem ze_187 : zeroV Tryd.prog 187 = some (.agg #[.int .i64 0, .int .i64 0, .int .i64 0, .int .i64 0, .string ⟨#[]⟩]) := by kernel_rfl
theorem fo187_0 : fieldOff Tryd.prog 187 0 = some 0 := by kernel_rfl
theorem fo187_1 : fieldOff Tryd.prog 187 1 = some 1 := by kernel_rfl
theorem fo187_2 : fieldOff Tryd.prog 187 2 = some 2 := by kernel_rfl
theorem sp_187 : strPl Tryd.prog 187 = some ([(0, 1), (1, 1), (2, 3)], [.int .i64 0, .int .i64 0, .int .i64 0, .int .i64 0, .string ⟨#[]⟩]) := by kernel_rfl
theorem c1_189 : cell1B Tryd.prog 189 = true := by kernel_rfl
theorem sz_189 : sizeV Tryd.prog 189 = some 1 := by kernel_rfl
theorem ze_189 : zeroV Tryd.prog 189 = some (.nilFunc) := by kernel_rfl
theorem c1_190 : cell1B Tryd.prog 190 = true := by kernel_rfl
theorem sz_190 : sizeV Tryd.prog 190 = some 1 := by kernel_rfl
theorem ze_190 : zeroV Tryd.prog 190 = some (.nilFunc) := by kernel_rfl
theorem c1_191 : cell1B Tryd.prog 191 = true := by kernel_rfl
theorem sz_191 : sizeV Tryd.prog 191 = some 1 := by kernel_rfl
theorem ze_191 : zeroV Tryd.prog 191 = some (.nilFunc) := by kernel_rfl
theorem c1_193 : cell1B Tryd.prog 193 = true := by kernel_rfl
theorem sz_193 : sizeV Tryd.prog 193 = some 1 := by kernel_rfl
theorem ze_193 : zeroV Tryd.prog 193 = some (.nilFunc) := by kernel_rfl
theorem ag_194 : aggB Tryd.prog 194 32 = true := by kernel_rfl
theorem sz_194 : sizeV Tryd.prog 194 = some 32 := by kernel_rfl
theorem ze_194 : zeroV Tryd.prog 194 = some (.agg #[.int .u8 0, .int .u8 0, .int .u8 0, .int .u8 0, .int .u8 0, .int .u8 0, .int .u8 0, .int .u8 0, .int .u8 0, .int .u8 0, .int .u8 0, .int .u8 0, .int .u8 0, .int .u8 0, .int .u8 0, .int .u8 0, .int .u8 0, .int .u8 0, .int .u8 0, .int .u8 0, .int .u8 0, .int .u8 0, .int .u8 0, .int .u8 0, .int .u8 0, .int .u8 0, .int .u8 0, .int .u8 0, .int .u8 0, .int .u8 0, .int .u8 0, .int .u8 0]) := by kernel_rfl
theorem ar_194 : arrT Tryd.prog 194 = some (32, 5, 1) := by kernel_rfl
theorem ag_195 : aggB Tryd.prog 195 32 = true := by kernel_rfl
theorem sz_195 : sizeV Tryd.prog 195 = some 32 := by kernel_rfl
theorem ze_195 : zeroV Tryd.prog 195 = some (.agg #[.int .u8 0, .int .u8 0, .int .u8 0, .int .u8 0, .int .u8 0, .int .u8 0, .int .u8 0, .int .u8 0, .int .u8 0, .int .u8 0, .int .u8 0, .int .u8 0, .int .u8 0, .int .u8 0, .int .u8 0, .int .u8 0, .int .u8 0, .int .u8 0, .int .u8 0, .int .u8 0, .int .u8 0, .int .u8 0, .int .u8 0, .int .u8 0, .int .u8 0, .int .u8 0, .int .u8 0, .int .u8 0, .int .u8 0, .int .u8 0, .int .u8 0, .int .u8 0]) := by kernel_rfl
theorem ar_195 : arrT Tryd.prog 195 = some (32, 5, 1) := by kernel_rfl
theorem c1_196 : cell1B Tryd.prog 196 = true := by kernel_rfl
theorem sz_196 : sizeV Tryd.prog 196 = some 1 := by kernel_rfl
theorem ze_196 : zeroV Tryd.prog 196 = some (.nilFunc) := by kernel_rfl
theorem c1_197 : cell1B Tryd.prog 197 = true := by kernel_rfl
theorem sz_197 : sizeV Tryd.prog 197 = some 1 := by kernel_rfl
theorem ze_197 : zeroV Tryd.prog 197 = some (.nilFunc) := by kernel_rfl
theorem c1_198 : cell1B Tryd.prog 198 = true := by kernel_rfl
theorem sz_198 : sizeV Tryd.prog 198 = some 1 := by kernel_rfl
theorem ze_198 : zeroV Tryd.prog 198 = some (.nilFunc) := by kernel_rfl
theorem c1_199 : cell1B Tryd.prog 199 = true := by kernel_rfl
theorem sz_199 : sizeV Tryd.prog 199 = some 1 := by kernel_rfl
theorem ze_199 : zeroV Tryd.prog 199 = some (.pointer none) := by kernel_rfl
theorem pt_199 : isPtrT Tryd.prog 199 = true := by kernel_rfl
theorem c1_200 : cell1B Tryd.prog 200 = true := by kernel_rfl
theorem sz_200 : sizeV Tryd.prog 200 = some 1 := by kernel_rfl
theorem ze_200 : zeroV Tryd.prog 200 = some (.nilFunc) := by kernel_rfl
theorem c1_201 : cell1B Tryd.prog 201 = true := by kernel_rfl
theorem sz_201 : sizeV Tryd.prog 201 = some 1 := by kernel_rfl
theorem ze_201 : zeroV Tryd.prog 201 = some (.nilFunc) := by kernel_rfl
theorem c1_202 : cell1B Tryd.prog 202 = true := by kernel_rfl
theorem sz_202 : sizeV Tryd.prog 202 = some 1 := by kernel_rfl
theorem ze_202 : zeroV Tryd.prog 202 = some (.nilFunc) := by kernel_rfl
theorem c1_204 : cell1B Tryd.prog 204 = true := by kernel_rfl
theorem sz_204 : sizeV Tryd.prog 204 = some 1 := by kernel_rfl
theorem ze_204 : zeroV Tryd.prog 204 = some (.nilFunc) := by kernel_rfl
theorem c1_205 : cell1B Tryd.prog 205 = true := by kernel_rfl
theorem sz_205 : sizeV Tryd.prog 205 = some 1 := by kernel_rfl
theorem ze_205 : zeroV Tryd.prog 205 = some (.nilFunc) := by kernel_rfl
theorem c1_206 : cell1B Tryd.prog 206 = true := by kernel_rfl
theorem sz_206 : sizeV Tryd.prog 206 = some 1 := by kernel_rfl
theorem ze_206 : zeroV Tryd.prog 206 = some (.nilFunc) := by kernel_rfl
theorem c1_207 : cell1B Tryd.prog 207 = true := by kernel_rfl
theorem sz_207 : sizeV Tryd.prog 207 = some 1 := by kernel_rfl
theorem ze_207 : zeroV Tryd.prog 207 = some (.nilFunc) := by kernel_rfl
theorem c1_208 : cell1B Tryd.prog 208 = true := by kernel_rfl
theorem sz_208 : sizeV Tryd.prog 208 = some 1 := by kernel_rfl
theorem ze_208 : zeroV Tryd.prog 208 = some (.nilFunc) := by kernel_rfl
theorem c1_209 : cell1B Tryd.prog 209 = true := by kernel_rfl
theorem sz_209 : sizeV Tryd.prog 209 = some 1 := by kernel_rfl
theorem ze_209 : zeroV Tryd.prog 209 = some (.slice none 0 0) := by kernel_rfl
theorem el_209 : elT Tryd.prog 209 = some (211, 2, 24) := by kernel_rfl
theorem ag_210 : aggB Tryd.prog 210 2 = true := by kernel_rfl
theorem sz_210 : sizeV Tryd.prog 210 = some 2 := by kernel_rfl
theorem ze_210 : zeroV Tryd.prog 210 = some (.agg #[.int .i64 0, .string ⟨#[]⟩]) := by kernel_rfl
theorem fo210_0 : fieldOff Tryd.prog 210 0 = some 0 := by kernel_rfl
theorem fo210_1 : fieldOff Tryd.prog 210 1 = some 1 := by kernel_rfl
theorem sp_210 : strPl Tryd.prog 210 = some ([(0, 1), (1, 1)], [.int .i64 0, .string ⟨#[]⟩]) := by kernel_rfl
theorem ag_211 : aggB Tryd.prog 211 2 = true := by kernel_rfl
theorem sz_211 : sizeV Tryd.prog 211 = some 2 := by kernel_rfl
theorem ze_211 : zeroV Tryd.prog 211 = some (.agg #[.int .i64 0, .string ⟨#[]⟩]) := by kernel_rfl
theorem fo211_0 : fieldOff Tryd.prog 211 0 = some 0 := by kernel_rfl
theorem fo211_1 : fieldOff Tryd.prog 211 1 = some 1 := by kernel_rfl
theorem sp_211 : strPl Tryd.prog 211 = some ([(0, 1), (1, 1)], [.int .i64 0, .string ⟨#[]⟩]) := by kernel_rfl
theorem c1_212 : cell1B Tryd.prog 212 = true := by kernel_rfl
theorem sz_212 : sizeV Tryd.prog 212 = some 1 := by kernel_rfl
theorem ze_212 : zeroV Tryd.prog 212 = some (.nilFunc) := by kernel_rfl
theorem c1_213 : cell1B Tryd.prog 213 = true := by kernel_rfl
theorem sz_213 : sizeV Tryd.prog 213 = some 1 := by kernel_rfl
theorem ze_213 : zeroV Tryd.prog 213 = some (.slice none 0 0) := by kernel_rfl
theorem el_213 : elT Tryd.prog 213 = some (217, 7, 64) := by kernel_rfl
theorem ag_214 : aggB Tryd.prog 214 3 = true := by kernel_rfl
theorem sz_214 : sizeV Tryd.prog 214 = some 3 := by kernel_rfl
theorem ze_214 : zeroV Tryd.prog 214 = some (.agg #[.int .i64 0, .int .i64 0, .string ⟨#[]⟩]) := by kernel_rfl
theorem fo214_0 : fieldOff Tryd.prog 214 0 = some 0 := by kernel_rfl
theorem fo214_1 : fieldOff Tryd.prog 214 1 = some 1 := by kernel_rfl
theorem fo214_2 : fieldOff Tryd.prog 214 2 = some 2 := by kernel_rfl
theorem sp_214 : strPl Tryd.prog 214 = some ([(0, 1), (1, 1), (2, 1)], [.int .i64 0, .int .i64 0, .string ⟨#[]⟩]) := by kernel_rfl
theorem ag_215 : aggB Tryd.prog 215 3 = true := by kernel_rfl
theorem sz_215 : sizeV Tryd.prog 215 = some 3 := by kernel_rfl
theorem ze_215 : zeroV Tryd.prog 215 = some (.agg #[.int .i64 0, .int .i64 0, .string ⟨#[]⟩]) := by kernel_rfl
theorem fo215_0 : fieldOff Tryd.prog 215 0 = some 0 := by kernel_rfl
theorem fo215_1 : fieldOff Tryd.prog 215 1 = some 1 := by kernel_rfl
theorem fo215_2 : fieldOff Tryd.prog 215 2 = some 2 := by kernel_rfl
theorem sp_215 : strPl Tryd.prog 215 = some ([(0, 1), (1, 1), (2, 1)], [.int .i64 0, .int .i64 0, .string ⟨#[]⟩]) := by kernel_rfl
theorem ag_216 : aggB Tryd.prog 216 7 = true := by kernel_rfl
theorem sz_216 : sizeV Tryd.prog 216 = some 7 := by kernel_rfl
theorem ze_216 : zeroV Tryd.prog 216 = some (.agg #[.int .i64 0, .int .i64 0, .int .i64 0, .bool false, .int .i64 0, .int .i64 0, .string ⟨#[]⟩]) := by kernel_rfl
theorem fo216_0 : fieldOff Tryd.prog 216 0 = some 0 := by kernel_rfl
theorem fo216_1 : fieldOff Tryd.prog 216 1 = some 1 := by kernel_rfl
theorem fo216_2 : fieldOff Tryd.prog 216 2 = some 2 := by kernel_rfl
theorem fo216_3 : fieldOff Tryd.prog 216 3 = some 3 := by kernel_rfl
theorem fo216_4 : fieldOff Tryd.prog 216 4 = some 4 := by kernel_rfl
theorem sp_216 : strPl Tryd.prog 216 = some ([(0, 1), (1, 1), (2, 1), (3, 1), (4, 3)], [.int .i64 0, .int .i64 0, .int .i64 0, .bool false, .int .i64 0, .int .i64 0, .string ⟨#[]⟩]) := by kernel_rfl
theorem ag_217 : aggB Tryd.prog 217 7 = true := by kernel_rfl
theorem sz_217 : sizeV Tryd.prog 217 = some 7 := by kernel_rfl
theorem ze_217 : zeroV Tryd.prog 217 = some (.agg #[.int .i64 0, .int .i64 0, .int .i64 0, .bool false, .int .i64 0, .int .i64 0, .string ⟨#[]⟩]) := by kernel_rfl
theorem fo217_0 : fieldOff Tryd.prog 217 0 = some 0 := by kernel_rfl
theorem fo217_1 : fieldOff Tryd.prog 217 1 = some 1 := by kernel_rfl
theorem fo217_2 : fieldOff Tryd.prog 217 2 = some 2 := by kernel_rfl
theorem fo217_3 : fieldOff Tryd.prog 217 3 = some 3 := by kernel_rfl
theorem fo217_4 : fieldOff Tryd.prog 217 4 = some 4 := by kernel_rfl
theorem sp_217 : strPl Tryd.prog 217 = some ([(0, 1), (1, 1), (2, 1), (3, 1), (4, 3)], [.int .i64 0, .int .i64 0, .int .i64 0, .bool false, .int .i64 0, .int .i64 0, .string ⟨#[]⟩]) := by kernel_rfl
theorem c1_218 : cell1B Tryd.prog 218 = true := by kernel_rfl
theorem sz_218 : sizeV Tryd.prog 218 = some 1 := by kernel_rfl
theorem ze_218 : zeroV Tryd.prog 218 = some (.nilFunc) := by kernel_rfl
theorem c1_219 : cell1B Tryd.prog 219 = true := by kernel_rfl
theorem sz_219 : sizeV Tryd.prog 219 = some 1 := by kernel_rfl
theorem ze_219 : zeroV Tryd.prog 219 = some (.slice none 0 0) := by kernel_rfl
theorem el_219 : elT Tryd.prog 219 = some (215, 3, 32) := by kernel_rfl
theorem c1_220 : cell1B Tryd.prog 220 = true := by kernel_rfl
theorem sz_220 : sizeV Tryd.prog 220 = some 1 := by kernel_rfl
theorem ze_220 : zeroV Tryd.prog 220 = some (.nilFunc) := by kernel_rfl
theorem c1_221 : cell1B Tryd.prog 221 = true := by kernel_rfl
theorem sz_221 : sizeV Tryd.prog 221 = some 1 := by kernel_rfl
theorem ze_221 : zeroV Tryd.prog 221 = some (.slice none 0 0) := by kernel_rfl
theorem el_221 : elT Tryd.prog 221 = some (223, 3, 24) := by kernel_rfl
theorem ag_222 : aggB Tryd.prog 222 3 = true := by kernel_rfl
theorem sz_222 : sizeV Tryd.prog 222 = some 3 := by kernel_rfl
theorem ze_222 : zeroV Tryd.prog 222 = some (.agg #[.int .i64 0, .int .u64 0, .int .u64 0]) := by kernel_rfl
theorem fo222_0 : fieldOff Tryd.prog 222 0 = some 0 := by kernel_rfl
theorem fo222_1 : fieldOff Tryd.prog 222 1 = some 1 := by kernel_rfl
theorem sp_222 : strPl Tryd.prog 222 = some ([(0, 1), (1, 2)], [.int .i64 0, .int .u64 0, .int .u64 0]) := by kernel_rfl
theorem ag_223 : aggB Tryd.prog 223 3 = true := by kernel_rfl
theorem sz_223 : sizeV Tryd.prog 223 = some 3 := by kernel_rfl
theorem ze_223 : zeroV Tryd.prog 223 = some (.agg #[.int .i64 0, .int .u64 0, .int .u64 0]) := by kernel_rfl
theorem fo223_0 : fieldOff Tryd.prog 223 0 = some 0 := by kernel_rfl
theorem fo223_1 : fieldOff Tryd.prog 223 1 = some 1 := by kernel_rfl
theorem sp_223 : strPl Tryd.prog 223 = some ([(0, 1), (1, 2)], [.int .i64 0, .int .u64 0, .int .u64 0]) := by kernel_rfl
theorem c1_224 : cell1B Tryd.prog 224 = true := by kernel_rfl
theorem sz_224 : sizeV Tryd.prog 224 = some 1 := by kernel_rfl
theorem ze_224 : zeroV Tryd.prog 224 = some (.nilFunc) := by kernel_rfl
theorem ag_225 : aggB Tryd.prog 225 4 = true := by kernel_rfl
theorem sz_225 : sizeV Tryd.prog 225 = some 4 := by kernel_rfl
theorem ze_225 : zeroV Tryd.prog 225 = some (.agg #[.int .i64 0, .int .u64 0, .int .u64 0, .int .i64 0]) := by kernel_rfl
theorem fo225_0 : fieldOff Tryd.prog 225 0 = some 0 := by kernel_rfl
theorem fo225_1 : fieldOff Tryd.prog 225 1 = some 1 := by kernel_rfl
theorem fo225_2 : fieldOff Tryd.prog 225 2 = some 3 := by kernel_rfl
theorem sp_225 : strPl Tryd.prog 225 = some ([(0, 1), (1, 2), (3, 1)], [.int .i64 0, .int .u64 0, .int .u64 0, .int .i64 0]) := by kernel_rfl
theorem ag_226 : aggB Tryd.prog 226 4 = true := by kernel_rfl
theorem sz_226 : sizeV Tryd.prog 226 = some 4 := by kernel_rfl
theorem ze_226 : zeroV Tryd.prog 226 = some (.agg #[.int .i64 0, .int .u64 0, .int .u64 0, .int .i64 0]) := by kernel_rfl
theorem fo226_0 : fieldOff Tryd.prog 226 0 = some 0 := by kernel_rfl
theorem fo226_1 : fieldOff Tryd.prog 226 1 = some 1 := by kernel_rfl
theorem fo226_2 : fieldOff Tryd.prog 226 2 = some 3 := by kernel_rfl
theorem sp_226 : strPl Tryd.prog 226 = some ([(0, 1), (1, 2), (3, 1)], [.int .i64 0, .int .u64 0, .int .u64 0, .int .i64 0]) := by kernel_rfl
theorem c1_227 : cell1B Tryd.prog 227 = true := by kernel_rfl
theorem sz_227 : sizeV Tryd.prog 227 = some 1 := by kernel_rfl
theorem ze_227 : zeroV Tryd.prog 227 = some (.nilFunc) := by kernel_rfl
theorem ag_228 : aggB Tryd.prog 228 3 = true := by kernel_rfl
theorem sz_228 : sizeV Tryd.prog 228 = some 3 := by kernel_rfl
theorem ze_228 : zeroV Tryd.prog 228 = some (.agg #[.int .i64 0, .int .u64 0, .int .u64 0]) := by kernel_rfl
theorem fo228_0 : fieldOff Tryd.prog 228 0 = some 0 := by kernel_rfl
theorem fo228_1 : fieldOff Tryd.prog 228 1 = some 1 := by kernel_rfl
theorem sp_228 : strPl Tryd.prog 228 = some ([(0, 1), (1, 2)], [.int .i64 0, .int .u64 0, .int .u64 0]) := by kernel_rfl
theorem c1_229 : cell1B Tryd.prog 229 = true := by kernel_rfl
theorem sz_229 : sizeV Tryd.prog 229 = some 1 := by kernel_rfl
theorem ze_229 : zeroV Tryd.prog 229 = some (.nilFunc) := by kernel_rfl
theorem ag_230 : aggB Tryd.prog 230 6 = true := by kernel_rfl
theorem sz_230 : sizeV Tryd.prog 230 = some 6 := by kernel_rfl
theorem ze_230 : zeroV Tryd.prog 230 = some (.agg #[.int .i64 0, .int .u64 0, .int .u64 0, .int .i64 0, .int .i64 0, .slice none 0 0]) := by kernel_rfl
theorem fo230_0 : fieldOff Tryd.prog 230 0 = some 0 := by kernel_rfl
theorem fo230_1 : fieldOff Tryd.prog 230 1 = some 1 := by kernel_rfl
theorem fo230_2 : fieldOff Tryd.prog 230 2 = some 3 := by kernel_rfl
theorem fo230_3 : fieldOff Tryd.prog 230 3 = some 4 := by kernel_rfl
theorem fo230_4 : fieldOff Tryd.prog 230 4 = some 5 := by kernel_rfl
theorem sp_230 : strPl Tryd.prog 230 = some ([(0, 1), (1, 2), (3, 1), (4, 1), (5, 1)], [.int .i64 0, .int .u64 0, .int .u64 0, .int .i64 0, .int .i64 0, .slice none 0 0]) := by kernel_rfl
theorem ag_231 : aggB Tryd.prog 231 6 = true := by kernel_rfl
theorem sz_231 : sizeV Tryd.prog 231 = some 6 := by kernel_rfl
theorem ze_231 : zeroV Tryd.prog 231 = some (.agg #[.int .i64 0, .int .u64 0, .int .u64 0, .int .i64 0, .int .i64 0, .slice none 0 0]) := by kernel_rfl
theorem fo231_0 : fieldOff Tryd.prog 231 0 = some 0 := by kernel_rfl
theorem fo231_1 : fieldOff Tryd.prog 231 1 = some 1 := by kernel_rfl
theorem fo231_2 : fieldOff Tryd.prog 231 2 = some 3 := by kernel_rfl
theorem fo231_3 : fieldOff Tryd.prog 231 3 = some 4 := by kernel_rfl
theorem fo231_4 : fieldOff Tryd.prog 231 4 = some 5 := by kernel_rfl
theorem sp_231 : strPl Tryd.prog 231 = some ([(0, 1), (1, 2), (3, 1), (4, 1), (5, 1)], [.int .i64 0, .int .u64 0, .int .u64 0, .int .i64 0, .int .i64 0, .slice none 0 0]) := by kernel_rfl
theorem ag_232 : aggB Tryd.prog 232 6 = true := by kernel_rfl
theorem sz_232 : sizeV Tryd.prog 232 = some 6 := by kernel_rfl
theorem ze_232 : zeroV Tryd.prog 232 = some (.agg #[.int .i64 0, .int .u64 0, .int .u64 0, .int .i64 0, .int .i64 0, .slice none 0 0]) := by kernel_rfl
theorem fo232_0 : fieldOff Tryd.prog 232 0 = some 0 := by kernel_rfl
theorem fo232_1 : fieldOff Tryd.prog 232 1 = some 1 := by kernel_rfl
theorem fo232_2 : fieldOff Tryd.prog 232 2 = some 3 := by kernel_rfl
theorem fo232_3 : fieldOff Tryd.prog 232 3 = some 4 := by kernel_rfl
theorem fo232_4 : fieldOff Tryd.prog 232 4 = some 5 := by kernel_rfl
theorem sp_232 : strPl Tryd.prog 232 = some ([(0, 1), (1, 2), (3, 1), (4, 1), (5, 1)], [.int .i64 0, .int .u64 0, .int .u64 0, .int .i64 0, .int .i64 0, .slice none 0 0]) := by kernel_rfl
theorem ag_233 : aggB Tryd.prog 233 6 = true := by kernel_rfl
theorem sz_233 : sizeV Tryd.prog 233 = some 6 := by kernel_rfl
theorem ze_233 : zeroV Tryd.prog 233 = some (.agg #[.int .i64 0, .int .u64 0, .int .u64 0, .int .i64 0, .int .i64 0, .slice none 0 0]) := by kernel_rfl
theorem fo233_0 : fieldOff Tryd.prog 233 0 = some 0 := by kernel_rfl
theorem fo233_1 : fieldOff Tryd.prog 233 1 = some 1 := by kernel_rfl
theorem fo233_2 : fieldOff Tryd.prog 233 2 = some 3 := by kernel_rfl
theorem fo233_3 : fieldOff Tryd.prog 233 3 = some 4 := by kernel_rfl
theorem fo233_4 : fieldOff Tryd.prog 233 4 = some 5 := by kernel_rfl
theorem sp_233 : strPl Tryd.prog 233 = some ([(0, 1), (1, 2), (3, 1), (4, 1), (5, 1)], [.int .i64 0, .int .u64 0, .int .u64 0, .int .i64 0, .int .i64 0, .slice none 0 0]) := by kernel_rfl
theorem c1_234 : cell1B Tryd.prog 234 = true := by kernel_rfl
theorem sz_234 : sizeV Tryd.prog 234 = some 1 := by kernel_rfl
theorem ze_234 : zeroV Tryd.prog 234 = some (.nilFunc) := by kernel_rfl
theorem c1_235 : cell1B Tryd.prog 235 = true := by kernel_rfl
theorem sz_235 : sizeV Tryd.prog 235 = some 1 := by kernel_rfl
theorem ze_235 : zeroV Tryd.prog 235 = some (.int .u32 0) := by kernel_rfl
theorem in_235 : intT Tryd.prog 235 = some .u32 := by kernel_rfl
theorem c1_236 : cell1B Tryd.prog 236 = true := by kernel_rfl
theorem sz_236 : sizeV Tryd.prog 236 = some 1 := by kernel_rfl
theorem ze_236 : zeroV Tryd.prog 236 = some (.nilFunc) := by kernel_rfl
theorem c1_237 : cell1B Tryd.prog 237 = true := by kernel_rfl
theorem sz_237 : sizeV Tryd.prog 237 = some 1 := by kernel_rfl
theorem ze_237 : zeroV Tryd.prog 237 = some (.nilFunc) := by kernel_rfl
theorem c1_238 : cell1B Tryd.prog 238 = true := by kernel_rfl
theorem sz_238 : sizeV Tryd.prog 238 = some 1 := by kernel_rfl
theorem ze_238 : zeroV Tryd.prog 238 = some (.slice none 0 0) := by kernel_rfl
theorem el_238 : elT Tryd.prog 238 = some (235, 1, 4) := by kernel_rfl
theorem c1_239 : cell1B Tryd.prog 239 = true := by kernel_rfl
theorem sz_239 : sizeV Tryd.prog 239 = some 1 := by kernel_rfl
theorem ze_239 : zeroV Tryd.prog 239 = some (.nilFunc) := by kernel_rfl
theorem c1_240 : cell1B Tryd.prog 240 = true := by kernel_rfl
theorem sz_240 : sizeV Tryd.prog 240 = some 1 := by kernel_rfl
theorem ze_240 : zeroV Tryd.prog 240 = some (.nilFunc) := by kernel_rfl
theorem c1_241 : cell1B Tryd.prog 241 = true := by kernel_rfl
theorem sz_241 : sizeV Tryd.prog 241 = some 1 := by kernel_rfl
theorem ze_241 : zeroV Tryd.prog 241 = some (.pointer none) := by kernel_rfl
theorem pt_241 : isPtrT Tryd.prog 241 = true := by kernel_rfl
theorem c1_242 : cell1B Tryd.prog 242 = true := by kernel_rfl
theorem sz_242 : sizeV Tryd.prog 242 = some 1 := by kernel_rfl
theorem ze_242 : zeroV Tryd.prog 242 = some (.nilFunc) := by kernel_rfl
theorem c1_243 : cell1B Tryd.prog 243 = true := by kernel_rfl
theorem sz_243 : sizeV Tryd.prog 243 = some 1 := by kernel_rfl
theorem ze_243 : zeroV Tryd.prog 243 = some (.nilFunc) := by kernel_rfl
theorem ag_244 : aggB Tryd.prog 244 16 = true := by kernel_rfl
theorem sz_244 : sizeV Tryd.prog 244 = some 16 := by kernel_rfl
theorem ze_244 : zeroV Tryd.prog 244 = some (.agg #[.int .u32 0, .int .u32 0, .int .u32 0, .int .u32 0, .int .u32 0, .int .u32 0, .int .u32 0, .int .u32 0, .int .u32 0, .int .u32 0, .int .u32 0, .int .u32 0, .int .u32 0, .int .u32 0, .int .u32 0, .int .u32 0]) := by kernel_rfl
theorem ar_244 : arrT Tryd.prog 244 = some (16, 235, 1) := by kernel_rfl
theorem c1_245 : cell1B Tryd.prog 245 = true := by kernel_rfl
theorem sz_245 : sizeV Tryd.prog 245 = some 1 := by kernel_rfl
theorem ze_245 : zeroV Tryd.prog 245 = some (.slice none 0 0) := by kernel_rfl
theorem el_245 : elT Tryd.prog 245 = some (23, 1, 8) := by kernel_rfl
theorem c1_246 : cell1B Tryd.prog 246 = true := by kernel_rfl
theorem sz_246 : sizeV Tryd.prog 246 = some 1 := by kernel_rfl
theorem ze_246 : zeroV Tryd.prog 246 = some (.nilFunc) := by kernel_rfl
theorem c1_247 : cell1B Tryd.prog 247 = true := by kernel_rfl
theorem sz_247 : sizeV Tryd.prog 247 = some 1 := by kernel_rfl
theorem ze_247 : zeroV Tryd.prog 247 = some (.nilFunc) := by kernel_rfl
theorem c1_248 : cell1B Tryd.prog 248 = true := by kernel_rfl
theorem sz_248 : sizeV Tryd.prog 248 = some 1 := by kernel_rfl
theorem ze_248 : zeroV Tryd.prog 248 = some (.nilFunc) := by kernel_rfl
theorem ag_249 : aggB Tryd.prog 249 8 = true := by kernel_rfl
theorem sz_249 : sizeV Tryd.prog 249 = some 8 := by kernel_rfl
theorem ze_249 : zeroV Tryd.prog 249 = some (.agg #[.int .u32 0, .int .u32 0, .int .u32 0, .int .u32 0, .int .u32 0, .int .u32 0, .int .u32 0, .int .u32 0]) := by kernel_rfl
theorem ar_249 : arrT Tryd.prog 249 = some (8, 235, 1) := by kernel_rfl
theorem ag_250 : aggB Tryd.prog 250 8 = true := by kernel_rfl
theorem sz_250 : sizeV Tryd.prog 250 = some 8 := by kernel_rfl
theorem ze_250 : zeroV Tryd.prog 250 = some (.agg #[.int .u32 0, .int .u32 0, .int .u32 0, .int .u32 0, .int .u32 0, .int .u32 0, .int .u32 0, .int .u32 0]) := by kernel_rfl
theorem ar_250 : arrT Tryd.prog 250 = some (8, 235, 1) := by kernel_rfl
theorem c1_251 : cell1B Tryd.prog 251 = true := by kernel_rfl
theorem sz_251 : sizeV Tryd.prog 251 = some 1 := by kernel_rfl
theorem ze_251 : zeroV Tryd.prog 251 = some (.nilFunc) := by kernel_rfl
theorem ag_252 : aggB Tryd.prog 252 11 = true := by kernel_rfl
theorem sz_252 : sizeV Tryd.prog 252 = some 11 := by kernel_rfl
theorem ze_252 : zeroV Tryd.prog 252 = some (.agg #[.int .u32 0, .int .u32 0, .int .u32 0, .int .u32 0, .int .u32 0, .int .u32 0, .int .u32 0, .int .u32 0, .slice none 0 0, .int .i64 0, .bool false]) := by kernel_rfl
theorem fo252_0 : fieldOff Tryd.prog 252 0 = some 0 := by kernel_rfl
theorem fo252_1 : fieldOff Tryd.prog 252 1 = some 8 := by kernel_rfl
theorem fo252_2 : fieldOff Tryd.prog 252 2 = some 9 := by kernel_rfl
theorem fo252_3 : fieldOff Tryd.prog 252 3 = some 10 := by kernel_rfl
theorem sp_252 : strPl Tryd.prog 252 = some ([(0, 8), (8, 1), (9, 1), (10, 1)], [.int .u32 0, .int .u32 0, .int .u32 0, .int .u32 0, .int .u32 0, .int .u32 0, .int .u32 0, .int .u32 0, .slice none 0 0, .int .i64 0, .bool false]) := by kernel_rfl
theorem ag_253 : aggB Tryd.prog 253 11 = true := by kernel_rfl
theorem sz_253 : sizeV Tryd.prog 253 = some 11 := by kernel_rfl
theorem ze_253 : zeroV Tryd.prog 253 = some (.agg #[.int .u32 0, .int .u32 0, .int .u32 0, .int .u32 0, .int .u32 0, .int .u32 0, .int .u32 0, .int .u32 0, .slice none 0 0, .int .i64 0, .bool false]) := by kernel_rfl
theorem fo253_0 : fieldOff Tryd.prog 253 0 = some 0 := by kernel_rfl
theorem fo253_1 : fieldOff Tryd.prog 253 1 = some 8 := by kernel_rfl
theorem fo253_2 : fieldOff Tryd.prog 253 2 = some 9 := by kernel_rfl
theorem fo253_3 : fieldOff Tryd.prog 253 3 = some 10 := by kernel_rfl
theorem sp_253 : strPl Tryd.prog 253 = some ([(0, 8), (8, 1), (9, 1), (10, 1)], [.int .u32 0, .int .u32 0, .int .u32 0, .int .u32 0, .int .u32 0, .int .u32 0, .int .u32 0, .int .u32 0, .slice none 0 0, .int .i64 0, .bool false]) := by kernel_rfl
theorem ag_254 : aggB Tryd.prog 254 64 = true := by kernel_rfl
theorem sz_254 : sizeV Tryd.prog 254 = some 64 := by kernel_rfl
theorem ze_254 : zeroV Tryd.prog 254 = some (.agg #[.int .u32 0, .int .u32 0, .int .u32 0, .int .u32 0, .int .u32 0, .int .u32 0, .int .u32 0, .int .u32 0, .int .u32 0, .int .u32 0, .int .u32 0, .int .u32 0, .int .u32 0, .int .u32 0, .int .u32 0, .int .u32 0, .int .u32 0, .int .u32 0, .int .u32 0, .int .u32 0, .int .u32 0, .int .u32 0, .int .u32 0, .int .u32 0, .int .u32 0, .int .u32 0, .int .u32 0, .int .u32 0, .int .u32 0, .int .u32 0, .int .u32 0, .int .u32 0, .int .u32 0, .int .u32 0, .int .u32 0, .int .u32 0, .int .u32 0, .int .u32 0, .int .u32 0, .int .u32 0, .int .u32 0, .int .u32 0, .int .u32 0, .int .u32 0, .int .u32 0, .int .u32 0, .int .u32 0, .int .u32 0, .int .u32 0, .int .u32 0, .int .u32 0, .int .u32 0, .int .u32 0, .int .u32 0, .int .u32 0, .int .u32 0, .int .u32 0, .int .u32 0, .int .u32 0, .int .u32 0, .int .u32 0, .int .u32 0, .int .u32 0, .int .u32 0]) := by kernel_rfl
theorem ar_254 : arrT Tryd.prog 254 = some (64, 235, 1) := by kernel_rfl
theorem c1_255 : cell1B Tryd.prog 255 = true := by kernel_rfl
theorem sz_255 : sizeV Tryd.prog 255 = some 1 := by kernel_rfl
theorem ze_255 : zeroV Tryd.prog 255 = some (.nilFunc) := by kernel_rfl
theorem c1_256 : cell1B Tryd.prog 256 = true := by kernel_rfl
theorem sz_256 : sizeV Tryd.prog 256 = some 1 := by kernel_rfl
theorem ze_256 : zeroV Tryd.prog 256 = some (.nilFunc) := by kernel_rfl
theorem c1_257 : cell1B Tryd.prog 257 = true := by kernel_rfl
theorem sz_257 : sizeV Tryd.prog 257 = some 1 := by kernel_rfl
theorem ze_257 : zeroV Tryd.prog 257 = some (.pointer none) := by kernel_rfl
theorem pt_257 : isPtrT Tryd.prog 257 = true := by kernel_rfl
theorem c1_258 : cell1B Tryd.prog 258 = true := by kernel_rfl
theorem sz_258 : sizeV Tryd.prog 258 = some 1 := by kernel_rfl
theorem ze_258 : zeroV Tryd.prog 258 = some (.nilFunc) := by kernel_rfl
theorem c1_259 : cell1B Tryd.prog 259 = true := by kernel_rfl
theorem sz_259 : sizeV Tryd.prog 259 = some 1 := by kernel_rfl
theorem ze_259 : zeroV Tryd.prog 259 = some (.nilFunc) := by kernel_rfl
theorem c1_260 : cell1B Tryd.prog 260 = true := by kernel_rfl
theorem sz_260 : sizeV Tryd.prog 260 = some 1 := by kernel_rfl
theorem ze_260 : zeroV Tryd.prog 260 = some (.nilFunc) := by kernel_rfl
theorem c1_261 : cell1B Tryd.prog 261 = true := by kernel_rfl
theorem sz_261 : sizeV Tryd.prog 261 = some 1 := by kernel_rfl
theorem ze_261 : zeroV Tryd.prog 261 = some (.nilFunc) := by kernel_rfl
theorem c1_262 : cell1B Tryd.prog 262 = true := by kernel_rfl
theorem sz_262 : sizeV Tryd.prog 262 = some 1 := by kernel_rfl
theorem ze_262 : zeroV Tryd.prog 262 = some (.nilFunc) := by kernel_rfl
theorem ag_263 : aggB Tryd.prog 263 4 = true := by kernel_rfl
theorem sz_263 : sizeV Tryd.prog 263 = some 4 := by kernel_rfl
theorem ze_263 : zeroV Tryd.prog 263 = some (.agg #[.pointer none, .pointer none, .pointer none, .string ⟨#[]⟩]) := by kernel_rfl
theorem fo263_0 : fieldOff Tryd.prog 263 0 = some 0 := by kernel_rfl
theorem fo263_1 : fieldOff Tryd.prog 263 1 = some 1 := by kernel_rfl
theorem fo263_2 : fieldOff Tryd.prog 263 2 = some 2 := by kernel_rfl
theorem fo263_3 : fieldOff Tryd.prog 263 3 = some 3 := by kernel_rfl
theorem sp_263 : strPl Tryd.prog 263 = some ([(0, 1), (1, 1), (2, 1), (3, 1)], [.pointer none, .pointer none, .pointer none, .string ⟨#[]⟩]) := by kernel_rfl
theorem ag_264 : aggB Tryd.prog 264 4 = true := by kernel_rfl
theorem sz_264 : sizeV Tryd.prog 264 = some 4 := by kernel_rfl
theorem ze_264 : zeroV Tryd.prog 264 = some (.agg #[.pointer none, .pointer none, .pointer none, .string ⟨#[]⟩]) := by kernel_rfl
theorem fo264_0 : fieldOff Tryd.prog 264 0 = some 0 := by kernel_rfl
theorem fo264_1 : fieldOff Tryd.prog 264 1 = some 1 := by kernel_rfl
theorem fo264_2 : fieldOff Tryd.prog 264 2 = some 2 := by kernel_rfl
theorem fo264_3 : fieldOff Tryd.prog 264 3 = some 3 := by kernel_rfl
theorem sp_264 : strPl Tryd.prog 264 = some ([(0, 1), (1, 1), (2, 1), (3, 1)], [.pointer none, .pointer none, .pointer none, .string ⟨#[]⟩]) := by kernel_rfl
theorem ag_265 : aggB Tryd.prog 265 0 = true := by kernel_rfl
theorem sz_265 : sizeV Tryd.prog 265 = some 0 := by kernel_rfl
theorem ze_265 : zeroV Tryd.prog 265 = some (.agg #[]) := by kernel_rfl
theorem ar_265 : arrT Tryd.prog 265 = some (0, 16, 1) := by kernel_rfl
theorem ag_266 : aggB Tryd.prog 266 0 = true := by kernel_rfl
theorem sz_266 : sizeV Tryd.prog 266 = some 0 := by kernel_rfl
theorem ze_266 : zeroV Tryd.prog 266 = some (.agg #[]) := by kernel_rfl
theorem sp_266 : strPl Tryd.prog 266 = some ([(0, 0)], []) := by kernel_rfl
theorem ag_267 : aggB Tryd.prog 267 0 = true := by kernel_rfl
theorem sz_267 : sizeV Tryd.prog 267 = some 0 := by kernel_rfl
theorem ze_267 : zeroV Tryd.prog 267 = some (.agg #[]) := by kernel_rfl
theorem sp_267 : strPl Tryd.prog 267 = some ([(0, 0)], []) := by kernel_rfl
theorem c1_268 : cell1B Tryd.prog 268 = true := by kernel_rfl
theorem sz_268 : sizeV Tryd.prog 268 = some 1 := by kernel_rfl
theorem ze_268 : zeroV Tryd.prog 268 = some (.int .u8 0) := by kernel_rfl
theorem in_268 : intT Tryd.prog 268 = some .u8 := by kernel_rfl
theorem c1_269 : cell1B Tryd.prog 269 = true := by kernel_rfl
theorem sz_269 : sizeV Tryd.prog 269 = some 1 := by kernel_rfl
theorem ze_269 : zeroV Tryd.prog 269 = some (.int .u8 0) := by kernel_rfl
theorem in_269 : intT Tryd.prog 269 = some .u8 := by kernel_rfl
theorem c1_270 : cell1B Tryd.prog 270 = true := by kernel_rfl
theorem sz_270 : sizeV Tryd.prog 270 = some 1 := by kernel_rfl
theorem ze_270 : zeroV Tryd.prog 270 = some (.nilFunc) := by kernel_rfl
theorem c1_271 : cell1B Tryd.prog 271 = true := by kernel_rfl
theorem sz_271 : sizeV Tryd.prog 271 = some 1 := by kernel_rfl
theorem ze_271 : zeroV Tryd.prog 271 = some (.pointer none) := by kernel_rfl
theorem pt_271 : isPtrT Tryd.prog 271 = true := by kernel_rfl
theorem c1_272 : cell1B Tryd.prog 272 = true := by kernel_rfl
theorem sz_272 : sizeV Tryd.prog 272 = some 1 := by kernel_rfl
theorem ze_272 : zeroV Tryd.prog 272 = some (.int .i32 0) := by kernel_rfl
theorem in_272 : intT Tryd.prog 272 = some .i32 := by kernel_rfl
theorem c1_273 : cell1B Tryd.prog 273 = true := by kernel_rfl
theorem sz_273 : sizeV Tryd.prog 273 = some 1 := by kernel_rfl
theorem ze_273 : zeroV Tryd.prog 273 = some (.int .i32 0) := by kernel_rfl
theorem in_273 : intT Tryd.prog 273 = some .i32 := by kernel_rfl
theorem ag_274 : aggB Tryd.prog 274 11 = true := by kernel_rfl
theorem sz_274 : sizeV Tryd.prog 274 = some 11 := by kernel_rfl
theorem ze_274 : zeroV Tryd.prog 274 = some (.agg #[.int .u64 0, .int .u64 0, .int .u32 0, .int .u8 0, .int .u8 0, .int .u8 0, .int .u8 0, .nilFunc, .pointer none, .int .i32 0, .int .i32 0]) := by kernel_rfl
theorem fo274_0 : fieldOff Tryd.prog 274 0 = some 0 := by kernel_rfl
theorem fo274_1 : fieldOff Tryd.prog 274 1 = some 1 := by kernel_rfl
theorem fo274_2 : fieldOff Tryd.prog 274 2 = some 2 := by kernel_rfl
theorem fo274_3 : fieldOff Tryd.prog 274 3 = some 3 := by kernel_rfl
theorem fo274_4 : fieldOff Tryd.prog 274 4 = some 4 := by kernel_rfl
theorem fo274_5 : fieldOff Tryd.prog 274 5 = some 5 := by kernel_rfl
theorem fo274_6 : fieldOff Tryd.prog 274 6 = some 6 := by kernel_rfl
theorem fo274_7 : fieldOff Tryd.prog 274 7 = some 7 := by kernel_rfl
theorem fo274_8 : fieldOff Tryd.prog 274 8 = some 8 := by kernel_rfl
theorem fo274_9 : fieldOff Tryd.prog 274 9 = some 9 := by kernel_rfl
theorem fo274_10 : fieldOff Tryd.prog 274 10 = some 10 := by kernel_rfl
theorem sp_274 : strPl Tryd.prog 274 = some ([(0, 1), (1, 1), (2, 1), (3, 1), (4, 1), (5, 1), (6, 1), (7, 1), (8, 1), (9, 1), (10, 1)], [.int .u64 0, .int .u64 0, .int .u32 0, .int .u8 0, .int .u8 0, .int .u8 0, .int .u8 0, .nilFunc, .pointer none, .int .i32 0, .int .i32 0]) := by kernel_rfl
theorem ag_275 : aggB Tryd.prog 275 11 = true := by kernel_rfl
theorem sz_275 : sizeV Tryd.prog 275 = some 11 := by kernel_rfl
theorem ze_275 : zeroV Tryd.prog 275 = some (.agg #[.int .u64 0, .int .u64 0, .int .u32 0, .int .u8 0, .int .u8 0, .int .u8 0, .int .u8 0, .nilFunc, .pointer none, .int .i32 0, .int .i32 0]) := by kernel_rfl
theorem fo275_0 : fieldOff Tryd.prog 275 0 = some 0 := by kernel_rfl
theorem fo275_1 : fieldOff Tryd.prog 275 1 = some 1 := by kernel_rfl
theorem fo275_2 : fieldOff Tryd.prog 275 2 = some 2 := by kernel_rfl
theorem fo275_3 : fieldOff Tryd.prog 275 3 = some 3 := by kernel_rfl
theorem fo275_4 : fieldOff Tryd.prog 275 4 = some 4 := by kernel_rfl
theorem fo275_5 : fieldOff Tryd.prog 275 5 = some 5 := by kernel_rfl
theorem fo275_6 : fieldOff Tryd.prog 275 6 = some 6 := by kernel_rfl
theorem fo275_7 : fieldOff Tryd.prog 275 7 = some 7 := by kernel_rfl
theorem fo275_8 : fieldOff Tryd.prog 275 8 = some 8 := by kernel_rfl
theorem fo275_9 : fieldOff Tryd.prog 275 9 = some 9 := by kernel_rfl
theorem fo275_10 : fieldOff Tryd.prog 275 10 = some 10 := by kernel_rfl
theorem sp_275 : strPl Tryd.prog 275 = some ([(0, 1), (1, 1), (2, 1), (3, 1), (4, 1), (5, 1), (6, 1), (7, 1), (8, 1), (9, 1), (10, 1)], [.int .u64 0, .int .u64 0, .int .u32 0, .int .u8 0, .int .u8 0, .int .u8 0, .int .u8 0, .nilFunc, .pointer none, .int .i32 0, .int .i32 0]) := by kernel_rfl
theorem c1_276 : cell1B Tryd.prog 276 = true := by kernel_rfl
theorem sz_276 : sizeV Tryd.prog 276 = some 1 := by kernel_rfl
theorem ze_276 : zeroV Tryd.prog 276 = some (.pointer none) := by kernel_rfl
theorem cb_2 : callB Tryd.prog 2 = true := by kernel_rfl
theorem cb_3 : callB Tryd.prog 3 = true := by kernel_rfl
theorem cb_4 : callB Tryd.prog 4 = true := by kernel_rfl
theorem cb_5 : callB Tryd.prog 5 = true := by kernel_rfl
theorem cb_6 : callB Tryd.prog 6 = true := by kernel_rfl
theorem cb_7 : callB Tryd.prog 7 = true := by kernel_rfl
theorem cb_8 : callB Tryd.prog 8 = true := by kernel_rfl
theorem cb_9 : callB Tryd.prog 9 = true := by kernel_rfl
theorem cb_10 : callB Tryd.prog 10 = true := by kernel_rfl
theorem cb_11 : callB Tryd.prog 11 = true := by kernel_rfl
theorem cb_12 : callB Tryd.prog 12 = true := by kernel_rfl
theorem cb_13 : callB Tryd.prog 13 = true := by kernel_rfl
theorem cb_14 : callB Tryd.prog 14 = true := by kernel_rfl
theorem cb_15 : callB Tryd.prog 15 = true := by kernel_rfl
theorem cb_16 : callB Tryd.prog 16 = true := by kernel_rfl
theorem cb_17 : callB Tryd.prog 17 = true := by kernel_rfl
theorem cb_18 : callB Tryd.prog 18 = true := by kernel_rfl
theorem cb_19 : callB Tryd.prog 19 = true := by kernel_rfl
theorem cb_20 : callB Tryd.prog 20 = true := by kernel_rfl
theorem cb_21 : callB Tryd.prog 21 = true := by kernel_rfl
theorem cb_22 : callB Tryd.prog 22 = true := by kernel_rfl
theorem cb_23 : callB Tryd.prog 23 = true := by kernel_rfl
theorem cb_24 : callB Tryd.prog 24 = true := by kernel_rfl
theorem cb_25 : callB Tryd.prog 25 = true := by kernel_rfl
theorem cb_26 : callB Tryd.prog 26 = true := by kernel_rfl
theorem cb_27 : callB Tryd.prog 27 = true := by kernel_rfl
theorem cb_28 : callB Tryd.prog 28 = true := by kernel_rfl
theorem cb_29 : callB Tryd.prog 29 = true := by kernel_rfl
theorem cb_30 : callB Tryd.prog 30 = true := by kernel_rfl
theorem cb_31 : callB Tryd.prog 31 = true := by kernel_rfl
theorem cb_32 : callB Tryd.prog 32 = true := by kernel_rfl
theorem cb_33 : callB Tryd.prog 33 = true := by kernel_rfl
theorem cb_34 : callB Tryd.prog 34 = true := by kernel_rfl
theorem cb_35 : callB Tryd.prog 35 = true := by kernel_rfl
theorem cb_36 : callB Tryd.prog 36 = true := by kernel_rfl
theorem cb_37 : callB Tryd.prog 37 = true := by kernel_rfl
theorem cb_38 : callB Tryd.prog 38 = true := by kernel_rfl
theorem cb_39 : callB Tryd.prog 39 = true := by kernel_rfl
theorem cb_40 : callB Tryd.prog 40 = true := by kernel_rfl
theorem cb_41 : callB Tryd.prog 41 = true := by kernel_rfl
theorem cb_42 : callB Tryd.prog 42 = true := by kernel_rfl
theorem cb_43 : callB Tryd.prog 43 = true := by kernel_rfl
theorem cb_44 : callB Tryd.prog 44 = true := by kernel_rfl
theorem cb_45 : callB Tryd.prog 45 = true := by kernel_rfl
theorem cb_46 : callB Tryd.prog 46 = true := by kernel_rfl
theorem cb_47 : callB Tryd.prog 47 = true := by kernel_rfl
theorem cb_48 : callB Tryd.prog 48 = true := by kernel_rfl
theorem cb_49 : callB Tryd.prog 49 = true := by kernel_rfl
theorem cb_50 : callB Tryd.prog 50 = true := by kernel_rfl
theorem cb_51 : callB Tryd.prog 51 = true := by kernel_rfl
theorem cb_52 : callB Tryd.prog 52 = true := by kernel_rfl
theorem cb_53 : callB Tryd.prog 53 = true := by kernel_rfl
theorem cb_54 : callB Tryd.prog 54 = true := by kernel_rfl
theorem cb_55 : callB Tryd.prog 55 = true := by kernel_rfl
theorem cb_56 : callB Tryd.prog 56 = true := by kernel_rfl
theorem cb_57 : callB Tryd.prog 57 = true := by kernel_rfl
theorem cb_58 : callB Tryd.prog 58 = true := by kernel_rfl
theorem cb_59 : callB Tryd.prog 59 = true := by kernel_rfl
theorem cb_60 : callB Tryd.prog 60 = true := by kernel_rfl
theorem cb_61 : callB Tryd.prog 61 = true := by kernel_rfl
theorem cb_62 : callB Tryd.prog 62 = true := by kernel_rfl
theorem cb_63 : callB Tryd.prog 63 = true := by kernel_rfl
theorem cb_64 : callB Tryd.prog 64 = true := by kernel_rfl
theorem cb_65 : callB Tryd.prog 65 = true := by kernel_rfl
theorem cb_66 : callB Tryd.prog 66 = true := by kernel_rfl
theorem cb_67 : callB Tryd.prog 67 = true := by kernel_rfl
theorem cb_68 : callB Tryd.prog 68 = true := by kernel_rfl
theorem cb_69 : callB Tryd.prog 69 = true := by kernel_rfl
theorem cb_70 : callB Tryd.prog 70 = true := by kernel_rfl
theorem cb_71 : callB Tryd.prog 71 = true := by kernel_rfl
theorem cb_72 : callB Tryd.prog 72 = true := by kernel_rfl
theorem cb_73 : callB Tryd.prog 73 = true := by kernel_rfl
theorem cb_74 : callB Tryd.prog 74 = true := by kernel_rfl
theorem cb_75 : callB Tryd.prog 75 = true := by kernel_rfl
theorem cb_76 : callB Tryd.prog 76 = true := by kernel_rfl
theorem cb_77 : callB Tryd.prog 77 = true := by kernel_rfl
theorem cb_78 : callB Tryd.prog 78 = true := by kernel_rfl
theorem cb_79 : callB Tryd.prog 79 = true := by kernel_rfl
theorem cb_80 : callB Tryd.prog 80 = true := by kernel_rfl
theorem cb_81 : callB Tryd.prog 81 = true := by kernel_rfl
theorem cb_82 : callB Tryd.prog 82 = true := by kernel_rfl
theorem cb_83 : callB Tryd.prog 83 = true := by kernel_rfl
theorem cb_84 : callB Tryd.prog 84 = true := by kernel_rfl
theorem cb_85 : callB Tryd.prog 85 = true := by kernel_rfl
theorem cb_86 : callB Tryd.prog 86 = true := by kernel_rfl
theorem cb_87 : callB Tryd.prog 87 = true := by kernel_rfl
theorem cb_88 : callB Tryd.prog 88 = true := by kernel_rfl
theorem cb_89 : callB Tryd.prog 89 = true := by kernel_rfl
theorem cb_90 : callB Tryd.prog 90 = true := by kernel_rfl
theorem cb_91 : callB Tryd.prog 91 = true := by kernel_rfl
theorem cb_92 : callB Tryd.prog 92 = true := by kernel_rfl
theorem cb_93 : callB Tryd.prog 93 = true := by kernel_rfl
theorem cb_94 : callB Tryd.prog 94 = true := by kernel_rfl
theorem cb_95 : callB Tryd.prog 95 = true := by kernel_rfl
theorem cb_96 : callB Tryd.prog 96 = true := by kernel_rfl
theorem cb_97 : callB Tryd.prog 97 = true := by kernel_rfl
theorem cb_98 : callB Tryd.prog 98 = true := by kernel_rfl
theorem cb_99 : callB Tryd.prog 99 = true := by kernel_rfl
theorem cb_100 : callB Tryd.prog 100 = true := by kernel_rfl
theorem cb_101 : callB Tryd.prog 101 = true := by kernel_rfl
theorem cb_102 : callB Tryd.prog 102 = true := by kernel_rfl
theorem cb_103 : callB Tryd.prog 103 = true := by kernel_rfl
theorem cb_104 : callB Tryd.prog 104 = true := by kernel_rfl
theorem cb_105 : callB Tryd.prog 105 = true := by kernel_rfl
theorem cb_106 : callB Tryd.prog 106 = true := by kernel_rfl
theorem cb_107 : callB Tryd.prog 107 = true := by kernel_rfl
theorem cb_108 : callB Tryd.prog 108 = true := by kernel_rfl
theorem cb_109 : callB Tryd.prog 109 = true := by kernel_rfl
theorem cb_110 : callB Tryd.prog 110 = true := by kernel_rfl
theorem cb_111 : callB Tryd.prog 111 = true := by kernel_rfl
theorem cb_112 : callB Tryd.prog 112 = true := by kernel_rfl
theorem cb_113 : callB Tryd.prog 113 = true := by kernel_rfl
theorem cb_114 : callB Tryd.prog 114 = true := by kernel_rfl
theorem cb_115 : callB Tryd.prog 115 = true := by kernel_rfl
theorem cb_116 : callB Tryd.prog 116 = true := by kernel_rfl
theorem cb_117 : callB Tryd.prog 117 = true := by kernel_rfl
theorem cb_118 : callB Tryd.prog 118 = true := by kernel_rfl
theorem cb_119 : callB Tryd.prog 119 = true := by kernel_rfl
theorem cb_120 : callB Tryd.prog 120 = true := by kernel_rfl
theorem cb_121 : callB Tryd.prog 121 = true := by kernel_rfl
theorem cb_122 : callB Tryd.prog 122 = true := by kernel_rfl
theorem cb_123 : callB Tryd.prog 123 = true := by kernel_rfl
theorem cb_124 : callB Tryd.prog 124 = true := by kernel_rfl
theorem cb_125 : callB Tryd.prog 125 = true := by kernel_rfl
theorem cb_126 : callB Tryd.prog 126 = true := by kernel_rfl
theorem cb_127 : callB Tryd.prog 127 = true := by kernel_rfl
theorem cb_128 : callB Tryd.prog 128 = true := by kernel_rfl
theorem cb_129 : callB Tryd.prog 129 = true := by kernel_rfl
theorem cb_130 : callB Tryd.prog 130 = true := by kernel_rfl
theorem cb_131 : callB Tryd.prog 131 = true := by kernel_rfl
theorem cb_132 : callB Tryd.prog 132 = true := by kernel_rfl
theorem cb_133 : callB Tryd.prog 133 = true := by kernel_rfl
theorem cb_134 : callB Tryd.prog 134 = true := by kernel_rfl
theorem cb_135 : callB Tryd.prog 135 = true := by kernel_rfl
theorem cb_136 : callB Tryd.prog 136 = true := by kernel_rfl
theorem cb_137 : callB Tryd.prog 137 = true := by kernel_rfl
theorem cb_138 : callB Tryd.prog 138 = true := by kernel_rfl
theorem cb_139 : callB Tryd.prog 139 = true := by kernel_rfl
theorem cb_140 : callB Tryd.prog 140 = true := by kernel_rfl
theorem cb_141 : callB Tryd.prog 141 = true := by kernel_rfl
theorem cb_142 : callB Tryd.prog 142 = true := by kernel_rfl
theorem cb_143 : callB Tryd.prog 143 = true := by kernel_rfl
theorem cb_144 : callB Tryd.prog 144 = true := by kernel_rfl
theorem cb_145 : callB Tryd.prog 145 = true := by kernel_rfl
theorem cb_146 : callB Tryd.prog 146 = true := by kernel_rfl
theorem cb_147 : callB Tryd.prog 147 = true := by kernel_rfl
theorem cb_148 : callB Tryd.prog 148 = true := by kernel_rfl
theorem cb_149 : callB Tryd.prog 149 = true := by kernel_rfl
theorem cb_150 : callB Tryd.prog 150 = true := by kernel_rfl
theorem cb_151 : callB Tryd.prog 151 = true := by kernel_rfl
theorem cb_152 : callB Tryd.prog 152 = true := by kernel_rfl
theorem cb_173 : callB Tryd.prog 173 = true := by kernel_rfl
theorem mixed : Tryd.prog.follows .mixedOrders = true := by kernel_rfl
end Go.Proofs.YtfpmnhmdphaceaaDoor
