/- Closed facts of this translation's tables, reckoned by the kernel; no conditions. -/
import Derived.Test.YtmgcmgfjaimlnaaProg
import Derived.Test.YtmgcmgfjaimlnaaBase12
namespace Go.Proofs.Ytmgcmgfjaimlnaa
open Go.EW
theorem c1_1 : cell1B Try.prog 1 = true := by kernel_rfl
theorem sz_1 : sizeV Try.prog 1 = some 1 := by kernel_rfl
theorem ze_1 : zeroV Try.prog 1 = some (.nilFunc) := by kernel_rfl
theorem c1_2 : cell1B Try.prog 2 = true := by kernel_rfl
theorem sz_2 : sizeV Try.prog 2 = some 1 := by kernel_rfl
theorem ze_2 : zeroV Try.prog 2 = some (.int .i64 0) := by kernel_rfl
theorem in_2 : intT Try.prog 2 = some .i64 := by kernel_rfl
theorem c1_3 : cell1B Try.prog 3 = true := by kernel_rfl
theorem sz_3 : sizeV Try.prog 3 = some 1 := by kernel_rfl
theorem ze_3 : zeroV Try.prog 3 = some (.int .i64 0) := by kernel_rfl
theorem in_3 : intT Try.prog 3 = some .i64 := by kernel_rfl
theorem c1_4 : cell1B Try.prog 4 = true := by kernel_rfl
theorem sz_4 : sizeV Try.prog 4 = some 1 := by kernel_rfl
theorem ze_4 : zeroV Try.prog 4 = some (.bool false) := by kernel_rfl
theorem bo_4 : isBoolT Try.prog 4 = true := by kernel_rfl
theorem c1_5 : cell1B Try.prog 5 = true := by kernel_rfl
theorem sz_5 : sizeV Try.prog 5 = some 1 := by kernel_rfl
theorem ze_5 : zeroV Try.prog 5 = some (.int .u8 0) := by kernel_rfl
theorem in_5 : intT Try.prog 5 = some .u8 := by kernel_rfl
theorem c1_6 : cell1B Try.prog 6 = true := by kernel_rfl
theorem sz_6 : sizeV Try.prog 6 = some 1 := by kernel_rfl
theorem ze_6 : zeroV Try.prog 6 = some (.int .u8 0) := by kernel_rfl
theorem in_6 : intT Try.prog 6 = some .u8 := by kernel_rfl
theorem ag_7 : aggB Try.prog 7 4 = true := by kernel_rfl
theorem sz_7 : sizeV Try.prog 7 = some 4 := by kernel_rfl
theorem ze_7 : zeroV Try.prog 7 = some (.agg #[.int .i64 0, .int .i64 0, .bool false, .int .u8 0]) := by kernel_rfl
theorem fo7_0 : fieldOff Try.prog 7 0 = some 0 := by kernel_rfl
theorem fo7_1 : fieldOff Try.prog 7 1 = some 1 := by kernel_rfl
theorem fo7_2 : fieldOff Try.prog 7 2 = some 2 := by kernel_rfl
theorem fo7_3 : fieldOff Try.prog 7 3 = some 3 := by kernel_rfl
theorem sp_7 : strPl Try.prog 7 = some ([(0, 1), (1, 1), (2, 1), (3, 1)], [.int .i64 0, .int .i64 0, .bool false, .int .u8 0]) := by kernel_rfl
theorem ag_8 : aggB Try.prog 8 4 = true := by kernel_rfl
theorem sz_8 : sizeV Try.prog 8 = some 4 := by kernel_rfl
theorem ze_8 : zeroV Try.prog 8 = some (.agg #[.int .i64 0, .int .i64 0, .bool false, .int .u8 0]) := by kernel_rfl
theorem fo8_0 : fieldOff Try.prog 8 0 = some 0 := by kernel_rfl
theorem fo8_1 : fieldOff Try.prog 8 1 = some 1 := by kernel_rfl
theorem fo8_2 : fieldOff Try.prog 8 2 = some 2 := by kernel_rfl
theorem fo8_3 : fieldOff Try.prog 8 3 = some 3 := by kernel_rfl
theorem sp_8 : strPl Try.prog 8 = some ([(0, 1), (1, 1), (2, 1), (3, 1)], [.int .i64 0, .int .i64 0, .bool false, .int .u8 0]) := by kernel_rfl
theorem c1_9 : cell1B Try.prog 9 = true := by kernel_rfl
theorem sz_9 : sizeV Try.prog 9 = some 1 := by kernel_rfl
theorem ze_9 : zeroV Try.prog 9 = some (.string ⟨#[]⟩) := by kernel_rfl
theorem st_9 : isStrT Try.prog 9 = true := by kernel_rfl
theorem c1_10 : cell1B Try.prog 10 = true := by kernel_rfl
theorem sz_10 : sizeV Try.prog 10 = some 1 := by kernel_rfl
theorem ze_10 : zeroV Try.prog 10 = some (.string ⟨#[]⟩) := by kernel_rfl
theorem st_10 : isStrT Try.prog 10 = true := by kernel_rfl
theorem c1_11 : cell1B Try.prog 11 = true := by kernel_rfl
theorem sz_11 : sizeV Try.prog 11 = some 1 := by kernel_rfl
theorem ze_11 : zeroV Try.prog 11 = some (.string ⟨#[]⟩) := by kernel_rfl
theorem st_11 : isStrT Try.prog 11 = true := by kernel_rfl
theorem c1_12 : cell1B Try.prog 12 = true := by kernel_rfl
theorem sz_12 : sizeV Try.prog 12 = some 1 := by kernel_rfl
theorem ze_12 : zeroV Try.prog 12 = some (.int .u64 0) := by kernel_rfl
theorem in_12 : intT Try.prog 12 = some .u64 := by kernel_rfl
theorem ag_13 : aggB Try.prog 13 2 = true := by kernel_rfl
theorem sz_13 : sizeV Try.prog 13 = some 2 := by kernel_rfl
theorem ze_13 : zeroV Try.prog 13 = some (.agg #[.string ⟨#[]⟩, .int .u64 0]) := by kernel_rfl
theorem fo13_0 : fieldOff Try.prog 13 0 = some 0 := by kernel_rfl
theorem fo13_1 : fieldOff Try.prog 13 1 = some 1 := by kernel_rfl
theorem sp_13 : strPl Try.prog 13 = some ([(0, 1), (1, 1)], [.string ⟨#[]⟩, .int .u64 0]) := by kernel_rfl
theorem ag_14 : aggB Try.prog 14 2 = true := by kernel_rfl
theorem sz_14 : sizeV Try.prog 14 = some 2 := by kernel_rfl
theorem ze_14 : zeroV Try.prog 14 = some (.agg #[.string ⟨#[]⟩, .int .u64 0]) := by kernel_rfl
theorem fo14_0 : fieldOff Try.prog 14 0 = some 0 := by kernel_rfl
theorem fo14_1 : fieldOff Try.prog 14 1 = some 1 := by kernel_rfl
theorem sp_14 : strPl Try.prog 14 = some ([(0, 1), (1, 1)], [.string ⟨#[]⟩, .int .u64 0]) := by kernel_rfl
theorem c1_15 : cell1B Try.prog 15 = true := by kernel_rfl
theorem sz_15 : sizeV Try.prog 15 = some 1 := by kernel_rfl
theorem ze_15 : zeroV Try.prog 15 = some (.pointer none) := by kernel_rfl
theorem pt_15 : isPtrT Try.prog 15 = true := by kernel_rfl
theorem c1_16 : cell1B Try.prog 16 = true := by kernel_rfl
theorem sz_16 : sizeV Try.prog 16 = some 1 := by kernel_rfl
theorem ze_16 : zeroV Try.prog 16 = some (.pointer none) := by kernel_rfl
theorem pt_16 : isPtrT Try.prog 16 = true := by kernel_rfl
theorem c1_17 : cell1B Try.prog 17 = true := by kernel_rfl
theorem sz_17 : sizeV Try.prog 17 = some 1 := by kernel_rfl
theorem ze_17 : zeroV Try.prog 17 = some (.pointer none) := by kernel_rfl
theorem pt_17 : isPtrT Try.prog 17 = true := by kernel_rfl
theorem ag_18 : aggB Try.prog 18 1 = true := by kernel_rfl
theorem sz_18 : sizeV Try.prog 18 = some 1 := by kernel_rfl
theorem ze_18 : zeroV Try.prog 18 = some (.agg #[.pointer none]) := by kernel_rfl
theorem fo18_0 : fieldOff Try.prog 18 0 = some 0 := by kernel_rfl
theorem sp_18 : strPl Try.prog 18 = some ([(0, 1)], [.pointer none]) := by kernel_rfl
theorem ag_19 : aggB Try.prog 19 1 = true := by kernel_rfl
theorem sz_19 : sizeV Try.prog 19 = some 1 := by kernel_rfl
theorem ze_19 : zeroV Try.prog 19 = some (.agg #[.pointer none]) := by kernel_rfl
theorem fo19_0 : fieldOff Try.prog 19 0 = some 0 := by kernel_rfl
theorem sp_19 : strPl Try.prog 19 = some ([(0, 1)], [.pointer none]) := by kernel_rfl
theorem c1_20 : cell1B Try.prog 20 = true := by kernel_rfl
theorem sz_20 : sizeV Try.prog 20 = some 1 := by kernel_rfl
theorem ze_20 : zeroV Try.prog 20 = some (.nilIface) := by kernel_rfl
theorem c1_21 : cell1B Try.prog 21 = true := by kernel_rfl
theorem sz_21 : sizeV Try.prog 21 = some 1 := by kernel_rfl
theorem ze_21 : zeroV Try.prog 21 = some (.int .i32 0) := by kernel_rfl
theorem in_21 : intT Try.prog 21 = some .i32 := by kernel_rfl
theorem c1_22 : cell1B Try.prog 22 = true := by kernel_rfl
theorem sz_22 : sizeV Try.prog 22 = some 1 := by kernel_rfl
theorem ze_22 : zeroV Try.prog 22 = some (.slice none 0 0) := by kernel_rfl
theorem el_22 : elT Try.prog 22 = some (31, 3, 40) := by kernel_rfl
theorem c1_23 : cell1B Try.prog 23 = true := by kernel_rfl
theorem sz_23 : sizeV Try.prog 23 = some 1 := by kernel_rfl
theorem ze_23 : zeroV Try.prog 23 = some (.slice none 0 0) := by kernel_rfl
theorem el_23 : elT Try.prog 23 = some (3, 1, 8) := by kernel_rfl
theorem c1_24 : cell1B Try.prog 24 = true := by kernel_rfl
theorem sz_24 : sizeV Try.prog 24 = some 1 := by kernel_rfl
theorem ze_24 : zeroV Try.prog 24 = some (.pointer none) := by kernel_rfl
theorem pt_24 : isPtrT Try.prog 24 = true := by kernel_rfl
theorem c1_25 : cell1B Try.prog 25 = true := by kernel_rfl
theorem sz_25 : sizeV Try.prog 25 = some 1 := by kernel_rfl
theorem ze_25 : zeroV Try.prog 25 = some (.nilFunc) := by kernel_rfl
theorem c1_26 : cell1B Try.prog 26 = true := by kernel_rfl
theorem sz_26 : sizeV Try.prog 26 = some 1 := by kernel_rfl
theorem ze_26 : zeroV Try.prog 26 = some (.nilFunc) := by kernel_rfl
theorem c1_27 : cell1B Try.prog 27 = true := by kernel_rfl
theorem sz_27 : sizeV Try.prog 27 = some 1 := by kernel_rfl
theorem ze_27 : zeroV Try.prog 27 = some (.nilFunc) := by kernel_rfl
theorem c1_28 : cell1B Try.prog 28 = true := by kernel_rfl
theorem sz_28 : sizeV Try.prog 28 = some 1 := by kernel_rfl
theorem ze_28 : zeroV Try.prog 28 = some (.nilFunc) := by kernel_rfl
theorem c1_29 : cell1B Try.prog 29 = true := by kernel_rfl
theorem sz_29 : sizeV Try.prog 29 = some 1 := by kernel_rfl
theorem ze_29 : zeroV Try.prog 29 = some (.slice none 0 0) := by kernel_rfl
theorem el_29 : elT Try.prog 29 = some (5, 1, 1) := by kernel_rfl
theorem by_29 : isBytesT Try.prog 29 = true := by kernel_rfl
theorem ag_30 : aggB Try.prog 30 3 = true := by kernel_rfl
theorem sz_30 : sizeV Try.prog 30 = some 3 := by kernel_rfl
theorem ze_30 : zeroV Try.prog 30 = some (.agg #[.int .i64 0, .int .i64 0, .slice none 0 0]) := by kernel_rfl
theorem fo30_0 : fieldOff Try.prog 30 0 = some 0 := by kernel_rfl
theorem fo30_1 : fieldOff Try.prog 30 1 = some 1 := by kernel_rfl
theorem fo30_2 : fieldOff Try.prog 30 2 = some 2 := by kernel_rfl
theorem sp_30 : strPl Try.prog 30 = some ([(0, 1), (1, 1), (2, 1)], [.int .i64 0, .int .i64 0, .slice none 0 0]) := by kernel_rfl
theorem ag_31 : aggB Try.prog 31 3 = true := by kernel_rfl
theorem sz_31 : sizeV Try.prog 31 = some 3 := by kernel_rfl
theorem ze_31 : zeroV Try.prog 31 = some (.agg #[.int .i64 0, .int .i64 0, .slice none 0 0]) := by kernel_rfl
theorem fo31_0 : fieldOff Try.prog 31 0 = some 0 := by kernel_rfl
theorem fo31_1 : fieldOff Try.prog 31 1 = some 1 := by kernel_rfl
theorem fo31_2 : fieldOff Try.prog 31 2 = some 2 := by kernel_rfl
theorem sp_31 : strPl Try.prog 31 = some ([(0, 1), (1, 1), (2, 1)], [.int .i64 0, .int .i64 0, .slice none 0 0]) := by kernel_rfl
theorem c1_32 : cell1B Try.prog 32 = true := by kernel_rfl
theorem sz_32 : sizeV Try.prog 32 = some 1 := by kernel_rfl
theorem ze_32 : zeroV Try.prog 32 = some (.int .i64 0) := by kernel_rfl
theorem in_32 : intT Try.prog 32 = some .i64 := by kernel_rfl
theorem c1_34 : cell1B Try.prog 34 = true := by kernel_rfl
theorem sz_34 : sizeV Try.prog 34 = some 1 := by kernel_rfl
theorem ze_34 : zeroV Try.prog 34 = some (.nilFunc) := by kernel_rfl
theorem c1_35 : cell1B Try.prog 35 = true := by kernel_rfl
theorem sz_35 : sizeV Try.prog 35 = some 1 := by kernel_rfl
theorem ze_35 : zeroV Try.prog 35 = some (.nilFunc) := by kernel_rfl
theorem c1_36 : cell1B Try.prog 36 = true := by kernel_rfl
theorem sz_36 : sizeV Try.prog 36 = some 1 := by kernel_rfl
theorem ze_36 : zeroV Try.prog 36 = some (.nilFunc) := by kernel_rfl
theorem c1_37 : cell1B Try.prog 37 = true := by kernel_rfl
theorem sz_37 : sizeV Try.prog 37 = some 1 := by kernel_rfl
theorem ze_37 : zeroV Try.prog 37 = some (.nilFunc) := by kernel_rfl
theorem c1_38 : cell1B Try.prog 38 = true := by kernel_rfl
theorem sz_38 : sizeV Try.prog 38 = some 1 := by kernel_rfl
theorem ze_38 : zeroV Try.prog 38 = some (.nilFunc) := by kernel_rfl
theorem c1_39 : cell1B Try.prog 39 = true := by kernel_rfl
theorem sz_39 : sizeV Try.prog 39 = some 1 := by kernel_rfl
theorem ze_39 : zeroV Try.prog 39 = some (.slice none 0 0) := by kernel_rfl
theorem el_39 : elT Try.prog 39 = some (41, 8, 80) := by kernel_rfl
theorem ag_40 : aggB Try.prog 40 8 = true := by kernel_rfl
theorem sz_40 : sizeV Try.prog 40 = some 8 := by kernel_rfl
theorem ze_40 : zeroV Try.prog 40 = some (.agg #[.int .i64 0, .int .i64 0, .int .i64 0, .int .u8 0, .int .i64 0, .int .i64 0, .slice none 0 0, .bool false]) := by kernel_rfl
theorem fo40_0 : fieldOff Try.prog 40 0 = some 0 := by kernel_rfl
theorem fo40_1 : fieldOff Try.prog 40 1 = some 1 := by kernel_rfl
theorem fo40_2 : fieldOff Try.prog 40 2 = some 2 := by kernel_rfl
theorem fo40_3 : fieldOff Try.prog 40 3 = some 3 := by kernel_rfl
theorem fo40_4 : fieldOff Try.prog 40 4 = some 4 := by kernel_rfl
theorem fo40_5 : fieldOff Try.prog 40 5 = some 7 := by kernel_rfl
theorem sp_40 : strPl Try.prog 40 = some ([(0, 1), (1, 1), (2, 1), (3, 1), (4, 3), (7, 1)], [.int .i64 0, .int .i64 0, .int .i64 0, .int .u8 0, .int .i64 0, .int .i64 0, .slice none 0 0, .bool false]) := by kernel_rfl
theorem ag_41 : aggB Try.prog 41 8 = true := by kernel_rfl
theorem sz_41 : sizeV Try.prog 41 = some 8 := by kernel_rfl
theorem ze_41 : zeroV Try.prog 41 = some (.agg #[.int .i64 0, .int .i64 0, .int .i64 0, .int .u8 0, .int .i64 0, .int .i64 0, .slice none 0 0, .bool false]) := by kernel_rfl
theorem fo41_0 : fieldOff Try.prog 41 0 = some 0 := by kernel_rfl
theorem fo41_1 : fieldOff Try.prog 41 1 = some 1 := by kernel_rfl
theorem fo41_2 : fieldOff Try.prog 41 2 = some 2 := by kernel_rfl
theorem fo41_3 : fieldOff Try.prog 41 3 = some 3 := by kernel_rfl
theorem fo41_4 : fieldOff Try.prog 41 4 = some 4 := by kernel_rfl
theorem fo41_5 : fieldOff Try.prog 41 5 = some 7 := by kernel_rfl
theorem sp_41 : strPl Try.prog 41 = some ([(0, 1), (1, 1), (2, 1), (3, 1), (4, 3), (7, 1)], [.int .i64 0, .int .i64 0, .int .i64 0, .int .u8 0, .int .i64 0, .int .i64 0, .slice none 0 0, .bool false]) := by kernel_rfl
theorem c1_42 : cell1B Try.prog 42 = true := by kernel_rfl
theorem sz_42 : sizeV Try.prog 42 = some 1 := by kernel_rfl
theorem ze_42 : zeroV Try.prog 42 = some (.nilFunc) := by kernel_rfl
theorem c1_43 : cell1B Try.prog 43 = true := by kernel_rfl
theorem sz_43 : sizeV Try.prog 43 = some 1 := by kernel_rfl
theorem ze_43 : zeroV Try.prog 43 = some (.nilFunc) := by kernel_rfl
theorem c1_44 : cell1B Try.prog 44 = true := by kernel_rfl
theorem sz_44 : sizeV Try.prog 44 = some 1 := by kernel_rfl
theorem ze_44 : zeroV Try.prog 44 = some (.nilFunc) := by kernel_rfl
theorem c1_45 : cell1B Try.prog 45 = true := by kernel_rfl
theorem sz_45 : sizeV Try.prog 45 = some 1 := by kernel_rfl
theorem ze_45 : zeroV Try.prog 45 = some (.nilFunc) := by kernel_rfl
theorem c1_46 : cell1B Try.prog 46 = true := by kernel_rfl
theorem sz_46 : sizeV Try.prog 46 = some 1 := by kernel_rfl
theorem ze_46 : zeroV Try.prog 46 = some (.nilFunc) := by kernel_rfl
theorem c1_47 : cell1B Try.prog 47 = true := by kernel_rfl
theorem sz_47 : sizeV Try.prog 47 = some 1 := by kernel_rfl
theorem ze_47 : zeroV Try.prog 47 = some (.nilFunc) := by kernel_rfl
theorem c1_48 : cell1B Try.prog 48 = true := by kernel_rfl
theorem sz_48 : sizeV Try.prog 48 = some 1 := by kernel_rfl
theorem ze_48 : zeroV Try.prog 48 = some (.nilFunc) := by kernel_rfl
theorem c1_49 : cell1B Try.prog 49 = true := by kernel_rfl
theorem sz_49 : sizeV Try.prog 49 = some 1 := by kernel_rfl
theorem ze_49 : zeroV Try.prog 49 = some (.nilFunc) := by kernel_rfl
theorem c1_50 : cell1B Try.prog 50 = true := by kernel_rfl
theorem sz_50 : sizeV Try.prog 50 = some 1 := by kernel_rfl
theorem ze_50 : zeroV Try.prog 50 = some (.nilFunc) := by kernel_rfl
theorem c1_51 : cell1B Try.prog 51 = true := by kernel_rfl
theorem sz_51 : sizeV Try.prog 51 = some 1 := by kernel_rfl
theorem ze_51 : zeroV Try.prog 51 = some (.nilFunc) := by kernel_rfl
theorem c1_52 : cell1B Try.prog 52 = true := by kernel_rfl
theorem sz_52 : sizeV Try.prog 52 = some 1 := by kernel_rfl
theorem ze_52 : zeroV Try.prog 52 = some (.nilFunc) := by kernel_rfl
theorem c1_53 : cell1B Try.prog 53 = true := by kernel_rfl
theorem sz_53 : sizeV Try.prog 53 = some 1 := by kernel_rfl
theorem ze_53 : zeroV Try.prog 53 = some (.nilFunc) := by kernel_rfl
theorem c1_54 : cell1B Try.prog 54 = true := by kernel_rfl
theorem sz_54 : sizeV Try.prog 54 = some 1 := by kernel_rfl
theorem ze_54 : zeroV Try.prog 54 = some (.nilFunc) := by kernel_rfl
theorem c1_55 : cell1B Try.prog 55 = true := by kernel_rfl
theorem sz_55 : sizeV Try.prog 55 = some 1 := by kernel_rfl
theorem ze_55 : zeroV Try.prog 55 = some (.nilFunc) := by kernel_rfl
theorem c1_56 : cell1B Try.prog 56 = true := by kernel_rfl
theorem sz_56 : sizeV Try.prog 56 = some 1 := by kernel_rfl
theorem ze_56 : zeroV Try.prog 56 = some (.nilFunc) := by kernel_rfl
theorem c1_57 : cell1B Try.prog 57 = true := by kernel_rfl
theorem sz_57 : sizeV Try.prog 57 = some 1 := by kernel_rfl
theorem ze_57 : zeroV Try.prog 57 = some (.nilFunc) := by kernel_rfl
theorem c1_58 : cell1B Try.prog 58 = true := by kernel_rfl
theorem sz_58 : sizeV Try.prog 58 = some 1 := by kernel_rfl
theorem ze_58 : zeroV Try.prog 58 = some (.nilFunc) := by kernel_rfl
theorem c1_60 : cell1B Try.prog 60 = true := by kernel_rfl
theorem sz_60 : sizeV Try.prog 60 = some 1 := by kernel_rfl
theorem ze_60 : zeroV Try.prog 60 = some (.nilFunc) := by kernel_rfl
theorem c1_61 : cell1B Try.prog 61 = true := by kernel_rfl
theorem sz_61 : sizeV Try.prog 61 = some 1 := by kernel_rfl
theorem ze_61 : zeroV Try.prog 61 = some (.pointer none) := by kernel_rfl
theorem pt_61 : isPtrT Try.prog 61 = true := by kernel_rfl
theorem c1_63 : cell1B Try.prog 63 = true := by kernel_rfl
theorem sz_63 : sizeV Try.prog 63 = some 1 := by kernel_rfl
theorem ze_63 : zeroV Try.prog 63 = some (.nilFunc) := by kernel_rfl
theorem c1_64 : cell1B Try.prog 64 = true := by kernel_rfl
theorem sz_64 : sizeV Try.prog 64 = some 1 := by kernel_rfl
theorem ze_64 : zeroV Try.prog 64 = some (.slice none 0 0) := by kernel_rfl
theorem el_64 : elT Try.prog 64 = some (29, 1, 24) := by kernel_rfl
theorem c1_65 : cell1B Try.prog 65 = true := by kernel_rfl
theorem sz_65 : sizeV Try.prog 65 = some 1 := by kernel_rfl
theorem ze_65 : zeroV Try.prog 65 = some (.slice none 0 0) := by kernel_rfl
theorem el_65 : elT Try.prog 65 = some (23, 1, 24) := by kernel_rfl
theorem c1_66 : cell1B Try.prog 66 = true := by kernel_rfl
theorem sz_66 : sizeV Try.prog 66 = some 1 := by kernel_rfl
theorem ze_66 : zeroV Try.prog 66 = some (.slice none 0 0) := by kernel_rfl
theorem el_66 : elT Try.prog 66 = some (113, 1, 24) := by kernel_rfl
theorem c1_67 : cell1B Try.prog 67 = true := by kernel_rfl
theorem sz_67 : sizeV Try.prog 67 = some 1 := by kernel_rfl
theorem ze_67 : zeroV Try.prog 67 = some (.slice none 0 0) := by kernel_rfl
theorem el_67 : elT Try.prog 67 = some (111, 1, 24) := by kernel_rfl
theorem c1_68 : cell1B Try.prog 68 = true := by kernel_rfl
theorem sz_68 : sizeV Try.prog 68 = some 1 := by kernel_rfl
theorem ze_68 : zeroV Try.prog 68 = some (.slice none 0 0) := by kernel_rfl
theorem el_68 : elT Try.prog 68 = some (132, 1, 24) := by kernel_rfl
theorem c1_69 : cell1B Try.prog 69 = true := by kernel_rfl
theorem sz_69 : sizeV Try.prog 69 = some 1 := by kernel_rfl
theorem ze_69 : zeroV Try.prog 69 = some (.slice none 0 0) := by kernel_rfl
theorem el_69 : elT Try.prog 69 = some (136, 1, 24) := by kernel_rfl
theorem c1_70 : cell1B Try.prog 70 = true := by kernel_rfl
theorem sz_70 : sizeV Try.prog 70 = some 1 := by kernel_rfl
theorem ze_70 : zeroV Try.prog 70 = some (.slice none 0 0) := by kernel_rfl
theorem el_70 : elT Try.prog 70 = some (142, 1, 24) := by kernel_rfl
theorem c1_71 : cell1B Try.prog 71 = true := by kernel_rfl
theorem sz_71 : sizeV Try.prog 71 = some 1 := by kernel_rfl
theorem ze_71 : zeroV Try.prog 71 = some (.slice none 0 0) := by kernel_rfl
theorem el_71 : elT Try.prog 71 = some (144, 1, 24) := by kernel_rfl
theorem c1_72 : cell1B Try.prog 72 = true := by kernel_rfl
theorem sz_72 : sizeV Try.prog 72 = some 1 := by kernel_rfl
theorem ze_72 : zeroV Try.prog 72 = some (.slice none 0 0) := by kernel_rfl
theorem el_72 : elT Try.prog 72 = some (114, 1, 24) := by kernel_rfl
theorem c1_73 : cell1B Try.prog 73 = true := by kernel_rfl
theorem sz_73 : sizeV Try.prog 73 = some 1 := by kernel_rfl
theorem ze_73 : zeroV Try.prog 73 = some (.slice none 0 0) := by kernel_rfl
theorem el_73 : elT Try.prog 73 = some (115, 1, 24) := by kernel_rfl
theorem ag_74 : aggB Try.prog 74 10 = true := by kernel_rfl
theorem sz_74 : sizeV Try.prog 74 = some 10 := by kernel_rfl
theorem ze_74 : zeroV Try.prog 74 = some (.agg #[.slice none 0 0, .slice none 0 0, .slice none 0 0, .slice none 0 0, .slice none 0 0, .slice none 0 0, .slice none 0 0, .slice none 0 0, .slice none 0 0, .slice none 0 0]) := by kernel_rfl
theorem fo74_0 : fieldOff Try.prog 74 0 = some 0 := by kernel_rfl
theorem fo74_1 : fieldOff Try.prog 74 1 = some 1 := by kernel_rfl
theorem fo74_2 : fieldOff Try.prog 74 2 = some 2 := by kernel_rfl
theorem fo74_3 : fieldOff Try.prog 74 3 = some 3 := by kernel_rfl
theorem fo74_4 : fieldOff Try.prog 74 4 = some 4 := by kernel_rfl
theorem fo74_5 : fieldOff Try.prog 74 5 = some 5 := by kernel_rfl
theorem fo74_6 : fieldOff Try.prog 74 6 = some 6 := by kernel_rfl
theorem fo74_7 : fieldOff Try.prog 74 7 = some 7 := by kernel_rfl
theorem fo74_8 : fieldOff Try.prog 74 8 = some 8 := by kernel_rfl
theorem fo74_9 : fieldOff Try.prog 74 9 = some 9 := by kernel_rfl
theorem sp_74 : strPl Try.prog 74 = some ([(0, 1), (1, 1), (2, 1), (3, 1), (4, 1), (5, 1), (6, 1), (7, 1), (8, 1), (9, 1)], [.slice none 0 0, .slice none 0 0, .slice none 0 0, .slice none 0 0, .slice none 0 0, .slice none 0 0, .slice none 0 0, .slice none 0 0, .slice none 0 0, .slice none 0 0]) := by kernel_rfl
theorem ag_75 : aggB Try.prog 75 10 = true := by kernel_rfl
theorem sz_75 : sizeV Try.prog 75 = some 10 := by kernel_rfl
theorem ze_75 : zeroV Try.prog 75 = some (.agg #[.slice none 0 0, .slice none 0 0, .slice none 0 0, .slice none 0 0, .slice none 0 0, .slice none 0 0, .slice none 0 0, .slice none 0 0, .slice none 0 0, .slice none 0 0]) := by kernel_rfl
theorem fo75_0 : fieldOff Try.prog 75 0 = some 0 := by kernel_rfl
theorem fo75_1 : fieldOff Try.prog 75 1 = some 1 := by kernel_rfl
theorem fo75_2 : fieldOff Try.prog 75 2 = some 2 := by kernel_rfl
theorem fo75_3 : fieldOff Try.prog 75 3 = some 3 := by kernel_rfl
theorem fo75_4 : fieldOff Try.prog 75 4 = some 4 := by kernel_rfl
theorem fo75_5 : fieldOff Try.prog 75 5 = some 5 := by kernel_rfl
theorem fo75_6 : fieldOff Try.prog 75 6 = some 6 := by kernel_rfl
theorem fo75_7 : fieldOff Try.prog 75 7 = some 7 := by kernel_rfl
theorem fo75_8 : fieldOff Try.prog 75 8 = some 8 := by kernel_rfl
theorem fo75_9 : fieldOff Try.prog 75 9 = some 9 := by kernel_rfl
theorem sp_75 : strPl Try.prog 75 = some ([(0, 1), (1, 1), (2, 1), (3, 1), (4, 1), (5, 1), (6, 1), (7, 1), (8, 1), (9, 1)], [.slice none 0 0, .slice none 0 0, .slice none 0 0, .slice none 0 0, .slice none 0 0, .slice none 0 0, .slice none 0 0, .slice none 0 0, .slice none 0 0, .slice none 0 0]) := by kernel_rfl
theorem c1_76 : cell1B Try.prog 76 = true := by kernel_rfl
theorem sz_76 : sizeV Try.prog 76 = some 1 := by kernel_rfl
theorem ze_76 : zeroV Try.prog 76 = some (.nilFunc) := by kernel_rfl
theorem c1_77 : cell1B Try.prog 77 = true := by kernel_rfl
theorem sz_77 : sizeV Try.prog 77 = some 1 := by kernel_rfl
theorem ze_77 : zeroV Try.prog 77 = some (.pointer none) := by kernel_rfl
theorem pt_77 : isPtrT Try.prog 77 = true := by kernel_rfl
theorem c1_78 : cell1B Try.prog 78 = true := by kernel_rfl
theorem sz_78 : sizeV Try.prog 78 = some 1 := by kernel_rfl
theorem ze_78 : zeroV Try.prog 78 = some (.nilFunc) := by kernel_rfl
theorem c1_80 : cell1B Try.prog 80 = true := by kernel_rfl
theorem sz_80 : sizeV Try.prog 80 = some 1 := by kernel_rfl
theorem ze_80 : zeroV Try.prog 80 = some (.nilFunc) := by kernel_rfl
theorem c1_81 : cell1B Try.prog 81 = true := by kernel_rfl
theorem sz_81 : sizeV Try.prog 81 = some 1 := by kernel_rfl
theorem ze_81 : zeroV Try.prog 81 = some (.nilFunc) := by kernel_rfl
theorem c1_82 : cell1B Try.prog 82 = true := by kernel_rfl
theorem sz_82 : sizeV Try.prog 82 = some 1 := by kernel_rfl
theorem ze_82 : zeroV Try.prog 82 = some (.map none) := by kernel_rfl
theorem mp_82 : mapB Try.prog 82 88 3 = true := by kernel_rfl
theorem ky_88 : kyB Try.prog 88 = true := by kernel_rfl
theorem ag_83 : aggB Try.prog 83 6 = true := by kernel_rfl
theorem sz_83 : sizeV Try.prog 83 = some 6 := by kernel_rfl
theorem ze_83 : zeroV Try.prog 83 = some (.agg #[.int .i64 0, .int .i64 0, .slice none 0 0, .slice none 0 0, .map none, .map none]) := by kernel_rfl
theorem fo83_0 : fieldOff Try.prog 83 0 = some 0 := by kernel_rfl
theorem fo83_1 : fieldOff Try.prog 83 1 = some 1 := by kernel_rfl
theorem fo83_2 : fieldOff Try.prog 83 2 = some 2 := by kernel_rfl
theorem fo83_3 : fieldOff Try.prog 83 3 = some 3 := by kernel_rfl
theorem fo83_4 : fieldOff Try.prog 83 4 = some 4 := by kernel_rfl
theorem fo83_5 : fieldOff Try.prog 83 5 = some 5 := by kernel_rfl
theorem sp_83 : strPl Try.prog 83 = some ([(0, 1), (1, 1), (2, 1), (3, 1), (4, 1), (5, 1)], [.int .i64 0, .int .i64 0, .slice none 0 0, .slice none 0 0, .map none, .map none]) := by kernel_rfl
theorem ag_84 : aggB Try.prog 84 6 = true := by kernel_rfl
theorem sz_84 : sizeV Try.prog 84 = some 6 := by kernel_rfl
theorem ze_84 : zeroV Try.prog 84 = some (.agg #[.int .i64 0, .int .i64 0, .slice none 0 0, .slice none 0 0, .map none, .map none]) := by kernel_rfl
theorem fo84_0 : fieldOff Try.prog 84 0 = some 0 := by kernel_rfl
theorem fo84_1 : fieldOff Try.prog 84 1 = some 1 := by kernel_rfl
theorem fo84_2 : fieldOff Try.prog 84 2 = some 2 := by kernel_rfl
theorem fo84_3 : fieldOff Try.prog 84 3 = some 3 := by kernel_rfl
theorem fo84_4 : fieldOff Try.prog 84 4 = some 4 := by kernel_rfl
theorem fo84_5 : fieldOff Try.prog 84 5 = some 5 := by kernel_rfl
theorem sp_84 : strPl Try.prog 84 = some ([(0, 1), (1, 1), (2, 1), (3, 1), (4, 1), (5, 1)], [.int .i64 0, .int .i64 0, .slice none 0 0, .slice none 0 0, .map none, .map none]) := by kernel_rfl
theorem c1_85 : cell1B Try.prog 85 = true := by kernel_rfl
theorem sz_85 : sizeV Try.prog 85 = some 1 := by kernel_rfl
theorem ze_85 : zeroV Try.prog 85 = some (.nilFunc) := by kernel_rfl
theorem c1_86 : cell1B Try.prog 86 = true := by kernel_rfl
theorem sz_86 : sizeV Try.prog 86 = some 1 := by kernel_rfl
theorem ze_86 : zeroV Try.prog 86 = some (.nilFunc) := by kernel_rfl
theorem ag_87 : aggB Try.prog 87 3 = true := by kernel_rfl
theorem sz_87 : sizeV Try.prog 87 = some 3 := by kernel_rfl
theorem ze_87 : zeroV Try.prog 87 = some (.agg #[.int .i64 0, .int .i64 0, .string ⟨#[]⟩]) := by kernel_rfl
theorem fo87_0 : fieldOff Try.prog 87 0 = some 0 := by kernel_rfl
theorem fo87_1 : fieldOff Try.prog 87 1 = some 1 := by kernel_rfl
theorem fo87_2 : fieldOff Try.prog 87 2 = some 2 := by kernel_rfl
theorem sp_87 : strPl Try.prog 87 = some ([(0, 1), (1, 1), (2, 1)], [.int .i64 0, .int .i64 0, .string ⟨#[]⟩]) := by kernel_rfl
theorem ag_88 : aggB Try.prog 88 3 = true := by kernel_rfl
theorem sz_88 : sizeV Try.prog 88 = some 3 := by kernel_rfl
theorem ze_88 : zeroV Try.prog 88 = some (.agg #[.int .i64 0, .int .i64 0, .string ⟨#[]⟩]) := by kernel_rfl
theorem fo88_0 : fieldOff Try.prog 88 0 = some 0 := by kernel_rfl
theorem fo88_1 : fieldOff Try.prog 88 1 = some 1 := by kernel_rfl
theorem fo88_2 : fieldOff Try.prog 88 2 = some 2 := by kernel_rfl
theorem sp_88 : strPl Try.prog 88 = some ([(0, 1), (1, 1), (2, 1)], [.int .i64 0, .int .i64 0, .string ⟨#[]⟩]) := by kernel_rfl
theorem c1_90 : cell1B Try.prog 90 = true := by kernel_rfl
theorem sz_90 : sizeV Try.prog 90 = some 1 := by kernel_rfl
theorem ze_90 : zeroV Try.prog 90 = some (.nilFunc) := by kernel_rfl
theorem c1_91 : cell1B Try.prog 91 = true := by kernel_rfl
theorem sz_91 : sizeV Try.prog 91 = some 1 := by kernel_rfl
theorem ze_91 : zeroV Try.prog 91 = some (.nilFunc) := by kernel_rfl
theorem c1_92 : cell1B Try.prog 92 = true := by kernel_rfl
theorem sz_92 : sizeV Try.prog 92 = some 1 := by kernel_rfl
theorem ze_92 : zeroV Try.prog 92 = some (.nilFunc) := by kernel_rfl
theorem c1_93 : cell1B Try.prog 93 = true := by kernel_rfl
theorem sz_93 : sizeV Try.prog 93 = some 1 := by kernel_rfl
theorem ze_93 : zeroV Try.prog 93 = some (.nilFunc) := by kernel_rfl
theorem c1_94 : cell1B Try.prog 94 = true := by kernel_rfl
theorem sz_94 : sizeV Try.prog 94 = some 1 := by kernel_rfl
theorem ze_94 : zeroV Try.prog 94 = some (.map none) := by kernel_rfl
theorem mp_94 : mapB Try.prog 94 3 31 = true := by kernel_rfl
theorem c1_95 : cell1B Try.prog 95 = true := by kernel_rfl
theorem sz_95 : sizeV Try.prog 95 = some 1 := by kernel_rfl
theorem ze_95 : zeroV Try.prog 95 = some (.nilFunc) := by kernel_rfl
theorem ag_96 : aggB Try.prog 96 4 = true := by kernel_rfl
theorem sz_96 : sizeV Try.prog 96 = some 4 := by kernel_rfl
theorem ze_96 : zeroV Try.prog 96 = some (.agg #[.int .i64 0, .int .i64 0, .slice none 0 0, .slice none 0 0]) := by kernel_rfl
theorem fo96_0 : fieldOff Try.prog 96 0 = some 0 := by kernel_rfl
theorem fo96_1 : fieldOff Try.prog 96 1 = some 1 := by kernel_rfl
theorem fo96_2 : fieldOff Try.prog 96 2 = some 2 := by kernel_rfl
theorem fo96_3 : fieldOff Try.prog 96 3 = some 3 := by kernel_rfl
theorem sp_96 : strPl Try.prog 96 = some ([(0, 1), (1, 1), (2, 1), (3, 1)], [.int .i64 0, .int .i64 0, .slice none 0 0, .slice none 0 0]) := by kernel_rfl
theorem ag_97 : aggB Try.prog 97 4 = true := by kernel_rfl
theorem sz_97 : sizeV Try.prog 97 = some 4 := by kernel_rfl
theorem ze_97 : zeroV Try.prog 97 = some (.agg #[.int .i64 0, .int .i64 0, .slice none 0 0, .slice none 0 0]) := by kernel_rfl
theorem fo97_0 : fieldOff Try.prog 97 0 = some 0 := by kernel_rfl
theorem fo97_1 : fieldOff Try.prog 97 1 = some 1 := by kernel_rfl
theorem fo97_2 : fieldOff Try.prog 97 2 = some 2 := by kernel_rfl
theorem fo97_3 : fieldOff Try.prog 97 3 = some 3 := by kernel_rfl
theorem sp_97 : strPl Try.prog 97 = some ([(0, 1), (1, 1), (2, 1), (3, 1)], [.int .i64 0, .int .i64 0, .slice none 0 0, .slice none 0 0]) := by kernel_rfl
theorem c1_98 : cell1B Try.prog 98 = true := by kernel_rfl
theorem sz_98 : sizeV Try.prog 98 = some 1 := by kernel_rfl
theorem ze_98 : zeroV Try.prog 98 = some (.slice none 0 0) := by kernel_rfl
theorem el_98 : elT Try.prog 98 = some (119, 12, 192) := by kernel_rfl
theorem ag_99 : aggB Try.prog 99 10 = true := by kernel_rfl
theorem sz_99 : sizeV Try.prog 99 = some 10 := by kernel_rfl
theorem ze_99 : zeroV Try.prog 99 = some (.agg #[.slice none 0 0, .slice none 0 0, .slice none 0 0, .slice none 0 0, .slice none 0 0, .slice none 0 0, .slice none 0 0, .slice none 0 0, .slice none 0 0, .slice none 0 0]) := by kernel_rfl
theorem fo99_0 : fieldOff Try.prog 99 0 = some 0 := by kernel_rfl
theorem fo99_1 : fieldOff Try.prog 99 1 = some 1 := by kernel_rfl
theorem fo99_2 : fieldOff Try.prog 99 2 = some 2 := by kernel_rfl
theorem fo99_3 : fieldOff Try.prog 99 3 = some 3 := by kernel_rfl
theorem fo99_4 : fieldOff Try.prog 99 4 = some 4 := by kernel_rfl
theorem fo99_5 : fieldOff Try.prog 99 5 = some 5 := by kernel_rfl
theorem fo99_6 : fieldOff Try.prog 99 6 = some 6 := by kernel_rfl
theorem fo99_7 : fieldOff Try.prog 99 7 = some 7 := by kernel_rfl
theorem fo99_8 : fieldOff Try.prog 99 8 = some 8 := by kernel_rfl
theorem fo99_9 : fieldOff Try.prog 99 9 = some 9 := by kernel_rfl
theorem sp_99 : strPl Try.prog 99 = some ([(0, 1), (1, 1), (2, 1), (3, 1), (4, 1), (5, 1), (6, 1), (7, 1), (8, 1), (9, 1)], [.slice none 0 0, .slice none 0 0, .slice none 0 0, .slice none 0 0, .slice none 0 0, .slice none 0 0, .slice none 0 0, .slice none 0 0, .slice none 0 0, .slice none 0 0]) := by kernel_rfl
theorem ag_100 : aggB Try.prog 100 10 = true := by kernel_rfl
theorem sz_100 : sizeV Try.prog 100 = some 10 := by kernel_rfl
theorem ze_100 : zeroV Try.prog 100 = some (.agg #[.slice none 0 0, .slice none 0 0, .slice none 0 0, .slice none 0 0, .slice none 0 0, .slice none 0 0, .slice none 0 0, .slice none 0 0, .slice none 0 0, .slice none 0 0]) := by kernel_rfl
theorem fo100_0 : fieldOff Try.prog 100 0 = some 0 := by kernel_rfl
theorem fo100_1 : fieldOff Try.prog 100 1 = some 1 := by kernel_rfl
theorem fo100_2 : fieldOff Try.prog 100 2 = some 2 := by kernel_rfl
theorem fo100_3 : fieldOff Try.prog 100 3 = some 3 := by kernel_rfl
theorem fo100_4 : fieldOff Try.prog 100 4 = some 4 := by kernel_rfl
theorem fo100_5 : fieldOff Try.prog 100 5 = some 5 := by kernel_rfl
theorem fo100_6 : fieldOff Try.prog 100 6 = some 6 := by kernel_rfl
theorem fo100_7 : fieldOff Try.prog 100 7 = some 7 := by kernel_rfl
theorem fo100_8 : fieldOff Try.prog 100 8 = some 8 := by kernel_rfl
theorem fo100_9 : fieldOff Try.prog 100 9 = some 9 := by kernel_rfl
theorem sp_100 : strPl Try.prog 100 = some ([(0, 1), (1, 1), (2, 1), (3, 1), (4, 1), (5, 1), (6, 1), (7, 1), (8, 1), (9, 1)], [.slice none 0 0, .slice none 0 0, .slice none 0 0, .slice none 0 0, .slice none 0 0, .slice none 0 0, .slice none 0 0, .slice none 0 0, .slice none 0 0, .slice none 0 0]) := by kernel_rfl
theorem c1_101 : cell1B Try.prog 101 = true := by kernel_rfl
theorem sz_101 : sizeV Try.prog 101 = some 1 := by kernel_rfl
theorem ze_101 : zeroV Try.prog 101 = some (.nilFunc) := by kernel_rfl
theorem c1_102 : cell1B Try.prog 102 = true := by kernel_rfl
theorem sz_102 : sizeV Try.prog 102 = some 1 := by kernel_rfl
theorem ze_102 : zeroV Try.prog 102 = some (.nilFunc) := by kernel_rfl
theorem c1_103 : cell1B Try.prog 103 = true := by kernel_rfl
theorem sz_103 : sizeV Try.prog 103 = some 1 := by kernel_rfl
theorem ze_103 : zeroV Try.prog 103 = some (.nilFunc) := by kernel_rfl
theorem c1_104 : cell1B Try.prog 104 = true := by kernel_rfl
theorem sz_104 : sizeV Try.prog 104 = some 1 := by kernel_rfl
theorem ze_104 : zeroV Try.prog 104 = some (.nilFunc) := by kernel_rfl
theorem c1_105 : cell1B Try.prog 105 = true := by kernel_rfl
theorem sz_105 : sizeV Try.prog 105 = some 1 := by kernel_rfl
theorem ze_105 : zeroV Try.prog 105 = some (.nilFunc) := by kernel_rfl
theorem c1_106 : cell1B Try.prog 106 = true := by kernel_rfl
theorem sz_106 : sizeV Try.prog 106 = some 1 := by kernel_rfl
theorem ze_106 : zeroV Try.prog 106 = some (.nilFunc) := by kernel_rfl
theorem c1_107 : cell1B Try.prog 107 = true := by kernel_rfl
theorem sz_107 : sizeV Try.prog 107 = some 1 := by kernel_rfl
theorem ze_107 : zeroV Try.prog 107 = some (.nilFunc) := by kernel_rfl
theorem c1_108 : cell1B Try.prog 108 = true := by kernel_rfl
theorem sz_108 : sizeV Try.prog 108 = some 1 := by kernel_rfl
theorem ze_108 : zeroV Try.prog 108 = some (.pointer none) := by kernel_rfl
theorem pt_108 : isPtrT Try.prog 108 = true := by kernel_rfl
theorem c1_109 : cell1B Try.prog 109 = true := by kernel_rfl
theorem sz_109 : sizeV Try.prog 109 = some 1 := by kernel_rfl
theorem ze_109 : zeroV Try.prog 109 = some (.nilFunc) := by kernel_rfl
theorem c1_110 : cell1B Try.prog 110 = true := by kernel_rfl
theorem sz_110 : sizeV Try.prog 110 = some 1 := by kernel_rfl
theorem ze_110 : zeroV Try.prog 110 = some (.int .i64 0) := by kernel_rfl
theorem in_110 : intT Try.prog 110 = some .i64 := by kernel_rfl
theorem c1_111 : cell1B Try.prog 111 = true := by kernel_rfl
theorem sz_111 : sizeV Try.prog 111 = some 1 := by kernel_rfl
theorem ze_111 : zeroV Try.prog 111 = some (.slice none 0 0) := by kernel_rfl
theorem el_111 : elT Try.prog 111 = some (130, 5, 48) := by kernel_rfl
theorem c1_112 : cell1B Try.prog 112 = true := by kernel_rfl
theorem sz_112 : sizeV Try.prog 112 = some 1 := by kernel_rfl
theorem ze_112 : zeroV Try.prog 112 = some (.slice none 0 0) := by kernel_rfl
theorem el_112 : elT Try.prog 112 = some (125, 2, 16) := by kernel_rfl
theorem c1_113 : cell1B Try.prog 113 = true := by kernel_rfl
theorem sz_113 : sizeV Try.prog 113 = some 1 := by kernel_rfl
theorem ze_113 : zeroV Try.prog 113 = some (.slice none 0 0) := by kernel_rfl
theorem el_113 : elT Try.prog 113 = some (125, 2, 16) := by kernel_rfl
theorem c1_114 : cell1B Try.prog 114 = true := by kernel_rfl
theorem sz_114 : sizeV Try.prog 114 = some 1 := by kernel_rfl
theorem ze_114 : zeroV Try.prog 114 = some (.slice none 0 0) := by kernel_rfl
theorem el_114 : elT Try.prog 114 = some (149, 4, 32) := by kernel_rfl
theorem c1_115 : cell1B Try.prog 115 = true := by kernel_rfl
theorem sz_115 : sizeV Try.prog 115 = some 1 := by kernel_rfl
theorem ze_115 : zeroV Try.prog 115 = some (.slice none 0 0) := by kernel_rfl
theorem el_115 : elT Try.prog 115 = some (151, 3, 24) := by kernel_rfl
theorem c1_116 : cell1B Try.prog 116 = true := by kernel_rfl
theorem sz_116 : sizeV Try.prog 116 = some 1 := by kernel_rfl
theorem ze_116 : zeroV Try.prog 116 = some (.slice none 0 0) := by kernel_rfl
theorem el_116 : elT Try.prog 116 = some (158, 6, 64) := by kernel_rfl
theorem c1_117 : cell1B Try.prog 117 = true := by kernel_rfl
theorem sz_117 : sizeV Try.prog 117 = some 1 := by kernel_rfl
theorem ze_117 : zeroV Try.prog 117 = some (.slice none 0 0) := by kernel_rfl
theorem el_117 : elT Try.prog 117 = some (160, 6, 64) := by kernel_rfl
theorem ag_118 : aggB Try.prog 118 12 = true := by kernel_rfl
theorem sz_118 : sizeV Try.prog 118 = some 12 := by kernel_rfl
theorem ze_118 : zeroV Try.prog 118 = some (.agg #[.int .i64 0, .int .i64 0, .int .i64 0, .int .i64 0, .slice none 0 0, .int .i64 0, .slice none 0 0, .int .i64 0, .slice none 0 0, .slice none 0 0, .slice none 0 0, .slice none 0 0]) := by kernel_rfl
theorem fo118_0 : fieldOff Try.prog 118 0 = some 0 := by kernel_rfl
theorem fo118_1 : fieldOff Try.prog 118 1 = some 1 := by kernel_rfl
theorem fo118_2 : fieldOff Try.prog 118 2 = some 2 := by kernel_rfl
theorem fo118_3 : fieldOff Try.prog 118 3 = some 3 := by kernel_rfl
theorem fo118_4 : fieldOff Try.prog 118 4 = some 4 := by kernel_rfl
theorem fo118_5 : fieldOff Try.prog 118 5 = some 5 := by kernel_rfl
theorem fo118_6 : fieldOff Try.prog 118 6 = some 6 := by kernel_rfl
theorem fo118_7 : fieldOff Try.prog 118 7 = some 7 := by kernel_rfl
theorem fo118_8 : fieldOff Try.prog 118 8 = some 8 := by kernel_rfl
theorem fo118_9 : fieldOff Try.prog 118 9 = some 9 := by kernel_rfl
theorem fo118_10 : fieldOff Try.prog 118 10 = some 10 := by kernel_rfl
theorem fo118_11 : fieldOff Try.prog 118 11 = some 11 := by kernel_rfl
theorem sp_118 : strPl Try.prog 118 = some ([(0, 1), (1, 1), (2, 1), (3, 1), (4, 1), (5, 1), (6, 1), (7, 1), (8, 1), (9, 1), (10, 1), (11, 1)], [.int .i64 0, .int .i64 0, .int .i64 0, .int .i64 0, .slice none 0 0, .int .i64 0, .slice none 0 0, .int .i64 0, .slice none 0 0, .slice none 0 0, .slice none 0 0, .slice none 0 0]) := by kernel_rfl
theorem ag_119 : aggB Try.prog 119 12 = true := by kernel_rfl
theorem sz_119 : sizeV Try.prog 119 = some 12 := by kernel_rfl
theorem ze_119 : zeroV Try.prog 119 = some (.agg #[.int .i64 0, .int .i64 0, .int .i64 0, .int .i64 0, .slice none 0 0, .int .i64 0, .slice none 0 0, .int .i64 0, .slice none 0 0, .slice none 0 0, .slice none 0 0, .slice none 0 0]) := by kernel_rfl
theorem fo119_0 : fieldOff Try.prog 119 0 = some 0 := by kernel_rfl
theorem fo119_1 : fieldOff Try.prog 119 1 = some 1 := by kernel_rfl
theorem fo119_2 : fieldOff Try.prog 119 2 = some 2 := by kernel_rfl
theorem fo119_3 : fieldOff Try.prog 119 3 = some 3 := by kernel_rfl
theorem fo119_4 : fieldOff Try.prog 119 4 = some 4 := by kernel_rfl
theorem fo119_5 : fieldOff Try.prog 119 5 = some 5 := by kernel_rfl
theorem fo119_6 : fieldOff Try.prog 119 6 = some 6 := by kernel_rfl
theorem fo119_7 : fieldOff Try.prog 119 7 = some 7 := by kernel_rfl
theorem fo119_8 : fieldOff Try.prog 119 8 = some 8 := by kernel_rfl
theorem fo119_9 : fieldOff Try.prog 119 9 = some 9 := by kernel_rfl
theorem fo119_10 : fieldOff Try.prog 119 10 = some 10 := by kernel_rfl
theorem fo119_11 : fieldOff Try.prog 119 11 = some 11 := by kernel_rfl
theorem sp_119 : strPl Try.prog 119 = some ([(0, 1), (1, 1), (2, 1), (3, 1), (4, 1), (5, 1), (6, 1), (7, 1), (8, 1), (9, 1), (10, 1), (11, 1)], [.int .i64 0, .int .i64 0, .int .i64 0, .int .i64 0, .slice none 0 0, .int .i64 0, .slice none 0 0, .int .i64 0, .slice none 0 0, .slice none 0 0, .slice none 0 0, .slice none 0 0]) := by kernel_rfl
theorem c1_120 : cell1B Try.prog 120 = true := by kernel_rfl
theorem sz_120 : sizeV Try.prog 120 = some 1 := by kernel_rfl
theorem ze_120 : zeroV Try.prog 120 = some (.nilFunc) := by kernel_rfl
theorem c1_121 : cell1B Try.prog 121 = true := by kernel_rfl
theorem sz_121 : sizeV Try.prog 121 = some 1 := by kernel_rfl
theorem ze_121 : zeroV Try.prog 121 = some (.nilFunc) := by kernel_rfl
theorem c1_122 : cell1B Try.prog 122 = true := by kernel_rfl
theorem sz_122 : sizeV Try.prog 122 = some 1 := by kernel_rfl
theorem ze_122 : zeroV Try.prog 122 = some (.nilFunc) := by kernel_rfl
theorem c1_123 : cell1B Try.prog 123 = true := by kernel_rfl
theorem sz_123 : sizeV Try.prog 123 = some 1 := by kernel_rfl
theorem ze_123 : zeroV Try.prog 123 = some (.int .u64 0) := by kernel_rfl
theorem in_123 : intT Try.prog 123 = some .u64 := by kernel_rfl
theorem ag_124 : aggB Try.prog 124 2 = true := by kernel_rfl
theorem sz_124 : sizeV Try.prog 124 = some 2 := by kernel_rfl
theorem ze_124 : zeroV Try.prog 124 = some (.agg #[.int .u64 0, .int .u64 0]) := by kernel_rfl
theorem fo124_0 : fieldOff Try.prog 124 0 = some 0 := by kernel_rfl
theorem fo124_1 : fieldOff Try.prog 124 1 = some 1 := by kernel_rfl
theorem sp_124 : strPl Try.prog 124 = some ([(0, 1), (1, 1)], [.int .u64 0, .int .u64 0]) := by kernel_rfl
theorem ag_125 : aggB Try.prog 125 2 = true := by kernel_rfl
theorem sz_125 : sizeV Try.prog 125 = some 2 := by kernel_rfl
theorem ze_125 : zeroV Try.prog 125 = some (.agg #[.int .u64 0, .int .u64 0]) := by kernel_rfl
theorem fo125_0 : fieldOff Try.prog 125 0 = some 0 := by kernel_rfl
theorem fo125_1 : fieldOff Try.prog 125 1 = some 1 := by kernel_rfl
theorem sp_125 : strPl Try.prog 125 = some ([(0, 1), (1, 1)], [.int .u64 0, .int .u64 0]) := by kernel_rfl
theorem c1_126 : cell1B Try.prog 126 = true := by kernel_rfl
theorem sz_126 : sizeV Try.prog 126 = some 1 := by kernel_rfl
theorem ze_126 : zeroV Try.prog 126 = some (.nilFunc) := by kernel_rfl
theorem ag_127 : aggB Try.prog 127 3 = true := by kernel_rfl
theorem sz_127 : sizeV Try.prog 127 = some 3 := by kernel_rfl
theorem ze_127 : zeroV Try.prog 127 = some (.agg #[.int .i64 0, .int .i64 0, .string ⟨#[]⟩]) := by kernel_rfl
theorem fo127_0 : fieldOff Try.prog 127 0 = some 0 := by kernel_rfl
theorem fo127_1 : fieldOff Try.prog 127 1 = some 1 := by kernel_rfl
theorem fo127_2 : fieldOff Try.prog 127 2 = some 2 := by kernel_rfl
theorem sp_127 : strPl Try.prog 127 = some ([(0, 1), (1, 1), (2, 1)], [.int .i64 0, .int .i64 0, .string ⟨#[]⟩]) := by kernel_rfl
theorem ag_128 : aggB Try.prog 128 3 = true := by kernel_rfl
theorem sz_128 : sizeV Try.prog 128 = some 3 := by kernel_rfl
theorem ze_128 : zeroV Try.prog 128 = some (.agg #[.int .i64 0, .int .i64 0, .string ⟨#[]⟩]) := by kernel_rfl
theorem fo128_0 : fieldOff Try.prog 128 0 = some 0 := by kernel_rfl
theorem fo128_1 : fieldOff Try.prog 128 1 = some 1 := by kernel_rfl
theorem fo128_2 : fieldOff Try.prog 128 2 = some 2 := by kernel_rfl
theorem sp_128 : strPl Try.prog 128 = some ([(0, 1), (1, 1), (2, 1)], [.int .i64 0, .int .i64 0, .string ⟨#[]⟩]) := by kernel_rfl
theorem ag_129 : aggB Try.prog 129 5 = true := by kernel_rfl
theorem sz_129 : sizeV Try.prog 129 = some 5 := by kernel_rfl
theorem ze_129 : zeroV Try.prog 129 = some (.agg #[.int .i64 0, .int .i64 0, .int .i64 0, .int .i64 0, .string ⟨#[]⟩]) := by kernel_rfl
theorem fo129_0 : fieldOff Try.prog 129 0 = some 0 := by kernel_rfl
theorem fo129_1 : fieldOff Try.prog 129 1 = some 1 := by kernel_rfl
theorem fo129_2 : fieldOff Try.prog 129 2 = some 2 := by kernel_rfl
theorem sp_129 : strPl Try.prog 129 = some ([(0, 1), (1, 1), (2, 3)], [.int .i64 0, .int .i64 0, .int .i64 0, .int .i64 0, .string ⟨#[]⟩]) := by kernel_rfl
theorem ag_130 : aggB Try.prog 130 5 = true := by kernel_rfl
theorem sz_130 : sizeV Try.prog 130 = some 5 := by kernel_rfl
theorem ze_130 : zeroV Try.prog 130 = some (.agg #[.int .i64 0, .int .i64 0, .int .i64 0, .int .i64 0, .string ⟨#[]⟩]) := by kernel_rfl
theorem fo130_0 : fieldOff Try.prog 130 0 = some 0 := by kernel_rfl
theorem fo130_1 : fieldOff Try.prog 130 1 = some 1 := by kernel_rfl
theorem fo130_2 : fieldOff Try.prog 130 2 = some 2 := by kernel_rfl
theorem sp_130 : strPl Try.prog 130 = some ([(0, 1), (1, 1), (2, 3)], [.int .i64 0, .int .i64 0, .int .i64 0, .int .i64 0, .string ⟨#[]⟩]) := by kernel_rfl
theorem c1_131 : cell1B Try.prog 131 = true := by kernel_rfl
theorem sz_131 : sizeV Try.prog 131 = some 1 := by kernel_rfl
theorem ze_131 : zeroV Try.prog 131 = some (.nilFunc) := by kernel_rfl
theorem c1_132 : cell1B Try.prog 132 = true := by kernel_rfl
theorem sz_132 : sizeV Try.prog 132 = some 1 := by kernel_rfl
theorem ze_132 : zeroV Try.prog 132 = some (.slice none 0 0) := by kernel_rfl
theorem el_132 : elT Try.prog 132 = some (134, 2, 24) := by kernel_rfl
theorem ag_133 : aggB Try.prog 133 2 = true := by kernel_rfl
theorem sz_133 : sizeV Try.prog 133 = some 2 := by kernel_rfl
theorem ze_133 : zeroV Try.prog 133 = some (.agg #[.int .i64 0, .string ⟨#[]⟩]) := by kernel_rfl
theorem fo133_0 : fieldOff Try.prog 133 0 = some 0 := by kernel_rfl
theorem fo133_1 : fieldOff Try.prog 133 1 = some 1 := by kernel_rfl
theorem sp_133 : strPl Try.prog 133 = some ([(0, 1), (1, 1)], [.int .i64 0, .string ⟨#[]⟩]) := by kernel_rfl
theorem ag_134 : aggB Try.prog 134 2 = true := by kernel_rfl
theorem sz_134 : sizeV Try.prog 134 = some 2 := by kernel_rfl
theorem ze_134 : zeroV Try.prog 134 = some (.agg #[.int .i64 0, .string ⟨#[]⟩]) := by kernel_rfl
theorem fo134_0 : fieldOff Try.prog 134 0 = some 0 := by kernel_rfl
theorem fo134_1 : fieldOff Try.prog 134 1 = some 1 := by kernel_rfl
theorem sp_134 : strPl Try.prog 134 = some ([(0, 1), (1, 1)], [.int .i64 0, .string ⟨#[]⟩]) := by kernel_rfl
theorem c1_135 : cell1B Try.prog 135 = true := by kernel_rfl
theorem sz_135 : sizeV Try.prog 135 = some 1 := by kernel_rfl
theorem ze_135 : zeroV Try.prog 135 = some (.nilFunc) := by kernel_rfl
theorem c1_136 : cell1B Try.prog 136 = true := by kernel_rfl
theorem sz_136 : sizeV Try.prog 136 = some 1 := by kernel_rfl
theorem ze_136 : zeroV Try.prog 136 = some (.slice none 0 0) := by kernel_rfl
theorem el_136 : elT Try.prog 136 = some (140, 7, 64) := by kernel_rfl
theorem ag_137 : aggB Try.prog 137 3 = true := by kernel_rfl
theorem sz_137 : sizeV Try.prog 137 = some 3 := by kernel_rfl
theorem ze_137 : zeroV Try.prog 137 = some (.agg #[.int .i64 0, .int .i64 0, .string ⟨#[]⟩]) := by kernel_rfl
theorem fo137_0 : fieldOff Try.prog 137 0 = some 0 := by kernel_rfl
theorem fo137_1 : fieldOff Try.prog 137 1 = some 1 := by kernel_rfl
theorem fo137_2 : fieldOff Try.prog 137 2 = some 2 := by kernel_rfl
theorem sp_137 : strPl Try.prog 137 = some ([(0, 1), (1, 1), (2, 1)], [.int .i64 0, .int .i64 0, .string ⟨#[]⟩]) := by kernel_rfl
theorem ag_138 : aggB Try.prog 138 3 = true := by kernel_rfl
theorem sz_138 : sizeV Try.prog 138 = some 3 := by kernel_rfl
theorem ze_138 : zeroV Try.prog 138 = some (.agg #[.int .i64 0, .int .i64 0, .string ⟨#[]⟩]) := by kernel_rfl
theorem fo138_0 : fieldOff Try.prog 138 0 = some 0 := by kernel_rfl
theorem fo138_1 : fieldOff Try.prog 138 1 = some 1 := by kernel_rfl
theorem fo138_2 : fieldOff Try.prog 138 2 = some 2 := by kernel_rfl
theorem sp_138 : strPl Try.prog 138 = some ([(0, 1), (1, 1), (2, 1)], [.int .i64 0, .int .i64 0, .string ⟨#[]⟩]) := by kernel_rfl
theorem ag_139 : aggB Try.prog 139 7 = true := by kernel_rfl
theorem sz_139 : sizeV Try.prog 139 = some 7 := by kernel_rfl
theorem ze_139 : zeroV Try.prog 139 = some (.agg #[.int .i64 0, .int .i64 0, .int .i64 0, .bool false, .int .i64 0, .int .i64 0, .string ⟨#[]⟩]) := by kernel_rfl
theorem fo139_0 : fieldOff Try.prog 139 0 = some 0 := by kernel_rfl
theorem fo139_1 : fieldOff Try.prog 139 1 = some 1 := by kernel_rfl
theorem fo139_2 : fieldOff Try.prog 139 2 = some 2 := by kernel_rfl
theorem fo139_3 : fieldOff Try.prog 139 3 = some 3 := by kernel_rfl
theorem fo139_4 : fieldOff Try.prog 139 4 = some 4 := by kernel_rfl
theorem sp_139 : strPl Try.prog 139 = some ([(0, 1), (1, 1), (2, 1), (3, 1), (4, 3)], [.int .i64 0, .int .i64 0, .int .i64 0, .bool false, .int .i64 0, .int .i64 0, .string ⟨#[]⟩]) := by kernel_rfl
theorem ag_140 : aggB Try.prog 140 7 = true := by kernel_rfl
theorem sz_140 : sizeV Try.prog 140 = some 7 := by kernel_rfl
theorem ze_140 : zeroV Try.prog 140 = some (.agg #[.int .i64 0, .int .i64 0, .int .i64 0, .bool false, .int .i64 0, .int .i64 0, .string ⟨#[]⟩]) := by kernel_rfl
theorem fo140_0 : fieldOff Try.prog 140 0 = some 0 := by kernel_rfl
theorem fo140_1 : fieldOff Try.prog 140 1 = some 1 := by kernel_rfl
theorem fo140_2 : fieldOff Try.prog 140 2 = some 2 := by kernel_rfl
theorem fo140_3 : fieldOff Try.prog 140 3 = some 3 := by kernel_rfl
theorem fo140_4 : fieldOff Try.prog 140 4 = some 4 := by kernel_rfl
theorem sp_140 : strPl Try.prog 140 = some ([(0, 1), (1, 1), (2, 1), (3, 1), (4, 3)], [.int .i64 0, .int .i64 0, .int .i64 0, .bool false, .int .i64 0, .int .i64 0, .string ⟨#[]⟩]) := by kernel_rfl
theorem c1_141 : cell1B Try.prog 141 = true := by kernel_rfl
theorem sz_141 : sizeV Try.prog 141 = some 1 := by kernel_rfl
theorem ze_141 : zeroV Try.prog 141 = some (.nilFunc) := by kernel_rfl
theorem c1_142 : cell1B Try.prog 142 = true := by kernel_rfl
theorem sz_142 : sizeV Try.prog 142 = some 1 := by kernel_rfl
theorem ze_142 : zeroV Try.prog 142 = some (.slice none 0 0) := by kernel_rfl
theorem el_142 : elT Try.prog 142 = some (138, 3, 32) := by kernel_rfl
theorem c1_143 : cell1B Try.prog 143 = true := by kernel_rfl
theorem sz_143 : sizeV Try.prog 143 = some 1 := by kernel_rfl
theorem ze_143 : zeroV Try.prog 143 = some (.nilFunc) := by kernel_rfl
theorem c1_144 : cell1B Try.prog 144 = true := by kernel_rfl
theorem sz_144 : sizeV Try.prog 144 = some 1 := by kernel_rfl
theorem ze_144 : zeroV Try.prog 144 = some (.slice none 0 0) := by kernel_rfl
theorem el_144 : elT Try.prog 144 = some (146, 3, 24) := by kernel_rfl
theorem ag_145 : aggB Try.prog 145 3 = true := by kernel_rfl
theorem sz_145 : sizeV Try.prog 145 = some 3 := by kernel_rfl
theorem ze_145 : zeroV Try.prog 145 = some (.agg #[.int .i64 0, .int .u64 0, .int .u64 0]) := by kernel_rfl
theorem fo145_0 : fieldOff Try.prog 145 0 = some 0 := by kernel_rfl
theorem fo145_1 : fieldOff Try.prog 145 1 = some 1 := by kernel_rfl
theorem sp_145 : strPl Try.prog 145 = some ([(0, 1), (1, 2)], [.int .i64 0, .int .u64 0, .int .u64 0]) := by kernel_rfl
theorem ag_146 : aggB Try.prog 146 3 = true := by kernel_rfl
theorem sz_146 : sizeV Try.prog 146 = some 3 := by kernel_rfl
theorem ze_146 : zeroV Try.prog 146 = some (.agg #[.int .i64 0, .int .u64 0, .int .u64 0]) := by kernel_rfl
theorem fo146_0 : fieldOff Try.prog 146 0 = some 0 := by kernel_rfl
theorem fo146_1 : fieldOff Try.prog 146 1 = some 1 := by kernel_rfl
theorem sp_146 : strPl Try.prog 146 = some ([(0, 1), (1, 2)], [.int .i64 0, .int .u64 0, .int .u64 0]) := by kernel_rfl
theorem c1_147 : cell1B Try.prog 147 = true := by kernel_rfl
theorem sz_147 : sizeV Try.prog 147 = some 1 := by kernel_rfl
theorem ze_147 : zeroV Try.prog 147 = some (.nilFunc) := by kernel_rfl
theorem ag_148 : aggB Try.prog 148 4 = true := by kernel_rfl
theorem sz_148 : sizeV Try.prog 148 = some 4 := by kernel_rfl
theorem ze_148 : zeroV Try.prog 148 = some (.agg #[.int .i64 0, .int .u64 0, .int .u64 0, .int .i64 0]) := by kernel_rfl
theorem fo148_0 : fieldOff Try.prog 148 0 = some 0 := by kernel_rfl
theorem fo148_1 : fieldOff Try.prog 148 1 = some 1 := by kernel_rfl
theorem fo148_2 : fieldOff Try.prog 148 2 = some 3 := by kernel_rfl
theorem sp_148 : strPl Try.prog 148 = some ([(0, 1), (1, 2), (3, 1)], [.int .i64 0, .int .u64 0, .int .u64 0, .int .i64 0]) := by kernel_rfl
theorem ag_149 : aggB Try.prog 149 4 = true := by kernel_rfl
theorem sz_149 : sizeV Try.prog 149 = some 4 := by kernel_rfl
theorem ze_149 : zeroV Try.prog 149 = some (.agg #[.int .i64 0, .int .u64 0, .int .u64 0, .int .i64 0]) := by kernel_rfl
theorem fo149_0 : fieldOff Try.prog 149 0 = some 0 := by kernel_rfl
theorem fo149_1 : fieldOff Try.prog 149 1 = some 1 := by kernel_rfl
theorem fo149_2 : fieldOff Try.prog 149 2 = some 3 := by kernel_rfl
theorem sp_149 : strPl Try.prog 149 = some ([(0, 1), (1, 2), (3, 1)], [.int .i64 0, .int .u64 0, .int .u64 0, .int .i64 0]) := by kernel_rfl
theorem c1_150 : cell1B Try.prog 150 = true := by kernel_rfl
theorem sz_150 : sizeV Try.prog 150 = some 1 := by kernel_rfl
theorem ze_150 : zeroV Try.prog 150 = some (.nilFunc) := by kernel_rfl
theorem ag_151 : aggB Try.prog 151 3 = true := by kernel_rfl
theorem sz_151 : sizeV Try.prog 151 = some 3 := by kernel_rfl
theorem ze_151 : zeroV Try.prog 151 = some (.agg #[.int .i64 0, .int .u64 0, .int .u64 0]) := by kernel_rfl
theorem fo151_0 : fieldOff Try.prog 151 0 = some 0 := by kernel_rfl
theorem fo151_1 : fieldOff Try.prog 151 1 = some 1 := by kernel_rfl
theorem sp_151 : strPl Try.prog 151 = some ([(0, 1), (1, 2)], [.int .i64 0, .int .u64 0, .int .u64 0]) := by kernel_rfl
theorem c1_152 : cell1B Try.prog 152 = true := by kernel_rfl
theorem sz_152 : sizeV Try.prog 152 = some 1 := by kernel_rfl
theorem ze_152 : zeroV Try.prog 152 = some (.nilFunc) := by kernel_rfl
theorem c1_153 : cell1B Try.prog 153 = true := by kernel_rfl
theorem sz_153 : sizeV Try.prog 153 = some 1 := by kernel_rfl
theorem ze_153 : zeroV Try.prog 153 = some (.nilFunc) := by kernel_rfl
theorem c1_154 : cell1B Try.prog 154 = true := by kernel_rfl
theorem sz_154 : sizeV Try.prog 154 = some 1 := by kernel_rfl
theorem ze_154 : zeroV Try.prog 154 = some (.nilFunc) := by kernel_rfl
theorem c1_155 : cell1B Try.prog 155 = true := by kernel_rfl
theorem sz_155 : sizeV Try.prog 155 = some 1 := by kernel_rfl
theorem ze_155 : zeroV Try.prog 155 = some (.nilFunc) := by kernel_rfl
theorem c1_156 : cell1B Try.prog 156 = true := by kernel_rfl
theorem sz_156 : sizeV Try.prog 156 = some 1 := by kernel_rfl
theorem ze_156 : zeroV Try.prog 156 = some (.nilFunc) := by kernel_rfl
theorem ag_157 : aggB Try.prog 157 6 = true := by kernel_rfl
theorem sz_157 : sizeV Try.prog 157 = some 6 := by kernel_rfl
theorem ze_157 : zeroV Try.prog 157 = some (.agg #[.int .i64 0, .int .u64 0, .int .u64 0, .int .i64 0, .int .i64 0, .slice none 0 0]) := by kernel_rfl
theorem fo157_0 : fieldOff Try.prog 157 0 = some 0 := by kernel_rfl
theorem fo157_1 : fieldOff Try.prog 157 1 = some 1 := by kernel_rfl
theorem fo157_2 : fieldOff Try.prog 157 2 = some 3 := by kernel_rfl
theorem fo157_3 : fieldOff Try.prog 157 3 = some 4 := by kernel_rfl
theorem fo157_4 : fieldOff Try.prog 157 4 = some 5 := by kernel_rfl
theorem sp_157 : strPl Try.prog 157 = some ([(0, 1), (1, 2), (3, 1), (4, 1), (5, 1)], [.int .i64 0, .int .u64 0, .int .u64 0, .int .i64 0, .int .i64 0, .slice none 0 0]) := by kernel_rfl
theorem ag_158 : aggB Try.prog 158 6 = true := by kernel_rfl
theorem sz_158 : sizeV Try.prog 158 = some 6 := by kernel_rfl
theorem ze_158 : zeroV Try.prog 158 = some (.agg #[.int .i64 0, .int .u64 0, .int .u64 0, .int .i64 0, .int .i64 0, .slice none 0 0]) := by kernel_rfl
theorem fo158_0 : fieldOff Try.prog 158 0 = some 0 := by kernel_rfl
theorem fo158_1 : fieldOff Try.prog 158 1 = some 1 := by kernel_rfl
theorem fo158_2 : fieldOff Try.prog 158 2 = some 3 := by kernel_rfl
theorem fo158_3 : fieldOff Try.prog 158 3 = some 4 := by kernel_rfl
theorem fo158_4 : fieldOff Try.prog 158 4 = some 5 := by kernel_rfl
theorem sp_158 : strPl Try.prog 158 = some ([(0, 1), (1, 2), (3, 1), (4, 1), (5, 1)], [.int .i64 0, .int .u64 0, .int .u64 0, .int .i64 0, .int .i64 0, .slice none 0 0]) := by kernel_rfl
theorem ag_159 : aggB Try.prog 159 6 = true := by kernel_rfl
theorem sz_159 : sizeV Try.prog 159 = some 6 := by kernel_rfl
theorem ze_159 : zeroV Try.prog 159 = some (.agg #[.int .i64 0, .int .u64 0, .int .u64 0, .int .i64 0, .int .i64 0, .slice none 0 0]) := by kernel_rfl
theorem fo159_0 : fieldOff Try.prog 159 0 = some 0 := by kernel_rfl
theorem fo159_1 : fieldOff Try.prog 159 1 = some 1 := by kernel_rfl
theorem fo159_2 : fieldOff Try.prog 159 2 = some 3 := by kernel_rfl
theorem fo159_3 : fieldOff Try.prog 159 3 = some 4 := by kernel_rfl
theorem fo159_4 : fieldOff Try.prog 159 4 = some 5 := by kernel_rfl
theorem sp_159 : strPl Try.prog 159 = some ([(0, 1), (1, 2), (3, 1), (4, 1), (5, 1)], [.int .i64 0, .int .u64 0, .int .u64 0, .int .i64 0, .int .i64 0, .slice none 0 0]) := by kernel_rfl
theorem ag_160 : aggB Try.prog 160 6 = true := by kernel_rfl
theorem sz_160 : sizeV Try.prog 160 = some 6 := by kernel_rfl
theorem ze_160 : zeroV Try.prog 160 = some (.agg #[.int .i64 0, .int .u64 0, .int .u64 0, .int .i64 0, .int .i64 0, .slice none 0 0]) := by kernel_rfl
theorem fo160_0 : fieldOff Try.prog 160 0 = some 0 := by kernel_rfl
theorem fo160_1 : fieldOff Try.prog 160 1 = some 1 := by kernel_rfl
theorem fo160_2 : fieldOff Try.prog 160 2 = some 3 := by kernel_rfl
theorem fo160_3 : fieldOff Try.prog 160 3 = some 4 := by kernel_rfl
theorem fo160_4 : fieldOff Try.prog 160 4 = some 5 := by kernel_rfl
theorem sp_160 : strPl Try.prog 160 = some ([(0, 1), (1, 2), (3, 1), (4, 1), (5, 1)], [.int .i64 0, .int .u64 0, .int .u64 0, .int .i64 0, .int .i64 0, .slice none 0 0]) := by kernel_rfl
theorem c1_161 : cell1B Try.prog 161 = true := by kernel_rfl
theorem sz_161 : sizeV Try.prog 161 = some 1 := by kernel_rfl
theorem ze_161 : zeroV Try.prog 161 = some (.nilFunc) := by kernel_rfl
theorem ag_162 : aggB Try.prog 162 4 = true := by kernel_rfl
theorem sz_162 : sizeV Try.prog 162 = some 4 := by kernel_rfl
theorem ze_162 : zeroV Try.prog 162 = some (.agg #[.pointer none, .pointer none, .pointer none, .string ⟨#[]⟩]) := by kernel_rfl
theorem fo162_0 : fieldOff Try.prog 162 0 = some 0 := by kernel_rfl
theorem fo162_1 : fieldOff Try.prog 162 1 = some 1 := by kernel_rfl
theorem fo162_2 : fieldOff Try.prog 162 2 = some 2 := by kernel_rfl
theorem fo162_3 : fieldOff Try.prog 162 3 = some 3 := by kernel_rfl
theorem sp_162 : strPl Try.prog 162 = some ([(0, 1), (1, 1), (2, 1), (3, 1)], [.pointer none, .pointer none, .pointer none, .string ⟨#[]⟩]) := by kernel_rfl
theorem ag_163 : aggB Try.prog 163 4 = true := by kernel_rfl
theorem sz_163 : sizeV Try.prog 163 = some 4 := by kernel_rfl
theorem ze_163 : zeroV Try.prog 163 = some (.agg #[.pointer none, .pointer none, .pointer none, .string ⟨#[]⟩]) := by kernel_rfl
theorem fo163_0 : fieldOff Try.prog 163 0 = some 0 := by kernel_rfl
theorem fo163_1 : fieldOff Try.prog 163 1 = some 1 := by kernel_rfl
theorem fo163_2 : fieldOff Try.prog 163 2 = some 2 := by kernel_rfl
theorem fo163_3 : fieldOff Try.prog 163 3 = some 3 := by kernel_rfl
theorem sp_163 : strPl Try.prog 163 = some ([(0, 1), (1, 1), (2, 1), (3, 1)], [.pointer none, .pointer none, .pointer none, .string ⟨#[]⟩]) := by kernel_rfl
theorem ag_164 : aggB Try.prog 164 0 = true := by kernel_rfl
theorem sz_164 : sizeV Try.prog 164 = some 0 := by kernel_rfl
theorem ze_164 : zeroV Try.prog 164 = some (.agg #[]) := by kernel_rfl
theorem ar_164 : arrT Try.prog 164 = some (0, 16, 1) := by kernel_rfl
theorem ag_165 : aggB Try.prog 165 0 = true := by kernel_rfl
theorem sz_165 : sizeV Try.prog 165 = some 0 := by kernel_rfl
theorem ze_165 : zeroV Try.prog 165 = some (.agg #[]) := by kernel_rfl
theorem sp_165 : strPl Try.prog 165 = some ([(0, 0)], []) := by kernel_rfl
theorem ag_166 : aggB Try.prog 166 0 = true := by kernel_rfl
theorem sz_166 : sizeV Try.prog 166 = some 0 := by kernel_rfl
theorem ze_166 : zeroV Try.prog 166 = some (.agg #[]) := by kernel_rfl
theorem sp_166 : strPl Try.prog 166 = some ([(0, 0)], []) := by kernel_rfl
theorem c1_167 : cell1B Try.prog 167 = true := by kernel_rfl
theorem sz_167 : sizeV Try.prog 167 = some 1 := by kernel_rfl
theorem ze_167 : zeroV Try.prog 167 = some (.int .u32 0) := by kernel_rfl
theorem in_167 : intT Try.prog 167 = some .u32 := by kernel_rfl
theorem c1_168 : cell1B Try.prog 168 = true := by kernel_rfl
theorem sz_168 : sizeV Try.prog 168 = some 1 := by kernel_rfl
theorem ze_168 : zeroV Try.prog 168 = some (.int .u8 0) := by kernel_rfl
theorem in_168 : intT Try.prog 168 = some .u8 := by kernel_rfl
theorem c1_169 : cell1B Try.prog 169 = true := by kernel_rfl
theorem sz_169 : sizeV Try.prog 169 = some 1 := by kernel_rfl
theorem ze_169 : zeroV Try.prog 169 = some (.int .u8 0) := by kernel_rfl
theorem in_169 : intT Try.prog 169 = some .u8 := by kernel_rfl
theorem c1_170 : cell1B Try.prog 170 = true := by kernel_rfl
theorem sz_170 : sizeV Try.prog 170 = some 1 := by kernel_rfl
theorem ze_170 : zeroV Try.prog 170 = some (.nilFunc) := by kernel_rfl
theorem c1_171 : cell1B Try.prog 171 = true := by kernel_rfl
theorem sz_171 : sizeV Try.prog 171 = some 1 := by kernel_rfl
theorem ze_171 : zeroV Try.prog 171 = some (.pointer none) := by kernel_rfl
theorem pt_171 : isPtrT Try.prog 171 = true := by kernel_rfl
theorem c1_172 : cell1B Try.prog 172 = true := by kernel_rfl
theorem sz_172 : sizeV Try.prog 172 = some 1 := by kernel_rfl
theorem ze_172 : zeroV Try.prog 172 = some (.int .i32 0) := by kernel_rfl
theorem in_172 : intT Try.prog 172 = some .i32 := by kernel_rfl
theorem c1_173 : cell1B Try.prog 173 = true := by kernel_rfl
theorem sz_173 : sizeV Try.prog 173 = some 1 := by kernel_rfl
theorem ze_173 : zeroV Try.prog 173 = some (.int .i32 0) := by kernel_rfl
theorem in_173 : intT Try.prog 173 = some .i32 := by kernel_rfl
theorem ag_174 : aggB Try.prog 174 11 = true := by kernel_rfl
theorem sz_174 : sizeV Try.prog 174 = some 11 := by kernel_rfl
theorem ze_174 : zeroV Try.prog 174 = some (.agg #[.int .u64 0, .int .u64 0, .int .u32 0, .int .u8 0, .int .u8 0, .int .u8 0, .int .u8 0, .nilFunc, .pointer none, .int .i32 0, .int .i32 0]) := by kernel_rfl
theorem fo174_0 : fieldOff Try.prog 174 0 = some 0 := by kernel_rfl
theorem fo174_1 : fieldOff Try.prog 174 1 = some 1 := by kernel_rfl
theorem fo174_2 : fieldOff Try.prog 174 2 = some 2 := by kernel_rfl
theorem fo174_3 : fieldOff Try.prog 174 3 = some 3 := by kernel_rfl
theorem fo174_4 : fieldOff Try.prog 174 4 = some 4 := by kernel_rfl
theorem fo174_5 : fieldOff Try.prog 174 5 = some 5 := by kernel_rfl
theorem fo174_6 : fieldOff Try.prog 174 6 = some 6 := by kernel_rfl
theorem fo174_7 : fieldOff Try.prog 174 7 = some 7 := by kernel_rfl
theorem fo174_8 : fieldOff Try.prog 174 8 = some 8 := by kernel_rfl
theorem fo174_9 : fieldOff Try.prog 174 9 = some 9 := by kernel_rfl
theorem fo174_10 : fieldOff Try.prog 174 10 = some 10 := by kernel_rfl
theorem sp_174 : strPl Try.prog 174 = some ([(0, 1), (1, 1), (2, 1), (3, 1), (4, 1), (5, 1), (6, 1), (7, 1), (8, 1), (9, 1), (10, 1)], [.int .u64 0, .int .u64 0, .int .u32 0, .int .u8 0, .int .u8 0, .int .u8 0, .int .u8 0, .nilFunc, .pointer none, .int .i32 0, .int .i32 0]) := by kernel_rfl
theorem ag_175 : aggB Try.prog 175 11 = true := by kernel_rfl
theorem sz_175 : sizeV Try.prog 175 = some 11 := by kernel_rfl
theorem ze_175 : zeroV Try.prog 175 = some (.agg #[.int .u64 0, .int .u64 0, .int .u32 0, .int .u8 0, .int .u8 0, .int .u8 0, .int .u8 0, .nilFunc, .pointer none, .int .i32 0, .int .i32 0]) := by kernel_rfl
theorem fo175_0 : fieldOff Try.prog 175 0 = some 0 := by kernel_rfl
theorem fo175_1 : fieldOff Try.prog 175 1 = some 1 := by kernel_rfl
theorem fo175_2 : fieldOff Try.prog 175 2 = some 2 := by kernel_rfl
theorem fo175_3 : fieldOff Try.prog 175 3 = some 3 := by kernel_rfl
theorem fo175_4 : fieldOff Try.prog 175 4 = some 4 := by kernel_rfl
theorem fo175_5 : fieldOff Try.prog 175 5 = some 5 := by kernel_rfl
theorem fo175_6 : fieldOff Try.prog 175 6 = some 6 := by kernel_rfl
theorem fo175_7 : fieldOff Try.prog 175 7 = some 7 := by kernel_rfl
theorem fo175_8 : fieldOff Try.prog 175 8 = some 8 := by kernel_rfl
theorem fo175_9 : fieldOff Try.prog 175 9 = some 9 := by kernel_rfl
theorem fo175_10 : fieldOff Try.prog 175 10 = some 10 := by kernel_rfl
theorem sp_175 : strPl Try.prog 175 = some ([(0, 1), (1, 1), (2, 1), (3, 1), (4, 1), (5, 1), (6, 1), (7, 1), (8, 1), (9, 1), (10, 1)], [.int .u64 0, .int .u64 0, .int .u32 0, .int .u8 0, .int .u8 0, .int .u8 0, .int .u8 0, .nilFunc, .pointer none, .int .i32 0, .int .i32 0]) := by kernel_rfl
theorem c1_176 : cell1B Try.prog 176 = true := by kernel_rfl
theorem sz_176 : sizeV Try.prog 176 = some 1 := by kernel_rfl
theorem ze_176 : zeroV Try.prog 176 = some (.pointer none) := by kernel_rfl
theorem cb_2 : callB Try.prog 2 = true := by kernel_rfl
theorem cb_3 : callB Try.prog 3 = true := by kernel_rfl
theorem cb_4 : callB Try.prog 4 = true := by kernel_rfl
theorem cb_5 : callB Try.prog 5 = true := by kernel_rfl
theorem cb_6 : callB Try.prog 6 = true := by kernel_rfl
theorem cb_7 : callB Try.prog 7 = true := by kernel_rfl
theorem cb_8 : callB Try.prog 8 = true := by kernel_rfl
theorem cb_9 : callB Try.prog 9 = true := by kernel_rfl
theorem cb_10 : callB Try.prog 10 = true := by kernel_rfl
theorem cb_11 : callB Try.prog 11 = true := by kernel_rfl
theorem cb_12 : callB Try.prog 12 = true := by kernel_rfl
theorem cb_13 : callB Try.prog 13 = true := by kernel_rfl
theorem cb_14 : callB Try.prog 14 = true := by kernel_rfl
theorem cb_15 : callB Try.prog 15 = true := by kernel_rfl
theorem cb_16 : callB Try.prog 16 = true := by kernel_rfl
theorem cb_17 : callB Try.prog 17 = true := by kernel_rfl
theorem cb_18 : callB Try.prog 18 = true := by kernel_rfl
theorem cb_19 : callB Try.prog 19 = true := by kernel_rfl
theorem cb_20 : callB Try.prog 20 = true := by kernel_rfl
theorem cb_21 : callB Try.prog 21 = true := by kernel_rfl
theorem cb_22 : callB Try.prog 22 = true := by kernel_rfl
theorem cb_23 : callB Try.prog 23 = true := by kernel_rfl
theorem cb_24 : callB Try.prog 24 = true := by kernel_rfl
theorem cb_25 : callB Try.prog 25 = true := by kernel_rfl
theorem cb_26 : callB Try.prog 26 = true := by kernel_rfl
theorem cb_27 : callB Try.prog 27 = true := by kernel_rfl
theorem cb_28 : callB Try.prog 28 = true := by kernel_rfl
theorem cb_29 : callB Try.prog 29 = true := by kernel_rfl
theorem cb_30 : callB Try.prog 30 = true := by kernel_rfl
theorem cb_31 : callB Try.prog 31 = true := by kernel_rfl
theorem cb_32 : callB Try.prog 32 = true := by kernel_rfl
theorem cb_33 : callB Try.prog 33 = true := by kernel_rfl
theorem cb_34 : callB Try.prog 34 = true := by kernel_rfl
theorem cb_35 : callB Try.prog 35 = true := by kernel_rfl
theorem cb_36 : callB Try.prog 36 = true := by kernel_rfl
theorem cb_37 : callB Try.prog 37 = true := by kernel_rfl
theorem cb_38 : callB Try.prog 38 = true := by kernel_rfl
theorem cb_39 : callB Try.prog 39 = true := by kernel_rfl
theorem cb_40 : callB Try.prog 40 = true := by kernel_rfl
theorem cb_41 : callB Try.prog 41 = true := by kernel_rfl
theorem cb_42 : callB Try.prog 42 = true := by kernel_rfl
theorem cb_43 : callB Try.prog 43 = true := by kernel_rfl
theorem cb_44 : callB Try.prog 44 = true := by kernel_rfl
theorem cb_45 : callB Try.prog 45 = true := by kernel_rfl
theorem cb_46 : callB Try.prog 46 = true := by kernel_rfl
theorem cb_47 : callB Try.prog 47 = true := by kernel_rfl
theorem cb_48 : callB Try.prog 48 = true := by kernel_rfl
theorem cb_49 : callB Try.prog 49 = true := by kernel_rfl
theorem cb_50 : callB Try.prog 50 = true := by kernel_rfl
theorem cb_51 : callB Try.prog 51 = true := by kernel_rfl
theorem cb_52 : callB Try.prog 52 = true := by kernel_rfl
theorem cb_53 : callB Try.prog 53 = true := by kernel_rfl
theorem cb_54 : callB Try.prog 54 = true := by kernel_rfl
theorem cb_55 : callB Try.prog 55 = true := by kernel_rfl
theorem cb_56 : callB Try.prog 56 = true := by kernel_rfl
theorem cb_57 : callB Try.prog 57 = true := by kernel_rfl
theorem cb_58 : callB Try.prog 58 = true := by kernel_rfl
theorem cb_59 : callB Try.prog 59 = true := by kernel_rfl
theorem cb_60 : callB Try.prog 60 = true := by kernel_rfl
theorem cb_61 : callB Try.prog 61 = true := by kernel_rfl
theorem cb_62 : callB Try.prog 62 = true := by kernel_rfl
theorem cb_63 : callB Try.prog 63 = true := by kernel_rfl
theorem cb_64 : callB Try.prog 64 = true := by kernel_rfl
theorem cb_65 : callB Try.prog 65 = true := by kernel_rfl
theorem cb_66 : callB Try.prog 66 = true := by kernel_rfl
theorem cb_67 : callB Try.prog 67 = true := by kernel_rfl
theorem cb_68 : callB Try.prog 68 = true := by kernel_rfl
theorem cb_69 : callB Try.prog 69 = true := by kernel_rfl
theorem cb_70 : callB Try.prog 70 = true := by kernel_rfl
theorem cb_71 : callB Try.prog 71 = true := by kernel_rfl
theorem cb_72 : callB Try.prog 72 = true := by kernel_rfl
theorem cb_73 : callB Try.prog 73 = true := by kernel_rfl
theorem cb_74 : callB Try.prog 74 = true := by kernel_rfl
theorem cb_75 : callB Try.prog 75 = true := by kernel_rfl
theorem cb_76 : callB Try.prog 76 = true := by kernel_rfl
theorem cb_77 : callB Try.prog 77 = true := by kernel_rfl
theorem cb_78 : callB Try.prog 78 = true := by kernel_rfl
theorem cb_79 : callB Try.prog 79 = true := by kernel_rfl
theorem cb_80 : callB Try.prog 80 = true := by kernel_rfl
theorem cb_81 : callB Try.prog 81 = true := by kernel_rfl
theorem cb_82 : callB Try.prog 82 = true := by kernel_rfl
theorem cb_83 : callB Try.prog 83 = true := by kernel_rfl
theorem cb_84 : callB Try.prog 84 = true := by kernel_rfl
theorem cb_85 : callB Try.prog 85 = true := by kernel_rfl
theorem cb_86 : callB Try.prog 86 = true := by kernel_rfl
theorem cb_87 : callB Try.prog 87 = true := by kernel_rfl
theorem cb_88 : callB Try.prog 88 = true := by kernel_rfl
theorem cb_89 : callB Try.prog 89 = true := by kernel_rfl
theorem cb_90 : callB Try.prog 90 = true := by kernel_rfl
theorem cb_91 : callB Try.prog 91 = true := by kernel_rfl
theorem cb_92 : callB Try.prog 92 = true := by kernel_rfl
theorem cb_93 : callB Try.prog 93 = true := by kernel_rfl
theorem cb_94 : callB Try.prog 94 = true := by kernel_rfl
theorem cb_95 : callB Try.prog 95 = true := by kernel_rfl
theorem cb_96 : callB Try.prog 96 = true := by kernel_rfl
theorem cb_97 : callB Try.prog 97 = true := by kernel_rfl
theorem cb_98 : callB Try.prog 98 = true := by kernel_rfl
theorem cb_99 : callB Try.prog 99 = true := by kernel_rfl
theorem cb_100 : callB Try.prog 100 = true := by kernel_rfl
theorem cb_101 : callB Try.prog 101 = true := by kernel_rfl
theorem cb_102 : callB Try.prog 102 = true := by kernel_rfl
theorem mixed : Try.prog.follows .mixedOrders = true := by kernel_rfl
end Go.Proofs.Ytmgcmgfjaimlnaa
