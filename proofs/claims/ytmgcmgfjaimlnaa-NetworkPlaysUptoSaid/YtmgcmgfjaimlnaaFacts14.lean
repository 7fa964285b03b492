/- Closed facts of this translation's tables, reckoned by the kernel; no conditions. -/
import Derived.Test.YtmgcmgfjaimlnaaBaseAll
import Derived.Test.YtmgcmgfjaimlnaaProg
namespace Go.Proofs.Ytmgcmgfjaimlnaa
open Go.EW
theorem c1_3 : cell1B Try.prog 3 = true := by kernel_rfl
theorem sz_3 : sizeV Try.prog 3 = some 1 := by kernel_rfl
theorem ze_3 : zeroV Try.prog 3 = some (.int .i64 0) := by kernel_rfl
theorem c1_4 : cell1B Try.prog 4 = true := by kernel_rfl
theorem sz_4 : sizeV Try.prog 4 = some 1 := by kernel_rfl
theorem ze_4 : zeroV Try.prog 4 = some (.bool false) := by kernel_rfl
theorem bo_4 : isBoolT Try.prog 4 = true := by kernel_rfl
theorem c1_5 : cell1B Try.prog 5 = true := by kernel_rfl
theorem sz_5 : sizeV Try.prog 5 = some 1 := by kernel_rfl
theorem ze_5 : zeroV Try.prog 5 = some (.int .u8 0) := by kernel_rfl
theorem in_5 : intT Try.prog 5 = some .u8 := by kernel_rfl
theorem c1_9 : cell1B Try.prog 9 = true := by kernel_rfl
theorem st_9 : isStrT Try.prog 9 = true := by kernel_rfl
theorem c1_22 : cell1B Try.prog 22 = true := by kernel_rfl
theorem sz_22 : sizeV Try.prog 22 = some 1 := by kernel_rfl
theorem ze_22 : zeroV Try.prog 22 = some (.slice none 0 0) := by kernel_rfl
theorem el_22 : elT Try.prog 22 = some (31, 3, 40) := by kernel_rfl
theorem c1_23 : cell1B Try.prog 23 = true := by kernel_rfl
theorem sz_23 : sizeV Try.prog 23 = some 1 := by kernel_rfl
theorem ze_23 : zeroV Try.prog 23 = some (.slice none 0 0) := by kernel_rfl
theorem el_23 : elT Try.prog 23 = some (3, 1, 8) := by kernel_rfl
theorem pt_24 : isPtrT Try.prog 24 = true := by kernel_rfl
theorem c1_29 : cell1B Try.prog 29 = true := by kernel_rfl
theorem sz_29 : sizeV Try.prog 29 = some 1 := by kernel_rfl
theorem ze_29 : zeroV Try.prog 29 = some (.slice none 0 0) := by kernel_rfl
theorem el_29 : elT Try.prog 29 = some (5, 1, 1) := by kernel_rfl
theorem by_29 : isBytesT Try.prog 29 = true := by kernel_rfl
theorem ag_31 : aggB Try.prog 31 3 = true := by kernel_rfl
theorem sz_31 : sizeV Try.prog 31 = some 3 := by kernel_rfl
theorem ze_31 : zeroV Try.prog 31 = some (.agg #[.int .i64 0, .int .i64 0, .slice none 0 0]) := by kernel_rfl
theorem fo31_0 : fieldOff Try.prog 31 0 = some 0 := by kernel_rfl
theorem fo31_1 : fieldOff Try.prog 31 1 = some 1 := by kernel_rfl
theorem fo31_2 : fieldOff Try.prog 31 2 = some 2 := by kernel_rfl
theorem sp_31 : strPl Try.prog 31 = some ([(0, 1), (1, 1), (2, 1)], [.int .i64 0, .int .i64 0, .slice none 0 0]) := by kernel_rfl
theorem el_39 : elT Try.prog 39 = some (41, 8, 80) := by kernel_rfl
theorem ag_41 : aggB Try.prog 41 8 = true := by kernel_rfl
theorem fo41_0 : fieldOff Try.prog 41 0 = some 0 := by kernel_rfl
theorem fo41_1 : fieldOff Try.prog 41 1 = some 1 := by kernel_rfl
theorem fo41_2 : fieldOff Try.prog 41 2 = some 2 := by kernel_rfl
theorem fo41_3 : fieldOff Try.prog 41 3 = some 3 := by kernel_rfl
theorem fo41_4 : fieldOff Try.prog 41 4 = some 4 := by kernel_rfl
theorem fo41_5 : fieldOff Try.prog 41 5 = some 7 := by kernel_rfl
theorem sp_41 : strPl Try.prog 41 = some ([(0, 1), (1, 1), (2, 1), (3, 1), (4, 3), (7, 1)], [.int .i64 0, .int .i64 0, .int .i64 0, .int .u8 0, .int .i64 0, .int .i64 0, .slice none 0 0, .bool false]) := by kernel_rfl
theorem c1_61 : cell1B Try.prog 61 = true := by kernel_rfl
theorem pt_61 : isPtrT Try.prog 61 = true := by kernel_rfl
theorem c1_64 : cell1B Try.prog 64 = true := by kernel_rfl
theorem sz_64 : sizeV Try.prog 64 = some 1 := by kernel_rfl
theorem el_64 : elT Try.prog 64 = some (29, 1, 24) := by kernel_rfl
theorem c1_65 : cell1B Try.prog 65 = true := by kernel_rfl
theorem sz_65 : sizeV Try.prog 65 = some 1 := by kernel_rfl
theorem el_65 : elT Try.prog 65 = some (23, 1, 24) := by kernel_rfl
theorem c1_66 : cell1B Try.prog 66 = true := by kernel_rfl
theorem el_66 : elT Try.prog 66 = some (113, 1, 24) := by kernel_rfl
theorem c1_67 : cell1B Try.prog 67 = true := by kernel_rfl
theorem el_67 : elT Try.prog 67 = some (111, 1, 24) := by kernel_rfl
theorem c1_68 : cell1B Try.prog 68 = true := by kernel_rfl
theorem el_68 : elT Try.prog 68 = some (132, 1, 24) := by kernel_rfl
theorem c1_69 : cell1B Try.prog 69 = true := by kernel_rfl
theorem el_69 : elT Try.prog 69 = some (136, 1, 24) := by kernel_rfl
theorem c1_70 : cell1B Try.prog 70 = true := by kernel_rfl
theorem el_70 : elT Try.prog 70 = some (142, 1, 24) := by kernel_rfl
theorem c1_71 : cell1B Try.prog 71 = true := by kernel_rfl
theorem el_71 : elT Try.prog 71 = some (144, 1, 24) := by kernel_rfl
theorem c1_72 : cell1B Try.prog 72 = true := by kernel_rfl
theorem el_72 : elT Try.prog 72 = some (114, 1, 24) := by kernel_rfl
theorem c1_73 : cell1B Try.prog 73 = true := by kernel_rfl
theorem el_73 : elT Try.prog 73 = some (115, 1, 24) := by kernel_rfl
theorem ze_75 : zeroV Try.prog 75 = some (.agg #[.slice none 0 0, .slice none 0 0, .slice none 0 0, .slice none 0 0, .slice none 0 0, .slice none 0 0, .slice none 0 0, .slice none 0 0, .slice none 0 0, .slice none 0 0]) := by kernel_rfl
theorem fo75_0 : fieldOff Try.prog 75 0 = some 0 := by kernel_rfl
theorem fo75_1 : fieldOff Try.prog 75 1 = some 1 := by kernel_rfl
theorem fo75_2 : fieldOff Try.prog 75 2 = some 2 := by kernel_rfl
theorem fo75_3 : fieldOff Try.prog 75 3 = some 3 := by kernel_rfl
theorem fo75_4 : fieldOff Try.prog 75 4 = some 4 := by kernel_rfl
theorem fo75_5 : fieldOff Try.prog 75 5 = some 5 := by kernel_rfl
theorem fo75_6 : fieldOff Try.prog 75 6 = some 6 := by kernel_rfl
theorem fo75_7 : fieldOff Try.prog 75 7 = some 7 := by kernel_rfl
theorem fo75_8 : fieldOff Try.prog 75 8 = some 8 := by kernel_rfl
theorem fo75_9 : fieldOff Try.prog 75 9 = some 9 := by kernel_rfl
theorem c1_77 : cell1B Try.prog 77 = true := by kernel_rfl
theorem c1_82 : cell1B Try.prog 82 = true := by kernel_rfl
theorem mp_82 : mapB Try.prog 82 88 3 = true := by kernel_rfl
theorem ky_88 : kyB Try.prog 88 = true := by kernel_rfl
theorem fo84_0 : fieldOff Try.prog 84 0 = some 0 := by kernel_rfl
theorem fo84_1 : fieldOff Try.prog 84 1 = some 1 := by kernel_rfl
theorem fo84_2 : fieldOff Try.prog 84 2 = some 2 := by kernel_rfl
theorem fo84_3 : fieldOff Try.prog 84 3 = some 3 := by kernel_rfl
theorem fo84_4 : fieldOff Try.prog 84 4 = some 4 := by kernel_rfl
theorem fo84_5 : fieldOff Try.prog 84 5 = some 5 := by kernel_rfl
theorem sp_84 : strPl Try.prog 84 = some ([(0, 1), (1, 1), (2, 1), (3, 1), (4, 1), (5, 1)], [.int .i64 0, .int .i64 0, .slice none 0 0, .slice none 0 0, .map none, .map none]) := by kernel_rfl
theorem ag_88 : aggB Try.prog 88 3 = true := by kernel_rfl
theorem sz_88 : sizeV Try.prog 88 = some 3 := by kernel_rfl
theorem ze_88 : zeroV Try.prog 88 = some (.agg #[.int .i64 0, .int .i64 0, .string ⟨#[]⟩]) := by kernel_rfl
theorem fo88_2 : fieldOff Try.prog 88 2 = some 2 := by kernel_rfl
theorem sp_88 : strPl Try.prog 88 = some ([(0, 1), (1, 1), (2, 1)], [.int .i64 0, .int .i64 0, .string ⟨#[]⟩]) := by kernel_rfl
theorem c1_94 : cell1B Try.prog 94 = true := by kernel_rfl
theorem fo97_0 : fieldOff Try.prog 97 0 = some 0 := by kernel_rfl
theorem fo97_1 : fieldOff Try.prog 97 1 = some 1 := by kernel_rfl
theorem fo97_2 : fieldOff Try.prog 97 2 = some 2 := by kernel_rfl
theorem fo97_3 : fieldOff Try.prog 97 3 = some 3 := by kernel_rfl
theorem sp_97 : strPl Try.prog 97 = some ([(0, 1), (1, 1), (2, 1), (3, 1)], [.int .i64 0, .int .i64 0, .slice none 0 0, .slice none 0 0]) := by kernel_rfl
theorem c1_98 : cell1B Try.prog 98 = true := by kernel_rfl
theorem el_98 : elT Try.prog 98 = some (119, 12, 192) := by kernel_rfl
theorem ze_100 : zeroV Try.prog 100 = some (.agg #[.slice none 0 0, .slice none 0 0, .slice none 0 0, .slice none 0 0, .slice none 0 0, .slice none 0 0, .slice none 0 0, .slice none 0 0, .slice none 0 0, .slice none 0 0]) := by kernel_rfl
theorem fo100_0 : fieldOff Try.prog 100 0 = some 0 := by kernel_rfl
theorem fo100_1 : fieldOff Try.prog 100 1 = some 1 := by kernel_rfl
theorem fo100_2 : fieldOff Try.prog 100 2 = some 2 := by kernel_rfl
theorem fo100_4 : fieldOff Try.prog 100 4 = some 4 := by kernel_rfl
theorem fo100_6 : fieldOff Try.prog 100 6 = some 6 := by kernel_rfl
theorem fo100_8 : fieldOff Try.prog 100 8 = some 8 := by kernel_rfl
theorem cb_11 : callB Try.prog 11 = true := by kernel_rfl
theorem cb_14 : callB Try.prog 14 = true := by kernel_rfl
theorem cb_15 : callB Try.prog 15 = true := by kernel_rfl
theorem cb_16 : callB Try.prog 16 = true := by kernel_rfl
theorem cb_18 : callB Try.prog 18 = true := by kernel_rfl
theorem cb_19 : callB Try.prog 19 = true := by kernel_rfl
theorem cb_21 : callB Try.prog 21 = true := by kernel_rfl
theorem cb_22 : callB Try.prog 22 = true := by kernel_rfl
theorem cb_23 : callB Try.prog 23 = true := by kernel_rfl
theorem cb_24 : callB Try.prog 24 = true := by kernel_rfl
theorem cb_26 : callB Try.prog 26 = true := by kernel_rfl
theorem cb_27 : callB Try.prog 27 = true := by kernel_rfl
theorem cb_30 : callB Try.prog 30 = true := by kernel_rfl
theorem cb_31 : callB Try.prog 31 = true := by kernel_rfl
theorem cb_32 : callB Try.prog 32 = true := by kernel_rfl
theorem cb_33 : callB Try.prog 33 = true := by kernel_rfl
theorem cb_34 : callB Try.prog 34 = true := by kernel_rfl
theorem cb_35 : callB Try.prog 35 = true := by kernel_rfl
theorem cb_36 : callB Try.prog 36 = true := by kernel_rfl
theorem cb_37 : callB Try.prog 37 = true := by kernel_rfl
theorem cb_38 : callB Try.prog 38 = true := by kernel_rfl
theorem cb_39 : callB Try.prog 39 = true := by kernel_rfl
theorem cb_40 : callB Try.prog 40 = true := by kernel_rfl
theorem cb_41 : callB Try.prog 41 = true := by kernel_rfl
theorem cb_42 : callB Try.prog 42 = true := by kernel_rfl
theorem cb_43 : callB Try.prog 43 = true := by kernel_rfl
theorem cb_44 : callB Try.prog 44 = true := by kernel_rfl
theorem cb_46 : callB Try.prog 46 = true := by kernel_rfl
theorem cb_47 : callB Try.prog 47 = true := by kernel_rfl
theorem cb_48 : callB Try.prog 48 = true := by kernel_rfl
theorem cb_50 : callB Try.prog 50 = true := by kernel_rfl
theorem cb_51 : callB Try.prog 51 = true := by kernel_rfl
theorem cb_52 : callB Try.prog 52 = true := by kernel_rfl
theorem cb_54 : callB Try.prog 54 = true := by kernel_rfl
theorem cb_55 : callB Try.prog 55 = true := by kernel_rfl
theorem cb_56 : callB Try.prog 56 = true := by kernel_rfl
theorem cb_57 : callB Try.prog 57 = true := by kernel_rfl
theorem cb_58 : callB Try.prog 58 = true := by kernel_rfl
theorem cb_59 : callB Try.prog 59 = true := by kernel_rfl
theorem cb_60 : callB Try.prog 60 = true := by kernel_rfl
theorem cb_61 : callB Try.prog 61 = true := by kernel_rfl
theorem cb_62 : callB Try.prog 62 = true := by kernel_rfl
theorem cb_63 : callB Try.prog 63 = true := by kernel_rfl
theorem cb_64 : callB Try.prog 64 = true := by kernel_rfl
theorem cb_65 : callB Try.prog 65 = true := by kernel_rfl
theorem cb_66 : callB Try.prog 66 = true := by kernel_rfl
theorem cb_67 : callB Try.prog 67 = true := by kernel_rfl
theorem cb_68 : callB Try.prog 68 = true := by kernel_rfl
theorem cb_69 : callB Try.prog 69 = true := by kernel_rfl
theorem cb_70 : callB Try.prog 70 = true := by kernel_rfl
theorem cb_71 : callB Try.prog 71 = true := by kernel_rfl
theorem cb_72 : callB Try.prog 72 = true := by kernel_rfl
theorem cb_73 : callB Try.prog 73 = true := by kernel_rfl
theorem cb_74 : callB Try.prog 74 = true := by kernel_rfl
theorem cb_75 : callB Try.prog 75 = true := by kernel_rfl
theorem cb_76 : callB Try.prog 76 = true := by kernel_rfl
theorem cb_77 : callB Try.prog 77 = true := by kernel_rfl
theorem cb_78 : callB Try.prog 78 = true := by kernel_rfl
theorem cb_79 : callB Try.prog 79 = true := by kernel_rfl
theorem cb_80 : callB Try.prog 80 = true := by kernel_rfl
theorem cb_81 : callB Try.prog 81 = true := by kernel_rfl
theorem cb_82 : callB Try.prog 82 = true := by kernel_rfl
theorem cb_84 : callB Try.prog 84 = true := by kernel_rfl
theorem cb_85 : callB Try.prog 85 = true := by kernel_rfl
theorem cb_89 : callB Try.prog 89 = true := by kernel_rfl
theorem cb_90 : callB Try.prog 90 = true := by kernel_rfl
theorem mixed : Try.prog.follows .mixedOrders = true := by kernel_rfl
end Go.Proofs.Ytmgcmgfjaimlnaa
