/- Closed facts of this translation's tables, reckoned by the kernel; no conditions. -/
import Derived.Test.YtfpmnhmdphaceaaGreatDoorBaseAll
import Derived.Test.YtfpmnhmdphaceaaGreatDoorProg
namespace Go.Proofs.YtfpmnhmdphaceaaGreatDoor
open Go.EW
theorem c1_3 : cell1B Tryz.prog 3 = true := by kernel_rfl
theorem sz_3 : sizeV Tryz.prog 3 = some 1 := by kernel_rfl
theorem ze_3 : zeroV Tryz.prog 3 = some (.int .i64 0) := by kernel_rfl
theorem in_3 : intT Tryz.prog 3 = some .i64 := by kernel_rfl
theorem c1_4 : cell1B Tryz.prog 4 = true := by kernel_rfl
theorem bo_4 : isBoolT Tryz.prog 4 = true := by kernel_rfl
theorem c1_5 : cell1B Tryz.prog 5 = true := by kernel_rfl
theorem sz_5 : sizeV Tryz.prog 5 = some 1 := by kernel_rfl
theorem ze_5 : zeroV Tryz.prog 5 = some (.int .u8 0) := by kernel_rfl
theorem in_5 : intT Tryz.prog 5 = some .u8 := by kernel_rfl
theorem c1_9 : cell1B Tryz.prog 9 = true := by kernel_rfl
theorem sz_9 : sizeV Tryz.prog 9 = some 1 := by kernel_rfl
theorem st_9 : isStrT Tryz.prog 9 = true := by kernel_rfl
theorem ag_23 : aggB Tryz.prog 23 4 = true := by kernel_rfl
theorem sz_23 : sizeV Tryz.prog 23 = some 4 := by kernel_rfl
theorem ze_23 : zeroV Tryz.prog 23 = some (.agg #[.int .i64 0, .int .i64 0, .int .i64 0, .bool false]) := by kernel_rfl
theorem fo23_0 : fieldOff Tryz.prog 23 0 = some 0 := by kernel_rfl
theorem fo23_1 : fieldOff Tryz.prog 23 1 = some 1 := by kernel_rfl
theorem fo23_2 : fieldOff Tryz.prog 23 2 = some 2 := by kernel_rfl
theorem fo23_3 : fieldOff Tryz.prog 23 3 = some 3 := by kernel_rfl
theorem sp_23 : strPl Tryz.prog 23 = some ([(0, 1), (1, 1), (2, 1), (3, 1)], [.int .i64 0, .int .i64 0, .int .i64 0, .bool false]) := by kernel_rfl
theorem c1_24 : cell1B Tryz.prog 24 = true := by kernel_rfl
theorem sz_24 : sizeV Tryz.prog 24 = some 1 := by kernel_rfl
theorem el_24 : elT Tryz.prog 24 = some (36, 1, 8) := by kernel_rfl
theorem ag_26 : aggB Tryz.prog 26 5 = true := by kernel_rfl
theorem sz_26 : sizeV Tryz.prog 26 = some 5 := by kernel_rfl
theorem ze_26 : zeroV Tryz.prog 26 = some (.agg #[.int .i64 0, .int .i64 0, .int .i64 0, .bool false, .slice none 0 0]) := by kernel_rfl
theorem fo26_0 : fieldOff Tryz.prog 26 0 = some 0 := by kernel_rfl
theorem fo26_1 : fieldOff Tryz.prog 26 1 = some 4 := by kernel_rfl
theorem sp_26 : strPl Tryz.prog 26 = some ([(0, 4), (4, 1)], [.int .i64 0, .int .i64 0, .int .i64 0, .bool false, .slice none 0 0]) := by kernel_rfl
theorem c1_27 : cell1B Tryz.prog 27 = true := by kernel_rfl
theorem sz_27 : sizeV Tryz.prog 27 = some 1 := by kernel_rfl
theorem el_27 : elT Tryz.prog 27 = some (52, 13, 128) := by kernel_rfl
theorem pt_29 : isPtrT Tryz.prog 29 = true := by kernel_rfl
theorem c1_30 : cell1B Tryz.prog 30 = true := by kernel_rfl
theorem sz_30 : sizeV Tryz.prog 30 = some 1 := by kernel_rfl
theorem ag_36 : aggB Tryz.prog 36 1 = true := by kernel_rfl
theorem sz_36 : sizeV Tryz.prog 36 = some 1 := by kernel_rfl
theorem ze_36 : zeroV Tryz.prog 36 = some (.agg #[.int .i64 0]) := by kernel_rfl
theorem fo36_0 : fieldOff Tryz.prog 36 0 = some 0 := by kernel_rfl
theorem sp_36 : strPl Tryz.prog 36 = some ([(0, 1)], [.int .i64 0]) := by kernel_rfl
theorem c1_37 : cell1B Tryz.prog 37 = true := by kernel_rfl
theorem sz_37 : sizeV Tryz.prog 37 = some 1 := by kernel_rfl
theorem el_37 : elT Tryz.prog 37 = some (50, 1, 24) := by kernel_rfl
theorem c1_38 : cell1B Tryz.prog 38 = true := by kernel_rfl
theorem el_38 : elT Tryz.prog 38 = some (98, 1, 24) := by kernel_rfl
theorem c1_39 : cell1B Tryz.prog 39 = true := by kernel_rfl
theorem el_39 : elT Tryz.prog 39 = some (96, 1, 24) := by kernel_rfl
theorem c1_40 : cell1B Tryz.prog 40 = true := by kernel_rfl
theorem el_40 : elT Tryz.prog 40 = some (58, 1, 24) := by kernel_rfl
theorem c1_41 : cell1B Tryz.prog 41 = true := by kernel_rfl
theorem el_41 : elT Tryz.prog 41 = some (104, 12, 192) := by kernel_rfl
theorem ze_43 : zeroV Tryz.prog 43 = some (.agg #[.slice none 0 0, .slice none 0 0, .slice none 0 0, .slice none 0 0, .slice none 0 0, .slice none 0 0, .slice none 0 0, .slice none 0 0, .slice none 0 0, .slice none 0 0]) := by kernel_rfl
theorem fo43_0 : fieldOff Tryz.prog 43 0 = some 0 := by kernel_rfl
theorem fo43_1 : fieldOff Tryz.prog 43 1 = some 1 := by kernel_rfl
theorem fo43_2 : fieldOff Tryz.prog 43 2 = some 2 := by kernel_rfl
theorem fo43_4 : fieldOff Tryz.prog 43 4 = some 4 := by kernel_rfl
theorem fo43_6 : fieldOff Tryz.prog 43 6 = some 6 := by kernel_rfl
theorem fo43_8 : fieldOff Tryz.prog 43 8 = some 8 := by kernel_rfl
theorem c1_44 : cell1B Tryz.prog 44 = true := by kernel_rfl
theorem sz_44 : sizeV Tryz.prog 44 = some 1 := by kernel_rfl
theorem c1_45 : cell1B Tryz.prog 45 = true := by kernel_rfl
theorem sz_45 : sizeV Tryz.prog 45 = some 1 := by kernel_rfl
theorem ze_45 : zeroV Tryz.prog 45 = some (.int .u64 0) := by kernel_rfl
theorem in_45 : intT Tryz.prog 45 = some .u64 := by kernel_rfl
theorem ag_47 : aggB Tryz.prog 47 2 = true := by kernel_rfl
theorem sz_47 : sizeV Tryz.prog 47 = some 2 := by kernel_rfl
theorem fo47_0 : fieldOff Tryz.prog 47 0 = some 0 := by kernel_rfl
theorem fo47_1 : fieldOff Tryz.prog 47 1 = some 1 := by kernel_rfl
theorem ag_49 : aggB Tryz.prog 49 3 = true := by kernel_rfl
theorem sz_49 : sizeV Tryz.prog 49 = some 3 := by kernel_rfl
theorem fo49_0 : fieldOff Tryz.prog 49 0 = some 0 := by kernel_rfl
theorem fo49_1 : fieldOff Tryz.prog 49 1 = some 1 := by kernel_rfl
theorem fo49_2 : fieldOff Tryz.prog 49 2 = some 2 := by kernel_rfl
theorem c1_50 : cell1B Tryz.prog 50 = true := by kernel_rfl
theorem sz_50 : sizeV Tryz.prog 50 = some 1 := by kernel_rfl
theorem ze_50 : zeroV Tryz.prog 50 = some (.slice none 0 0) := by kernel_rfl
theorem el_50 : elT Tryz.prog 50 = some (5, 1, 1) := by kernel_rfl
theorem by_50 : isBytesT Tryz.prog 50 = true := by kernel_rfl
theorem ag_52 : aggB Tryz.prog 52 13 = true := by kernel_rfl
theorem sz_52 : sizeV Tryz.prog 52 = some 13 := by kernel_rfl
theorem ze_52 : zeroV Tryz.prog 52 = some (.agg #[.int .i64 0, .int .i64 0, .int .i64 0, .int .i64 0, .int .i64 0, .int .i64 0, .int .i64 0, .int .u64 0, .int .u64 0, .int .i64 0, .int .i64 0, .string ⟨#[]⟩, .slice none 0 0]) := by kernel_rfl
theorem fo52_0 : fieldOff Tryz.prog 52 0 = some 0 := by kernel_rfl
theorem fo52_1 : fieldOff Tryz.prog 52 1 = some 1 := by kernel_rfl
theorem fo52_2 : fieldOff Tryz.prog 52 2 = some 2 := by kernel_rfl
theorem fo52_3 : fieldOff Tryz.prog 52 3 = some 3 := by kernel_rfl
theorem fo52_4 : fieldOff Tryz.prog 52 4 = some 4 := by kernel_rfl
theorem fo52_5 : fieldOff Tryz.prog 52 5 = some 5 := by kernel_rfl
theorem fo52_6 : fieldOff Tryz.prog 52 6 = some 6 := by kernel_rfl
theorem fo52_7 : fieldOff Tryz.prog 52 7 = some 7 := by kernel_rfl
theorem fo52_8 : fieldOff Tryz.prog 52 8 = some 9 := by kernel_rfl
theorem fo52_9 : fieldOff Tryz.prog 52 9 = some 12 := by kernel_rfl
theorem sp_52 : strPl Tryz.prog 52 = some ([(0, 1), (1, 1), (2, 1), (3, 1), (4, 1), (5, 1), (6, 1), (7, 2), (9, 3), (12, 1)], [.int .i64 0, .int .i64 0, .int .i64 0, .int .i64 0, .int .i64 0, .int .i64 0, .int .i64 0, .int .u64 0, .int .u64 0, .int .i64 0, .int .i64 0, .string ⟨#[]⟩, .slice none 0 0]) := by kernel_rfl
theorem c1_58 : cell1B Tryz.prog 58 = true := by kernel_rfl
theorem sz_58 : sizeV Tryz.prog 58 = some 1 := by kernel_rfl
theorem el_58 : elT Tryz.prog 58 = some (3, 1, 8) := by kernel_rfl
theorem ze_75 : zeroV Tryz.prog 75 = some (.agg #[.slice none 0 0, .int .i64 0]) := by kernel_rfl
theorem fo75_0 : fieldOff Tryz.prog 75 0 = some 0 := by kernel_rfl
theorem fo75_1 : fieldOff Tryz.prog 75 1 = some 1 := by kernel_rfl
theorem ze_76 : zeroV Tryz.prog 76 = some (.agg #[.int .i64 0, .int .i64 0, .int .i64 0, .int .i64 0, .int .i64 0, .int .i64 0, .int .i64 0]) := by kernel_rfl
theorem ar_76 : arrT Tryz.prog 76 = some (7, 3, 1) := by kernel_rfl
theorem pt_79 : isPtrT Tryz.prog 79 = true := by kernel_rfl
theorem ag_81 : aggB Tryz.prog 81 5 = true := by kernel_rfl
theorem sz_81 : sizeV Tryz.prog 81 = some 5 := by kernel_rfl
theorem fo81_0 : fieldOff Tryz.prog 81 0 = some 0 := by kernel_rfl
theorem fo81_1 : fieldOff Tryz.prog 81 1 = some 2 := by kernel_rfl
theorem fo81_2 : fieldOff Tryz.prog 81 2 = some 3 := by kernel_rfl
theorem fo81_3 : fieldOff Tryz.prog 81 3 = some 4 := by kernel_rfl
theorem sp_81 : strPl Tryz.prog 81 = some ([(0, 2), (2, 1), (3, 1), (4, 1)], [.slice none 0 0, .int .i64 0, .int .i64 0, .slice none 0 0, .int .i64 0]) := by kernel_rfl
theorem fo83_0 : fieldOff Tryz.prog 83 0 = some 0 := by kernel_rfl
theorem fo83_1 : fieldOff Tryz.prog 83 1 = some 1 := by kernel_rfl
theorem fo83_2 : fieldOff Tryz.prog 83 2 = some 2 := by kernel_rfl
theorem fo83_3 : fieldOff Tryz.prog 83 3 = some 7 := by kernel_rfl
theorem sp_83 : strPl Tryz.prog 83 = some ([(0, 1), (1, 1), (2, 5), (7, 1)], [.slice none 0 0, .slice none 0 0, .slice none 0 0, .int .i64 0, .int .i64 0, .slice none 0 0, .int .i64 0, .int .i64 0]) := by kernel_rfl
theorem in_112 : intT Tryz.prog 112 = some .u64 := by kernel_rfl
theorem fo116_0 : fieldOff Tryz.prog 116 0 = some 0 := by kernel_rfl
theorem fo116_1 : fieldOff Tryz.prog 116 1 = some 1 := by kernel_rfl
theorem fo116_2 : fieldOff Tryz.prog 116 2 = some 6 := by kernel_rfl
theorem fo116_3 : fieldOff Tryz.prog 116 3 = some 7 := by kernel_rfl
theorem fo116_4 : fieldOff Tryz.prog 116 4 = some 8 := by kernel_rfl
theorem fo116_5 : fieldOff Tryz.prog 116 5 = some 13 := by kernel_rfl
theorem sp_116 : strPl Tryz.prog 116 = some ([(0, 1), (1, 5), (6, 1), (7, 1), (8, 5), (13, 1)], [.slice none 0 0, .int .i64 0, .int .i64 0, .int .i64 0, .bool false, .slice none 0 0, .slice none 0 0, .slice none 0 0, .slice none 0 0, .int .i64 0, .int .i64 0, .slice none 0 0, .int .i64 0, .int .i64 0]) := by kernel_rfl
theorem c1_129 : cell1B Tryz.prog 129 = true := by kernel_rfl
theorem ag_130 : aggB Tryz.prog 130 6 = true := by kernel_rfl
theorem sz_130 : sizeV Tryz.prog 130 = some 6 := by kernel_rfl
theorem ze_130 : zeroV Tryz.prog 130 = some (.agg #[.pointer none, .pointer none, .pointer none, .pointer none, .pointer none, .pointer none]) := by kernel_rfl
theorem ar_130 : arrT Tryz.prog 130 = some (6, 129, 1) := by kernel_rfl
theorem ag_145 : aggB Tryz.prog 145 32 = true := by kernel_rfl
theorem sz_145 : sizeV Tryz.prog 145 = some 32 := by kernel_rfl
theorem ze_145 : zeroV Tryz.prog 145 = some (.agg #[.int .u8 0, .int .u8 0, .int .u8 0, .int .u8 0, .int .u8 0, .int .u8 0, .int .u8 0, .int .u8 0, .int .u8 0, .int .u8 0, .int .u8 0, .int .u8 0, .int .u8 0, .int .u8 0, .int .u8 0, .int .u8 0, .int .u8 0, .int .u8 0, .int .u8 0, .int .u8 0, .int .u8 0, .int .u8 0, .int .u8 0, .int .u8 0, .int .u8 0, .int .u8 0, .int .u8 0, .int .u8 0, .int .u8 0, .int .u8 0, .int .u8 0, .int .u8 0]) := by kernel_rfl
theorem ar_145 : arrT Tryz.prog 145 = some (32, 5, 1) := by kernel_rfl
theorem c1_164 : cell1B Tryz.prog 164 = true := by kernel_rfl
theorem sz_164 : sizeV Tryz.prog 164 = some 1 := by kernel_rfl
theorem ze_164 : zeroV Tryz.prog 164 = some (.int .u32 0) := by kernel_rfl
theorem in_164 : intT Tryz.prog 164 = some .u32 := by kernel_rfl
theorem sz_166 : sizeV Tryz.prog 166 = some 13 := by kernel_rfl
theorem ze_166 : zeroV Tryz.prog 166 = some (.agg #[.int .i64 0, .int .i64 0, .int .i64 0, .int .i64 0, .int .i64 0, .int .i64 0, .int .i64 0, .int .i64 0, .int .i64 0, .int .i64 0, .int .i64 0, .int .i64 0, .int .i64 0]) := by kernel_rfl
theorem ar_166 : arrT Tryz.prog 166 = some (13, 3, 1) := by kernel_rfl
theorem el_178 : elT Tryz.prog 178 = some (164, 1, 4) := by kernel_rfl
theorem pt_182 : isPtrT Tryz.prog 182 = true := by kernel_rfl
theorem ar_191 : arrT Tryz.prog 191 = some (16, 164, 1) := by kernel_rfl
theorem el_192 : elT Tryz.prog 192 = some (45, 1, 8) := by kernel_rfl
theorem pt_196 : isPtrT Tryz.prog 196 = true := by kernel_rfl
theorem fo200_0 : fieldOff Tryz.prog 200 0 = some 0 := by kernel_rfl
theorem fo200_1 : fieldOff Tryz.prog 200 1 = some 1 := by kernel_rfl
theorem fo200_2 : fieldOff Tryz.prog 200 2 = some 2 := by kernel_rfl
theorem fo200_3 : fieldOff Tryz.prog 200 3 = some 3 := by kernel_rfl
theorem sp_200 : strPl Tryz.prog 200 = some ([(0, 1), (1, 1), (2, 1), (3, 1)], [.slice none 0 0, .int .i64 0, .int .i64 0, .bool false]) := by kernel_rfl
theorem ag_211 : aggB Tryz.prog 211 8 = true := by kernel_rfl
theorem sz_211 : sizeV Tryz.prog 211 = some 8 := by kernel_rfl
theorem ze_211 : zeroV Tryz.prog 211 = some (.agg #[.int .u32 0, .int .u32 0, .int .u32 0, .int .u32 0, .int .u32 0, .int .u32 0, .int .u32 0, .int .u32 0]) := by kernel_rfl
theorem ar_211 : arrT Tryz.prog 211 = some (8, 164, 1) := by kernel_rfl
theorem fo214_0 : fieldOff Tryz.prog 214 0 = some 0 := by kernel_rfl
theorem fo214_1 : fieldOff Tryz.prog 214 1 = some 8 := by kernel_rfl
theorem fo214_2 : fieldOff Tryz.prog 214 2 = some 9 := by kernel_rfl
theorem fo214_3 : fieldOff Tryz.prog 214 3 = some 10 := by kernel_rfl
theorem sp_214 : strPl Tryz.prog 214 = some ([(0, 8), (8, 1), (9, 1), (10, 1)], [.int .u32 0, .int .u32 0, .int .u32 0, .int .u32 0, .int .u32 0, .int .u32 0, .int .u32 0, .int .u32 0, .slice none 0 0, .int .i64 0, .bool false]) := by kernel_rfl
theorem ag_215 : aggB Tryz.prog 215 64 = true := by kernel_rfl
theorem sz_215 : sizeV Tryz.prog 215 = some 64 := by kernel_rfl
theorem ze_215 : zeroV Tryz.prog 215 = some (.agg #[.int .u32 0, .int .u32 0, .int .u32 0, .int .u32 0, .int .u32 0, .int .u32 0, .int .u32 0, .int .u32 0, .int .u32 0, .int .u32 0, .int .u32 0, .int .u32 0, .int .u32 0, .int .u32 0, .int .u32 0, .int .u32 0, .int .u32 0, .int .u32 0, .int .u32 0, .int .u32 0, .int .u32 0, .int .u32 0, .int .u32 0, .int .u32 0, .int .u32 0, .int .u32 0, .int .u32 0, .int .u32 0, .int .u32 0, .int .u32 0, .int .u32 0, .int .u32 0, .int .u32 0, .int .u32 0, .int .u32 0, .int .u32 0, .int .u32 0, .int .u32 0, .int .u32 0, .int .u32 0, .int .u32 0, .int .u32 0, .int .u32 0, .int .u32 0, .int .u32 0, .int .u32 0, .int .u32 0, .int .u32 0, .int .u32 0, .int .u32 0, .int .u32 0, .int .u32 0, .int .u32 0, .int .u32 0, .int .u32 0, .int .u32 0, .int .u32 0, .int .u32 0, .int .u32 0, .int .u32 0, .int .u32 0, .int .u32 0, .int .u32 0, .int .u32 0]) := by kernel_rfl
theorem ar_215 : arrT Tryz.prog 215 = some (64, 164, 1) := by kernel_rfl
theorem cb_5 : callB Tryz.prog 5 = true := by kernel_rfl
theorem cb_6 : callB Tryz.prog 6 = true := by kernel_rfl
theorem cb_7 : callB Tryz.prog 7 = true := by kernel_rfl
theorem cb_8 : callB Tryz.prog 8 = true := by kernel_rfl
theorem cb_9 : callB Tryz.prog 9 = true := by kernel_rfl
theorem cb_10 : callB Tryz.prog 10 = true := by kernel_rfl
theorem cb_11 : callB Tryz.prog 11 = true := by kernel_rfl
theorem cb_12 : callB Tryz.prog 12 = true := by kernel_rfl
theorem cb_13 : callB Tryz.prog 13 = true := by kernel_rfl
theorem cb_14 : callB Tryz.prog 14 = true := by kernel_rfl
theorem cb_15 : callB Tryz.prog 15 = true := by kernel_rfl
theorem cb_16 : callB Tryz.prog 16 = true := by kernel_rfl
theorem cb_17 : callB Tryz.prog 17 = true := by kernel_rfl
theorem cb_19 : callB Tryz.prog 19 = true := by kernel_rfl
theorem cb_23 : callB Tryz.prog 23 = true := by kernel_rfl
theorem cb_24 : callB Tryz.prog 24 = true := by kernel_rfl
theorem cb_25 : callB Tryz.prog 25 = true := by kernel_rfl
theorem cb_26 : callB Tryz.prog 26 = true := by kernel_rfl
theorem cb_27 : callB Tryz.prog 27 = true := by kernel_rfl
theorem cb_28 : callB Tryz.prog 28 = true := by kernel_rfl
theorem cb_29 : callB Tryz.prog 29 = true := by kernel_rfl
theorem cb_30 : callB Tryz.prog 30 = true := by kernel_rfl
theorem cb_31 : callB Tryz.prog 31 = true := by kernel_rfl
theorem cb_32 : callB Tryz.prog 32 = true := by kernel_rfl
theorem cb_33 : callB Tryz.prog 33 = true := by kernel_rfl
theorem cb_34 : callB Tryz.prog 34 = true := by kernel_rfl
theorem cb_35 : callB Tryz.prog 35 = true := by kernel_rfl
theorem cb_36 : callB Tryz.prog 36 = true := by kernel_rfl
theorem cb_41 : callB Tryz.prog 41 = true := by kernel_rfl
theorem cb_42 : callB Tryz.prog 42 = true := by kernel_rfl
theorem cb_43 : callB Tryz.prog 43 = true := by kernel_rfl
theorem cb_44 : callB Tryz.prog 44 = true := by kernel_rfl
theorem cb_45 : callB Tryz.prog 45 = true := by kernel_rfl
theorem cb_46 : callB Tryz.prog 46 = true := by kernel_rfl
theorem cb_47 : callB Tryz.prog 47 = true := by kernel_rfl
theorem cb_48 : callB Tryz.prog 48 = true := by kernel_rfl
theorem cb_49 : callB Tryz.prog 49 = true := by kernel_rfl
theorem cb_53 : callB Tryz.prog 53 = true := by kernel_rfl
theorem cb_54 : callB Tryz.prog 54 = true := by kernel_rfl
theorem cb_56 : callB Tryz.prog 56 = true := by kernel_rfl
theorem cb_57 : callB Tryz.prog 57 = true := by kernel_rfl
theorem cb_58 : callB Tryz.prog 58 = true := by kernel_rfl
theorem cb_59 : callB Tryz.prog 59 = true := by kernel_rfl
theorem cb_60 : callB Tryz.prog 60 = true := by kernel_rfl
theorem cb_61 : callB Tryz.prog 61 = true := by kernel_rfl
theorem cb_62 : callB Tryz.prog 62 = true := by kernel_rfl
theorem cb_63 : callB Tryz.prog 63 = true := by kernel_rfl
theorem cb_64 : callB Tryz.prog 64 = true := by kernel_rfl
theorem cb_69 : callB Tryz.prog 69 = true := by kernel_rfl
theorem cb_70 : callB Tryz.prog 70 = true := by kernel_rfl
theorem cb_71 : callB Tryz.prog 71 = true := by kernel_rfl
theorem cb_72 : callB Tryz.prog 72 = true := by kernel_rfl
theorem cb_73 : callB Tryz.prog 73 = true := by kernel_rfl
theorem cb_74 : callB Tryz.prog 74 = true := by kernel_rfl
theorem cb_75 : callB Tryz.prog 75 = true := by kernel_rfl
theorem cb_76 : callB Tryz.prog 76 = true := by kernel_rfl
theorem cb_85 : callB Tryz.prog 85 = true := by kernel_rfl
theorem cb_86 : callB Tryz.prog 86 = true := by kernel_rfl
theorem cb_87 : callB Tryz.prog 87 = true := by kernel_rfl
theorem cb_88 : callB Tryz.prog 88 = true := by kernel_rfl
theorem cb_89 : callB Tryz.prog 89 = true := by kernel_rfl
theorem cb_90 : callB Tryz.prog 90 = true := by kernel_rfl
theorem cb_91 : callB Tryz.prog 91 = true := by kernel_rfl
theorem cb_92 : callB Tryz.prog 92 = true := by kernel_rfl
theorem cb_93 : callB Tryz.prog 93 = true := by kernel_rfl
theorem cb_94 : callB Tryz.prog 94 = true := by kernel_rfl
theorem cb_95 : callB Tryz.prog 95 = true := by kernel_rfl
theorem cb_96 : callB Tryz.prog 96 = true := by kernel_rfl
theorem cb_97 : callB Tryz.prog 97 = true := by kernel_rfl
theorem cb_98 : callB Tryz.prog 98 = true := by kernel_rfl
theorem cb_99 : callB Tryz.prog 99 = true := by kernel_rfl
theorem cb_100 : callB Tryz.prog 100 = true := by kernel_rfl
theorem cb_108 : callB Tryz.prog 108 = true := by kernel_rfl
theorem cb_109 : callB Tryz.prog 109 = true := by kernel_rfl
theorem cb_110 : callB Tryz.prog 110 = true := by kernel_rfl
theorem cb_111 : callB Tryz.prog 111 = true := by kernel_rfl
theorem cb_112 : callB Tryz.prog 112 = true := by kernel_rfl
theorem cb_113 : callB Tryz.prog 113 = true := by kernel_rfl
theorem cb_114 : callB Tryz.prog 114 = true := by kernel_rfl
theorem cb_115 : callB Tryz.prog 115 = true := by kernel_rfl
theorem cb_116 : callB Tryz.prog 116 = true := by kernel_rfl
theorem cb_118 : callB Tryz.prog 118 = true := by kernel_rfl
theorem cb_119 : callB Tryz.prog 119 = true := by kernel_rfl
theorem cb_120 : callB Tryz.prog 120 = true := by kernel_rfl
theorem cb_121 : callB Tryz.prog 121 = true := by kernel_rfl
theorem cb_122 : callB Tryz.prog 122 = true := by kernel_rfl
theorem cb_123 : callB Tryz.prog 123 = true := by kernel_rfl
theorem cb_124 : callB Tryz.prog 124 = true := by kernel_rfl
theorem cb_125 : callB Tryz.prog 125 = true := by kernel_rfl
theorem cb_126 : callB Tryz.prog 126 = true := by kernel_rfl
theorem mixed : Tryz.prog.follows .mixedOrders = true := by kernel_rfl
end Go.Proofs.YtfpmnhmdphaceaaGreatDoor
