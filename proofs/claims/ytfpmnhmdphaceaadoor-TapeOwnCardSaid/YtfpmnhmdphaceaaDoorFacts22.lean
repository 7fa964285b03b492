/- Closed facts of the seat's tables. -/
import Derived.Test.YtfpmnhmdphaceaaDoorBaseAll
import Derived.Test.YtfpmnhmdphaceaaDoorProg
namespace Go.Proofs.YtfpmnhmdphaceaaDoor
open Go.EW
theorem c1_3 : cell1B Tryd.prog 3 = true := by kernel_rfl
theorem sz_3 : sizeV Tryd.prog 3 = some 1 := by kernel_rfl
theorem ze_3 : zeroV Tryd.prog 3 = some (.int .i64 0) := by kernel_rfl
theorem in_3 : intT Tryd.prog 3 = some .i64 := by kernel_rfl
theorem c1_4 : cell1B Tryd.prog 4 = true := by kernel_rfl
theorem bo_4 : isBoolT Tryd.prog 4 = true := by kernel_rfl
theorem c1_5 : cell1B Tryd.prog 5 = true := by kernel_rfl
theorem sz_5 : sizeV Tryd.prog 5 = some 1 := by kernel_rfl
theorem ze_5 : zeroV Tryd.prog 5 = some (.int .u8 0) := by kernel_rfl
theorem in_5 : intT Tryd.prog 5 = some .u8 := by kernel_rfl
theorem c1_9 : cell1B Tryd.prog 9 = true := by kernel_rfl
theorem sz_9 : sizeV Tryd.prog 9 = some 1 := by kernel_rfl
theorem st_9 : isStrT Tryd.prog 9 = true := by kernel_rfl
theorem c1_22 : cell1B Tryd.prog 22 = true := by kernel_rfl
theorem sz_22 : sizeV Tryd.prog 22 = some 1 := by kernel_rfl
theorem c1_23 : cell1B Tryd.prog 23 = true := by kernel_rfl
theorem sz_23 : sizeV Tryd.prog 23 = some 1 := by kernel_rfl
theorem in_23 : intT Tryd.prog 23 = some .u64 := by kernel_rfl
theorem ag_25 : aggB Tryd.prog 25 2 = true := by kernel_rfl
theorem sz_25 : sizeV Tryd.prog 25 = some 2 := by kernel_rfl
theorem fo25_0 : fieldOff Tryd.prog 25 0 = some 0 := by kernel_rfl
theorem fo25_1 : fieldOff Tryd.prog 25 1 = some 1 := by kernel_rfl
theorem ag_27 : aggB Tryd.prog 27 3 = true := by kernel_rfl
theorem sz_27 : sizeV Tryd.prog 27 = some 3 := by kernel_rfl
theorem fo27_0 : fieldOff Tryd.prog 27 0 = some 0 := by kernel_rfl
theorem fo27_1 : fieldOff Tryd.prog 27 1 = some 1 := by kernel_rfl
theorem fo27_2 : fieldOff Tryd.prog 27 2 = some 2 := by kernel_rfl
theorem c1_28 : cell1B Tryd.prog 28 = true := by kernel_rfl
theorem sz_28 : sizeV Tryd.prog 28 = some 1 := by kernel_rfl
theorem ze_28 : zeroV Tryd.prog 28 = some (.slice none 0 0) := by kernel_rfl
theorem el_28 : elT Tryd.prog 28 = some (5, 1, 1) := by kernel_rfl
theorem by_28 : isBytesT Tryd.prog 28 = true := by kernel_rfl
theorem ag_30 : aggB Tryd.prog 30 13 = true := by kernel_rfl
theorem sz_30 : sizeV Tryd.prog 30 = some 13 := by kernel_rfl
theorem ze_30 : zeroV Tryd.prog 30 = some (.agg #[.int .i64 0, .int .i64 0, .int .i64 0, .int .i64 0, .int .i64 0, .int .i64 0, .int .i64 0, .int .u64 0, .int .u64 0, .int .i64 0, .int .i64 0, .string ⟨#[]⟩, .slice none 0 0]) := by kernel_rfl
theorem fo30_0 : fieldOff Tryd.prog 30 0 = some 0 := by kernel_rfl
theorem fo30_1 : fieldOff Tryd.prog 30 1 = some 1 := by kernel_rfl
theorem fo30_2 : fieldOff Tryd.prog 30 2 = some 2 := by kernel_rfl
theorem fo30_3 : fieldOff Tryd.prog 30 3 = some 3 := by kernel_rfl
theorem fo30_4 : fieldOff Tryd.prog 30 4 = some 4 := by kernel_rfl
theorem fo30_5 : fieldOff Tryd.prog 30 5 = some 5 := by kernel_rfl
theorem fo30_6 : fieldOff Tryd.prog 30 6 = some 6 := by kernel_rfl
theorem fo30_7 : fieldOff Tryd.prog 30 7 = some 7 := by kernel_rfl
theorem fo30_8 : fieldOff Tryd.prog 30 8 = some 9 := by kernel_rfl
theorem fo30_9 : fieldOff Tryd.prog 30 9 = some 12 := by kernel_rfl
theorem sp_30 : strPl Tryd.prog 30 = some ([(0, 1), (1, 1), (2, 1), (3, 1), (4, 1), (5, 1), (6, 1), (7, 2), (9, 3), (12, 1)], [.int .i64 0, .int .i64 0, .int .i64 0, .int .i64 0, .int .i64 0, .int .i64 0, .int .i64 0, .int .u64 0, .int .u64 0, .int .i64 0, .int .i64 0, .string ⟨#[]⟩, .slice none 0 0]) := by kernel_rfl
theorem c1_31 : cell1B Tryd.prog 31 = true := by kernel_rfl
theorem sz_31 : sizeV Tryd.prog 31 = some 1 := by kernel_rfl
theorem el_31 : elT Tryd.prog 31 = some (28, 1, 24) := by kernel_rfl
theorem c1_32 : cell1B Tryd.prog 32 = true := by kernel_rfl
theorem el_32 : elT Tryd.prog 32 = some (134, 1, 24) := by kernel_rfl
theorem c1_33 : cell1B Tryd.prog 33 = true := by kernel_rfl
theorem el_33 : elT Tryd.prog 33 = some (132, 1, 24) := by kernel_rfl
theorem c1_34 : cell1B Tryd.prog 34 = true := by kernel_rfl
theorem sz_34 : sizeV Tryd.prog 34 = some 1 := by kernel_rfl
theorem el_34 : elT Tryd.prog 34 = some (66, 1, 24) := by kernel_rfl
theorem c1_38 : cell1B Tryd.prog 38 = true := by kernel_rfl
theorem sz_38 : sizeV Tryd.prog 38 = some 1 := by kernel_rfl
theorem ag_53 : aggB Tryd.prog 53 4 = true := by kernel_rfl
theorem sz_53 : sizeV Tryd.prog 53 = some 4 := by kernel_rfl
theorem ze_53 : zeroV Tryd.prog 53 = some (.agg #[.int .i64 0, .int .i64 0, .int .i64 0, .bool false]) := by kernel_rfl
theorem fo53_0 : fieldOff Tryd.prog 53 0 = some 0 := by kernel_rfl
theorem fo53_1 : fieldOff Tryd.prog 53 1 = some 1 := by kernel_rfl
theorem fo53_2 : fieldOff Tryd.prog 53 2 = some 2 := by kernel_rfl
theorem fo53_3 : fieldOff Tryd.prog 53 3 = some 3 := by kernel_rfl
theorem sp_53 : strPl Tryd.prog 53 = some ([(0, 1), (1, 1), (2, 1), (3, 1)], [.int .i64 0, .int .i64 0, .int .i64 0, .bool false]) := by kernel_rfl
theorem c1_54 : cell1B Tryd.prog 54 = true := by kernel_rfl
theorem sz_54 : sizeV Tryd.prog 54 = some 1 := by kernel_rfl
theorem el_54 : elT Tryd.prog 54 = some (150, 1, 8) := by kernel_rfl
theorem ag_56 : aggB Tryd.prog 56 5 = true := by kernel_rfl
theorem sz_56 : sizeV Tryd.prog 56 = some 5 := by kernel_rfl
theorem ze_56 : zeroV Tryd.prog 56 = some (.agg #[.int .i64 0, .int .i64 0, .int .i64 0, .bool false, .slice none 0 0]) := by kernel_rfl
theorem fo56_0 : fieldOff Tryd.prog 56 0 = some 0 := by kernel_rfl
theorem fo56_1 : fieldOff Tryd.prog 56 1 = some 4 := by kernel_rfl
theorem sp_56 : strPl Tryd.prog 56 = some ([(0, 4), (4, 1)], [.int .i64 0, .int .i64 0, .int .i64 0, .bool false, .slice none 0 0]) := by kernel_rfl
theorem c1_57 : cell1B Tryd.prog 57 = true := by kernel_rfl
theorem sz_57 : sizeV Tryd.prog 57 = some 1 := by kernel_rfl
theorem el_57 : elT Tryd.prog 57 = some (30, 13, 128) := by kernel_rfl
theorem pt_61 : isPtrT Tryd.prog 61 = true := by kernel_rfl
theorem c1_66 : cell1B Tryd.prog 66 = true := by kernel_rfl
theorem sz_66 : sizeV Tryd.prog 66 = some 1 := by kernel_rfl
theorem ze_66 : zeroV Tryd.prog 66 = some (.slice none 0 0) := by kernel_rfl
theorem el_66 : elT Tryd.prog 66 = some (3, 1, 8) := by kernel_rfl
theorem ze_82 : zeroV Tryd.prog 82 = some (.agg #[.slice none 0 0, .int .i64 0]) := by kernel_rfl
theorem fo82_0 : fieldOff Tryd.prog 82 0 = some 0 := by kernel_rfl
theorem fo82_1 : fieldOff Tryd.prog 82 1 = some 1 := by kernel_rfl
theorem ag_84 : aggB Tryd.prog 84 5 = true := by kernel_rfl
theorem sz_84 : sizeV Tryd.prog 84 = some 5 := by kernel_rfl
theorem fo84_0 : fieldOff Tryd.prog 84 0 = some 0 := by kernel_rfl
theorem fo84_1 : fieldOff Tryd.prog 84 1 = some 2 := by kernel_rfl
theorem fo84_2 : fieldOff Tryd.prog 84 2 = some 3 := by kernel_rfl
theorem fo84_3 : fieldOff Tryd.prog 84 3 = some 4 := by kernel_rfl
theorem sp_84 : strPl Tryd.prog 84 = some ([(0, 2), (2, 1), (3, 1), (4, 1)], [.slice none 0 0, .int .i64 0, .int .i64 0, .slice none 0 0, .int .i64 0]) := by kernel_rfl
theorem fo86_0 : fieldOff Tryd.prog 86 0 = some 0 := by kernel_rfl
theorem fo86_1 : fieldOff Tryd.prog 86 1 = some 1 := by kernel_rfl
theorem fo86_2 : fieldOff Tryd.prog 86 2 = some 2 := by kernel_rfl
theorem fo86_3 : fieldOff Tryd.prog 86 3 = some 7 := by kernel_rfl
theorem sp_86 : strPl Tryd.prog 86 = some ([(0, 1), (1, 1), (2, 5), (7, 1)], [.slice none 0 0, .slice none 0 0, .slice none 0 0, .int .i64 0, .int .i64 0, .slice none 0 0, .int .i64 0, .int .i64 0]) := by kernel_rfl
theorem c1_98 : cell1B Tryd.prog 98 = true := by kernel_rfl
theorem el_98 : elT Tryd.prog 98 = some (209, 1, 24) := by kernel_rfl
theorem c1_99 : cell1B Tryd.prog 99 = true := by kernel_rfl
theorem el_99 : elT Tryd.prog 99 = some (213, 1, 24) := by kernel_rfl
theorem c1_100 : cell1B Tryd.prog 100 = true := by kernel_rfl
theorem el_100 : elT Tryd.prog 100 = some (219, 1, 24) := by kernel_rfl
theorem c1_101 : cell1B Tryd.prog 101 = true := by kernel_rfl
theorem el_101 : elT Tryd.prog 101 = some (221, 1, 24) := by kernel_rfl
theorem c1_102 : cell1B Tryd.prog 102 = true := by kernel_rfl
theorem el_102 : elT Tryd.prog 102 = some (135, 1, 24) := by kernel_rfl
theorem c1_103 : cell1B Tryd.prog 103 = true := by kernel_rfl
theorem el_103 : elT Tryd.prog 103 = some (136, 1, 24) := by kernel_rfl
theorem ze_105 : zeroV Tryd.prog 105 = some (.agg #[.slice none 0 0, .slice none 0 0, .slice none 0 0, .slice none 0 0, .slice none 0 0, .slice none 0 0, .slice none 0 0, .slice none 0 0, .slice none 0 0, .slice none 0 0]) := by kernel_rfl
theorem fo105_0 : fieldOff Tryd.prog 105 0 = some 0 := by kernel_rfl
theorem fo105_1 : fieldOff Tryd.prog 105 1 = some 1 := by kernel_rfl
theorem fo105_2 : fieldOff Tryd.prog 105 2 = some 2 := by kernel_rfl
theorem fo105_3 : fieldOff Tryd.prog 105 3 = some 3 := by kernel_rfl
theorem fo105_4 : fieldOff Tryd.prog 105 4 = some 4 := by kernel_rfl
theorem fo105_5 : fieldOff Tryd.prog 105 5 = some 5 := by kernel_rfl
theorem fo105_6 : fieldOff Tryd.prog 105 6 = some 6 := by kernel_rfl
theorem fo105_7 : fieldOff Tryd.prog 105 7 = some 7 := by kernel_rfl
theorem fo105_8 : fieldOff Tryd.prog 105 8 = some 8 := by kernel_rfl
theorem fo105_9 : fieldOff Tryd.prog 105 9 = some 9 := by kernel_rfl
theorem c1_110 : cell1B Tryd.prog 110 = true := by kernel_rfl
theorem ag_111 : aggB Tryd.prog 111 6 = true := by kernel_rfl
theorem sz_111 : sizeV Tryd.prog 111 = some 6 := by kernel_rfl
theorem ze_111 : zeroV Tryd.prog 111 = some (.agg #[.pointer none, .pointer none, .pointer none, .pointer none, .pointer none, .pointer none]) := by kernel_rfl
theorem ar_111 : arrT Tryd.prog 111 = some (6, 110, 1) := by kernel_rfl
theorem pt_122 : isPtrT Tryd.prog 122 = true := by kernel_rfl
theorem fo146_0 : fieldOff Tryd.prog 146 0 = some 0 := by kernel_rfl
theorem fo146_1 : fieldOff Tryd.prog 146 1 = some 1 := by kernel_rfl
theorem fo146_2 : fieldOff Tryd.prog 146 2 = some 6 := by kernel_rfl
theorem fo146_3 : fieldOff Tryd.prog 146 3 = some 7 := by kernel_rfl
theorem fo146_4 : fieldOff Tryd.prog 146 4 = some 8 := by kernel_rfl
theorem fo146_5 : fieldOff Tryd.prog 146 5 = some 13 := by kernel_rfl
theorem sp_146 : strPl Tryd.prog 146 = some ([(0, 1), (1, 5), (6, 1), (7, 1), (8, 5), (13, 1)], [.slice none 0 0, .int .i64 0, .int .i64 0, .int .i64 0, .bool false, .slice none 0 0, .slice none 0 0, .slice none 0 0, .slice none 0 0, .int .i64 0, .int .i64 0, .slice none 0 0, .int .i64 0, .int .i64 0]) := by kernel_rfl
theorem ag_150 : aggB Tryd.prog 150 1 = true := by kernel_rfl
theorem sz_150 : sizeV Tryd.prog 150 = some 1 := by kernel_rfl
theorem ze_150 : zeroV Tryd.prog 150 = some (.agg #[.int .i64 0]) := by kernel_rfl
theorem fo150_0 : fieldOff Tryd.prog 150 0 = some 0 := by kernel_rfl
theorem sp_150 : strPl Tryd.prog 150 = some ([(0, 1)], [.int .i64 0]) := by kernel_rfl
theorem ze_155 : zeroV Tryd.prog 155 = some (.agg #[.int .i64 0, .int .i64 0, .int .i64 0, .int .i64 0, .int .i64 0, .int .i64 0, .int .i64 0]) := by kernel_rfl
theorem ar_155 : arrT Tryd.prog 155 = some (7, 3, 1) := by kernel_rfl
theorem pt_157 : isPtrT Tryd.prog 157 = true := by kernel_rfl
theorem sz_173 : sizeV Tryd.prog 173 = some 13 := by kernel_rfl
theorem ze_173 : zeroV Tryd.prog 173 = some (.agg #[.int .i64 0, .int .i64 0, .int .i64 0, .int .i64 0, .int .i64 0, .int .i64 0, .int .i64 0, .int .i64 0, .int .i64 0, .int .i64 0, .int .i64 0, .int .i64 0, .int .i64 0]) := by kernel_rfl
theorem ar_173 : arrT Tryd.prog 173 = some (13, 3, 1) := by kernel_rfl
theorem fo177_0 : fieldOff Tryd.prog 177 0 = some 0 := by kernel_rfl
theorem fo177_1 : fieldOff Tryd.prog 177 1 = some 1 := by kernel_rfl
theorem fo177_2 : fieldOff Tryd.prog 177 2 = some 2 := by kernel_rfl
theorem fo177_3 : fieldOff Tryd.prog 177 3 = some 3 := by kernel_rfl
theorem sp_177 : strPl Tryd.prog 177 = some ([(0, 1), (1, 1), (2, 1), (3, 1)], [.slice none 0 0, .int .i64 0, .int .i64 0, .bool false]) := by kernel_rfl
theorem ag_195 : aggB Tryd.prog 195 32 = true := by kernel_rfl
theorem sz_195 : sizeV Tryd.prog 195 = some 32 := by kernel_rfl
theorem ze_195 : zeroV Tryd.prog 195 = some (.agg #[.int .u8 0, .int .u8 0, .int .u8 0, .int .u8 0, .int .u8 0, .int .u8 0, .int .u8 0, .int .u8 0, .int .u8 0, .int .u8 0, .int .u8 0, .int .u8 0, .int .u8 0, .int .u8 0, .int .u8 0, .int .u8 0, .int .u8 0, .int .u8 0, .int .u8 0, .int .u8 0, .int .u8 0, .int .u8 0, .int .u8 0, .int .u8 0, .int .u8 0, .int .u8 0, .int .u8 0, .int .u8 0, .int .u8 0, .int .u8 0, .int .u8 0, .int .u8 0]) := by kernel_rfl
theorem ar_195 : arrT Tryd.prog 195 = some (32, 5, 1) := by kernel_rfl
theorem c1_235 : cell1B Tryd.prog 235 = true := by kernel_rfl
theorem sz_235 : sizeV Tryd.prog 235 = some 1 := by kernel_rfl
theorem in_235 : intT Tryd.prog 235 = some .u32 := by kernel_rfl
theorem pt_241 : isPtrT Tryd.prog 241 = true := by kernel_rfl
theorem ar_244 : arrT Tryd.prog 244 = some (16, 235, 1) := by kernel_rfl
theorem ag_250 : aggB Tryd.prog 250 8 = true := by kernel_rfl
theorem sz_250 : sizeV Tryd.prog 250 = some 8 := by kernel_rfl
theorem ze_250 : zeroV Tryd.prog 250 = some (.agg #[.int .u32 0, .int .u32 0, .int .u32 0, .int .u32 0, .int .u32 0, .int .u32 0, .int .u32 0, .int .u32 0]) := by kernel_rfl
theorem ar_250 : arrT Tryd.prog 250 = some (8, 235, 1) := by kernel_rfl
theorem fo253_0 : fieldOff Tryd.prog 253 0 = some 0 := by kernel_rfl
theorem fo253_1 : fieldOff Tryd.prog 253 1 = some 8 := by kernel_rfl
theorem fo253_2 : fieldOff Tryd.prog 253 2 = some 9 := by kernel_rfl
theorem fo253_3 : fieldOff Tryd.prog 253 3 = some 10 := by kernel_rfl
theorem sp_253 : strPl Tryd.prog 253 = some ([(0, 8), (8, 1), (9, 1), (10, 1)], [.int .u32 0, .int .u32 0, .int .u32 0, .int .u32 0, .int .u32 0, .int .u32 0, .int .u32 0, .int .u32 0, .slice none 0 0, .int .i64 0, .bool false]) := by kernel_rfl
theorem ag_254 : aggB Tryd.prog 254 64 = true := by kernel_rfl
theorem sz_254 : sizeV Tryd.prog 254 = some 64 := by kernel_rfl
theorem ze_254 : zeroV Tryd.prog 254 = some (.agg #[.int .u32 0, .int .u32 0, .int .u32 0, .int .u32 0, .int .u32 0, .int .u32 0, .int .u32 0, .int .u32 0, .int .u32 0, .int .u32 0, .int .u32 0, .int .u32 0, .int .u32 0, .int .u32 0, .int .u32 0, .int .u32 0, .int .u32 0, .int .u32 0, .int .u32 0, .int .u32 0, .int .u32 0, .int .u32 0, .int .u32 0, .int .u32 0, .int .u32 0, .int .u32 0, .int .u32 0, .int .u32 0, .int .u32 0, .int .u32 0, .int .u32 0, .int .u32 0, .int .u32 0, .int .u32 0, .int .u32 0, .int .u32 0, .int .u32 0, .int .u32 0, .int .u32 0, .int .u32 0, .int .u32 0, .int .u32 0, .int .u32 0, .int .u32 0, .int .u32 0, .int .u32 0, .int .u32 0, .int .u32 0, .int .u32 0, .int .u32 0, .int .u32 0, .int .u32 0, .int .u32 0, .int .u32 0, .int .u32 0, .int .u32 0, .int .u32 0, .int .u32 0, .int .u32 0, .int .u32 0, .int .u32 0, .int .u32 0, .int .u32 0, .int .u32 0]) := by kernel_rfl
theorem ar_254 : arrT Tryd.prog 254 = some (64, 235, 1) := by kernel_rfl
theorem cb_11 : callB Tryd.prog 11 = true := by kernel_rfl
theorem cb_14 : callB Tryd.prog 14 = true := by kernel_rfl
theorem cb_17 : callB Tryd.prog 17 = true := by kernel_rfl
theorem cb_19 : callB Tryd.prog 19 = true := by kernel_rfl
theorem cb_20 : callB Tryd.prog 20 = true := by kernel_rfl
theorem cb_21 : callB Tryd.prog 21 = true := by kernel_rfl
theorem cb_22 : callB Tryd.prog 22 = true := by kernel_rfl
theorem cb_23 : callB Tryd.prog 23 = true := by kernel_rfl
theorem cb_26 : callB Tryd.prog 26 = true := by kernel_rfl
theorem cb_27 : callB Tryd.prog 27 = true := by kernel_rfl
theorem cb_28 : callB Tryd.prog 28 = true := by kernel_rfl
theorem cb_29 : callB Tryd.prog 29 = true := by kernel_rfl
theorem cb_31 : callB Tryd.prog 31 = true := by kernel_rfl
theorem cb_32 : callB Tryd.prog 32 = true := by kernel_rfl
theorem cb_34 : callB Tryd.prog 34 = true := by kernel_rfl
theorem cb_37 : callB Tryd.prog 37 = true := by kernel_rfl
theorem cb_38 : callB Tryd.prog 38 = true := by kernel_rfl
theorem cb_39 : callB Tryd.prog 39 = true := by kernel_rfl
theorem cb_40 : callB Tryd.prog 40 = true := by kernel_rfl
theorem cb_41 : callB Tryd.prog 41 = true := by kernel_rfl
theorem cb_42 : callB Tryd.prog 42 = true := by kernel_rfl
theorem cb_43 : callB Tryd.prog 43 = true := by kernel_rfl
theorem cb_44 : callB Tryd.prog 44 = true := by kernel_rfl
theorem cb_45 : callB Tryd.prog 45 = true := by kernel_rfl
theorem cb_46 : callB Tryd.prog 46 = true := by kernel_rfl
theorem cb_47 : callB Tryd.prog 47 = true := by kernel_rfl
theorem cb_50 : callB Tryd.prog 50 = true := by kernel_rfl
theorem cb_51 : callB Tryd.prog 51 = true := by kernel_rfl
theorem cb_52 : callB Tryd.prog 52 = true := by kernel_rfl
theorem cb_53 : callB Tryd.prog 53 = true := by kernel_rfl
theorem cb_54 : callB Tryd.prog 54 = true := by kernel_rfl
theorem cb_55 : callB Tryd.prog 55 = true := by kernel_rfl
theorem cb_65 : callB Tryd.prog 65 = true := by kernel_rfl
theorem cb_66 : callB Tryd.prog 66 = true := by kernel_rfl
theorem cb_67 : callB Tryd.prog 67 = true := by kernel_rfl
theorem cb_68 : callB Tryd.prog 68 = true := by kernel_rfl
theorem cb_69 : callB Tryd.prog 69 = true := by kernel_rfl
theorem cb_71 : callB Tryd.prog 71 = true := by kernel_rfl
theorem cb_72 : callB Tryd.prog 72 = true := by kernel_rfl
theorem cb_73 : callB Tryd.prog 73 = true := by kernel_rfl
theorem cb_74 : callB Tryd.prog 74 = true := by kernel_rfl
theorem cb_79 : callB Tryd.prog 79 = true := by kernel_rfl
theorem cb_81 : callB Tryd.prog 81 = true := by kernel_rfl
theorem cb_82 : callB Tryd.prog 82 = true := by kernel_rfl
theorem cb_84 : callB Tryd.prog 84 = true := by kernel_rfl
theorem cb_85 : callB Tryd.prog 85 = true := by kernel_rfl
theorem cb_86 : callB Tryd.prog 86 = true := by kernel_rfl
theorem cb_87 : callB Tryd.prog 87 = true := by kernel_rfl
theorem cb_88 : callB Tryd.prog 88 = true := by kernel_rfl
theorem cb_89 : callB Tryd.prog 89 = true := by kernel_rfl
theorem cb_90 : callB Tryd.prog 90 = true := by kernel_rfl
theorem cb_91 : callB Tryd.prog 91 = true := by kernel_rfl
theorem cb_92 : callB Tryd.prog 92 = true := by kernel_rfl
theorem cb_93 : callB Tryd.prog 93 = true := by kernel_rfl
theorem cb_94 : callB Tryd.prog 94 = true := by kernel_rfl
theorem cb_96 : callB Tryd.prog 96 = true := by kernel_rfl
theorem cb_97 : callB Tryd.prog 97 = true := by kernel_rfl
theorem cb_98 : callB Tryd.prog 98 = true := by kernel_rfl
theorem cb_99 : callB Tryd.prog 99 = true := by kernel_rfl
theorem cb_105 : callB Tryd.prog 105 = true := by kernel_rfl
theorem cb_106 : callB Tryd.prog 106 = true := by kernel_rfl
theorem cb_107 : callB Tryd.prog 107 = true := by kernel_rfl
theorem cb_108 : callB Tryd.prog 108 = true := by kernel_rfl
theorem cb_109 : callB Tryd.prog 109 = true := by kernel_rfl
theorem cb_110 : callB Tryd.prog 110 = true := by kernel_rfl
theorem cb_111 : callB Tryd.prog 111 = true := by kernel_rfl
theorem cb_112 : callB Tryd.prog 112 = true := by kernel_rfl
theorem cb_113 : callB Tryd.prog 113 = true := by kernel_rfl
theorem cb_116 : callB Tryd.prog 116 = true := by kernel_rfl
theorem cb_121 : callB Tryd.prog 121 = true := by kernel_rfl
theorem cb_122 : callB Tryd.prog 122 = true := by kernel_rfl
theorem cb_131 : callB Tryd.prog 131 = true := by kernel_rfl
theorem cb_132 : callB Tryd.prog 132 = true := by kernel_rfl
theorem cb_133 : callB Tryd.prog 133 = true := by kernel_rfl
theorem cb_139 : callB Tryd.prog 139 = true := by kernel_rfl
theorem cb_140 : callB Tryd.prog 140 = true := by kernel_rfl
theorem cb_141 : callB Tryd.prog 141 = true := by kernel_rfl
theorem cb_145 : callB Tryd.prog 145 = true := by kernel_rfl
theorem cb_146 : callB Tryd.prog 146 = true := by kernel_rfl
theorem cb_147 : callB Tryd.prog 147 = true := by kernel_rfl
theorem cb_148 : callB Tryd.prog 148 = true := by kernel_rfl
theorem cb_152 : callB Tryd.prog 152 = true := by kernel_rfl
theorem mixed : Tryd.prog.follows .mixedOrders = true := by kernel_rfl
end Go.Proofs.YtfpmnhmdphaceaaDoor
