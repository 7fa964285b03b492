/- Closed facts of this translation's tables, reckoned by the kernel; no conditions. -/
import Derived.Test.YtmgcmgfjaimlnaaBaseAll
import Derived.Test.YtmgcmgfjaimlnaaProg
namespace Go.Proofs.Ytmgcmgfjaimlnaa
open Go.EW
theorem c1_3 : cell1B Try.prog 3 = true := by kernel_rfl
theorem ze_3 : zeroV Try.prog 3 = some (.int .i64 0) := by kernel_rfl
theorem ze_5 : zeroV Try.prog 5 = some (.int .u8 0) := by kernel_rfl
theorem c1_9 : cell1B Try.prog 9 = true := by kernel_rfl
theorem st_9 : isStrT Try.prog 9 = true := by kernel_rfl
theorem c1_22 : cell1B Try.prog 22 = true := by kernel_rfl
theorem sz_22 : sizeV Try.prog 22 = some 1 := by kernel_rfl
theorem ze_22 : zeroV Try.prog 22 = some (.slice none 0 0) := by kernel_rfl
theorem el_22 : elT Try.prog 22 = some (31, 3, 40) := by kernel_rfl
theorem c1_23 : cell1B Try.prog 23 = true := by kernel_rfl
theorem ze_23 : zeroV Try.prog 23 = some (.slice none 0 0) := by kernel_rfl
theorem el_23 : elT Try.prog 23 = some (3, 1, 8) := by kernel_rfl
theorem pt_24 : isPtrT Try.prog 24 = true := by kernel_rfl
theorem c1_29 : cell1B Try.prog 29 = true := by kernel_rfl
theorem el_29 : elT Try.prog 29 = some (5, 1, 1) := by kernel_rfl
theorem by_29 : isBytesT Try.prog 29 = true := by kernel_rfl
theorem ag_31 : aggB Try.prog 31 3 = true := by kernel_rfl
theorem sz_31 : sizeV Try.prog 31 = some 3 := by kernel_rfl
theorem ze_31 : zeroV Try.prog 31 = some (.agg #[.int .i64 0, .int .i64 0, .slice none 0 0]) := by kernel_rfl
theorem fo31_0 : fieldOff Try.prog 31 0 = some 0 := by kernel_rfl
theorem fo31_1 : fieldOff Try.prog 31 1 = some 1 := by kernel_rfl
theorem fo31_2 : fieldOff Try.prog 31 2 = some 2 := by kernel_rfl
theorem sp_31 : strPl Try.prog 31 = some ([(0, 1), (1, 1), (2, 1)], [.int .i64 0, .int .i64 0, .slice none 0 0]) := by kernel_rfl
theorem c1_82 : cell1B Try.prog 82 = true := by kernel_rfl
theorem mp_82 : mapB Try.prog 82 88 3 = true := by kernel_rfl
theorem ky_88 : kyB Try.prog 88 = true := by kernel_rfl
theorem fo84_0 : fieldOff Try.prog 84 0 = some 0 := by kernel_rfl
theorem fo84_1 : fieldOff Try.prog 84 1 = some 1 := by kernel_rfl
theorem fo84_2 : fieldOff Try.prog 84 2 = some 2 := by kernel_rfl
theorem fo84_3 : fieldOff Try.prog 84 3 = some 3 := by kernel_rfl
theorem fo84_4 : fieldOff Try.prog 84 4 = some 4 := by kernel_rfl
theorem fo84_5 : fieldOff Try.prog 84 5 = some 5 := by kernel_rfl
theorem sp_84 : strPl Try.prog 84 = some ([(0, 1), (1, 1), (2, 1), (3, 1), (4, 1), (5, 1)], [.int .i64 0, .int .i64 0, .slice none 0 0, .slice none 0 0, .map none, .map none]) := by kernel_rfl
theorem ag_88 : aggB Try.prog 88 3 = true := by kernel_rfl
theorem sz_88 : sizeV Try.prog 88 = some 3 := by kernel_rfl
theorem ze_88 : zeroV Try.prog 88 = some (.agg #[.int .i64 0, .int .i64 0, .string ⟨#[]⟩]) := by kernel_rfl
theorem fo88_2 : fieldOff Try.prog 88 2 = some 2 := by kernel_rfl
theorem sp_88 : strPl Try.prog 88 = some ([(0, 1), (1, 1), (2, 1)], [.int .i64 0, .int .i64 0, .string ⟨#[]⟩]) := by kernel_rfl
theorem c1_94 : cell1B Try.prog 94 = true := by kernel_rfl
theorem cb_11 : callB Try.prog 11 = true := by kernel_rfl
theorem cb_14 : callB Try.prog 14 = true := by kernel_rfl
theorem cb_15 : callB Try.prog 15 = true := by kernel_rfl
theorem cb_16 : callB Try.prog 16 = true := by kernel_rfl
theorem cb_18 : callB Try.prog 18 = true := by kernel_rfl
theorem cb_19 : callB Try.prog 19 = true := by kernel_rfl
theorem cb_21 : callB Try.prog 21 = true := by kernel_rfl
theorem cb_22 : callB Try.prog 22 = true := by kernel_rfl
theorem cb_23 : callB Try.prog 23 = true := by kernel_rfl
theorem cb_24 : callB Try.prog 24 = true := by kernel_rfl
theorem cb_26 : callB Try.prog 26 = true := by kernel_rfl
theorem cb_27 : callB Try.prog 27 = true := by kernel_rfl
theorem cb_30 : callB Try.prog 30 = true := by kernel_rfl
theorem cb_31 : callB Try.prog 31 = true := by kernel_rfl
theorem cb_32 : callB Try.prog 32 = true := by kernel_rfl
theorem cb_33 : callB Try.prog 33 = true := by kernel_rfl
theorem cb_34 : callB Try.prog 34 = true := by kernel_rfl
theorem cb_43 : callB Try.prog 43 = true := by kernel_rfl
theorem cb_44 : callB Try.prog 44 = true := by kernel_rfl
theorem cb_46 : callB Try.prog 46 = true := by kernel_rfl
theorem cb_47 : callB Try.prog 47 = true := by kernel_rfl
theorem cb_50 : callB Try.prog 50 = true := by kernel_rfl
theorem cb_52 : callB Try.prog 52 = true := by kernel_rfl
theorem cb_82 : callB Try.prog 82 = true := by kernel_rfl
theorem mixed : Try.prog.follows .mixedOrders = true := by kernel_rfl
end Go.Proofs.Ytmgcmgfjaimlnaa
