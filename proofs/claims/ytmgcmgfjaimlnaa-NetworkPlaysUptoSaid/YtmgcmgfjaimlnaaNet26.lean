/- Calls of the reference net on a nil pointer: each answers its zero; no conditions. -/
import Derived.Test.YtmgcmgfjaimlnaaNet25
import Derived.Test.YtmgcmgfjaimlnaaNet21
namespace Go.Proofs.Ytmgcmgfjaimlnaa
open Go.EW
attribute [local irreducible] EW.W EW.L EW.fin
set_option linter.unusedVariables false
set_option linter.unusedSimpArgs false
theorem rAt_nil {W w : World} {F : List Seg} (H : St W w F) (k : Int) :
    Ok Try.prog 41 [.pointer none, .int .i64 k].toArray w (fun v w' => v = .tuple #[pk0, .int .i64 0] ∧ St W w' F) := by
  refine enter (n := 22) (rs := #[.cell 4 31, .tmp 5]) Try.func41 rfl rfl rfl rfl ?_
  refine w_seq ?_
  refine w_region ?_
  refine b_alloc rfl ze_31 rfl H (fun b4 w H => ?_)
  refine l_pint rfl rfl ?_
  refine l_nil ?_
  refine w_seq ?_
  refine w_seq ?_
  refine w_region ?_
  refine l_pptr rfl rfl ?_
  refine l_v rfl (q_eqlNilT rfl pt_61 rfl rfl) ?_
  refine l_nil ?_
  refine w_cond_t rfl ?_
  refine w_seq ?_
  refine w_region ?_
  refine l_v rfl (q_build (cs := [.int _ _, .int _ _, .slice _ _ _]) rfl sp_31 rfl) ?_
  first | refine b_store (cs' := [_, _, _]) rfl sz_31 rfl rfl rfl rfl rfl H 0 rfl rfl rfl (fun w H => ?_) | refine b_store (cs' := [_, _, _]) rfl sz_31 rfl rfl rfl rfl rfl H 1 rfl rfl rfl (fun w H => ?_) | refine b_store (cs' := [_, _, _]) rfl sz_31 rfl rfl rfl rfl rfl H 2 rfl rfl rfl (fun w H => ?_) | refine b_store (cs' := [_, _, _]) rfl sz_31 rfl rfl rfl rfl rfl H 3 rfl rfl rfl (fun w H => ?_)
  refine l_pint rfl rfl ?_
  refine l_nil ?_
  refine w_ret ?_
  refine finc2 rfl ag_31 rfl (by first | exact H.cells 0 rfl | exact H.cells 1 rfl | exact H.cells 2 rfl | exact H.cells 3 rfl) rfl ?_
  exact ⟨rfl, by first | exact H | exact H.drop1 | exact H.drop1.drop1 | exact H.drop1.drop1.drop1⟩
theorem rDrop_nil {W w : World} {F : List Seg} (H : St W w F) (k : Int) :
    Ok Try.prog 61 [.pointer none, .int .i64 k].toArray w (fun v w' => v = .int .i64 0 ∧ St W w' F) := by
  refine enter (n := 39) (rs := #[.tmp 4]) Try.func61 rfl rfl rfl rfl ?_
  refine w_seq ?_
  refine w_region ?_
  refine l_pint rfl rfl ?_
  refine l_nil ?_
  refine w_seq ?_
  refine w_seq ?_
  refine w_region ?_
  refine l_pptr rfl rfl ?_
  refine l_v rfl (q_eqlNilT rfl pt_61 rfl rfl) ?_
  refine l_nil ?_
  refine w_cond_t rfl ?_
  refine w_seq ?_
  refine w_region ?_
  refine l_pint rfl rfl ?_
  refine l_nil ?_
  refine w_ret ?_
  refine fin1 (v := .int _ _) rfl ?_
  exact ⟨rfl, by first | exact H | exact H.drop1 | exact H.drop1.drop1 | exact H.drop1.drop1.drop1⟩
theorem rTake_nil {W w : World} {F : List Seg} (H : St W w F) (k : Int) :
    Ok Try.prog 59 [.pointer none, .int .i64 k].toArray w (fun v w' => v = .tuple #[pk0, .int .i64 0] ∧ St W w' F) := by
  refine enter (n := 19) (rs := #[.cell 4 31, .tmp 5]) Try.func59 rfl rfl rfl rfl ?_
  refine w_seq ?_
  refine w_region ?_
  refine b_alloc rfl ze_31 rfl H (fun b4 w H => ?_)
  refine l_pint rfl rfl ?_
  refine l_nil ?_
  refine w_seq ?_
  refine w_region ?_
  refine l_pptr rfl rfl ?_
  refine l_pint rfl rfl ?_
  refine b_call rfl cb_41 rfl (rAt_nil H k) (fun v w hv => ?_)
  obtain ⟨rfl, H⟩ := hv
  refine l_ptup rfl rfl ?_
  refine l_pagg rfl rfl ?_
  refine l_pint rfl rfl ?_
  refine b_alloc rfl ze_31 rfl H (fun b6 w H => ?_)
  first | refine b_store (cs' := [_, _, _]) rfl sz_31 rfl rfl rfl rfl rfl H 0 rfl rfl rfl (fun w H => ?_) | refine b_store (cs' := [_, _, _]) rfl sz_31 rfl rfl rfl rfl rfl H 1 rfl rfl rfl (fun w H => ?_) | refine b_store (cs' := [_, _, _]) rfl sz_31 rfl rfl rfl rfl rfl H 2 rfl rfl rfl (fun w H => ?_) | refine b_store (cs' := [_, _, _]) rfl sz_31 rfl rfl rfl rfl rfl H 3 rfl rfl rfl (fun w H => ?_)
  refine l_pint rfl rfl ?_
  refine l_nil ?_
  refine w_seq ?_
  refine w_region ?_
  refine l_pptr rfl rfl ?_
  refine l_pint rfl rfl ?_
  refine b_call rfl cb_61 rfl (rDrop_nil H k) (fun v w hv => ?_)
  obtain ⟨rfl, H⟩ := hv
  refine l_nil ?_
  refine w_seq ?_
  refine w_region ?_
  refine l_v rfl (q_loadN (vs := [_, _, _]) rfl ag_31 rfl rfl (by first | exact H.cells 0 rfl | exact H.cells 1 rfl | exact H.cells 2 rfl | exact H.cells 3 rfl)) ?_
  refine l_pint rfl rfl ?_
  first | refine b_store (cs' := [_, _, _]) rfl sz_31 rfl rfl rfl rfl rfl H 0 rfl rfl rfl (fun w H => ?_) | refine b_store (cs' := [_, _, _]) rfl sz_31 rfl rfl rfl rfl rfl H 1 rfl rfl rfl (fun w H => ?_) | refine b_store (cs' := [_, _, _]) rfl sz_31 rfl rfl rfl rfl rfl H 2 rfl rfl rfl (fun w H => ?_) | refine b_store (cs' := [_, _, _]) rfl sz_31 rfl rfl rfl rfl rfl H 3 rfl rfl rfl (fun w H => ?_)
  refine l_pint rfl rfl ?_
  refine l_nil ?_
  refine w_ret ?_
  refine finc2 rfl ag_31 rfl (by first | exact H.cells 0 rfl | exact H.cells 1 rfl | exact H.cells 2 rfl | exact H.cells 3 rfl) rfl ?_
  exact ⟨rfl, by first | exact H | exact H.drop1 | exact H.drop1.drop1 | exact H.drop1.drop1.drop1⟩
theorem rRecord_nil {W w : World} {F : List Seg} (H : St W w F) (k : Int) :
    Ok Try.prog 42 [.pointer none, .int .i64 k].toArray w (fun v w' => v = .tuple #[pk0, .int .i64 0] ∧ St W w' F) := by
  refine enter (n := 29) (rs := #[.cell 4 31, .tmp 5]) Try.func42 rfl rfl rfl rfl ?_
  refine w_seq ?_
  refine w_region ?_
  refine b_alloc rfl ze_31 rfl H (fun b4 w H => ?_)
  refine l_pint rfl rfl ?_
  refine l_nil ?_
  refine w_seq ?_
  refine w_seq ?_
  refine w_region ?_
  refine l_pptr rfl rfl ?_
  refine l_v rfl (q_eqlNilT rfl pt_61 rfl rfl) ?_
  refine l_nil ?_
  refine w_cond_t rfl ?_
  refine w_seq ?_
  refine w_region ?_
  refine l_v rfl (q_build (cs := [.int _ _, .int _ _, .slice _ _ _]) rfl sp_31 rfl) ?_
  first | refine b_store (cs' := [_, _, _]) rfl sz_31 rfl rfl rfl rfl rfl H 0 rfl rfl rfl (fun w H => ?_) | refine b_store (cs' := [_, _, _]) rfl sz_31 rfl rfl rfl rfl rfl H 1 rfl rfl rfl (fun w H => ?_) | refine b_store (cs' := [_, _, _]) rfl sz_31 rfl rfl rfl rfl rfl H 2 rfl rfl rfl (fun w H => ?_) | refine b_store (cs' := [_, _, _]) rfl sz_31 rfl rfl rfl rfl rfl H 3 rfl rfl rfl (fun w H => ?_)
  refine l_pint rfl rfl ?_
  refine l_nil ?_
  refine w_ret ?_
  refine finc2 rfl ag_31 rfl (by first | exact H.cells 0 rfl | exact H.cells 1 rfl | exact H.cells 2 rfl | exact H.cells 3 rfl) rfl ?_
  exact ⟨rfl, by first | exact H | exact H.drop1 | exact H.drop1.drop1 | exact H.drop1.drop1.drop1⟩
theorem rClear_nil {W w : World} {F : List Seg} (H : St W w F) :
    Ok Try.prog 67 [.pointer none].toArray w (fun v w' => v =  .tuple #[] ∧ St W w' F) := by
  refine enter (n := 7) (rs := #[]) Try.func67 rfl rfl rfl rfl ?_
  refine w_seq ?_
  refine w_region ?_
  refine l_pptr rfl rfl ?_
  refine l_v rfl (q_neqNilT rfl pt_61 rfl rfl) ?_
  refine l_nil ?_
  refine w_cond_f rfl ?_
  refine w_skip ?_
  exact fin0n ⟨rfl, H⟩
theorem rSend_nil {W w : World} {F : List Seg} (H : St W w F) (fr to : Int) {a : Option Addr} {n cap : Nat} :
    Ok Try.prog 55 [.pointer none, .agg #[.int .i64 fr, .int .i64 to, .slice a n cap]].toArray w (fun v w' => v = .int .i64 0 ∧ St W w' F) := by
  refine enter (n := 64) (rs := #[.tmp 4]) Try.func55 rfl rfl rfl rfl ?_
  refine w_seq ?_
  refine w_region ?_
  refine b_box (cs := [.int .i64 fr, .int .i64 to, .slice a n cap]) rfl rfl rfl H (fun b3 w H => ?_)
  refine l_pint rfl rfl ?_
  refine l_nil ?_
  refine w_seq ?_
  refine w_seq ?_
  refine w_region ?_
  refine l_pptr rfl rfl ?_
  refine l_v rfl (q_eqlNilT rfl pt_61 rfl rfl) ?_
  refine l_nil ?_
  refine w_cond_t rfl ?_
  refine w_seq ?_
  refine w_region ?_
  refine l_pint rfl rfl ?_
  refine l_nil ?_
  refine w_ret ?_
  refine fin1 (v := .int _ _) rfl ?_
  exact ⟨rfl, by first | exact H | exact H.drop1 | exact H.drop1.drop1 | exact H.drop1.drop1.drop1⟩
theorem rInject_nil {W w : World} {F : List Seg} (H : St W w F) (fr to : Int) {a : Option Addr} {n cap : Nat} :
    Ok Try.prog 57 [.pointer none, .agg #[.int .i64 fr, .int .i64 to, .slice a n cap]].toArray w (fun v w' => v = .int .i64 0 ∧ St W w' F) := by
  refine enter (n := 27) (rs := #[.tmp 4]) Try.func57 rfl rfl rfl rfl ?_
  refine w_seq ?_
  refine w_region ?_
  refine b_box (cs := [.int .i64 fr, .int .i64 to, .slice a n cap]) rfl rfl rfl H (fun b3 w H => ?_)
  refine l_pint rfl rfl ?_
  refine l_nil ?_
  refine w_seq ?_
  refine w_seq ?_
  refine w_region ?_
  refine l_pptr rfl rfl ?_
  refine l_v rfl (q_eqlNilT rfl pt_61 rfl rfl) ?_
  refine l_nil ?_
  refine w_cond_t rfl ?_
  refine w_seq ?_
  refine w_region ?_
  refine l_pint rfl rfl ?_
  refine l_nil ?_
  refine w_ret ?_
  refine fin1 (v := .int _ _) rfl ?_
  exact ⟨rfl, by first | exact H | exact H.drop1 | exact H.drop1.drop1 | exact H.drop1.drop1.drop1⟩
theorem rCopy_nil {W w : World} {F : List Seg} (H : St W w F) (k : Int) :
    Ok Try.prog 60 [.pointer none, .int .i64 k].toArray w (fun v w' => v = .int .i64 0 ∧ St W w' F) := by
  refine enter (n := 28) (rs := #[.tmp 4]) Try.func60 rfl rfl rfl rfl ?_
  refine w_seq ?_
  refine w_region ?_
  refine l_pint rfl rfl ?_
  refine l_nil ?_
  refine w_seq ?_
  refine w_seq ?_
  refine w_region ?_
  refine l_pptr rfl rfl ?_
  refine l_v rfl (q_eqlNilT rfl pt_61 rfl rfl) ?_
  refine l_nil ?_
  refine w_cond_t rfl ?_
  refine w_seq ?_
  refine w_region ?_
  refine l_pint rfl rfl ?_
  refine l_nil ?_
  refine w_ret ?_
  refine fin1 (v := .int _ _) rfl ?_
  exact ⟨rfl, by first | exact H | exact H.drop1 | exact H.drop1.drop1 | exact H.drop1.drop1.drop1⟩
theorem rTurn_nil {W w : World} {F : List Seg} (H : St W w F) (k j : Int) (m : UInt8) :
    Ok Try.prog 62 [.pointer none, .int .i64 k, .int .i64 j, B m].toArray w (fun v w' => v = .int .i64 0 ∧ St W w' F) := by
  refine enter (n := 53) (rs := #[.tmp 8]) Try.func62 rfl rfl rfl rfl ?_
  refine w_seq ?_
  refine w_region ?_
  refine l_pint rfl rfl ?_
  refine l_nil ?_
  refine w_seq ?_
  refine w_seq ?_
  refine w_region ?_
  refine l_pptr rfl rfl ?_
  refine l_v rfl (q_eqlNilT rfl pt_61 rfl rfl) ?_
  refine l_nil ?_
  refine w_cond_t rfl ?_
  refine w_seq ?_
  refine w_region ?_
  refine l_pint rfl rfl ?_
  refine l_nil ?_
  refine w_ret ?_
  refine fin1 (v := .int _ _) rfl ?_
  exact ⟨rfl, by first | exact H | exact H.drop1 | exact H.drop1.drop1 | exact H.drop1.drop1.drop1⟩
theorem rSwap_nil {W w : World} {F : List Seg} (H : St W w F) (i k : Int) :
    Ok Try.prog 63 [.pointer none, .int .i64 i, .int .i64 k].toArray w (fun v w' => v = .int .i64 0 ∧ St W w' F) := by
  refine enter (n := 47) (rs := #[.tmp 6]) Try.func63 rfl rfl rfl rfl ?_
  refine w_seq ?_
  refine w_region ?_
  refine l_pint rfl rfl ?_
  refine l_nil ?_
  refine w_seq ?_
  refine w_seq ?_
  refine w_region ?_
  refine l_pptr rfl rfl ?_
  refine l_v rfl (q_eqlNilT rfl pt_61 rfl rfl) ?_
  refine l_nil ?_
  refine w_cond_t rfl ?_
  refine w_seq ?_
  refine w_region ?_
  refine l_pint rfl rfl ?_
  refine l_nil ?_
  refine w_ret ?_
  refine fin1 (v := .int _ _) rfl ?_
  exact ⟨rfl, by first | exact H | exact H.drop1 | exact H.drop1.drop1 | exact H.drop1.drop1.drop1⟩
theorem rLen_nil {W w : World} {F : List Seg} (H : St W w F) :
    Ok Try.prog 40 [.pointer none].toArray w (fun v w' => v = .int .i64 0 ∧ St W w' F) := by
  refine enter (n := 10) (rs := #[.tmp 2]) Try.func40 rfl rfl rfl rfl ?_
  refine w_seq ?_
  refine w_region ?_
  refine l_pint rfl rfl ?_
  refine l_nil ?_
  refine w_seq ?_
  refine w_seq ?_
  refine w_region ?_
  refine l_pptr rfl rfl ?_
  refine l_v rfl (q_eqlNilT rfl pt_61 rfl rfl) ?_
  refine l_nil ?_
  refine w_cond_t rfl ?_
  refine w_seq ?_
  refine w_region ?_
  refine l_pint rfl rfl ?_
  refine l_nil ?_
  refine w_ret ?_
  refine fin1 (v := .int _ _) rfl ?_
  exact ⟨rfl, by first | exact H | exact H.drop1 | exact H.drop1.drop1 | exact H.drop1.drop1.drop1⟩
theorem rSent_nil {W w : World} {F : List Seg} (H : St W w F) :
    Ok Try.prog 38 [.pointer none].toArray w (fun v w' => v = .int .i64 0 ∧ St W w' F) := by
  refine enter (n := 10) (rs := #[.tmp 2]) Try.func38 rfl rfl rfl rfl ?_
  refine w_seq ?_
  refine w_region ?_
  refine l_pint rfl rfl ?_
  refine l_nil ?_
  refine w_seq ?_
  refine w_seq ?_
  refine w_region ?_
  refine l_pptr rfl rfl ?_
  refine l_v rfl (q_eqlNilT rfl pt_61 rfl rfl) ?_
  refine l_nil ?_
  refine w_cond_t rfl ?_
  refine w_seq ?_
  refine w_region ?_
  refine l_pint rfl rfl ?_
  refine l_nil ?_
  refine w_ret ?_
  refine fin1 (v := .int _ _) rfl ?_
  exact ⟨rfl, by first | exact H | exact H.drop1 | exact H.drop1.drop1 | exact H.drop1.drop1.drop1⟩
theorem rFor_nil {W w : World} {F : List Seg} (H : St W w F) (to : Int) :
    Ok Try.prog 65 [.pointer none, I64 to].toArray w (fun v w' => v = .slice none 0 0 ∧ St W w' F) := by
  refine enter (n := 34) (rs := #[.tmp 4]) Try.func65 rfl rfl rfl rfl ?_
  refine w_seq ?_
  refine w_region ?_
  refine l_pslice rfl rfl ?_
  refine l_nil ?_
  refine w_seq ?_
  refine w_region ?_
  refine l_pslice rfl rfl ?_
  refine l_nil ?_
  refine w_seq ?_
  refine w_seq ?_
  refine w_region ?_
  refine l_pptr rfl rfl ?_
  refine l_v rfl (q_eqlNilT rfl pt_61 rfl rfl) ?_
  refine l_nil ?_
  refine w_cond_t rfl ?_
  refine w_seq ?_
  refine w_region ?_
  refine l_pslice rfl rfl ?_
  refine l_pslice rfl rfl ?_
  refine l_nil ?_
  refine w_ret ?_
  refine fin1 (v := .slice _ _ _) rfl ?_
  exact ⟨rfl, by first | exact H | exact H.drop1 | exact H.drop1.drop1 | exact H.drop1.drop1.drop1⟩
theorem rGenuine_nil {W w : World} {F : List Seg} (H : St W w F) (fr to : Int) {a : Option Addr} {n cap : Nat} :
    Ok Try.prog 68 [.pointer none, .agg #[.int .i64 fr, .int .i64 to, .slice a n cap]].toArray w (fun v w' => v = .bool false ∧ St W w' F) := by
  refine enter (n := 45) (rs := #[.tmp 4]) Try.func68 rfl rfl rfl rfl ?_
  refine w_seq ?_
  refine w_region ?_
  refine b_box (cs := [.int .i64 fr, .int .i64 to, .slice a n cap]) rfl rfl rfl H (fun b3 w H => ?_)
  refine l_pbool rfl rfl ?_
  refine l_nil ?_
  refine w_seq ?_
  refine w_seq ?_
  refine w_region ?_
  refine l_pint rfl rfl ?_
  refine l_nil ?_
  refine w_block ?_
  refine w_loopG (G := Unit) [4, 5, 6, 7, 8, 9, 10, 11, 12, 13, 14, 15, 16, 17, 18, 19, 20, 21, 22, 23, 24, 25, 26, 27, 28, 29, 30, 31, 32, 33, 34, 35, 36, 37, 38, 39, 40, 41, 42, 43, 44] (fun ⟨⟩ => []) (fun m ⟨⟩ w => m = 1 ∧ St W w (blk b3 [.int .i64 fr, .int .i64 to, .slice a n cap] 31 :: F)) (fun _ => rfl) ?_ ?_
  · exact ⟨1, ⟨⟩, trivial, rfl, H⟩
  rintro m ⟨⟩ ρ1 w ⟨hm, H⟩
  refine w_seq ?_
  refine w_seq ?_
  refine w_region ?_
  refine l_pptr rfl rfl ?_
  refine l_v rfl (q_neqNilT rfl pt_61 rfl rfl) ?_
  refine l_pbool rfl rfl ?_
  refine l_no rfl ?_
  refine l_no rfl ?_
  refine l_no rfl ?_
  refine l_no rfl ?_
  refine l_no rfl ?_
  refine l_no rfl ?_
  refine l_no rfl ?_
  refine l_pickF (v := .bool _) rfl rfl rfl ?_
  refine l_nil ?_
  refine w_cond_f rfl ?_
  refine w_exit ?_
  refine w_seq ?_
  refine w_region ?_
  refine l_pbool rfl rfl ?_
  refine l_nil ?_
  refine w_ret ?_
  refine fin1 (v := .bool _) rfl ?_
  exact ⟨rfl, by first | exact H | exact H.drop1 | exact H.drop1.drop1 | exact H.drop1.drop1.drop1⟩
end Go.Proofs.Ytmgcmgfjaimlnaa
