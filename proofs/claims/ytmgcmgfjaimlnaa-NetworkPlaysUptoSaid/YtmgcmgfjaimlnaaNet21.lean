/- The net's calls on a nil pointer and on a zero value do not panic and answer as the page says; the walk of the law NetworkNil ends in true. -/
import Derived.Test.YtmgcmgfjaimlnaaNet20
namespace Go.Proofs.Ytmgcmgfjaimlnaa
open Go.EW
attribute [local irreducible] EW.W EW.L EW.fin
set_option linter.unusedVariables false
set_option linter.unusedSimpArgs false
def pk0 : Value := .agg #[.int .i64 0, .int .i64 0, .slice none 0 0]
theorem At_nil {W w : World} {F : List Seg} (H : St W w F) (k : Int) :
    Ok Try.prog 27 [.pointer none, .int .i64 k].toArray w (fun v w' => v = .tuple #[pk0, .int .i64 0] ∧ St W w' F) := by
  refine enter (n := 22) (rs := #[.cell 4 31, .tmp 5]) Try.func27 rfl rfl rfl rfl ?_
  refine w_seq ?_
  refine w_region ?_
  refine b_alloc rfl ze_31 rfl H (fun b4 w H => ?_)
  refine l_pint rfl rfl ?_
  refine l_nil ?_
  refine w_seq ?_
  refine w_seq ?_
  refine w_region ?_
  refine l_pptr rfl rfl ?_
  refine l_v rfl (q_eqlNilT rfl pt_24 rfl rfl) ?_
  refine l_nil ?_
  refine w_cond_t rfl ?_
  refine w_seq ?_
  refine w_region ?_
  refine l_v rfl (q_build (cs := [.int _ _, .int _ _, .slice _ _ _]) rfl sp_31 rfl) ?_
  first | refine b_store (cs' := [_, _, _]) rfl sz_31 rfl rfl rfl rfl rfl H 0 rfl rfl rfl (fun w H => ?_) | refine b_store (cs' := [_, _, _]) rfl sz_31 rfl rfl rfl rfl rfl H 1 rfl rfl rfl (fun w H => ?_) | refine b_store (cs' := [_, _, _]) rfl sz_31 rfl rfl rfl rfl rfl H 2 rfl rfl rfl (fun w H => ?_) | refine b_store (cs' := [_, _, _]) rfl sz_31 rfl rfl rfl rfl rfl H 3 rfl rfl rfl (fun w H => ?_)
  refine l_pint rfl rfl ?_
  refine l_nil ?_
  refine w_ret ?_
  refine finc2 rfl ag_31 rfl (by first | exact H.cells 0 rfl | exact H.cells 1 rfl | exact H.cells 2 rfl | exact H.cells 3 rfl) rfl ?_
  exact ⟨rfl, by first | exact H | exact H.drop1 | exact H.drop1.drop1 | exact H.drop1.drop1.drop1⟩
theorem Take_nil {W w : World} {F : List Seg} (H : St W w F) (k : Int) :
    Ok Try.prog 14 [.pointer none, .int .i64 k].toArray w (fun v w' => v = .tuple #[pk0, .int .i64 0] ∧ St W w' F) := by
  refine enter (n := 33) (rs := #[.cell 4 31, .tmp 5]) Try.func14 rfl rfl rfl rfl ?_
  refine w_seq ?_
  refine w_region ?_
  refine b_alloc rfl ze_31 rfl H (fun b4 w H => ?_)
  refine l_pint rfl rfl ?_
  refine l_nil ?_
  refine w_seq ?_
  refine w_region ?_
  refine l_pptr rfl rfl ?_
  refine l_pint rfl rfl ?_
  refine b_call rfl cb_27 rfl (At_nil H k) (fun v w hv => ?_)
  obtain ⟨rfl, H⟩ := hv
  refine l_ptup rfl rfl ?_
  refine l_pagg rfl rfl ?_
  refine l_pint rfl rfl ?_
  refine b_alloc rfl ze_31 rfl H (fun b6 w H => ?_)
  first | refine b_store (cs' := [_, _, _]) rfl sz_31 rfl rfl rfl rfl rfl H 0 rfl rfl rfl (fun w H => ?_) | refine b_store (cs' := [_, _, _]) rfl sz_31 rfl rfl rfl rfl rfl H 1 rfl rfl rfl (fun w H => ?_) | refine b_store (cs' := [_, _, _]) rfl sz_31 rfl rfl rfl rfl rfl H 2 rfl rfl rfl (fun w H => ?_) | refine b_store (cs' := [_, _, _]) rfl sz_31 rfl rfl rfl rfl rfl H 3 rfl rfl rfl (fun w H => ?_)
  refine l_pint rfl rfl ?_
  refine l_nil ?_
  refine w_seq ?_
  refine w_seq ?_
  refine w_region ?_
  refine l_pptr rfl rfl ?_
  refine l_v rfl (q_neqNilT rfl pt_24 rfl rfl) ?_
  refine l_pbool rfl rfl ?_
  refine l_no rfl ?_
  refine l_no rfl ?_
  refine l_pickF (v := .bool _) rfl rfl rfl ?_
  refine l_nil ?_
  refine w_cond_f rfl ?_
  refine w_skip ?_
  refine w_seq ?_
  refine w_region ?_
  refine l_v rfl (q_loadN (vs := [_, _, _]) rfl ag_31 rfl rfl (by first | exact H.cells 0 rfl | exact H.cells 1 rfl | exact H.cells 2 rfl | exact H.cells 3 rfl)) ?_
  refine l_pint rfl rfl ?_
  first | refine b_store (cs' := [_, _, _]) rfl sz_31 rfl rfl rfl rfl rfl H 0 rfl rfl rfl (fun w H => ?_) | refine b_store (cs' := [_, _, _]) rfl sz_31 rfl rfl rfl rfl rfl H 1 rfl rfl rfl (fun w H => ?_) | refine b_store (cs' := [_, _, _]) rfl sz_31 rfl rfl rfl rfl rfl H 2 rfl rfl rfl (fun w H => ?_) | refine b_store (cs' := [_, _, _]) rfl sz_31 rfl rfl rfl rfl rfl H 3 rfl rfl rfl (fun w H => ?_)
  refine l_pint rfl rfl ?_
  refine l_nil ?_
  refine w_ret ?_
  refine finc2 rfl ag_31 rfl (by first | exact H.cells 0 rfl | exact H.cells 1 rfl | exact H.cells 2 rfl | exact H.cells 3 rfl) rfl ?_
  exact ⟨rfl, by first | exact H | exact H.drop1 | exact H.drop1.drop1 | exact H.drop1.drop1.drop1⟩
theorem Record_nil {W w : World} {F : List Seg} (H : St W w F) (k : Int) :
    Ok Try.prog 43 [.pointer none, .int .i64 k].toArray w (fun v w' => v = .tuple #[pk0, .int .i64 0] ∧ St W w' F) := by
  refine enter (n := 29) (rs := #[.cell 4 31, .tmp 5]) Try.func43 rfl rfl rfl rfl ?_
  refine w_seq ?_
  refine w_region ?_
  refine b_alloc rfl ze_31 rfl H (fun b4 w H => ?_)
  refine l_pint rfl rfl ?_
  refine l_nil ?_
  refine w_seq ?_
  refine w_seq ?_
  refine w_region ?_
  refine l_pptr rfl rfl ?_
  refine l_v rfl (q_eqlNilT rfl pt_24 rfl rfl) ?_
  refine l_nil ?_
  refine w_cond_t rfl ?_
  refine w_seq ?_
  refine w_region ?_
  refine l_v rfl (q_build (cs := [.int _ _, .int _ _, .slice _ _ _]) rfl sp_31 rfl) ?_
  first | refine b_store (cs' := [_, _, _]) rfl sz_31 rfl rfl rfl rfl rfl H 0 rfl rfl rfl (fun w H => ?_) | refine b_store (cs' := [_, _, _]) rfl sz_31 rfl rfl rfl rfl rfl H 1 rfl rfl rfl (fun w H => ?_) | refine b_store (cs' := [_, _, _]) rfl sz_31 rfl rfl rfl rfl rfl H 2 rfl rfl rfl (fun w H => ?_) | refine b_store (cs' := [_, _, _]) rfl sz_31 rfl rfl rfl rfl rfl H 3 rfl rfl rfl (fun w H => ?_)
  refine l_pint rfl rfl ?_
  refine l_nil ?_
  refine w_ret ?_
  refine finc2 rfl ag_31 rfl (by first | exact H.cells 0 rfl | exact H.cells 1 rfl | exact H.cells 2 rfl | exact H.cells 3 rfl) rfl ?_
  exact ⟨rfl, by first | exact H | exact H.drop1 | exact H.drop1.drop1 | exact H.drop1.drop1.drop1⟩
theorem Clear_nil {W w : World} {F : List Seg} (H : St W w F) :
    Ok Try.prog 24 [.pointer none].toArray w (fun v w' => v =  .tuple #[] ∧ St W w' F) := by
  refine enter (n := 7) (rs := #[]) Try.func24 rfl rfl rfl rfl ?_
  refine w_seq ?_
  refine w_region ?_
  refine l_pptr rfl rfl ?_
  refine l_v rfl (q_neqNilT rfl pt_24 rfl rfl) ?_
  refine l_nil ?_
  refine w_cond_f rfl ?_
  refine w_skip ?_
  exact fin0n ⟨rfl, H⟩
theorem Send_nil {W w : World} {F : List Seg} (H : St W w F) (fr to : Int) {a : Option Addr} {n cap : Nat} :
    Ok Try.prog 19 [.pointer none, .agg #[.int .i64 fr, .int .i64 to, .slice a n cap]].toArray w (fun v w' => v = .int .i64 0 ∧ St W w' F) := by
  refine enter (n := 70) (rs := #[.tmp 4]) Try.func19 rfl rfl rfl rfl ?_
  refine w_seq ?_
  refine w_region ?_
  refine b_box (cs := [.int .i64 fr, .int .i64 to, .slice a n cap]) rfl rfl rfl H (fun b3 w H => ?_)
  refine l_pint rfl rfl ?_
  refine l_nil ?_
  refine w_seq ?_
  refine w_seq ?_
  refine w_region ?_
  refine l_pptr rfl rfl ?_
  refine l_v rfl (q_eqlNilT rfl pt_24 rfl rfl) ?_
  refine l_nil ?_
  refine w_cond_t rfl ?_
  refine w_seq ?_
  refine w_region ?_
  refine l_pint rfl rfl ?_
  refine l_nil ?_
  refine w_ret ?_
  refine fin1 (v := .int _ _) rfl ?_
  exact ⟨rfl, by first | exact H | exact H.drop1 | exact H.drop1.drop1 | exact H.drop1.drop1.drop1⟩
theorem Inject_nil {W w : World} {F : List Seg} (H : St W w F) (fr to : Int) {a : Option Addr} {n cap : Nat} :
    Ok Try.prog 31 [.pointer none, .agg #[.int .i64 fr, .int .i64 to, .slice a n cap]].toArray w (fun v w' => v = .int .i64 0 ∧ St W w' F) := by
  refine enter (n := 10) (rs := #[.tmp 4]) Try.func31 rfl rfl rfl rfl ?_
  refine w_seq ?_
  refine w_region ?_
  refine b_box (cs := [.int .i64 fr, .int .i64 to, .slice a n cap]) rfl rfl rfl H (fun b3 w H => ?_)
  refine l_pint rfl rfl ?_
  refine l_nil ?_
  refine w_seq ?_
  refine w_seq ?_
  refine w_region ?_
  refine l_pptr rfl rfl ?_
  refine l_v rfl (q_eqlNilT rfl pt_24 rfl rfl) ?_
  refine l_nil ?_
  refine w_cond_t rfl ?_
  refine w_seq ?_
  refine w_region ?_
  refine l_pint rfl rfl ?_
  refine l_nil ?_
  refine w_ret ?_
  refine fin1 (v := .int _ _) rfl ?_
  exact ⟨rfl, by first | exact H | exact H.drop1 | exact H.drop1.drop1 | exact H.drop1.drop1.drop1⟩
theorem Copy_nil {W w : World} {F : List Seg} (H : St W w F) (k : Int) :
    Ok Try.prog 26 [.pointer none, .int .i64 k].toArray w (fun v w' => v = .int .i64 0 ∧ St W w' F) := by
  refine enter (n := 28) (rs := #[.tmp 4]) Try.func26 rfl rfl rfl rfl ?_
  refine w_seq ?_
  refine w_region ?_
  refine l_pint rfl rfl ?_
  refine l_nil ?_
  refine w_seq ?_
  refine w_seq ?_
  refine w_region ?_
  refine l_pptr rfl rfl ?_
  refine l_v rfl (q_eqlNilT rfl pt_24 rfl rfl) ?_
  refine l_nil ?_
  refine w_cond_t rfl ?_
  refine w_seq ?_
  refine w_region ?_
  refine l_pint rfl rfl ?_
  refine l_nil ?_
  refine w_ret ?_
  refine fin1 (v := .int _ _) rfl ?_
  exact ⟨rfl, by first | exact H | exact H.drop1 | exact H.drop1.drop1 | exact H.drop1.drop1.drop1⟩
theorem Drop_nil {W w : World} {F : List Seg} (H : St W w F) (k : Int) :
    Ok Try.prog 21 [.pointer none, .int .i64 k].toArray w (fun v w' => v = .int .i64 0 ∧ St W w' F) := by
  refine enter (n := 14) (rs := #[.tmp 4]) Try.func21 rfl rfl rfl rfl ?_
  refine w_seq ?_
  refine w_region ?_
  refine l_pint rfl rfl ?_
  refine l_nil ?_
  refine w_seq ?_
  refine w_region ?_
  refine l_pptr rfl rfl ?_
  refine l_pint rfl rfl ?_
  refine b_call rfl cb_14 rfl (Take_nil H k) (fun v w hv => ?_)
  obtain ⟨rfl, H⟩ := hv
  refine l_ptup rfl rfl ?_
  refine l_pagg rfl rfl ?_
  refine l_pint rfl rfl ?_
  refine b_alloc rfl ze_31 rfl H (fun b5 w H => ?_)
  first | refine b_store (cs' := [_, _, _]) rfl sz_31 rfl rfl rfl rfl rfl H 0 rfl rfl rfl (fun w H => ?_) | refine b_store (cs' := [_, _, _]) rfl sz_31 rfl rfl rfl rfl rfl H 1 rfl rfl rfl (fun w H => ?_) | refine b_store (cs' := [_, _, _]) rfl sz_31 rfl rfl rfl rfl rfl H 2 rfl rfl rfl (fun w H => ?_) | refine b_store (cs' := [_, _, _]) rfl sz_31 rfl rfl rfl rfl rfl H 3 rfl rfl rfl (fun w H => ?_)
  refine l_pint rfl rfl ?_
  refine l_nil ?_
  refine w_seq ?_
  refine w_region ?_
  refine l_pint rfl rfl ?_
  refine l_pint rfl rfl ?_
  refine l_nil ?_
  refine w_ret ?_
  refine fin1 (v := .int _ _) rfl ?_
  exact ⟨rfl, by first | exact H | exact H.drop1 | exact H.drop1.drop1 | exact H.drop1.drop1.drop1⟩
theorem Turn_nil {W w : World} {F : List Seg} (H : St W w F) (k j : Int) (m : UInt8) :
    Ok Try.prog 22 [.pointer none, .int .i64 k, .int .i64 j, B m].toArray w (fun v w' => v = .int .i64 0 ∧ St W w' F) := by
  refine enter (n := 47) (rs := #[.tmp 8]) Try.func22 rfl rfl rfl rfl ?_
  refine w_seq ?_
  refine w_region ?_
  refine l_pint rfl rfl ?_
  refine l_nil ?_
  refine w_seq ?_
  refine w_block ?_
  refine w_seq ?_
  refine w_region ?_
  refine l_pptr rfl rfl ?_
  refine l_v rfl (q_eqlNilT rfl pt_24 rfl rfl) ?_
  refine l_pbool rfl rfl ?_
  refine l_nil ?_
  refine w_cond_t rfl ?_
  refine w_skip ?_
  refine w_seq ?_
  refine w_region ?_
  refine l_pint rfl rfl ?_
  refine l_nil ?_
  refine w_ret ?_
  refine fin1 (v := .int _ _) rfl ?_
  exact ⟨rfl, by first | exact H | exact H.drop1 | exact H.drop1.drop1 | exact H.drop1.drop1.drop1⟩
theorem Swap_nil {W w : World} {F : List Seg} (H : St W w F) (i k : Int) :
    Ok Try.prog 23 [.pointer none, .int .i64 i, .int .i64 k].toArray w (fun v w' => v = .int .i64 0 ∧ St W w' F) := by
  refine enter (n := 45) (rs := #[.tmp 6]) Try.func23 rfl rfl rfl rfl ?_
  refine w_seq ?_
  refine w_region ?_
  refine l_pint rfl rfl ?_
  refine l_nil ?_
  refine w_seq ?_
  refine w_seq ?_
  refine w_region ?_
  refine l_pptr rfl rfl ?_
  refine l_v rfl (q_eqlNilT rfl pt_24 rfl rfl) ?_
  refine l_nil ?_
  refine w_cond_t rfl ?_
  refine w_seq ?_
  refine w_region ?_
  refine l_pint rfl rfl ?_
  refine l_nil ?_
  refine w_ret ?_
  refine fin1 (v := .int _ _) rfl ?_
  exact ⟨rfl, by first | exact H | exact H.drop1 | exact H.drop1.drop1 | exact H.drop1.drop1.drop1⟩
theorem Len_nil {W w : World} {F : List Seg} (H : St W w F) :
    Ok Try.prog 16 [.pointer none].toArray w (fun v w' => v = .int .i64 0 ∧ St W w' F) := by
  refine enter (n := 10) (rs := #[.tmp 2]) Try.func16 rfl rfl rfl rfl ?_
  refine w_seq ?_
  refine w_region ?_
  refine l_pint rfl rfl ?_
  refine l_nil ?_
  refine w_seq ?_
  refine w_seq ?_
  refine w_region ?_
  refine l_pptr rfl rfl ?_
  refine l_v rfl (q_eqlNilT rfl pt_24 rfl rfl) ?_
  refine l_nil ?_
  refine w_cond_t rfl ?_
  refine w_seq ?_
  refine w_region ?_
  refine l_pint rfl rfl ?_
  refine l_nil ?_
  refine w_ret ?_
  refine fin1 (v := .int _ _) rfl ?_
  exact ⟨rfl, by first | exact H | exact H.drop1 | exact H.drop1.drop1 | exact H.drop1.drop1.drop1⟩
theorem Sent_nil {W w : World} {F : List Seg} (H : St W w F) :
    Ok Try.prog 18 [.pointer none].toArray w (fun v w' => v = .int .i64 0 ∧ St W w' F) := by
  refine enter (n := 10) (rs := #[.tmp 2]) Try.func18 rfl rfl rfl rfl ?_
  refine w_seq ?_
  refine w_region ?_
  refine l_pint rfl rfl ?_
  refine l_nil ?_
  refine w_seq ?_
  refine w_seq ?_
  refine w_region ?_
  refine l_pptr rfl rfl ?_
  refine l_v rfl (q_eqlNilT rfl pt_24 rfl rfl) ?_
  refine l_nil ?_
  refine w_cond_t rfl ?_
  refine w_seq ?_
  refine w_region ?_
  refine l_pint rfl rfl ?_
  refine l_nil ?_
  refine w_ret ?_
  refine fin1 (v := .int _ _) rfl ?_
  exact ⟨rfl, by first | exact H | exact H.drop1 | exact H.drop1.drop1 | exact H.drop1.drop1.drop1⟩
theorem All_nil {W w : World} {F : List Seg} (H : St W w F) :
    Ok Try.prog 52 [.map none].toArray w (fun v w' => ∃ bm, v = .func (.func 83) #[] #[.pointer (some ⟨bm, 0, none⟩)] ∧ St W w' (blk bm [.map none] 94 :: F)) := by
  refine enter (n := 4) (rs := #[.tmp 2]) Try.func52 rfl rfl rfl rfl ?_
  refine w_seq ?_
  refine w_region ?_
  refine b_box (cs := [.map none]) rfl rfl rfl H (fun b1 w H => ?_)
  refine l_p (v := .nilFunc) rfl rfl ?_
  refine l_nil ?_
  refine w_seq ?_
  refine w_region ?_
  refine b_makeFunc rfl rfl rfl ?_
  refine l_pfn rfl rfl ?_
  refine l_nil ?_
  refine w_ret ?_
  refine fin1 (v := _) rfl ?_
  exact ⟨b1, rfl, H⟩
theorem Each_nil {W w : World} {F : List Seg} (H : St W w F) :
    Ok Try.prog 33 [.pointer none].toArray w (fun v w' => ∃ bm, v = .func (.func 83) #[] #[.pointer (some ⟨bm, 0, none⟩)] ∧ St W w' (blk bm [.map none] 94 :: F)) := by
  refine enter (n := 25) (rs := #[.tmp 2]) Try.func33 rfl rfl rfl rfl ?_
  refine w_seq ?_
  refine w_region ?_
  refine l_p (v := .nilFunc) rfl rfl ?_
  refine l_nil ?_
  refine w_seq ?_
  refine w_seq ?_
  refine w_region ?_
  refine l_pptr rfl rfl ?_
  refine l_v rfl (q_eqlNilT rfl pt_24 rfl rfl) ?_
  refine l_nil ?_
  refine w_cond_t rfl ?_
  refine w_seq ?_
  refine w_region ?_
  refine b_call rfl cb_52 rfl (All_nil H) (fun v w hv => ?_)
  obtain ⟨bm, rfl, H⟩ := hv
  refine l_pfn rfl rfl ?_
  refine l_nil ?_
  refine w_ret ?_
  refine fin1 (v := _) rfl ?_
  exact ⟨bm, rfl, H⟩
theorem All1_iter {W : World} {F : List Seg} {bm : Nat} :
    Iter Try.prog W 83 [.pointer (some ⟨bm, 0, none⟩)] (fun i (q : Pk) => [I64 (i : Int), pkv q]) (fun _ q => [q.own]) (fun _ _ => False) 0 (blk bm [.map none] 94 :: F) := by
  intro lp C X w H hY
  refine enter (args := [.func (.yield lp) #[] #[], .pointer (some ⟨bm, 0, none⟩)]) (n := 17) (rs := #[]) Try.func83 rfl rfl rfl rfl ?_
  refine w_seq ?_
  refine w_region ?_
  refine l_v rfl (q_load1 rfl c1_94 rfl (H.cell 1 rfl rfl)) ?_
  refine b_rangeNil rfl (K := 3) (E := 31) (by kernel_rfl) rfl H (fun it w H => ?_)
  refine l_nil ?_
  refine w_block ?_
  refine w_loopG (G := Unit) [3, 4, 7, 8, 9, 10, 11, 12, 13, 14, 15, 16] (fun ⟨⟩ => []) (fun m ⟨⟩ w => m = 1 ∧ St W w (objb it (.mapIter none 0 #[] 0) :: C 0 :: blk bm [.map none] 94 :: F)) (fun _ => rfl) ?_ ?_
  · exact ⟨1, ⟨⟩, trivial, rfl, H⟩
  rintro m ⟨⟩ ρ1 w ⟨hm, H⟩
  refine w_seq ?_
  refine w_region ?_
  refine b_nextNil rfl rfl H ?_
  refine l_pbool rfl rfl ?_
  refine l_nil ?_
  refine w_seq ?_
  refine w_cond rfl (fun c1 => ?_) (fun c1 => ?_)
  · try simp only [sH] at c1
    exact absurd c1 (by simp)
  try simp only [sH] at c1
  refine w_exit ?_
  exact fin0n (.inl H.drop1)
theorem For_nil {W w : World} {F : List Seg} (H : St W w F) (to : Int) :
    Ok Try.prog 32 [.pointer none, I64 to].toArray w (fun v w' => v = .slice none 0 0 ∧ St W w' F) := by
  refine enter (n := 21) (rs := #[.tmp 4]) Try.func32 rfl rfl rfl rfl ?_
  refine w_seq ?_
  refine w_region ?_
  refine b_box (cs := [I64 to]) rfl rfl rfl H (fun b3 w H => ?_)
  refine l_pslice rfl rfl ?_
  refine l_nil ?_
  refine w_seq ?_
  refine w_region ?_
  refine b_alloc rfl ze_23 rfl H (fun b5 w H => ?_)
  refine l_nil ?_
  refine w_seq ?_
  refine w_seq ?_
  refine w_region ?_
  refine l_pptr rfl rfl ?_
  refine b_call rfl cb_33 rfl (Each_nil H) (fun v w hv => ?_)
  obtain ⟨bm, rfl, H⟩ := hv
  refine l_nil ?_
  refine w_block ?_
  refine w_iter (All1_iter (F := blk b5 [.slice none 0 0] 23 :: blk b3 [I64 to] 3 :: F) (bm := bm)) (fun k => []) (fun c k => [pr False]) rfl (by kernel_rfl) (fun _ _ => rfl) (H) (fun lp D fn i x F' w hx H => ?_) (fun D w H => ?_) (fun D c k w H => ?_)
  · exact hx.elim
  · refine w_seq ?_
    refine w_region ?_
    refine l_v rfl (q_load1 rfl c1_23 rfl (by first | exact H.cell 0 rfl rfl | exact H.cell 1 rfl rfl | exact H.cell 2 rfl rfl | exact H.cell 3 rfl rfl | exact H.cell 4 rfl rfl | exact H.cell 5 rfl rfl)) ?_
    refine l_pslice rfl rfl ?_
    refine l_nil ?_
    refine w_ret ?_
    refine fin_mark rfl H (fun w H => ?_)
    refine fin1 (v := .slice _ _ _) rfl ?_
    exact ⟨rfl, H.drop1.drop1.drop1⟩
  exact absurd (St.pr.1 (St.pick [1, 0] (pre := [_, _]) rfl H rfl)).1 id
theorem Genuine_nil {W w : World} {F : List Seg} (H : St W w F) (fr to : Int) {a : Option Addr} {n cap : Nat} :
    Ok Try.prog 30 [.pointer none, .agg #[.int .i64 fr, .int .i64 to, .slice a n cap]].toArray w (fun v w' => v = .bool false ∧ St W w' F) := by
  refine enter (n := 21) (rs := #[.tmp 4]) Try.func30 rfl rfl rfl rfl ?_
  refine w_seq ?_
  refine w_region ?_
  refine b_box (cs := [.int .i64 fr, .int .i64 to, .slice a n cap]) rfl rfl rfl H (fun b3 w H => ?_)
  refine l_pbool rfl rfl ?_
  refine l_nil ?_
  refine w_seq ?_
  refine w_drawT [] [6, 8, 10, 11, 13] [(0, 0), (1, 0), (2, 0), (3, 0), (4, 0), (5, 0), (6, 1), (7, 0), (8, 1), (9, 0), (10, 1), (11, 1), (12, 0), (13, 1), (14, 0), (15, 0), (16, 0)] mixed (by kernel_rfl) (fun _ _ _ h => fin_panic h) H (fun H => ?_)
  refine r_pptr rfl rfl rfl ?_
  refine r_w rfl rfl (fun w => q_neqNilT rfl pt_24 rfl rfl) ?_
  refine r_pbool rfl rfl rfl ?_
  refine r_no rfl rfl ?_
  refine r_no rfl rfl ?_
  refine r_no rfl rfl ?_
  refine r_no1 rfl rfl ?_
  refine r_no rfl rfl ?_
  refine r_no1 rfl rfl ?_
  refine r_no rfl rfl ?_
  refine r_no1 rfl rfl ?_
  refine r_no1 rfl rfl ?_
  refine r_no rfl rfl ?_
  refine r_no1 rfl rfl ?_
  refine r_no rfl rfl ?_
  refine r_pickF (v := .bool _) rfl rfl rfl rfl ?_
  refine r_pbool rfl rfl rfl ?_
  refine r_nil ?_
  refine w_ret ?_
  refine fin1 (v := .bool _) rfl ?_
  exact ⟨rfl, by first | exact H | exact H.drop1⟩
end Go.Proofs.Ytmgcmgfjaimlnaa
