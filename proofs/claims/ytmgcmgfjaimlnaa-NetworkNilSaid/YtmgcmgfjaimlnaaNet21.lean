/- The net's calls on a nil pointer and on a zero value do not panic and answer as the page says; the walk of the law NetworkNil ends in true. -/
import Derived.Test.YtmgcmgfjaimlnaaNet20
namespace Go.Proofs.Ytmgcmgfjaimlnaa
open Go.EW
attribute [local irreducible] EW.W EW.L EW.fin
set_option linter.unusedVariables false
set_option linter.unusedSimpArgs false
/-- a zero value -/
def zcs : List Value := [.int .i64 0, .int .i64 0, .slice none 0 0, .slice none 0 0, .map none, .map none]
def zn (b : Nat) (F : List Seg) : List Seg := blk b zcs 84 :: F
def pk0 : Value := .agg #[.int .i64 0, .int .i64 0, .slice none 0 0]
theorem At_nil {W w : World} {F : List Seg} (H : St W w F) (k : Int) :
    Ok Try.prog 27 [.pointer none, .int .i64 k].toArray w (fun v w' => v = .tuple #[pk0, .int .i64 0] ∧ St W w' F) := by
  refine enter (n := 22) (rs := #[.cell 4 31, .tmp 5]) Try.func27 rfl rfl rfl rfl ?_
  refine w_seq ?_
  refine w_region ?_
  refine b_alloc rfl ze_31 rfl H (fun b4 w H => ?_)
  refine l_pint rfl rfl ?_
  refine l_nil ?_
  refine w_seq ?_
  refine w_seq ?_
  refine w_region ?_
  refine l_pptr rfl rfl ?_
  refine l_v rfl (q_eqlNilT rfl pt_24 rfl rfl) ?_
  refine l_nil ?_
  refine w_cond_t rfl ?_
  refine w_seq ?_
  refine w_region ?_
  refine l_v rfl (q_build (cs := [.int _ _, .int _ _, .slice _ _ _]) rfl sp_31 rfl) ?_
  first | refine b_store (cs' := [_, _, _]) rfl sz_31 rfl rfl rfl rfl rfl H 0 rfl rfl rfl (fun w H => ?_) | refine b_store (cs' := [_, _, _]) rfl sz_31 rfl rfl rfl rfl rfl H 1 rfl rfl rfl (fun w H => ?_) | refine b_store (cs' := [_, _, _]) rfl sz_31 rfl rfl rfl rfl rfl H 2 rfl rfl rfl (fun w H => ?_) | refine b_store (cs' := [_, _, _]) rfl sz_31 rfl rfl rfl rfl rfl H 3 rfl rfl rfl (fun w H => ?_)
  refine l_pint rfl rfl ?_
  refine l_nil ?_
  refine w_ret ?_
  refine finc2 rfl ag_31 rfl (by first | exact H.cells 0 rfl | exact H.cells 1 rfl | exact H.cells 2 rfl | exact H.cells 3 rfl) rfl ?_
  exact ⟨rfl, by first | exact H | exact H.drop1 | exact H.drop1.drop1 | exact H.drop1.drop1.drop1⟩
theorem Take_nil {W w : World} {F : List Seg} (H : St W w F) (k : Int) :
    Ok Try.prog 14 [.pointer none, .int .i64 k].toArray w (fun v w' => v = .tuple #[pk0, .int .i64 0] ∧ St W w' F) := by
  refine enter (n := 33) (rs := #[.cell 4 31, .tmp 5]) Try.func14 rfl rfl rfl rfl ?_
  refine w_seq ?_
  refine w_region ?_
  refine b_alloc rfl ze_31 rfl H (fun b4 w H => ?_)
  refine l_pint rfl rfl ?_
  refine l_nil ?_
  refine w_seq ?_
  refine w_region ?_
  refine l_pptr rfl rfl ?_
  refine l_pint rfl rfl ?_
  refine b_call rfl cb_27 rfl (At_nil H k) (fun v w hv => ?_)
  obtain ⟨rfl, H⟩ := hv
  refine l_ptup rfl rfl ?_
  refine l_pagg rfl rfl ?_
  refine l_pint rfl rfl ?_
  refine b_alloc rfl ze_31 rfl H (fun b6 w H => ?_)
  first | refine b_store (cs' := [_, _, _]) rfl sz_31 rfl rfl rfl rfl rfl H 0 rfl rfl rfl (fun w H => ?_) | refine b_store (cs' := [_, _, _]) rfl sz_31 rfl rfl rfl rfl rfl H 1 rfl rfl rfl (fun w H => ?_) | refine b_store (cs' := [_, _, _]) rfl sz_31 rfl rfl rfl rfl rfl H 2 rfl rfl rfl (fun w H => ?_) | refine b_store (cs' := [_, _, _]) rfl sz_31 rfl rfl rfl rfl rfl H 3 rfl rfl rfl (fun w H => ?_)
  refine l_pint rfl rfl ?_
  refine l_nil ?_
  refine w_seq ?_
  refine w_seq ?_
  refine w_region ?_
  refine l_pptr rfl rfl ?_
  refine l_v rfl (q_neqNilT rfl pt_24 rfl rfl) ?_
  refine l_pbool rfl rfl ?_
  refine l_no rfl ?_
  refine l_no rfl ?_
  refine l_pickF (v := .bool _) rfl rfl rfl ?_
  refine l_nil ?_
  refine w_cond_f rfl ?_
  refine w_skip ?_
  refine w_seq ?_
  refine w_region ?_
  refine l_v rfl (q_loadN (vs := [_, _, _]) rfl ag_31 rfl rfl (by first | exact H.cells 0 rfl | exact H.cells 1 rfl | exact H.cells 2 rfl | exact H.cells 3 rfl)) ?_
  refine l_pint rfl rfl ?_
  first | refine b_store (cs' := [_, _, _]) rfl sz_31 rfl rfl rfl rfl rfl H 0 rfl rfl rfl (fun w H => ?_) | refine b_store (cs' := [_, _, _]) rfl sz_31 rfl rfl rfl rfl rfl H 1 rfl rfl rfl (fun w H => ?_) | refine b_store (cs' := [_, _, _]) rfl sz_31 rfl rfl rfl rfl rfl H 2 rfl rfl rfl (fun w H => ?_) | refine b_store (cs' := [_, _, _]) rfl sz_31 rfl rfl rfl rfl rfl H 3 rfl rfl rfl (fun w H => ?_)
  refine l_pint rfl rfl ?_
  refine l_nil ?_
  refine w_ret ?_
  refine finc2 rfl ag_31 rfl (by first | exact H.cells 0 rfl | exact H.cells 1 rfl | exact H.cells 2 rfl | exact H.cells 3 rfl) rfl ?_
  exact ⟨rfl, by first | exact H | exact H.drop1 | exact H.drop1.drop1 | exact H.drop1.drop1.drop1⟩
theorem Record_nil {W w : World} {F : List Seg} (H : St W w F) (k : Int) :
    Ok Try.prog 43 [.pointer none, .int .i64 k].toArray w (fun v w' => v = .tuple #[pk0, .int .i64 0] ∧ St W w' F) := by
  refine enter (n := 29) (rs := #[.cell 4 31, .tmp 5]) Try.func43 rfl rfl rfl rfl ?_
  refine w_seq ?_
  refine w_region ?_
  refine b_alloc rfl ze_31 rfl H (fun b4 w H => ?_)
  refine l_pint rfl rfl ?_
  refine l_nil ?_
  refine w_seq ?_
  refine w_seq ?_
  refine w_region ?_
  refine l_pptr rfl rfl ?_
  refine l_v rfl (q_eqlNilT rfl pt_24 rfl rfl) ?_
  refine l_nil ?_
  refine w_cond_t rfl ?_
  refine w_seq ?_
  refine w_region ?_
  refine l_v rfl (q_build (cs := [.int _ _, .int _ _, .slice _ _ _]) rfl sp_31 rfl) ?_
  first | refine b_store (cs' := [_, _, _]) rfl sz_31 rfl rfl rfl rfl rfl H 0 rfl rfl rfl (fun w H => ?_) | refine b_store (cs' := [_, _, _]) rfl sz_31 rfl rfl rfl rfl rfl H 1 rfl rfl rfl (fun w H => ?_) | refine b_store (cs' := [_, _, _]) rfl sz_31 rfl rfl rfl rfl rfl H 2 rfl rfl rfl (fun w H => ?_) | refine b_store (cs' := [_, _, _]) rfl sz_31 rfl rfl rfl rfl rfl H 3 rfl rfl rfl (fun w H => ?_)
  refine l_pint rfl rfl ?_
  refine l_nil ?_
  refine w_ret ?_
  refine finc2 rfl ag_31 rfl (by first | exact H.cells 0 rfl | exact H.cells 1 rfl | exact H.cells 2 rfl | exact H.cells 3 rfl) rfl ?_
  exact ⟨rfl, by first | exact H | exact H.drop1 | exact H.drop1.drop1 | exact H.drop1.drop1.drop1⟩
theorem Clear_nil {W w : World} {F : List Seg} (H : St W w F) :
    Ok Try.prog 24 [.pointer none].toArray w (fun v w' => v =  .tuple #[] ∧ St W w' F) := by
  refine enter (n := 7) (rs := #[]) Try.func24 rfl rfl rfl rfl ?_
  refine w_seq ?_
  refine w_region ?_
  refine l_pptr rfl rfl ?_
  refine l_v rfl (q_neqNilT rfl pt_24 rfl rfl) ?_
  refine l_nil ?_
  refine w_cond_f rfl ?_
  refine w_skip ?_
  exact fin0n ⟨rfl, H⟩
theorem Send_nil {W w : World} {F : List Seg} (H : St W w F) (fr to : Int) {a : Option Addr} {n cap : Nat} :
    Ok Try.prog 19 [.pointer none, .agg #[.int .i64 fr, .int .i64 to, .slice a n cap]].toArray w (fun v w' => v = .int .i64 0 ∧ St W w' F) := by
  refine enter (n := 70) (rs := #[.tmp 4]) Try.func19 rfl rfl rfl rfl ?_
  refine w_seq ?_
  refine w_region ?_
  refine b_box (cs := [.int .i64 fr, .int .i64 to, .slice a n cap]) rfl rfl rfl H (fun b3 w H => ?_)
  refine l_pint rfl rfl ?_
  refine l_nil ?_
  refine w_seq ?_
  refine w_seq ?_
  refine w_region ?_
  refine l_pptr rfl rfl ?_
  refine l_v rfl (q_eqlNilT rfl pt_24 rfl rfl) ?_
  refine l_nil ?_
  refine w_cond_t rfl ?_
  refine w_seq ?_
  refine w_region ?_
  refine l_pint rfl rfl ?_
  refine l_nil ?_
  refine w_ret ?_
  refine fin1 (v := .int _ _) rfl ?_
  exact ⟨rfl, by first | exact H | exact H.drop1 | exact H.drop1.drop1 | exact H.drop1.drop1.drop1⟩
theorem Inject_nil {W w : World} {F : List Seg} (H : St W w F) (fr to : Int) {a : Option Addr} {n cap : Nat} :
    Ok Try.prog 31 [.pointer none, .agg #[.int .i64 fr, .int .i64 to, .slice a n cap]].toArray w (fun v w' => v = .int .i64 0 ∧ St W w' F) := by
  refine enter (n := 10) (rs := #[.tmp 4]) Try.func31 rfl rfl rfl rfl ?_
  refine w_seq ?_
  refine w_region ?_
  refine b_box (cs := [.int .i64 fr, .int .i64 to, .slice a n cap]) rfl rfl rfl H (fun b3 w H => ?_)
  refine l_pint rfl rfl ?_
  refine l_nil ?_
  refine w_seq ?_
  refine w_seq ?_
  refine w_region ?_
  refine l_pptr rfl rfl ?_
  refine l_v rfl (q_eqlNilT rfl pt_24 rfl rfl) ?_
  refine l_nil ?_
  refine w_cond_t rfl ?_
  refine w_seq ?_
  refine w_region ?_
  refine l_pint rfl rfl ?_
  refine l_nil ?_
  refine w_ret ?_
  refine fin1 (v := .int _ _) rfl ?_
  exact ⟨rfl, by first | exact H | exact H.drop1 | exact H.drop1.drop1 | exact H.drop1.drop1.drop1⟩
theorem Copy_nil {W w : World} {F : List Seg} (H : St W w F) (k : Int) :
    Ok Try.prog 26 [.pointer none, .int .i64 k].toArray w (fun v w' => v = .int .i64 0 ∧ St W w' F) := by
  refine enter (n := 28) (rs := #[.tmp 4]) Try.func26 rfl rfl rfl rfl ?_
  refine w_seq ?_
  refine w_region ?_
  refine l_pint rfl rfl ?_
  refine l_nil ?_
  refine w_seq ?_
  refine w_seq ?_
  refine w_region ?_
  refine l_pptr rfl rfl ?_
  refine l_v rfl (q_eqlNilT rfl pt_24 rfl rfl) ?_
  refine l_nil ?_
  refine w_cond_t rfl ?_
  refine w_seq ?_
  refine w_region ?_
  refine l_pint rfl rfl ?_
  refine l_nil ?_
  refine w_ret ?_
  refine fin1 (v := .int _ _) rfl ?_
  exact ⟨rfl, by first | exact H | exact H.drop1 | exact H.drop1.drop1 | exact H.drop1.drop1.drop1⟩
theorem Drop_nil {W w : World} {F : List Seg} (H : St W w F) (k : Int) :
    Ok Try.prog 21 [.pointer none, .int .i64 k].toArray w (fun v w' => v = .int .i64 0 ∧ St W w' F) := by
  refine enter (n := 14) (rs := #[.tmp 4]) Try.func21 rfl rfl rfl rfl ?_
  refine w_seq ?_
  refine w_region ?_
  refine l_pint rfl rfl ?_
  refine l_nil ?_
  refine w_seq ?_
  refine w_region ?_
  refine l_pptr rfl rfl ?_
  refine l_pint rfl rfl ?_
  refine b_call rfl cb_14 rfl (Take_nil H k) (fun v w hv => ?_)
  obtain ⟨rfl, H⟩ := hv
  refine l_ptup rfl rfl ?_
  refine l_pagg rfl rfl ?_
  refine l_pint rfl rfl ?_
  refine b_alloc rfl ze_31 rfl H (fun b5 w H => ?_)
  first | refine b_store (cs' := [_, _, _]) rfl sz_31 rfl rfl rfl rfl rfl H 0 rfl rfl rfl (fun w H => ?_) | refine b_store (cs' := [_, _, _]) rfl sz_31 rfl rfl rfl rfl rfl H 1 rfl rfl rfl (fun w H => ?_) | refine b_store (cs' := [_, _, _]) rfl sz_31 rfl rfl rfl rfl rfl H 2 rfl rfl rfl (fun w H => ?_) | refine b_store (cs' := [_, _, _]) rfl sz_31 rfl rfl rfl rfl rfl H 3 rfl rfl rfl (fun w H => ?_)
  refine l_pint rfl rfl ?_
  refine l_nil ?_
  refine w_seq ?_
  refine w_region ?_
  refine l_pint rfl rfl ?_
  refine l_pint rfl rfl ?_
  refine l_nil ?_
  refine w_ret ?_
  refine fin1 (v := .int _ _) rfl ?_
  exact ⟨rfl, by first | exact H | exact H.drop1 | exact H.drop1.drop1 | exact H.drop1.drop1.drop1⟩
theorem Turn_nil {W w : World} {F : List Seg} (H : St W w F) (k j : Int) (m : UInt8) :
    Ok Try.prog 22 [.pointer none, .int .i64 k, .int .i64 j, B m].toArray w (fun v w' => v = .int .i64 0 ∧ St W w' F) := by
  refine enter (n := 47) (rs := #[.tmp 8]) Try.func22 rfl rfl rfl rfl ?_
  refine w_seq ?_
  refine w_region ?_
  refine l_pint rfl rfl ?_
  refine l_nil ?_
  refine w_seq ?_
  refine w_block ?_
  refine w_seq ?_
  refine w_region ?_
  refine l_pptr rfl rfl ?_
  refine l_v rfl (q_eqlNilT rfl pt_24 rfl rfl) ?_
  refine l_pbool rfl rfl ?_
  refine l_nil ?_
  refine w_cond_t rfl ?_
  refine w_skip ?_
  refine w_seq ?_
  refine w_region ?_
  refine l_pint rfl rfl ?_
  refine l_nil ?_
  refine w_ret ?_
  refine fin1 (v := .int _ _) rfl ?_
  exact ⟨rfl, by first | exact H | exact H.drop1 | exact H.drop1.drop1 | exact H.drop1.drop1.drop1⟩
theorem Swap_nil {W w : World} {F : List Seg} (H : St W w F) (i k : Int) :
    Ok Try.prog 23 [.pointer none, .int .i64 i, .int .i64 k].toArray w (fun v w' => v = .int .i64 0 ∧ St W w' F) := by
  refine enter (n := 45) (rs := #[.tmp 6]) Try.func23 rfl rfl rfl rfl ?_
  refine w_seq ?_
  refine w_region ?_
  refine l_pint rfl rfl ?_
  refine l_nil ?_
  refine w_seq ?_
  refine w_seq ?_
  refine w_region ?_
  refine l_pptr rfl rfl ?_
  refine l_v rfl (q_eqlNilT rfl pt_24 rfl rfl) ?_
  refine l_nil ?_
  refine w_cond_t rfl ?_
  refine w_seq ?_
  refine w_region ?_
  refine l_pint rfl rfl ?_
  refine l_nil ?_
  refine w_ret ?_
  refine fin1 (v := .int _ _) rfl ?_
  exact ⟨rfl, by first | exact H | exact H.drop1 | exact H.drop1.drop1 | exact H.drop1.drop1.drop1⟩
theorem Len_nil {W w : World} {F : List Seg} (H : St W w F) :
    Ok Try.prog 16 [.pointer none].toArray w (fun v w' => v = .int .i64 0 ∧ St W w' F) := by
  refine enter (n := 10) (rs := #[.tmp 2]) Try.func16 rfl rfl rfl rfl ?_
  refine w_seq ?_
  refine w_region ?_
  refine l_pint rfl rfl ?_
  refine l_nil ?_
  refine w_seq ?_
  refine w_seq ?_
  refine w_region ?_
  refine l_pptr rfl rfl ?_
  refine l_v rfl (q_eqlNilT rfl pt_24 rfl rfl) ?_
  refine l_nil ?_
  refine w_cond_t rfl ?_
  refine w_seq ?_
  refine w_region ?_
  refine l_pint rfl rfl ?_
  refine l_nil ?_
  refine w_ret ?_
  refine fin1 (v := .int _ _) rfl ?_
  exact ⟨rfl, by first | exact H | exact H.drop1 | exact H.drop1.drop1 | exact H.drop1.drop1.drop1⟩
theorem Sent_nil {W w : World} {F : List Seg} (H : St W w F) :
    Ok Try.prog 18 [.pointer none].toArray w (fun v w' => v = .int .i64 0 ∧ St W w' F) := by
  refine enter (n := 10) (rs := #[.tmp 2]) Try.func18 rfl rfl rfl rfl ?_
  refine w_seq ?_
  refine w_region ?_
  refine l_pint rfl rfl ?_
  refine l_nil ?_
  refine w_seq ?_
  refine w_seq ?_
  refine w_region ?_
  refine l_pptr rfl rfl ?_
  refine l_v rfl (q_eqlNilT rfl pt_24 rfl rfl) ?_
  refine l_nil ?_
  refine w_cond_t rfl ?_
  refine w_seq ?_
  refine w_region ?_
  refine l_pint rfl rfl ?_
  refine l_nil ?_
  refine w_ret ?_
  refine fin1 (v := .int _ _) rfl ?_
  exact ⟨rfl, by first | exact H | exact H.drop1 | exact H.drop1.drop1 | exact H.drop1.drop1.drop1⟩
theorem All_nil {W w : World} {F : List Seg} (H : St W w F) :
    Ok Try.prog 52 [.map none].toArray w (fun v w' => ∃ bm, v = .func (.func 83) #[] #[.pointer (some ⟨bm, 0, none⟩)] ∧ St W w' (blk bm [.map none] 94 :: F)) := by
  refine enter (n := 4) (rs := #[.tmp 2]) Try.func52 rfl rfl rfl rfl ?_
  refine w_seq ?_
  refine w_region ?_
  refine b_box (cs := [.map none]) rfl rfl rfl H (fun b1 w H => ?_)
  refine l_p (v := .nilFunc) rfl rfl ?_
  refine l_nil ?_
  refine w_seq ?_
  refine w_region ?_
  refine b_makeFunc rfl rfl rfl ?_
  refine l_pfn rfl rfl ?_
  refine l_nil ?_
  refine w_ret ?_
  refine fin1 (v := _) rfl ?_
  exact ⟨b1, rfl, H⟩
theorem Each_nil {W w : World} {F : List Seg} (H : St W w F) :
    Ok Try.prog 33 [.pointer none].toArray w (fun v w' => ∃ bm, v = .func (.func 83) #[] #[.pointer (some ⟨bm, 0, none⟩)] ∧ St W w' (blk bm [.map none] 94 :: F)) := by
  refine enter (n := 25) (rs := #[.tmp 2]) Try.func33 rfl rfl rfl rfl ?_
  refine w_seq ?_
  refine w_region ?_
  refine l_p (v := .nilFunc) rfl rfl ?_
  refine l_nil ?_
  refine w_seq ?_
  refine w_seq ?_
  refine w_region ?_
  refine l_pptr rfl rfl ?_
  refine l_v rfl (q_eqlNilT rfl pt_24 rfl rfl) ?_
  refine l_nil ?_
  refine w_cond_t rfl ?_
  refine w_seq ?_
  refine w_region ?_
  refine b_call rfl cb_52 rfl (All_nil H) (fun v w hv => ?_)
  obtain ⟨bm, rfl, H⟩ := hv
  refine l_pfn rfl rfl ?_
  refine l_nil ?_
  refine w_ret ?_
  refine fin1 (v := _) rfl ?_
  exact ⟨bm, rfl, H⟩
theorem All1_iter {W : World} {F : List Seg} {bm : Nat} :
    Iter Try.prog W 83 [.pointer (some ⟨bm, 0, none⟩)] (fun i (q : Pk) => [I64 (i : Int), pkv q]) (fun _ q => [q.own]) (fun _ _ => False) 0 (blk bm [.map none] 94 :: F) := by
  intro lp C X w H hY
  refine enter (args := [.func (.yield lp) #[] #[], .pointer (some ⟨bm, 0, none⟩)]) (n := 17) (rs := #[]) Try.func83 rfl rfl rfl rfl ?_
  refine w_seq ?_
  refine w_region ?_
  refine l_v rfl (q_load1 rfl c1_94 rfl (H.cell 1 rfl rfl)) ?_
  refine b_rangeNil rfl (K := 3) (E := 31) (by kernel_rfl) rfl H (fun it w H => ?_)
  refine l_nil ?_
  refine w_block ?_
  refine w_loopG (G := Unit) [3, 4, 7, 8, 9, 10, 11, 12, 13, 14, 15, 16] (fun ⟨⟩ => []) (fun m ⟨⟩ w => m = 1 ∧ St W w (objb it (.mapIter none 0 #[] 0) :: C 0 :: blk bm [.map none] 94 :: F)) (fun _ => rfl) ?_ ?_
  · exact ⟨1, ⟨⟩, trivial, rfl, H⟩
  rintro m ⟨⟩ ρ1 w ⟨hm, H⟩
  refine w_seq ?_
  refine w_region ?_
  refine b_nextNil rfl rfl H ?_
  refine l_pbool rfl rfl ?_
  refine l_nil ?_
  refine w_seq ?_
  refine w_cond rfl (fun c1 => ?_) (fun c1 => ?_)
  · try simp only [sH] at c1
    exact absurd c1 (by simp)
  try simp only [sH] at c1
  refine w_exit ?_
  exact fin0n (.inl H.drop1)
theorem For_nil {W w : World} {F : List Seg} (H : St W w F) (to : Int) :
    Ok Try.prog 32 [.pointer none, I64 to].toArray w (fun v w' => v = .slice none 0 0 ∧ St W w' F) := by
  refine enter (n := 21) (rs := #[.tmp 4]) Try.func32 rfl rfl rfl rfl ?_
  refine w_seq ?_
  refine w_region ?_
  refine b_box (cs := [I64 to]) rfl rfl rfl H (fun b3 w H => ?_)
  refine l_pslice rfl rfl ?_
  refine l_nil ?_
  refine w_seq ?_
  refine w_region ?_
  refine b_alloc rfl ze_23 rfl H (fun b5 w H => ?_)
  refine l_nil ?_
  refine w_seq ?_
  refine w_seq ?_
  refine w_region ?_
  refine l_pptr rfl rfl ?_
  refine b_call rfl cb_33 rfl (Each_nil H) (fun v w hv => ?_)
  obtain ⟨bm, rfl, H⟩ := hv
  refine l_nil ?_
  refine w_block ?_
  refine w_iter (All1_iter (F := blk b5 [.slice none 0 0] 23 :: blk b3 [I64 to] 3 :: F) (bm := bm)) (fun k => []) (fun c k => [pr False]) rfl (by kernel_rfl) (fun _ _ => rfl) (H) (fun lp D fn i x F' w hx H => ?_) (fun D w H => ?_) (fun D c k w H => ?_)
  · exact hx.elim
  · refine w_seq ?_
    refine w_region ?_
    refine l_v rfl (q_load1 rfl c1_23 rfl (by first | exact H.cell 0 rfl rfl | exact H.cell 1 rfl rfl | exact H.cell 2 rfl rfl | exact H.cell 3 rfl rfl | exact H.cell 4 rfl rfl | exact H.cell 5 rfl rfl)) ?_
    refine l_pslice rfl rfl ?_
    refine l_nil ?_
    refine w_ret ?_
    refine fin_mark rfl H (fun w H => ?_)
    refine fin1 (v := .slice _ _ _) rfl ?_
    exact ⟨rfl, H.drop1.drop1.drop1⟩
  exact absurd (St.pr.1 (St.pick [1, 0] (pre := [_, _]) rfl H rfl)).1 id
theorem Genuine_nil {W w : World} {F : List Seg} (H : St W w F) (fr to : Int) {a : Option Addr} {n cap : Nat} :
    Ok Try.prog 30 [.pointer none, .agg #[.int .i64 fr, .int .i64 to, .slice a n cap]].toArray w (fun v w' => v = .bool false ∧ St W w' F) := by
  refine enter (n := 21) (rs := #[.tmp 4]) Try.func30 rfl rfl rfl rfl ?_
  refine w_seq ?_
  refine w_region ?_
  refine b_box (cs := [.int .i64 fr, .int .i64 to, .slice a n cap]) rfl rfl rfl H (fun b3 w H => ?_)
  refine l_pbool rfl rfl ?_
  refine l_nil ?_
  refine w_seq ?_
  refine w_drawT [] [6, 8, 10, 11, 13] [(0, 0), (1, 0), (2, 0), (3, 0), (4, 0), (5, 0), (6, 1), (7, 0), (8, 1), (9, 0), (10, 1), (11, 1), (12, 0), (13, 1), (14, 0), (15, 0), (16, 0)] mixed (by kernel_rfl) (fun _ _ _ h => fin_panic h) H (fun H => ?_)
  refine r_pptr rfl rfl rfl ?_
  refine r_w rfl rfl (fun w => q_neqNilT rfl pt_24 rfl rfl) ?_
  refine r_pbool rfl rfl rfl ?_
  refine r_no rfl rfl ?_
  refine r_no rfl rfl ?_
  refine r_no rfl rfl ?_
  refine r_no1 rfl rfl ?_
  refine r_no rfl rfl ?_
  refine r_no1 rfl rfl ?_
  refine r_no rfl rfl ?_
  refine r_no1 rfl rfl ?_
  refine r_no1 rfl rfl ?_
  refine r_no rfl rfl ?_
  refine r_no1 rfl rfl ?_
  refine r_no rfl rfl ?_
  refine r_pickF (v := .bool _) rfl rfl rfl rfl ?_
  refine r_pbool rfl rfl rfl ?_
  refine r_nil ?_
  refine w_ret ?_
  refine fin1 (v := .bool _) rfl ?_
  exact ⟨rfl, by first | exact H | exact H.drop1⟩
theorem lay_z {W w : World} {F : List Seg} {b : Nat} (H : St W w (zn b F)) (fr to : Int) {a : Option Addr} {n cap : Nat} (f : Bool) :
    Ok Try.prog 46 [.pointer (some ⟨b, 0, none⟩), .agg #[.int .i64 fr, .int .i64 to, .slice a n cap], .bool f].toArray w (fun v w' => v = .int .i64 140 ∧ St W w' (zn b F)) := by
  refine enter (n := 37) (rs := #[.tmp 6]) Try.func46 rfl rfl rfl rfl ?_
  refine w_seq ?_
  refine w_region ?_
  refine b_box (cs := [.int .i64 fr, .int .i64 to, .slice a n cap]) rfl rfl rfl H (fun b4 w H => ?_)
  refine l_pint rfl rfl ?_
  refine l_nil ?_
  refine w_seq ?_
  refine w_seq ?_
  refine w_region ?_
  refine l_pbool rfl rfl ?_
  refine l_pbool rfl rfl ?_
  refine l_split 8 rfl (fun h8 => ?_) (fun h8 => ?_)
  · try simp only [sH] at h8
    refine l_pptr rfl rfl ?_
    refine l_v rfl (q_fieldAddr rfl fo31_0 rfl) ?_
    refine l_v rfl (q_load1 rfl c1_3 rfl (by first | exact H.cell 0 rfl rfl | exact H.cell 1 rfl rfl | exact H.cell 2 rfl rfl)) ?_
    refine b_call rfl cb_82 rfl (address_ok H (i := 1) rfl (no := 0) (cl := 0) rfl rfl (by decide) fr) (fun v w hv => ?_)
    obtain ⟨rfl, rfl⟩ := hv
    rw [show (decide (0 ≤ fr ∧ fr < 0 ∨ 7 ≤ fr ∧ fr < 7 + 0)) = false from decide_eq_false (by omega)]
    refine l_pbool rfl rfl ?_
    refine l_pickT (v := .bool _) rfl rfl rfl ?_
    refine l_pbool rfl rfl ?_
    refine l_split 15 rfl (fun h15 => ?_) (fun h15 => ?_)
    · try simp only [sH] at h15
      refine l_no rfl ?_
      refine l_no rfl ?_
      refine l_no rfl ?_
      refine l_no rfl ?_
      refine l_no rfl ?_
      refine l_pickT (v := .bool _) rfl rfl rfl ?_
      refine l_nil ?_
      refine w_cond_t rfl ?_
      refine w_seq ?_
      refine w_region ?_
      refine l_pint rfl rfl ?_
      refine l_nil ?_
      refine w_ret ?_
      refine fin1 (v := .int _ _) rfl ?_
      exact ⟨rfl, by first | exact H | exact H.drop1 | exact H.drop1.drop1 | exact H.drop1.drop1.drop1⟩
    try simp only [sH] at h15
    refine l_pptr rfl rfl ?_
    refine l_v rfl (q_fieldAddr rfl fo31_1 rfl) ?_
    refine l_v rfl (q_load1 rfl c1_3 rfl (by first | exact H.cell 0 rfl rfl | exact H.cell 1 rfl rfl | exact H.cell 2 rfl rfl)) ?_
    refine b_call rfl cb_82 rfl (address_ok H (i := 1) rfl (no := 0) (cl := 0) rfl rfl (by decide) to) (fun v w hv => ?_)
    obtain ⟨rfl, rfl⟩ := hv
    rw [show (decide (0 ≤ to ∧ to < 0 ∨ 7 ≤ to ∧ to < 7 + 0)) = false from decide_eq_false (by omega)]
    refine l_pbool rfl rfl ?_
    refine l_pickF (v := .bool _) rfl rfl rfl ?_
    refine l_nil ?_
    refine w_cond rfl (fun c1 => ?_) (fun c1 => ?_)
    · try simp only [sH] at c1
      refine w_seq ?_
      refine w_region ?_
      refine l_pint rfl rfl ?_
      refine l_nil ?_
      refine w_ret ?_
      refine fin1 (v := .int _ _) rfl ?_
      exact ⟨rfl, by first | exact H | exact H.drop1 | exact H.drop1.drop1 | exact H.drop1.drop1.drop1⟩
    try simp only [sH] at c1
    exact absurd c1 (by simp)
  try simp only [sH] at h8
  refine l_no rfl ?_
  refine l_no rfl ?_
  refine l_no rfl ?_
  refine l_no rfl ?_
  refine l_no rfl ?_
  refine l_pickF (v := .bool _) rfl rfl rfl ?_
  refine l_pbool rfl rfl ?_
  refine l_pptr rfl rfl ?_
  refine l_v rfl (q_fieldAddr rfl fo31_1 rfl) ?_
  refine l_v rfl (q_load1 rfl c1_3 rfl (by first | exact H.cell 0 rfl rfl | exact H.cell 1 rfl rfl | exact H.cell 2 rfl rfl)) ?_
  refine b_call rfl cb_82 rfl (address_ok H (i := 1) rfl (no := 0) (cl := 0) rfl rfl (by decide) to) (fun v w hv => ?_)
  obtain ⟨rfl, rfl⟩ := hv
  rw [show (decide (0 ≤ to ∧ to < 0 ∨ 7 ≤ to ∧ to < 7 + 0)) = false from decide_eq_false (by omega)]
  refine l_pbool rfl rfl ?_
  refine l_pickF (v := .bool _) rfl rfl rfl ?_
  refine l_nil ?_
  refine w_cond rfl (fun c2 => ?_) (fun c2 => ?_)
  · try simp only [sH] at c2
    refine w_seq ?_
    refine w_region ?_
    refine l_pint rfl rfl ?_
    refine l_nil ?_
    refine w_ret ?_
    refine fin1 (v := .int _ _) rfl ?_
    exact ⟨rfl, by first | exact H | exact H.drop1 | exact H.drop1.drop1 | exact H.drop1.drop1.drop1⟩
  try simp only [sH] at c2
  exact absurd c2 (by simp)
theorem Send_z {W w : World} {F : List Seg} {b : Nat} (H : St W w (zn b F)) (fr to : Int) {a : Option Addr} {n cap : Nat} :
    Ok Try.prog 19 [.pointer (some ⟨b, 0, none⟩), .agg #[.int .i64 fr, .int .i64 to, .slice a n cap]].toArray w (fun v w' => v = .int .i64 140 ∧ St W w' (zn b F)) := by
  refine enter (n := 70) (rs := #[.tmp 4]) Try.func19 rfl rfl rfl rfl ?_
  refine w_seq ?_
  refine w_region ?_
  refine b_box (cs := [.int .i64 fr, .int .i64 to, .slice a n cap]) rfl rfl rfl H (fun b3 w H => ?_)
  refine l_pint rfl rfl ?_
  refine l_nil ?_
  refine w_seq ?_
  refine w_seq ?_
  refine w_region ?_
  refine l_pptr rfl rfl ?_
  refine l_v rfl (q_eqlNilF rfl pt_24 rfl rfl) ?_
  refine l_nil ?_
  refine w_cond_f rfl ?_
  refine w_skip ?_
  refine w_seq ?_
  refine w_seq ?_
  refine w_region ?_
  refine l_pptr rfl rfl ?_
  refine l_v rfl (q_loadN (vs := [_, _, _]) rfl ag_31 rfl rfl (by first | exact H.cells 0 rfl | exact H.cells 1 rfl | exact H.cells 2 rfl | exact H.cells 3 rfl | exact H.cells 4 rfl)) ?_
  refine b_call rfl cb_46 rfl (lay_z (b := b) (F := blk b3 [.int .i64 fr, .int .i64 to, .slice a n cap] 31 :: F) (St.pick [1, 0] (pre := [_, _]) rfl H rfl) fr to true) (fun v w hv => ?_)
  obtain ⟨rfl, H⟩ := hv
  have H := St.pick [1, 0] (pre := [_, _]) rfl H rfl
  refine l_pint rfl rfl ?_
  refine l_nil ?_
  refine w_seq ?_
  refine w_region ?_
  refine l_pint rfl rfl ?_
  refine l_pbool rfl rfl ?_
  refine l_nil ?_
  refine w_cond rfl (fun c1 => ?_) (fun c1 => ?_)
  · try simp only [sH] at c1
    refine w_seq ?_
    refine w_region ?_
    refine l_pint rfl rfl ?_
    refine l_pint rfl rfl ?_
    refine l_nil ?_
    refine w_ret ?_
    refine fin1 (v := .int _ _) rfl ?_
    exact ⟨rfl, by first | exact H | exact H.drop1 | exact H.drop1.drop1 | exact H.drop1.drop1.drop1⟩
  try simp only [sH] at c1
  exact absurd c1 (by simp)
theorem Inject_z {W w : World} {F : List Seg} {b : Nat} (H : St W w (zn b F)) (fr to : Int) {a : Option Addr} {n cap : Nat} :
    Ok Try.prog 31 [.pointer (some ⟨b, 0, none⟩), .agg #[.int .i64 fr, .int .i64 to, .slice a n cap]].toArray w (fun v w' => v = .int .i64 140 ∧ St W w' (zn b F)) := by
  refine enter (n := 10) (rs := #[.tmp 4]) Try.func31 rfl rfl rfl rfl ?_
  refine w_seq ?_
  refine w_region ?_
  refine b_box (cs := [.int .i64 fr, .int .i64 to, .slice a n cap]) rfl rfl rfl H (fun b3 w H => ?_)
  refine l_pint rfl rfl ?_
  refine l_nil ?_
  refine w_seq ?_
  refine w_seq ?_
  refine w_region ?_
  refine l_pptr rfl rfl ?_
  refine l_v rfl (q_eqlNilF rfl pt_24 rfl rfl) ?_
  refine l_nil ?_
  refine w_cond_f rfl ?_
  refine w_skip ?_
  refine w_seq ?_
  refine w_region ?_
  refine l_pptr rfl rfl ?_
  refine l_v rfl (q_loadN (vs := [_, _, _]) rfl ag_31 rfl rfl (by first | exact H.cells 0 rfl | exact H.cells 1 rfl | exact H.cells 2 rfl | exact H.cells 3 rfl | exact H.cells 4 rfl)) ?_
  refine b_call rfl cb_46 rfl (lay_z (b := b) (F := blk b3 [.int .i64 fr, .int .i64 to, .slice a n cap] 31 :: F) (St.pick [1, 0] (pre := [_, _]) rfl H rfl) fr to false) (fun v w hv => ?_)
  obtain ⟨rfl, H⟩ := hv
  have H := St.pick [1, 0] (pre := [_, _]) rfl H rfl
  refine l_pint rfl rfl ?_
  refine l_nil ?_
  refine w_ret ?_
  refine fin1 (v := .int _ _) rfl ?_
  exact ⟨rfl, by first | exact H | exact H.drop1 | exact H.drop1.drop1 | exact H.drop1.drop1.drop1⟩
theorem At_z {W w : World} {F : List Seg} {b : Nat} (H : St W w (zn b F)) :
    Ok Try.prog 27 [.pointer (some ⟨b, 0, none⟩), .int .i64 0].toArray w (fun v w' => v = .tuple #[pk0, .int .i64 141] ∧ St W w' (zn b F)) := by
  refine enter (n := 22) (rs := #[.cell 4 31, .tmp 5]) Try.func27 rfl rfl rfl rfl ?_
  refine w_seq ?_
  refine w_region ?_
  refine b_alloc rfl ze_31 rfl H (fun b4 w H => ?_)
  refine l_pint rfl rfl ?_
  refine l_nil ?_
  refine w_seq ?_
  refine w_seq ?_
  refine w_region ?_
  refine l_pptr rfl rfl ?_
  refine l_v rfl (q_eqlNilF rfl pt_24 rfl rfl) ?_
  refine l_nil ?_
  refine w_cond_f rfl ?_
  refine w_skip ?_
  refine w_seq ?_
  refine w_seq ?_
  refine w_region ?_
  refine l_pptr rfl rfl ?_
  refine l_pint rfl rfl ?_
  refine b_call rfl cb_50 rfl (there_ok H (i := 1) rfl rfl 0) (fun v w hv => ?_)
  obtain ⟨rfl, rfl⟩ := hv
  refine l_pbool rfl rfl ?_
  refine l_nil ?_
  refine w_cond rfl (fun c1 => ?_) (fun c1 => ?_)
  · try simp only [sH] at c1
    refine w_seq ?_
    refine w_region ?_
    refine l_v rfl (q_build (cs := [.int _ _, .int _ _, .slice _ _ _]) rfl sp_31 rfl) ?_
    first | refine b_store (cs' := [_, _, _]) rfl sz_31 rfl rfl rfl rfl rfl H 0 rfl rfl rfl (fun w H => ?_) | refine b_store (cs' := [_, _, _]) rfl sz_31 rfl rfl rfl rfl rfl H 1 rfl rfl rfl (fun w H => ?_) | refine b_store (cs' := [_, _, _]) rfl sz_31 rfl rfl rfl rfl rfl H 2 rfl rfl rfl (fun w H => ?_) | refine b_store (cs' := [_, _, _]) rfl sz_31 rfl rfl rfl rfl rfl H 3 rfl rfl rfl (fun w H => ?_) | refine b_store (cs' := [_, _, _]) rfl sz_31 rfl rfl rfl rfl rfl H 4 rfl rfl rfl (fun w H => ?_)
    refine l_pint rfl rfl ?_
    refine l_nil ?_
    refine w_ret ?_
    refine finc2 rfl ag_31 rfl (by first | exact H.cells 0 rfl | exact H.cells 1 rfl | exact H.cells 2 rfl | exact H.cells 3 rfl | exact H.cells 4 rfl) rfl ?_
    exact ⟨rfl, by first | exact H | exact H.drop1 | exact H.drop1.drop1 | exact H.drop1.drop1.drop1⟩
  try simp only [sH] at c1
  exact absurd c1 (by simp)
theorem Record_z {W w : World} {F : List Seg} {b : Nat} (H : St W w (zn b F)) :
    Ok Try.prog 43 [.pointer (some ⟨b, 0, none⟩), .int .i64 0].toArray w (fun v w' => v = .tuple #[pk0, .int .i64 141] ∧ St W w' (zn b F)) := by
  refine enter (n := 29) (rs := #[.cell 4 31, .tmp 5]) Try.func43 rfl rfl rfl rfl ?_
  refine w_seq ?_
  refine w_region ?_
  refine b_alloc rfl ze_31 rfl H (fun b4 w H => ?_)
  refine l_pint rfl rfl ?_
  refine l_nil ?_
  refine w_seq ?_
  refine w_seq ?_
  refine w_region ?_
  refine l_pptr rfl rfl ?_
  refine l_v rfl (q_eqlNilF rfl pt_24 rfl rfl) ?_
  refine l_nil ?_
  refine w_cond_f rfl ?_
  refine w_skip ?_
  refine w_seq ?_
  refine w_seq ?_
  refine w_region ?_
  refine l_pint rfl rfl ?_
  refine l_pbool rfl rfl ?_
  refine l_pbool rfl rfl ?_
  refine l_split 11 rfl (fun h11 => absurd h11 (by simp)) (fun h11 => ?_)
  try simp only [sH] at h11
  refine l_pint rfl rfl ?_
  refine l_pptr rfl rfl ?_
  refine l_pptr rfl rfl ?_
  refine l_v rfl (q_fieldAddr rfl fo84_3 rfl) ?_
  refine l_v rfl (q_load1 rfl c1_22 rfl (by first | exact H.cell 0 rfl rfl | exact H.cell 1 rfl rfl | exact H.cell 2 rfl rfl | exact H.cell 3 rfl rfl | exact H.cell 4 rfl rfl)) ?_
  refine l_v rfl (q_lenSlice rfl el_22 rfl) ?_
  refine l_pbool rfl rfl ?_
  refine l_pickF (v := .bool _) rfl rfl rfl ?_
  refine l_nil ?_
  refine w_cond rfl (fun c1 => ?_) (fun c1 => ?_)
  · try simp only [sH] at c1
    refine w_seq ?_
    refine w_region ?_
    refine l_v rfl (q_build (cs := [.int _ _, .int _ _, .slice _ _ _]) rfl sp_31 rfl) ?_
    first | refine b_store (cs' := [_, _, _]) rfl sz_31 rfl rfl rfl rfl rfl H 0 rfl rfl rfl (fun w H => ?_) | refine b_store (cs' := [_, _, _]) rfl sz_31 rfl rfl rfl rfl rfl H 1 rfl rfl rfl (fun w H => ?_) | refine b_store (cs' := [_, _, _]) rfl sz_31 rfl rfl rfl rfl rfl H 2 rfl rfl rfl (fun w H => ?_) | refine b_store (cs' := [_, _, _]) rfl sz_31 rfl rfl rfl rfl rfl H 3 rfl rfl rfl (fun w H => ?_) | refine b_store (cs' := [_, _, _]) rfl sz_31 rfl rfl rfl rfl rfl H 4 rfl rfl rfl (fun w H => ?_)
    refine l_pint rfl rfl ?_
    refine l_nil ?_
    refine w_ret ?_
    refine finc2 rfl ag_31 rfl (by first | exact H.cells 0 rfl | exact H.cells 1 rfl | exact H.cells 2 rfl | exact H.cells 3 rfl | exact H.cells 4 rfl) rfl ?_
    exact ⟨rfl, by first | exact H | exact H.drop1 | exact H.drop1.drop1 | exact H.drop1.drop1.drop1⟩
  try simp only [sH] at c1
  exact absurd c1 (by simp)
theorem Take_z {W w : World} {F : List Seg} {b : Nat} (H : St W w (zn b F)) :
    Ok Try.prog 14 [.pointer (some ⟨b, 0, none⟩), .int .i64 0].toArray w (fun v w' => v = .tuple #[pk0, .int .i64 141] ∧ St W w' (zn b F)) := by
  refine enter (n := 33) (rs := #[.cell 4 31, .tmp 5]) Try.func14 rfl rfl rfl rfl ?_
  refine w_seq ?_
  refine w_region ?_
  refine b_alloc rfl ze_31 rfl H (fun b4 w H => ?_)
  refine l_pint rfl rfl ?_
  refine l_nil ?_
  refine w_seq ?_
  refine w_region ?_
  refine l_pptr rfl rfl ?_
  refine l_pint rfl rfl ?_
  refine b_call rfl cb_27 rfl (At_z (b := b) (F := blk b4 [.int .i64 0, .int .i64 0, .slice none 0 0] 31 :: F) (St.pick [1, 0] (pre := [_, _]) rfl H rfl)) (fun v w hv => ?_)
  obtain ⟨rfl, H⟩ := hv
  have H := St.pick [1, 0] (pre := [_, _]) rfl H rfl
  refine l_ptup rfl rfl ?_
  refine l_pagg rfl rfl ?_
  refine l_pint rfl rfl ?_
  refine b_alloc rfl ze_31 rfl H (fun b6 w H => ?_)
  first | refine b_store (cs' := [_, _, _]) rfl sz_31 rfl rfl rfl rfl rfl H 0 rfl rfl rfl (fun w H => ?_) | refine b_store (cs' := [_, _, _]) rfl sz_31 rfl rfl rfl rfl rfl H 1 rfl rfl rfl (fun w H => ?_) | refine b_store (cs' := [_, _, _]) rfl sz_31 rfl rfl rfl rfl rfl H 2 rfl rfl rfl (fun w H => ?_) | refine b_store (cs' := [_, _, _]) rfl sz_31 rfl rfl rfl rfl rfl H 3 rfl rfl rfl (fun w H => ?_) | refine b_store (cs' := [_, _, _]) rfl sz_31 rfl rfl rfl rfl rfl H 4 rfl rfl rfl (fun w H => ?_)
  refine l_pint rfl rfl ?_
  refine l_nil ?_
  refine w_seq ?_
  refine w_seq ?_
  refine w_region ?_
  refine l_pptr rfl rfl ?_
  refine l_v rfl (q_neqNilF rfl pt_24 rfl rfl) ?_
  refine l_pbool rfl rfl ?_
  refine l_pint rfl rfl ?_
  refine l_pbool rfl rfl ?_
  refine l_pickT (v := .bool _) rfl rfl rfl ?_
  refine l_nil ?_
  refine w_cond rfl (fun c1 => ?_) (fun c1 => ?_)
  · try simp only [sH] at c1
    exact absurd c1 (by simp)
  try simp only [sH] at c1
  refine w_skip ?_
  refine w_seq ?_
  refine w_region ?_
  refine l_v rfl (q_loadN (vs := [_, _, _]) rfl ag_31 rfl rfl (by first | exact H.cells 0 rfl | exact H.cells 1 rfl | exact H.cells 2 rfl | exact H.cells 3 rfl | exact H.cells 4 rfl)) ?_
  refine l_pint rfl rfl ?_
  first | refine b_store (cs' := [_, _, _]) rfl sz_31 rfl rfl rfl rfl rfl H 0 rfl rfl rfl (fun w H => ?_) | refine b_store (cs' := [_, _, _]) rfl sz_31 rfl rfl rfl rfl rfl H 1 rfl rfl rfl (fun w H => ?_) | refine b_store (cs' := [_, _, _]) rfl sz_31 rfl rfl rfl rfl rfl H 2 rfl rfl rfl (fun w H => ?_) | refine b_store (cs' := [_, _, _]) rfl sz_31 rfl rfl rfl rfl rfl H 3 rfl rfl rfl (fun w H => ?_) | refine b_store (cs' := [_, _, _]) rfl sz_31 rfl rfl rfl rfl rfl H 4 rfl rfl rfl (fun w H => ?_)
  refine l_pint rfl rfl ?_
  refine l_nil ?_
  refine w_ret ?_
  refine finc2 rfl ag_31 rfl (by first | exact H.cells 0 rfl | exact H.cells 1 rfl | exact H.cells 2 rfl | exact H.cells 3 rfl | exact H.cells 4 rfl) rfl ?_
  exact ⟨rfl, by first | exact H | exact H.drop1 | exact H.drop1.drop1 | exact H.drop1.drop1.drop1⟩
theorem Drop_z {W w : World} {F : List Seg} {b : Nat} (H : St W w (zn b F)) :
    Ok Try.prog 21 [.pointer (some ⟨b, 0, none⟩), .int .i64 0].toArray w (fun v w' => v = .int .i64 141 ∧ St W w' (zn b F)) := by
  refine enter (n := 14) (rs := #[.tmp 4]) Try.func21 rfl rfl rfl rfl ?_
  refine w_seq ?_
  refine w_region ?_
  refine l_pint rfl rfl ?_
  refine l_nil ?_
  refine w_seq ?_
  refine w_region ?_
  refine l_pptr rfl rfl ?_
  refine l_pint rfl rfl ?_
  refine b_call rfl cb_14 rfl (Take_z H) (fun v w hv => ?_)
  obtain ⟨rfl, H⟩ := hv
  refine l_ptup rfl rfl ?_
  refine l_pagg rfl rfl ?_
  refine l_pint rfl rfl ?_
  refine b_alloc rfl ze_31 rfl H (fun b5 w H => ?_)
  first | refine b_store (cs' := [_, _, _]) rfl sz_31 rfl rfl rfl rfl rfl H 0 rfl rfl rfl (fun w H => ?_) | refine b_store (cs' := [_, _, _]) rfl sz_31 rfl rfl rfl rfl rfl H 1 rfl rfl rfl (fun w H => ?_) | refine b_store (cs' := [_, _, _]) rfl sz_31 rfl rfl rfl rfl rfl H 2 rfl rfl rfl (fun w H => ?_) | refine b_store (cs' := [_, _, _]) rfl sz_31 rfl rfl rfl rfl rfl H 3 rfl rfl rfl (fun w H => ?_) | refine b_store (cs' := [_, _, _]) rfl sz_31 rfl rfl rfl rfl rfl H 4 rfl rfl rfl (fun w H => ?_)
  refine l_pint rfl rfl ?_
  refine l_nil ?_
  refine w_seq ?_
  refine w_region ?_
  refine l_pint rfl rfl ?_
  refine l_pint rfl rfl ?_
  refine l_nil ?_
  refine w_ret ?_
  refine fin1 (v := .int _ _) rfl ?_
  exact ⟨rfl, by first | exact H | exact H.drop1 | exact H.drop1.drop1 | exact H.drop1.drop1.drop1⟩
theorem Copy_z {W w : World} {F : List Seg} {b : Nat} (H : St W w (zn b F)) :
    Ok Try.prog 26 [.pointer (some ⟨b, 0, none⟩), .int .i64 0].toArray w (fun v w' => v = .int .i64 141 ∧ St W w' (zn b F)) := by
  refine enter (n := 28) (rs := #[.tmp 4]) Try.func26 rfl rfl rfl rfl ?_
  refine w_seq ?_
  refine w_region ?_
  refine l_pint rfl rfl ?_
  refine l_nil ?_
  refine w_seq ?_
  refine w_seq ?_
  refine w_region ?_
  refine l_pptr rfl rfl ?_
  refine l_v rfl (q_eqlNilF rfl pt_24 rfl rfl) ?_
  refine l_nil ?_
  refine w_cond_f rfl ?_
  refine w_skip ?_
  refine w_seq ?_
  refine w_region ?_
  refine l_pptr rfl rfl ?_
  refine l_pint rfl rfl ?_
  refine b_call rfl cb_27 rfl (At_z H) (fun v w hv => ?_)
  obtain ⟨rfl, H⟩ := hv
  refine l_ptup rfl rfl ?_
  refine l_pagg rfl rfl ?_
  refine l_pint rfl rfl ?_
  refine b_alloc rfl ze_31 rfl H (fun b5 w H => ?_)
  first | refine b_store (cs' := [_, _, _]) rfl sz_31 rfl rfl rfl rfl rfl H 0 rfl rfl rfl (fun w H => ?_) | refine b_store (cs' := [_, _, _]) rfl sz_31 rfl rfl rfl rfl rfl H 1 rfl rfl rfl (fun w H => ?_) | refine b_store (cs' := [_, _, _]) rfl sz_31 rfl rfl rfl rfl rfl H 2 rfl rfl rfl (fun w H => ?_) | refine b_store (cs' := [_, _, _]) rfl sz_31 rfl rfl rfl rfl rfl H 3 rfl rfl rfl (fun w H => ?_) | refine b_store (cs' := [_, _, _]) rfl sz_31 rfl rfl rfl rfl rfl H 4 rfl rfl rfl (fun w H => ?_)
  refine l_pint rfl rfl ?_
  refine l_nil ?_
  refine w_seq ?_
  refine w_seq ?_
  refine w_region ?_
  refine l_pint rfl rfl ?_
  refine l_pbool rfl rfl ?_
  refine l_nil ?_
  refine w_cond rfl (fun c1 => ?_) (fun c1 => ?_)
  · try simp only [sH] at c1
    exact absurd c1 (by simp)
  try simp only [sH] at c1
  refine w_skip ?_
  refine w_seq ?_
  refine w_region ?_
  refine l_pint rfl rfl ?_
  refine l_pint rfl rfl ?_
  refine l_nil ?_
  refine w_ret ?_
  refine fin1 (v := .int _ _) rfl ?_
  exact ⟨rfl, by first | exact H | exact H.drop1 | exact H.drop1.drop1 | exact H.drop1.drop1.drop1⟩
theorem Turn_z {W w : World} {F : List Seg} {b : Nat} (H : St W w (zn b F)) :
    Ok Try.prog 22 [.pointer (some ⟨b, 0, none⟩), .int .i64 0, .int .i64 0, .int .u8 1].toArray w (fun v w' => v = .int .i64 141 ∧ St W w' (zn b F)) := by
  refine enter (n := 47) (rs := #[.tmp 8]) Try.func22 rfl rfl rfl rfl ?_
  refine w_seq ?_
  refine w_region ?_
  refine l_pint rfl rfl ?_
  refine l_nil ?_
  refine w_seq ?_
  refine w_block ?_
  refine w_seq ?_
  refine w_region ?_
  refine l_pptr rfl rfl ?_
  refine l_v rfl (q_eqlNilF rfl pt_24 rfl rfl) ?_
  refine l_pbool rfl rfl ?_
  refine l_nil ?_
  refine w_cond_f rfl ?_
  refine w_seq ?_
  refine w_region ?_
  refine l_pptr rfl rfl ?_
  refine l_pint rfl rfl ?_
  refine b_call rfl cb_50 rfl (there_ok H (i := 0) rfl rfl 0) (fun v w hv => ?_)
  obtain ⟨rfl, rfl⟩ := hv
  refine l_pbool rfl rfl ?_
  refine l_pbool rfl rfl ?_
  refine l_nil ?_
  refine w_cond rfl (fun c1 => ?_) (fun c1 => ?_)
  · try simp only [sH] at c1
    refine w_seq ?_
    refine w_region ?_
    refine l_pint rfl rfl ?_
    refine l_nil ?_
    refine w_ret ?_
    refine fin1 (v := .int _ _) rfl ?_
    exact ⟨rfl, by first | exact H | exact H.drop1 | exact H.drop1.drop1 | exact H.drop1.drop1.drop1⟩
  try simp only [sH] at c1
  exact absurd c1 (by simp)
theorem Swap_z {W w : World} {F : List Seg} {b : Nat} (H : St W w (zn b F)) :
    Ok Try.prog 23 [.pointer (some ⟨b, 0, none⟩), .int .i64 0, .int .i64 0].toArray w (fun v w' => v = .int .i64 141 ∧ St W w' (zn b F)) := by
  refine enter (n := 45) (rs := #[.tmp 6]) Try.func23 rfl rfl rfl rfl ?_
  refine w_seq ?_
  refine w_region ?_
  refine l_pint rfl rfl ?_
  refine l_nil ?_
  refine w_seq ?_
  refine w_seq ?_
  refine w_region ?_
  refine l_pptr rfl rfl ?_
  refine l_v rfl (q_eqlNilF rfl pt_24 rfl rfl) ?_
  refine l_nil ?_
  refine w_cond_f rfl ?_
  refine w_skip ?_
  refine w_seq ?_
  refine w_seq ?_
  refine w_region ?_
  refine l_pptr rfl rfl ?_
  refine l_pint rfl rfl ?_
  refine b_call rfl cb_50 rfl (there_ok H (i := 0) rfl rfl 0) (fun v w hv => ?_)
  obtain ⟨rfl, rfl⟩ := hv
  refine l_pbool rfl rfl ?_
  refine l_pbool rfl rfl ?_
  refine l_split 13 rfl (fun h13 => ?_) (fun h13 => ?_)
  · try simp only [sH] at h13
    refine l_no rfl ?_
    refine l_no rfl ?_
    refine l_no rfl ?_
    refine l_no rfl ?_
    refine l_pickT (v := .bool _) rfl rfl rfl ?_
    refine l_nil ?_
    refine w_cond_t rfl ?_
    refine w_seq ?_
    refine w_region ?_
    refine l_pint rfl rfl ?_
    refine l_nil ?_
    refine w_ret ?_
    refine fin1 (v := .int _ _) rfl ?_
    exact ⟨rfl, by first | exact H | exact H.drop1 | exact H.drop1.drop1 | exact H.drop1.drop1.drop1⟩
  try simp only [sH] at h13
  refine l_pptr rfl rfl ?_
  refine l_pint rfl rfl ?_
  refine b_call rfl cb_50 rfl (there_ok H (i := 0) rfl rfl 0) (fun v w hv => ?_)
  obtain ⟨rfl, rfl⟩ := hv
  refine l_pbool rfl rfl ?_
  refine l_pickF (v := .bool _) rfl rfl rfl ?_
  refine l_nil ?_
  refine w_cond rfl (fun c1 => ?_) (fun c1 => ?_)
  · try simp only [sH] at c1
    refine w_seq ?_
    refine w_region ?_
    refine l_pint rfl rfl ?_
    refine l_nil ?_
    refine w_ret ?_
    refine fin1 (v := .int _ _) rfl ?_
    exact ⟨rfl, by first | exact H | exact H.drop1 | exact H.drop1.drop1 | exact H.drop1.drop1.drop1⟩
  try simp only [sH] at c1
  exact absurd c1 (by simp)
theorem Len_z {W w : World} {F : List Seg} {b : Nat} (H : St W w (zn b F)) :
    Ok Try.prog 16 [.pointer (some ⟨b, 0, none⟩)].toArray w (fun v w' => v = .int .i64 0 ∧ St W w' (zn b F)) := by
  refine enter (n := 10) (rs := #[.tmp 2]) Try.func16 rfl rfl rfl rfl ?_
  refine w_seq ?_
  refine w_region ?_
  refine l_pint rfl rfl ?_
  refine l_nil ?_
  refine w_seq ?_
  refine w_seq ?_
  refine w_region ?_
  refine l_pptr rfl rfl ?_
  refine l_v rfl (q_eqlNilF rfl pt_24 rfl rfl) ?_
  refine l_nil ?_
  refine w_cond_f rfl ?_
  refine w_skip ?_
  refine w_seq ?_
  refine w_region ?_
  refine l_pptr rfl rfl ?_
  refine l_pptr rfl rfl ?_
  refine l_v rfl (q_fieldAddr rfl fo84_2 rfl) ?_
  refine l_v rfl (q_load1 rfl c1_22 rfl (by first | exact H.cell 0 rfl rfl | exact H.cell 1 rfl rfl | exact H.cell 2 rfl rfl | exact H.cell 3 rfl rfl | exact H.cell 4 rfl rfl)) ?_
  refine l_v rfl (q_lenSlice rfl el_22 rfl) ?_
  refine l_pint rfl rfl ?_
  refine l_nil ?_
  refine w_ret ?_
  refine fin1 (v := .int _ _) rfl ?_
  exact ⟨rfl, by first | exact H | exact H.drop1 | exact H.drop1.drop1 | exact H.drop1.drop1.drop1⟩
theorem Sent_z {W w : World} {F : List Seg} {b : Nat} (H : St W w (zn b F)) :
    Ok Try.prog 18 [.pointer (some ⟨b, 0, none⟩)].toArray w (fun v w' => v = .int .i64 0 ∧ St W w' (zn b F)) := by
  refine enter (n := 10) (rs := #[.tmp 2]) Try.func18 rfl rfl rfl rfl ?_
  refine w_seq ?_
  refine w_region ?_
  refine l_pint rfl rfl ?_
  refine l_nil ?_
  refine w_seq ?_
  refine w_seq ?_
  refine w_region ?_
  refine l_pptr rfl rfl ?_
  refine l_v rfl (q_eqlNilF rfl pt_24 rfl rfl) ?_
  refine l_nil ?_
  refine w_cond_f rfl ?_
  refine w_skip ?_
  refine w_seq ?_
  refine w_region ?_
  refine l_pptr rfl rfl ?_
  refine l_pptr rfl rfl ?_
  refine l_v rfl (q_fieldAddr rfl fo84_3 rfl) ?_
  refine l_v rfl (q_load1 rfl c1_22 rfl (by first | exact H.cell 0 rfl rfl | exact H.cell 1 rfl rfl | exact H.cell 2 rfl rfl | exact H.cell 3 rfl rfl | exact H.cell 4 rfl rfl)) ?_
  refine l_v rfl (q_lenSlice rfl el_22 rfl) ?_
  refine l_pint rfl rfl ?_
  refine l_nil ?_
  refine w_ret ?_
  refine fin1 (v := .int _ _) rfl ?_
  exact ⟨rfl, by first | exact H | exact H.drop1 | exact H.drop1.drop1 | exact H.drop1.drop1.drop1⟩
theorem Clear_z {W w : World} {F : List Seg} {b : Nat} (H : St W w (zn b F)) :
    Ok Try.prog 24 [.pointer (some ⟨b, 0, none⟩)].toArray w (fun v w' => v = .tuple #[] ∧ St W w' (zn b F)) := by
  refine enter (n := 7) (rs := #[]) Try.func24 rfl rfl rfl rfl ?_
  refine w_seq ?_
  refine w_region ?_
  refine l_pptr rfl rfl ?_
  refine l_v rfl (q_neqNilF rfl pt_24 rfl rfl) ?_
  refine l_nil ?_
  refine w_cond_t rfl ?_
  refine w_region ?_
  refine l_pptr rfl rfl ?_
  refine l_pptr rfl rfl ?_
  refine l_v rfl (q_fieldAddr rfl fo84_2 rfl) ?_
  first | refine b_store rfl sz_22 rfl rfl rfl rfl rfl H 0 rfl rfl rfl (fun w H => ?_) | refine b_store rfl sz_22 rfl rfl rfl rfl rfl H 1 rfl rfl rfl (fun w H => ?_) | refine b_store rfl sz_22 rfl rfl rfl rfl rfl H 2 rfl rfl rfl (fun w H => ?_) | refine b_store rfl sz_22 rfl rfl rfl rfl rfl H 3 rfl rfl rfl (fun w H => ?_) | refine b_store rfl sz_22 rfl rfl rfl rfl rfl H 4 rfl rfl rfl (fun w H => ?_)
  refine l_nil ?_
  exact fin0n ⟨rfl, H⟩
theorem q_lookupNil {P : Program} {w : World} {e : Operand → Value} {o : Oper} {M T E : TypeId} {x i : Operand} {k : Ky} {z : Value} (ho : o.op = .lookup M x i false) (hM : mapB P M T E = true) (hT : kyB P T = true) (hz : zeroV P E = some z)
    (hx : e x = .map none) (hi : e i = kcv k) : (execOp e o).run P w = .ok (.value z) w := by
  unfold execOp
  simp only [ho, hx, hi, Instr.lookup, Sem.run_bind, run_underlying (map_spec hM), Result.andThen_ok, Sem.run_pure, run_checkKy hT]
  have hf : (Instr.findKey T (kcv k) []).run P w = .ok none w := run_findKy hT k []
  rw [hf]
  simp [run_zero hz]
theorem Genuine_z {W w : World} {F : List Seg} {b : Nat} (H : St W w (zn b F)) (fr to : Int) {a : Option Addr} {n cap : Nat} {bs : List UInt8} (hr : RdIn W F a (bs.map B)) (hl : bs.length = n) :
    Ok Try.prog 30 [.pointer (some ⟨b, 0, none⟩), .agg #[.int .i64 fr, .int .i64 to, .slice a n cap]].toArray w (fun v w' => ∃ bb : Bool, v = .bool bb ∧ St W w' (zn b F)) := by
  refine enter (n := 21) (rs := #[.tmp 4]) Try.func30 rfl rfl rfl rfl ?_
  refine w_seq ?_
  refine w_region ?_
  refine b_box (cs := [.int .i64 fr, .int .i64 to, .slice a n cap]) rfl rfl rfl H (fun b3 w H => ?_)
  refine l_pbool rfl rfl ?_
  refine l_nil ?_
  refine w_seq ?_
  refine w_drawT [] [6, 8, 10, 11, 13] [(0, 0), (1, 0), (2, 0), (3, 0), (4, 0), (5, 0), (6, 1), (7, 0), (8, 1), (9, 0), (10, 1), (11, 1), (12, 0), (13, 1), (14, 0), (15, 0), (16, 0)] mixed (by kernel_rfl) (fun _ _ _ h => fin_panic h) H (fun H => ?_)
  refine r_pptr rfl rfl rfl ?_
  refine r_w rfl rfl (fun w => q_neqNilF rfl pt_24 rfl rfl) ?_
  refine r_pbool rfl rfl rfl ?_
  refine r_pptr rfl rfl rfl ?_
  refine r_pptr rfl rfl rfl ?_
  refine r_w rfl rfl (fun w => q_fieldAddr rfl fo84_5 rfl) ?_
  refine r_v rfl rfl (fun w hS => q_load1 rfl c1_82 rfl (by first | exact hS.cell 0 rfl rfl | exact hS.cell 1 rfl rfl | exact hS.cell 2 rfl rfl)) ?_
  refine r_w rfl rfl (fun w => q_fieldAddr rfl fo31_1 rfl) ?_
  refine r_v rfl rfl (fun w hS => q_load1 rfl c1_3 rfl (by first | exact hS.cell 0 rfl rfl | exact hS.cell 1 rfl rfl | exact hS.cell 2 rfl rfl)) ?_
  refine r_w rfl rfl (fun w => q_fieldAddr rfl fo31_2 rfl) ?_
  refine r_v rfl rfl (fun w hS => q_load1 rfl c1_29 rfl (by first | exact hS.cell 0 rfl rfl | exact hS.cell 1 rfl rfl | exact hS.cell 2 rfl rfl)) ?_
  refine r_v rfl rfl (fun w hS => q_bytesStr (bs := bs) rfl by_29 st_9 rfl ((hr.up 2 rfl).use hS 0 rfl) hl) ?_
  refine r_w rfl rfl (fun w => q_build (cs := [.int _ _, .int _ _, .string _]) rfl sp_88 rfl) ?_
  refine r_v rfl rfl (fun w hS => q_lookupNil (k := (0, to, bs)) (z := .int .i64 0) rfl mp_82 ky_88 ze_3 rfl rfl) ?_
  refine r_pbool rfl rfl rfl ?_
  refine r_pickT (v := .bool _) rfl rfl rfl rfl ?_
  refine r_pbool rfl rfl rfl ?_
  refine r_nil ?_
  refine w_ret ?_
  refine fin1 (v := .bool _) rfl ?_
  exact ⟨_, rfl, by first | exact H | exact H.drop1 | exact H.drop1.drop1 | exact H.drop1.drop1.drop1⟩
theorem Each_z {W w : World} {F : List Seg} {b : Nat} (H : St W w (zn b F)) :
    Ok Try.prog 33 [.pointer (some ⟨b, 0, none⟩)].toArray w (fun v w' => ∃ b3, v = .func (.func 53) #[] #[.pointer (some ⟨b3, 0, none⟩)] ∧ St W w' (eachL b3 none 0 [] (zn b F))) := by
  refine enter (n := 25) (rs := #[.tmp 2]) Try.func33 rfl rfl rfl rfl ?_
  refine w_seq ?_
  refine w_region ?_
  refine l_p (v := .nilFunc) rfl rfl ?_
  refine l_nil ?_
  refine w_seq ?_
  refine w_seq ?_
  refine w_region ?_
  refine l_pptr rfl rfl ?_
  refine l_v rfl (q_eqlNilF rfl pt_24 rfl rfl) ?_
  refine l_nil ?_
  refine w_cond_f rfl ?_
  refine w_skip ?_
  refine w_seq ?_
  refine w_region ?_
  refine b_alloc rfl ze_22 rfl H (fun b3 w H => ?_)
  refine l_nil ?_
  refine w_seq ?_
  refine w_seq ?_
  refine w_region ?_
  refine l_pptr rfl rfl ?_
  refine l_pptr rfl rfl ?_
  refine l_v rfl (q_fieldAddr rfl fo84_2 rfl) ?_
  refine l_v rfl (q_load1 rfl c1_22 rfl (by first | exact H.cell 0 rfl rfl | exact H.cell 1 rfl rfl | exact H.cell 2 rfl rfl | exact H.cell 3 rfl rfl | exact H.cell 4 rfl rfl)) ?_
  refine l_v rfl (q_lenSlice rfl el_22 rfl) ?_
  refine l_pint rfl rfl ?_
  refine l_nil ?_
  refine w_block ?_
  refine w_loopG (G := Unit) [5, 14, 15, 16, 17, 18, 19, 20, 21, 22, 23] (fun ⟨⟩ => [(14, I64 0)]) (fun m ⟨⟩ w => m = 1 ∧ St W w (blk b3 [.slice none 0 0] 22 :: zn b F)) (fun _ => rfl) ?_ ?_
  · exact ⟨1, ⟨⟩, ⟨rfl, trivial⟩, rfl, H⟩
  rintro m ⟨⟩ ρ1 w ⟨hm, H⟩
  refine w_seq ?_
  refine w_region ?_
  refine l_pbool rfl rfl ?_
  refine l_nil ?_
  refine w_seq ?_
  refine w_cond rfl (fun c1 => ?_) (fun c1 => ?_)
  · try simp only [sH] at c1
    exact absurd c1 (by simp)
  try simp only [sH] at c1
  refine w_exit ?_
  refine w_seq ?_
  refine w_region ?_
  refine b_makeFunc rfl rfl rfl ?_
  refine l_pfn rfl rfl ?_
  refine l_nil ?_
  refine w_ret ?_
  refine fin1 (v := _) rfl ?_
  refine ⟨b3, rfl, ?_⟩
  exact St.pick [2, 0, 1] (pre := [_, _, _]) rfl (St.newRow (T := 31) (sz := 3) (St.nilseg.2 H)) rfl
theorem For_z {W w : World} {F : List Seg} {b : Nat} (H : St W w (zn b F)) (to : Int) :
    Ok Try.prog 32 [.pointer (some ⟨b, 0, none⟩), I64 to].toArray w (fun v w' => ∃ v', v = v' ∧ St W w' (zn b F)) := by
  refine enter (n := 21) (rs := #[.tmp 4]) Try.func32 rfl rfl rfl rfl ?_
  refine w_seq ?_
  refine w_region ?_
  refine b_box (cs := [I64 to]) rfl rfl rfl H (fun b3 w H => ?_)
  refine l_pslice rfl rfl ?_
  refine l_nil ?_
  refine w_seq ?_
  refine w_region ?_
  refine b_alloc rfl ze_23 rfl H (fun b5 w H => ?_)
  refine l_nil ?_
  refine w_seq ?_
  refine w_seq ?_
  refine w_region ?_
  refine l_pptr rfl rfl ?_
  refine b_call rfl cb_33 rfl (Each_z (b := b) (F := blk b5 [.slice none 0 0] 23 :: blk b3 [I64 to] 3 :: F) (St.pick [2, 0, 1] (pre := [_, _, _]) rfl H rfl)) (fun v w hv => ?_)
  obtain ⟨be, rfl, H⟩ := hv
  refine l_nil ?_
  refine w_block ?_
  refine w_iter (Each_iter (F := zn b (blk b5 [.slice none 0 0] 23 :: blk b3 [I64 to] 3 :: F)) (b3 := be) (a := none) (c := 0) (l := []) (fun _ h => (by cases h)) (by simp)) (fun k => []) (fun c k => [pr False]) rfl (by kernel_rfl) (fun _ _ => rfl) (H) (fun lp D fn i x F' w hx H => ?_) (fun D w H => ?_) (fun D c k w H => ?_)
  · exact absurd hx (by simp)
  · refine w_seq ?_
    refine w_region ?_
    refine l_v rfl (q_load1 rfl c1_23 rfl (by first | exact H.cell 0 rfl rfl | exact H.cell 1 rfl rfl | exact H.cell 2 rfl rfl | exact H.cell 3 rfl rfl | exact H.cell 4 rfl rfl | exact H.cell 5 rfl rfl)) ?_
    refine l_pslice rfl rfl ?_
    refine l_nil ?_
    refine w_ret ?_
    refine fin_mark rfl H (fun w H => ?_)
    refine fin1 (v := .slice _ _ _) rfl ?_
    exact ⟨_, rfl, St.pick [3] (pre := [_, _, _, _, _, _]) rfl H rfl⟩
  exact absurd (St.pr.1 (St.pick [1, 0] (pre := [_, _]) rfl H rfl)).1 id
set_option maxRecDepth 8000 in
set_option maxHeartbeats 1000000 in
theorem NetworkNil_ok {W w : World} {F : List Seg} (H : St W w F) :
    Ok Try.prog 9 [].toArray w (fun v w' => v = .bool true ∧ ∃ S, St W w' S) := by
  refine enter (n := 151) (rs := #[.tmp 0]) Try.func9 rfl rfl rfl rfl ?_
  refine w_seq ?_
  refine w_region ?_
  refine l_pbool rfl rfl ?_
  refine l_nil ?_
  refine w_seq ?_
  refine w_region ?_
  refine l_p (v := .pointer none) rfl rfl ?_
  refine l_nil ?_
  refine w_seq ?_
  refine w_region ?_
  refine b_buildSlice (cs := [B 97]) rfl el_29 ze_5 rfl rfl rfl H (fun b11 w H => ?_)
  refine b_markBytes rfl by_29 rfl H 0 rfl (fun w H => ?_)
  refine l_v rfl (q_build (cs := [.int _ _, .int _ _, .slice _ _ _]) rfl sp_31 rfl) ?_
  refine b_alloc rfl ze_31 rfl H (fun b2 w H => ?_)
  refine b_store (cs' := [.int .i64 0, .int .i64 1, .slice (some ⟨b11, 0, none⟩) 1 1]) rfl sz_31 rfl rfl rfl rfl rfl H 0 rfl rfl rfl (fun w H => ?_)
  refine l_nil ?_
  refine w_seq ?_
  refine w_region ?_
  refine l_pptr rfl rfl ?_
  refine b_call rfl cb_27 rfl (At_nil H 0) (fun v w hv => ?_)
  obtain ⟨rfl, H⟩ := hv
  refine l_ptup rfl rfl ?_
  refine l_pagg rfl rfl ?_
  refine l_pint rfl rfl ?_
  refine b_alloc rfl ze_31 rfl H (fun b3 w H => ?_)
  refine b_store (cs' := [.int .i64 0, .int .i64 0, .slice none 0 0]) rfl sz_31 rfl rfl rfl rfl rfl H 0 rfl rfl rfl (fun w H => ?_)
  refine l_pint rfl rfl ?_
  refine l_nil ?_
  refine w_seq ?_
  refine w_region ?_
  refine l_pptr rfl rfl ?_
  refine b_call rfl cb_14 rfl (Take_nil H 0) (fun v w hv => ?_)
  obtain ⟨rfl, H⟩ := hv
  refine l_ptup rfl rfl ?_
  refine l_pagg rfl rfl ?_
  refine l_pint rfl rfl ?_
  refine b_alloc rfl ze_31 rfl H (fun b5 w H => ?_)
  refine b_store (cs' := [.int .i64 0, .int .i64 0, .slice none 0 0]) rfl sz_31 rfl rfl rfl rfl rfl H 0 rfl rfl rfl (fun w H => ?_)
  refine l_pint rfl rfl ?_
  refine l_nil ?_
  refine w_seq ?_
  refine w_region ?_
  refine l_pptr rfl rfl ?_
  refine b_call rfl cb_43 rfl (Record_nil H 0) (fun v w hv => ?_)
  obtain ⟨rfl, H⟩ := hv
  refine l_ptup rfl rfl ?_
  refine l_pagg rfl rfl ?_
  refine l_pint rfl rfl ?_
  refine b_alloc rfl ze_31 rfl H (fun b7 w H => ?_)
  refine b_store (cs' := [.int .i64 0, .int .i64 0, .slice none 0 0]) rfl sz_31 rfl rfl rfl rfl rfl H 0 rfl rfl rfl (fun w H => ?_)
  refine l_pint rfl rfl ?_
  refine l_nil ?_
  refine w_seq ?_
  refine w_region ?_
  refine l_pptr rfl rfl ?_
  refine b_call rfl cb_24 rfl (Clear_nil H) (fun v w hv => ?_)
  obtain ⟨rfl, H⟩ := hv
  refine l_nil ?_
  refine w_seq ?_
  refine w_seq ?_
  refine w_region ?_
  refine b_call rfl cb_11 rfl (works_ok H) (fun v w hv => ?_)
  obtain ⟨rfl, H⟩ := hv
  refine l_pbool rfl rfl ?_
  refine l_pbool rfl rfl ?_
  refine l_split 33 rfl (fun h33 => absurd h33 (by simp)) (fun h33 => ?_)
  try simp only [sH] at h33
  refine l_pint rfl rfl ?_
  refine l_pbool rfl rfl ?_
  refine l_pickF (v := .bool _) rfl rfl rfl ?_
  refine l_pbool rfl rfl ?_
  refine l_split 37 rfl (fun h37 => absurd h37 (by simp)) (fun h37 => ?_)
  try simp only [sH] at h37
  refine l_pint rfl rfl ?_
  refine l_pbool rfl rfl ?_
  refine l_pickF (v := .bool _) rfl rfl rfl ?_
  refine l_pbool rfl rfl ?_
  refine l_split 41 rfl (fun h41 => absurd h41 (by simp)) (fun h41 => ?_)
  try simp only [sH] at h41
  refine l_pint rfl rfl ?_
  refine l_pbool rfl rfl ?_
  refine l_pickF (v := .bool _) rfl rfl rfl ?_
  refine l_pbool rfl rfl ?_
  refine l_split 45 rfl (fun h45 => absurd h45 (by simp)) (fun h45 => ?_)
  try simp only [sH] at h45
  refine l_v rfl (q_fieldAddr rfl fo31_2 rfl) ?_
  refine l_v rfl (q_load1 rfl c1_29 rfl (by first | exact H.cell 0 rfl rfl | exact H.cell 1 rfl rfl | exact H.cell 2 rfl rfl | exact H.cell 3 rfl rfl | exact H.cell 4 rfl rfl | exact H.cell 5 rfl rfl)) ?_
  refine l_v rfl (q_lenSlice rfl el_29 rfl) ?_
  refine l_v rfl (q_fieldAddr rfl fo31_2 rfl) ?_
  refine l_v rfl (q_load1 rfl c1_29 rfl (by first | exact H.cell 0 rfl rfl | exact H.cell 1 rfl rfl | exact H.cell 2 rfl rfl | exact H.cell 3 rfl rfl | exact H.cell 4 rfl rfl | exact H.cell 5 rfl rfl)) ?_
  refine l_v rfl (q_lenSlice rfl el_29 rfl) ?_
  first | refine l_v rfl (q_add rfl rfl rfl (by simp only [inK]; omega)) ?_ | refine l_pint rfl rfl ?_
  refine l_v rfl (q_fieldAddr rfl fo31_2 rfl) ?_
  refine l_v rfl (q_load1 rfl c1_29 rfl (by first | exact H.cell 0 rfl rfl | exact H.cell 1 rfl rfl | exact H.cell 2 rfl rfl | exact H.cell 3 rfl rfl | exact H.cell 4 rfl rfl | exact H.cell 5 rfl rfl)) ?_
  refine l_v rfl (q_lenSlice rfl el_29 rfl) ?_
  first | refine l_v rfl (q_add rfl rfl rfl (by simp only [inK]; omega)) ?_ | refine l_pint rfl rfl ?_
  refine l_pbool rfl rfl ?_
  refine l_pickF (v := .bool _) rfl rfl rfl ?_
  refine l_pbool rfl rfl ?_
  refine l_split 59 rfl (fun h59 => absurd h59 (by simp)) (fun h59 => ?_)
  try simp only [sH] at h59
  refine l_pptr rfl rfl ?_
  refine l_v rfl (q_loadN (vs := [_, _, _]) rfl ag_31 rfl rfl (by first | exact H.cells 0 rfl | exact H.cells 1 rfl | exact H.cells 2 rfl | exact H.cells 3 rfl | exact H.cells 4 rfl | exact H.cells 5 rfl)) ?_
  refine b_call rfl cb_19 rfl (Send_nil H 0 1) (fun v w hv => ?_)
  obtain ⟨rfl, H⟩ := hv
  refine l_pbool rfl rfl ?_
  refine l_pickF (v := .bool _) rfl rfl rfl ?_
  refine l_pbool rfl rfl ?_
  refine l_split 65 rfl (fun h65 => absurd h65 (by simp)) (fun h65 => ?_)
  try simp only [sH] at h65
  refine l_pptr rfl rfl ?_
  refine l_v rfl (q_loadN (vs := [_, _, _]) rfl ag_31 rfl rfl (by first | exact H.cells 0 rfl | exact H.cells 1 rfl | exact H.cells 2 rfl | exact H.cells 3 rfl | exact H.cells 4 rfl | exact H.cells 5 rfl)) ?_
  refine b_call rfl cb_31 rfl (Inject_nil H 0 1) (fun v w hv => ?_)
  obtain ⟨rfl, H⟩ := hv
  refine l_pbool rfl rfl ?_
  refine l_pickF (v := .bool _) rfl rfl rfl ?_
  refine l_pbool rfl rfl ?_
  refine l_split 71 rfl (fun h71 => absurd h71 (by simp)) (fun h71 => ?_)
  try simp only [sH] at h71
  refine l_pptr rfl rfl ?_
  refine b_call rfl cb_26 rfl (Copy_nil H 0) (fun v w hv => ?_)
  obtain ⟨rfl, H⟩ := hv
  refine l_pbool rfl rfl ?_
  refine l_pickF (v := .bool _) rfl rfl rfl ?_
  refine l_pbool rfl rfl ?_
  refine l_split 76 rfl (fun h76 => absurd h76 (by simp)) (fun h76 => ?_)
  try simp only [sH] at h76
  refine l_pptr rfl rfl ?_
  refine b_call rfl cb_21 rfl (Drop_nil H 0) (fun v w hv => ?_)
  obtain ⟨rfl, H⟩ := hv
  refine l_pbool rfl rfl ?_
  refine l_pickF (v := .bool _) rfl rfl rfl ?_
  refine l_pbool rfl rfl ?_
  refine l_split 81 rfl (fun h81 => absurd h81 (by simp)) (fun h81 => ?_)
  try simp only [sH] at h81
  refine l_pptr rfl rfl ?_
  refine b_call rfl cb_22 rfl (Turn_nil H 0 0 1) (fun v w hv => ?_)
  obtain ⟨rfl, H⟩ := hv
  refine l_pbool rfl rfl ?_
  refine l_pickF (v := .bool _) rfl rfl rfl ?_
  refine l_pbool rfl rfl ?_
  refine l_split 86 rfl (fun h86 => absurd h86 (by simp)) (fun h86 => ?_)
  try simp only [sH] at h86
  refine l_pptr rfl rfl ?_
  refine b_call rfl cb_23 rfl (Swap_nil H 0 0) (fun v w hv => ?_)
  obtain ⟨rfl, H⟩ := hv
  refine l_pbool rfl rfl ?_
  refine l_pickF (v := .bool _) rfl rfl rfl ?_
  refine l_nil ?_
  refine w_cond rfl (fun c1 => ?_) (fun c1 => ?_)
  · try simp only [sH] at c1
    exact absurd c1 (by simp)
  try simp only [sH] at c1
  refine w_skip ?_
  refine w_seq ?_
  refine w_seq ?_
  refine w_region ?_
  refine l_pptr rfl rfl ?_
  refine b_call rfl cb_16 rfl (Len_nil H) (fun v w hv => ?_)
  obtain ⟨rfl, H⟩ := hv
  refine l_pbool rfl rfl ?_
  refine l_pbool rfl rfl ?_
  refine l_split 94 rfl (fun h94 => absurd h94 (by simp)) (fun h94 => ?_)
  try simp only [sH] at h94
  refine l_pptr rfl rfl ?_
  refine b_call rfl cb_18 rfl (Sent_nil H) (fun v w hv => ?_)
  obtain ⟨rfl, H⟩ := hv
  refine l_pbool rfl rfl ?_
  refine l_pickF (v := .bool _) rfl rfl rfl ?_
  refine l_pbool rfl rfl ?_
  refine l_split 99 rfl (fun h99 => absurd h99 (by simp)) (fun h99 => ?_)
  try simp only [sH] at h99
  refine l_pptr rfl rfl ?_
  refine b_call rfl cb_32 rfl (For_nil H 0) (fun v w hv => ?_)
  obtain ⟨rfl, H⟩ := hv
  refine l_v rfl (q_lenSlice rfl el_23 rfl) ?_
  refine l_pbool rfl rfl ?_
  refine l_pickF (v := .bool _) rfl rfl rfl ?_
  refine l_pbool rfl rfl ?_
  refine l_split 105 rfl (fun h105 => absurd h105 (by simp)) (fun h105 => ?_)
  try simp only [sH] at h105
  refine l_pptr rfl rfl ?_
  refine l_v rfl (q_loadN (vs := [_, _, _]) rfl ag_31 rfl rfl (by first | exact H.cells 0 rfl | exact H.cells 1 rfl | exact H.cells 2 rfl | exact H.cells 3 rfl | exact H.cells 4 rfl | exact H.cells 5 rfl)) ?_
  refine b_call rfl cb_30 rfl (Genuine_nil H 0 1) (fun v w hv => ?_)
  obtain ⟨rfl, H⟩ := hv
  refine l_pickF (v := .bool _) rfl rfl rfl ?_
  refine l_nil ?_
  refine w_cond rfl (fun c2 => ?_) (fun c2 => ?_)
  · try simp only [sH] at c2
    exact absurd c2 (by simp)
  try simp only [sH] at c2
  refine w_skip ?_
  refine w_seq ?_
  refine w_seq ?_
  refine w_region ?_
  refine l_pint rfl rfl ?_
  refine l_nil ?_
  refine w_block ?_
  refine w_loopG (G := Nat) [9, 10, 110, 111, 112, 113, 114, 115, 116, 117, 118, 119, 120, 121, 122, 123, 124, 125, 126, 127, 128, 129, 130, 131, 132, 133, 134, 135, 136, 137, 138, 139, 140, 141, 142, 143, 144, 145, 146, 147, 148, 149, 150] (fun t => [(9, I64 (t : Int))]) (fun m t w => m + t = 2 ∧ St W w (blk b7 [.int .i64 0, .int .i64 0, .slice none 0 0] 31 :: blk b5 [.int .i64 0, .int .i64 0, .slice none 0 0] 31 :: blk b3 [.int .i64 0, .int .i64 0, .slice none 0 0] 31 :: blk b2 [.int .i64 0, .int .i64 1, .slice (some ⟨b11, 0, none⟩) 1 1] 31 :: blk b11 [B 97] 5 :: F)) (fun _ => rfl) ?_ ?_
  · exact ⟨2, 0, ⟨rfl, trivial⟩, rfl, H⟩
  rintro m t ρ1 w ⟨hmt, H⟩
  refine w_seq ?_
  refine w_seq ?_
  refine w_region ?_
  refine l_pint rfl rfl ?_
  refine l_pbool rfl rfl ?_
  refine l_nil ?_
  refine w_cond rfl (fun c3 => ?_) (fun c3 => ?_)
  · try simp only [sH] at c3
    refine w_skip ?_
    refine w_seq ?_
    refine w_block ?_
    refine w_seq ?_
    refine w_region ?_
    refine l_v rfl (q_build (cs := [.int _ _, .int _ _, .slice _ _ _, .slice _ _ _, .map _, .map _]) rfl sp_84 rfl) ?_
    refine b_box (cs := zcs) rfl rfl rfl H (fun b115 w H => ?_)
    refine l_pptr rfl rfl ?_
    refine l_nil ?_
    refine w_seq ?_
    refine w_seq ?_
    refine w_region ?_
    refine l_pint rfl rfl ?_
    refine l_pbool rfl rfl ?_
    refine l_nil ?_
    refine w_cond rfl (fun c4 => ?_) (fun c4 => ?_)
    · try simp only [sH] at c4
      refine w_region ?_
      refine l_pptr rfl rfl ?_
      refine l_v rfl (q_loadN (vs := [_, _, _]) rfl ag_31 rfl rfl (by first | exact H.cells 0 rfl | exact H.cells 1 rfl | exact H.cells 2 rfl | exact H.cells 3 rfl | exact H.cells 4 rfl | exact H.cells 5 rfl)) ?_
      refine b_call rfl cb_19 rfl (Send_z H 0 1) (fun v w hv => ?_)
      obtain ⟨rfl, H⟩ := hv
      refine l_nil ?_
      refine w_seq ?_
      refine w_region ?_
      refine l_pptr rfl rfl ?_
      refine b_call rfl cb_16 rfl (Len_z H) (fun v w hv => ?_)
      obtain ⟨rfl, H⟩ := hv
      refine l_nil ?_
      refine w_seq ?_
      refine w_region ?_
      refine l_pptr rfl rfl ?_
      refine b_call rfl cb_27 rfl (At_z H) (fun v w hv => ?_)
      obtain ⟨rfl, H⟩ := hv
      refine l_nil ?_
      refine w_seq ?_
      refine w_region ?_
      refine l_pptr rfl rfl ?_
      refine b_call rfl cb_26 rfl (Copy_z H) (fun v w hv => ?_)
      obtain ⟨rfl, H⟩ := hv
      refine l_nil ?_
      refine w_seq ?_
      refine w_region ?_
      refine l_pptr rfl rfl ?_
      refine b_call rfl cb_22 rfl (Turn_z H) (fun v w hv => ?_)
      obtain ⟨rfl, H⟩ := hv
      refine l_nil ?_
      refine w_seq ?_
      refine w_region ?_
      refine l_pptr rfl rfl ?_
      refine b_call rfl cb_23 rfl (Swap_z H) (fun v w hv => ?_)
      obtain ⟨rfl, H⟩ := hv
      refine l_nil ?_
      refine w_seq ?_
      refine w_region ?_
      refine l_pptr rfl rfl ?_
      refine b_call rfl cb_32 rfl (For_z H 1) (fun v w hv => ?_)
      obtain ⟨_, _, H⟩ := hv
      refine l_nil ?_
      refine w_seq ?_
      refine w_region ?_
      refine l_pptr rfl rfl ?_
      refine b_call rfl cb_18 rfl (Sent_z H) (fun v w hv => ?_)
      obtain ⟨rfl, H⟩ := hv
      refine l_nil ?_
      refine w_seq ?_
      refine w_region ?_
      refine l_pptr rfl rfl ?_
      refine b_call rfl cb_43 rfl (Record_z H) (fun v w hv => ?_)
      obtain ⟨rfl, H⟩ := hv
      refine l_nil ?_
      refine w_seq ?_
      refine w_region ?_
      refine l_pptr rfl rfl ?_
      refine l_v rfl (q_loadN (vs := [_, _, _]) rfl ag_31 rfl rfl (by first | exact H.cells 0 rfl | exact H.cells 1 rfl | exact H.cells 2 rfl | exact H.cells 3 rfl | exact H.cells 4 rfl | exact H.cells 5 rfl)) ?_
      refine b_call rfl cb_30 rfl (Genuine_z H 0 1 (bs := [97]) (RdIn.mem (cs := [B 97]) 4 rfl 0 1) rfl) (fun v w hv => ?_)
      obtain ⟨_, rfl, H⟩ := hv
      refine l_nil ?_
      refine w_seq ?_
      refine w_region ?_
      refine l_pptr rfl rfl ?_
      refine b_call rfl cb_14 rfl (Take_z H) (fun v w hv => ?_)
      obtain ⟨rfl, H⟩ := hv
      refine l_nil ?_
      refine w_seq ?_
      refine w_region ?_
      refine l_pptr rfl rfl ?_
      refine b_call rfl cb_21 rfl (Drop_z H) (fun v w hv => ?_)
      obtain ⟨rfl, H⟩ := hv
      refine l_nil ?_
      refine w_seq ?_
      refine w_region ?_
      refine l_pptr rfl rfl ?_
      refine b_call rfl cb_24 rfl (Clear_z H) (fun v w hv => ?_)
      obtain ⟨rfl, H⟩ := hv
      refine l_nil ?_
      refine w_region ?_
      refine l_pptr rfl rfl ?_
      refine b_call rfl cb_33 rfl (Each_z H) (fun v w hv => ?_)
      obtain ⟨be, rfl, H⟩ := hv
      refine l_nil ?_
      refine w_region ?_
      refine l_pint rfl rfl ?_
      first | refine l_v rfl (q_add rfl rfl rfl (by simp only [inK]; omega)) ?_ | refine l_pint rfl rfl ?_
      refine l_pint rfl rfl ?_
      refine l_nil ?_
      refine ⟨by repeat' first | exact aM | exact aR | refine aI rfl ?_ | refine aU rfl ?_ | refine aL rfl ?_, ?_⟩
      exact ⟨m - 1, t + 1, by omega, ⟨by exact congrArg (Value.int IntKind.i64) (Int.natCast_succ t).symm, trivial⟩, by omega, H.drop1.drop1.drop1.drop1⟩
    try simp only [sH] at c4
    refine w_region ?_
    refine l_pptr rfl rfl ?_
    refine l_v rfl (q_loadN (vs := [_, _, _]) rfl ag_31 rfl rfl (by first | exact H.cells 0 rfl | exact H.cells 1 rfl | exact H.cells 2 rfl | exact H.cells 3 rfl | exact H.cells 4 rfl | exact H.cells 5 rfl)) ?_
    refine b_call rfl cb_31 rfl (Inject_z H 0 1) (fun v w hv => ?_)
    obtain ⟨rfl, H⟩ := hv
    refine l_nil ?_
    refine w_seq ?_
    refine w_region ?_
    refine l_pptr rfl rfl ?_
    refine b_call rfl cb_16 rfl (Len_z H) (fun v w hv => ?_)
    obtain ⟨rfl, H⟩ := hv
    refine l_nil ?_
    refine w_seq ?_
    refine w_region ?_
    refine l_pptr rfl rfl ?_
    refine b_call rfl cb_27 rfl (At_z H) (fun v w hv => ?_)
    obtain ⟨rfl, H⟩ := hv
    refine l_nil ?_
    refine w_seq ?_
    refine w_region ?_
    refine l_pptr rfl rfl ?_
    refine b_call rfl cb_26 rfl (Copy_z H) (fun v w hv => ?_)
    obtain ⟨rfl, H⟩ := hv
    refine l_nil ?_
    refine w_seq ?_
    refine w_region ?_
    refine l_pptr rfl rfl ?_
    refine b_call rfl cb_22 rfl (Turn_z H) (fun v w hv => ?_)
    obtain ⟨rfl, H⟩ := hv
    refine l_nil ?_
    refine w_seq ?_
    refine w_region ?_
    refine l_pptr rfl rfl ?_
    refine b_call rfl cb_23 rfl (Swap_z H) (fun v w hv => ?_)
    obtain ⟨rfl, H⟩ := hv
    refine l_nil ?_
    refine w_seq ?_
    refine w_region ?_
    refine l_pptr rfl rfl ?_
    refine b_call rfl cb_32 rfl (For_z H 1) (fun v w hv => ?_)
    obtain ⟨_, _, H⟩ := hv
    refine l_nil ?_
    refine w_seq ?_
    refine w_region ?_
    refine l_pptr rfl rfl ?_
    refine b_call rfl cb_18 rfl (Sent_z H) (fun v w hv => ?_)
    obtain ⟨rfl, H⟩ := hv
    refine l_nil ?_
    refine w_seq ?_
    refine w_region ?_
    refine l_pptr rfl rfl ?_
    refine b_call rfl cb_43 rfl (Record_z H) (fun v w hv => ?_)
    obtain ⟨rfl, H⟩ := hv
    refine l_nil ?_
    refine w_seq ?_
    refine w_region ?_
    refine l_pptr rfl rfl ?_
    refine l_v rfl (q_loadN (vs := [_, _, _]) rfl ag_31 rfl rfl (by first | exact H.cells 0 rfl | exact H.cells 1 rfl | exact H.cells 2 rfl | exact H.cells 3 rfl | exact H.cells 4 rfl | exact H.cells 5 rfl)) ?_
    refine b_call rfl cb_30 rfl (Genuine_z H 0 1 (bs := [97]) (RdIn.mem (cs := [B 97]) 4 rfl 0 1) rfl) (fun v w hv => ?_)
    obtain ⟨_, rfl, H⟩ := hv
    refine l_nil ?_
    refine w_seq ?_
    refine w_region ?_
    refine l_pptr rfl rfl ?_
    refine b_call rfl cb_14 rfl (Take_z H) (fun v w hv => ?_)
    obtain ⟨rfl, H⟩ := hv
    refine l_nil ?_
    refine w_seq ?_
    refine w_region ?_
    refine l_pptr rfl rfl ?_
    refine b_call rfl cb_21 rfl (Drop_z H) (fun v w hv => ?_)
    obtain ⟨rfl, H⟩ := hv
    refine l_nil ?_
    refine w_seq ?_
    refine w_region ?_
    refine l_pptr rfl rfl ?_
    refine b_call rfl cb_24 rfl (Clear_z H) (fun v w hv => ?_)
    obtain ⟨rfl, H⟩ := hv
    refine l_nil ?_
    refine w_region ?_
    refine l_pptr rfl rfl ?_
    refine b_call rfl cb_33 rfl (Each_z H) (fun v w hv => ?_)
    obtain ⟨be, rfl, H⟩ := hv
    refine l_nil ?_
    refine w_region ?_
    refine l_pint rfl rfl ?_
    first | refine l_v rfl (q_add rfl rfl rfl (by simp only [inK]; omega)) ?_ | refine l_pint rfl rfl ?_
    refine l_pint rfl rfl ?_
    refine l_nil ?_
    refine ⟨by repeat' first | exact aM | exact aR | refine aI rfl ?_ | refine aU rfl ?_ | refine aL rfl ?_, ?_⟩
    exact ⟨m - 1, t + 1, by omega, ⟨by exact congrArg (Value.int IntKind.i64) (Int.natCast_succ t).symm, trivial⟩, by omega, H.drop1.drop1.drop1.drop1⟩
  try simp only [sH] at c3
  refine w_exit ?_
  refine w_seq ?_
  refine w_region ?_
  refine l_pbool rfl rfl ?_
  refine l_nil ?_
  refine w_ret ?_
  refine fin1 (v := .bool _) rfl ?_
  exact ⟨rfl, _, H⟩
end Go.Proofs.Ytmgcmgfjaimlnaa
