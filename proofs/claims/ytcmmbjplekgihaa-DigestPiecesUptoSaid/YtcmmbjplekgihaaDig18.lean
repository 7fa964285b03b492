/- Hashers that no call made, Reset, and the laws' copy of bytes do what their contracts say. -/
import Derived.Test.YtcmmbjplekgihaaDig17
namespace Go.Proofs.Ytcmmbjplekgihaa
open Go.EW
attribute [local irreducible] EW.W EW.L EW.fin block8 outB parA pgo hexL shaL digitI
set_option linter.unusedVariables false
set_option linter.unusedSimpArgs false

def Bad (q : Option Addr) (w : World) : Prop := Ok Try.prog 35 [.pointer q].toArray w (fun v w' => v = .bool false ∧ w' = w)

theorem bad_nil {w : World} :
    Bad none w := by
  refine enter (n := 11) (rs := #[.tmp 2]) Try.func35 rfl rfl rfl rfl ?_
  refine w_seq ?_
  refine w_region ?_
  refine l_pbool rfl rfl ?_
  refine l_nil ?_
  refine w_seq ?_
  refine w_region ?_
  refine l_pptr rfl rfl ?_
  refine l_v rfl (q_neqNilT rfl pt_39 rfl rfl) ?_
  refine l_pbool rfl rfl ?_
  refine l_no rfl ?_
  refine l_no rfl ?_
  refine l_no rfl ?_
  refine l_no rfl ?_
  refine l_pickF (v := .bool _) rfl rfl rfl ?_
  refine l_pbool rfl rfl ?_
  refine l_nil ?_
  refine w_ret ?_
  refine fin1 (v := .bool _) rfl ?_
  exact ⟨rfl, rfl⟩

theorem bad_zero {W w : World} {S : List Seg} {b i : Nat} {cs : List Value} (H : St W w S) (hi : S[i]? = some (blk b cs 49)) (ht : cs[10]? = some (.bool false)) : Bad (some ⟨b, 0, none⟩) w := good_ok H hi ht

theorem Write_bad {w : World} {q : Option Addr} {a : Option Addr} {n c : Nat} (hg : Bad q w) :
    Ok Try.prog 18 [.pointer q, .slice a n c].toArray w (fun v w' => v = .tuple #[] ∧ w' = w) := by
  refine enter (n := 98) (rs := #[]) Try.func18 rfl rfl rfl rfl ?_
  refine w_seq ?_
  refine w_seq ?_
  refine w_region ?_
  refine l_pptr rfl rfl ?_
  refine b_call rfl cb_35 rfl (hg) (fun v w hv => ?_)
  obtain ⟨rfl, rfl⟩ := hv
  refine l_pbool rfl rfl ?_
  refine l_nil ?_
  refine w_cond_t rfl ?_
  refine w_ret ?_
  refine fin0 ?_
  exact ⟨rfl, rfl⟩

theorem Reset_bad {w : World} {q : Option Addr} (hg : Bad q w) :
    Ok Try.prog 19 [.pointer q].toArray w (fun v w' => v = .tuple #[] ∧ w' = w) := by
  refine enter (n := 9) (rs := #[]) Try.func19 rfl rfl rfl rfl ?_
  refine w_seq ?_
  refine w_region ?_
  refine l_pptr rfl rfl ?_
  refine b_call rfl cb_35 rfl (hg) (fun v w hv => ?_)
  obtain ⟨rfl, rfl⟩ := hv
  refine l_nil ?_
  refine w_cond_f rfl ?_
  refine w_skip ?_
  exact fin0n ⟨rfl, rfl⟩

theorem Len_bad {w : World} {q : Option Addr} (hg : Bad q w) :
    Ok Try.prog 16 [.pointer q].toArray w (fun v w' => v = .int .i64 0 ∧ w' = w) := by
  refine enter (n := 10) (rs := #[.tmp 2]) Try.func16 rfl rfl rfl rfl ?_
  refine w_seq ?_
  refine w_region ?_
  refine l_pint rfl rfl ?_
  refine l_nil ?_
  refine w_seq ?_
  refine w_seq ?_
  refine w_region ?_
  refine l_pptr rfl rfl ?_
  refine b_call rfl cb_35 rfl (hg) (fun v w hv => ?_)
  obtain ⟨rfl, rfl⟩ := hv
  refine l_pbool rfl rfl ?_
  refine l_nil ?_
  refine w_cond_t rfl ?_
  refine w_seq ?_
  refine w_region ?_
  refine l_pint rfl rfl ?_
  refine l_nil ?_
  refine w_ret ?_
  refine fin1 (v := .int _ _) rfl ?_
  exact ⟨rfl, rfl⟩

theorem Sum_bad {W w : World} {F : List Seg} (H : St W w F) {q : Option Addr} (hg : ∀ w b, St W w (blk b z32 32 :: F) → Bad q w) :
    Ok Try.prog 17 [.pointer q].toArray w (fun v w' => v = .agg z32.toArray ∧ St W w' F) := by
  refine enter (n := 86) (rs := #[.cell 2 32]) Try.func17 rfl rfl rfl rfl ?_
  refine w_seq ?_
  refine w_region ?_
  refine b_alloc rfl ze_32 rfl H (fun b2 w H => ?_)
  refine l_nil ?_
  refine w_seq ?_
  refine w_seq ?_
  refine w_region ?_
  refine l_pptr rfl rfl ?_
  refine b_call rfl cb_35 rfl (hg _ _ H) (fun v w hv => ?_)
  obtain ⟨rfl, rfl⟩ := hv
  refine l_pbool rfl rfl ?_
  refine l_nil ?_
  refine w_cond_t rfl ?_
  refine w_seq ?_
  refine w_region ?_
  refine l_v rfl (q_buildArr rfl ar_32 ze_32 (by kernel_rfl : fillL _ _ _ = some z32)) ?_
  refine b_store (vs := z32) (cs' := z32) rfl sz_32 rfl rfl rfl rfl rfl H 0 rfl rfl rfl (fun w H => ?_)
  refine l_nil ?_
  refine w_ret ?_
  refine finc (vs := z32) rfl ag_32 rfl (by first | exact H.cells 0 rfl) ?_
  exact ⟨rfl, H.erase 0⟩

theorem Reset_ok {W w : World} {F : List Seg} {b : Nat} {h : HS} (H : St W w (hashL b h F)) :
    Ok Try.prog 19 [.pointer (some ⟨b, 0, none⟩)].toArray w (fun v w' => v = .tuple #[] ∧ St W w' (hashL b newH F)) := by
  refine enter (n := 9) (rs := #[]) Try.func19 rfl rfl rfl rfl ?_
  refine w_seq ?_
  refine w_region ?_
  refine l_pptr rfl rfl ?_
  refine b_call rfl cb_35 rfl (good_ok (i := 0) (t := true) H rfl rfl) (fun v w hv => ?_)
  obtain ⟨rfl, rfl⟩ := hv
  refine l_nil ?_
  refine w_cond_t rfl ?_
  refine w_region ?_
  refine l_pptr rfl rfl ?_
  refine b_call rfl cb_15 rfl (New_ok H) (fun v w hv => ?_)
  obtain ⟨b5, rfl, H⟩ := hv
  refine l_pptr rfl rfl ?_
  refine l_v rfl (q_loadN (vs := newH.cells) rfl ag_49 rfl rfl (H.cells 0 rfl)) ?_
  refine l_pptr rfl rfl ?_
  refine b_store (vs := newH.cells) rfl sz_49 rfl rfl rfl rfl rfl H 2 rfl rfl (putL_all rfl) (fun w H => ?_)
  refine l_nil ?_
  refine fin0n ⟨rfl, ?_⟩
  have H2 : St W w (row 5 1 none 0 0 [] :: blk b newH.cells 49 :: F) := (H.erase 3).erase 0
  exact H2.swap01

theorem CopyBytes_ok {W w : World} {F : List Seg} (H : St W w F) {a : Option Addr} {n c : Nat} {bs : List UInt8} (hr : RdIn W F a (bs.map B)) (hl : bs.length = n) (hn : n ≤ 140737488355328) :
    Ok Try.prog 20 [.slice a n c].toArray w (fun v w' => ∃ a' c', v = .slice a' n c' ∧ St W w' (row 5 1 a' n c' (bs.map B) :: F)) := by
  refine enter (n := 5) (rs := #[.tmp 2]) Try.func20 rfl rfl rfl rfl ?_
  refine w_seq ?_
  refine w_region ?_
  refine l_pslice rfl rfl ?_
  refine l_nil ?_
  refine w_seq ?_
  refine w_region ?_
  refine l_pslice rfl rfl ?_
  refine b_append rfl el_22 ze_5 rfl rfl rfl (St.newRow H) 0 rfl (ys := bs.map B) (hr.use H 0 rfl) (by simp [hl]) (oneB _) ⟨by omega, by simp only [maxLen]; omega⟩ (fun a4 c4 w H => ?_)
  refine l_pslice rfl rfl ?_
  refine l_nil ?_
  refine w_ret ?_
  refine fin1 (v := .slice _ _ _) rfl ?_
  refine ⟨a4, c4, congrArg (fun x => Value.slice a4 x c4) (by omega), ?_⟩
  have H2 : St W w (row 5 1 a4 (0 + n) c4 ([] ++ bs.map B) :: F) := H
  rw [Nat.zero_add, List.nil_append] at H2
  exact H2

end Go.Proofs.Ytcmmbjplekgihaa
