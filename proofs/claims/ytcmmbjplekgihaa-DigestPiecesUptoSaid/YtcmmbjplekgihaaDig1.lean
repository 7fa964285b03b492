/- The digest's begin, keys, good, New and Len do what their contracts say. -/
import Derived.Test.YtcmmbjplekgihaaFacts19
import Derived.Test.YtcmmbjplekgihaaWord
namespace Go.Proofs.Ytcmmbjplekgihaa
open Go.EW
attribute [local irreducible] EW.W EW.L EW.fin
set_option linter.unusedVariables false
set_option linter.unusedSimpArgs false

def ror (x : UInt32) (n : Nat) : UInt32 := x >>> UInt32.ofNat n ||| x <<< UInt32.ofNat (32 - n)

theorem ror_ok {W w : World} {F : List Seg} (H : St W w F) (x : UInt32) {n : Nat} (hn : 0 < n ∧ n < 32) :
    Ok Try.prog 47 [U x, .int .i64 (n : Int)].toArray w (fun v w' => v = U (ror x n) ∧ St W w' F) := by
  refine enter (n := 13) (rs := #[.tmp 4]) Try.func47 rfl rfl rfl rfl ?_
  refine w_seq ?_
  refine w_region ?_
  first | refine l_p (v := U _) rfl rfl ?_ | refine l_pint rfl rfl ?_
  refine l_nil ?_
  refine w_seq ?_
  refine w_drawT [] [] [(0, 0), (1, 0), (2, 0), (3, 0), (4, 0), (5, 0), (6, 0), (7, 0), (8, 0)] mixed (by kernel_rfl) (fun _ _ _ h => fin_panic h) H (fun H => ?_)
  first | refine r_p (v := U _) rfl rfl rfl ?_ | refine r_pint rfl rfl rfl ?_
  refine r_pint rfl rfl rfl ?_
  refine r_w rfl rfl (fun w => q_pure (u_shr rfl rfl (by first | decide | omega))) ?_
  first | refine r_p (v := U _) rfl rfl rfl ?_ | refine r_pint rfl rfl rfl ?_
  refine r_pint rfl rfl rfl ?_
  first | refine r_w rfl rfl (fun w => q_sub rfl rfl rfl (by simp only [inK]; omega)) ?_ | refine r_pint rfl rfl rfl ?_
  refine r_w rfl rfl (fun w => q_pure (u_shl (n := 32 - n) rfl (congrArg (Value.int .i64) (by omega)) (by omega))) ?_
  refine r_w rfl rfl (fun w => q_pure (u_or rfl rfl)) ?_
  first | refine r_p (v := U _) rfl rfl rfl ?_ | refine r_pint rfl rfl rfl ?_
  refine r_nil ?_
  refine w_ret ?_
  refine fin1 (v := .int _ _) rfl ?_
  exact ⟨rfl, H⟩

theorem ror2_ok {w : World} (x : UInt32) {n : Nat} (hn : 0 < n ∧ n < 32) :
    Ok Try.prog 42 [U x, .int .u64 (n : Int)].toArray w (fun v w' => v = U (ror x n) ∧ w' = w) := by
  refine enter (n := 13) (rs := #[.tmp 4]) Try.func42 rfl rfl rfl rfl ?_
  refine w_seq ?_
  refine w_region ?_
  first | refine l_p (v := U _) rfl rfl ?_ | refine l_pint rfl rfl ?_
  refine l_nil ?_
  refine w_seq ?_
  refine w_region ?_
  first | refine l_p (v := U _) rfl rfl ?_ | refine l_pint rfl rfl ?_
  refine l_pint rfl rfl ?_
  refine l_v rfl (q_pure (u_shr rfl rfl (by first | decide | omega))) ?_
  first | refine l_p (v := U _) rfl rfl ?_ | refine l_pint rfl rfl ?_
  refine l_pint rfl rfl ?_
  first | refine l_v rfl (q_sub rfl rfl rfl (by simp only [inK]; omega)) ?_ | refine l_pint rfl rfl ?_
  refine l_v rfl (q_pure (u_shl (n := 32 - n) rfl (congrArg (Value.int .u64) (by omega)) (by omega))) ?_
  refine l_v rfl (q_pure (u_or rfl rfl)) ?_
  first | refine l_p (v := U _) rfl rfl ?_ | refine l_pint rfl rfl ?_
  refine l_nil ?_
  refine w_ret ?_
  refine fin1 (v := .int _ _) rfl ?_
  exact ⟨rfl, rfl⟩


/-- eight words -/
structure S8 where
  a : UInt32
  b : UInt32
  c : UInt32
  d : UInt32
  e : UInt32
  f : UInt32
  g : UInt32
  h : UInt32
def S8.cells (s : S8) : List Value := [U s.a, U s.b, U s.c, U s.d, U s.e, U s.f, U s.g, U s.h]
def begin8 : S8 := ⟨0x6a09e667, 0xbb67ae85, 0x3c6ef372, 0xa54ff53a, 0x510e527f, 0x9b05688c, 0x1f83d9ab, 0x5be0cd19⟩
def keysL : List UInt32 := [0x428a2f98, 0x71374491, 0xb5c0fbcf, 0xe9b5dba5, 0x3956c25b, 0x59f111f1, 0x923f82a4, 0xab1c5ed5, 0xd807aa98, 0x12835b01, 0x243185be, 0x550c7dc3, 0x72be5d74, 0x80deb1fe, 0x9bdc06a7, 0xc19bf174, 0xe49b69c1, 0xefbe4786, 0x0fc19dc6, 0x240ca1cc, 0x2de92c6f, 0x4a7484aa, 0x5cb0a9dc, 0x76f988da, 0x983e5152, 0xa831c66d, 0xb00327c8, 0xbf597fc7, 0xc6e00bf3, 0xd5a79147, 0x06ca6351, 0x14292967, 0x27b70a85, 0x2e1b2138, 0x4d2c6dfc, 0x53380d13, 0x650a7354, 0x766a0abb, 0x81c2c92e, 0x92722c85, 0xa2bfe8a1, 0xa81a664b, 0xc24b8b70, 0xc76c51a3, 0xd192e819, 0xd6990624, 0xf40e3585, 0x106aa070, 0x19a4c116, 0x1e376c08, 0x2748774c, 0x34b0bcb5, 0x391c0cb3, 0x4ed8aa4a, 0x5b9cca4f, 0x682e6ff3, 0x748f82ee, 0x78a5636f, 0x84c87814, 0x8cc70208, 0x90befffa, 0xa4506ceb, 0xbef9a3f7, 0xc67178f2]
/-- a hasher: its state, what is left over, how many bytes were taken -/
structure HS where
  s : S8
  ra : Option Addr
  rcap : Nat
  rest : List UInt8
  n : Int
def HS.cells (h : HS) : List Value := [U h.s.a, U h.s.b, U h.s.c, U h.s.d, U h.s.e, U h.s.f, U h.s.g, U h.s.h, .slice h.ra h.rest.length h.rcap, .int .i64 h.n, .bool true]
def hashL (b : Nat) (h : HS) (F : List Seg) : List Seg := blk b h.cells 49 :: row 5 1 h.ra h.rest.length h.rcap (h.rest.map B) :: F
def newH : HS := ⟨begin8, none, 0, [], 0⟩

theorem begin_ok {W w : World} {F : List Seg} (H : St W w F) :
    Ok Try.prog 34 [].toArray w (fun v w' => v = .agg begin8.cells.toArray ∧ St W w' F) := by
  refine enter (n := 2) (rs := #[.cell 0 47]) Try.func34 rfl rfl rfl rfl ?_
  refine w_seq ?_
  refine w_region ?_
  refine b_alloc rfl ze_47 rfl H (fun b0 w H => ?_)
  refine l_nil ?_
  refine w_seq ?_
  refine w_region ?_
  refine l_v rfl (q_buildArr rfl ar_47 ze_47 (by kernel_rfl : fillL _ _ _ = some begin8.cells)) ?_
  first | refine b_store (cs' := [_, _, _, _, _, _, _, _]) rfl sz_47 rfl rfl rfl rfl rfl H 0 rfl rfl rfl (fun w H => ?_) | refine b_store (cs' := [_, _, _, _, _, _, _, _]) rfl sz_47 rfl rfl rfl rfl rfl H 1 rfl rfl rfl (fun w H => ?_) | refine b_store (cs' := [_, _, _, _, _, _, _, _]) rfl sz_47 rfl rfl rfl rfl rfl H 2 rfl rfl rfl (fun w H => ?_) | refine b_store (cs' := [_, _, _, _, _, _, _, _]) rfl sz_47 rfl rfl rfl rfl rfl H 3 rfl rfl rfl (fun w H => ?_) | refine b_store (cs' := [_, _, _, _, _, _, _, _]) rfl sz_47 rfl rfl rfl rfl rfl H 4 rfl rfl rfl (fun w H => ?_) | refine b_store (cs' := [_, _, _, _, _, _, _, _]) rfl sz_47 rfl rfl rfl rfl rfl H 5 rfl rfl rfl (fun w H => ?_) | refine b_store (cs' := [_, _, _, _, _, _, _, _]) rfl sz_47 rfl rfl rfl rfl rfl H 6 rfl rfl rfl (fun w H => ?_) | refine b_store (cs' := [_, _, _, _, _, _, _, _]) rfl sz_47 rfl rfl rfl rfl rfl H 7 rfl rfl rfl (fun w H => ?_) | refine b_store (cs' := [_, _, _, _, _, _, _, _]) rfl sz_47 rfl rfl rfl rfl rfl H 8 rfl rfl rfl (fun w H => ?_) | refine b_store (cs' := [_, _, _, _, _, _, _, _]) rfl sz_47 rfl rfl rfl rfl rfl H 9 rfl rfl rfl (fun w H => ?_)
  refine l_nil ?_
  refine w_ret ?_
  refine finc rfl ag_47 rfl (by first | exact H.cells 0 rfl | exact H.cells 1 rfl | exact H.cells 2 rfl | exact H.cells 3 rfl | exact H.cells 4 rfl | exact H.cells 5 rfl | exact H.cells 6 rfl | exact H.cells 7 rfl | exact H.cells 8 rfl | exact H.cells 9 rfl) ?_
  exact ⟨rfl, H.erase 0⟩

theorem good_ok {W w : World} {S : List Seg} {b i : Nat} {cs : List Value} (H : St W w S) (hi : S[i]? = some (blk b cs 49)) {t : Bool} (ht : cs[10]? = some (.bool t)) :
    Ok Try.prog 35 [.pointer (some ⟨b, 0, none⟩)].toArray w (fun v w' => v = .bool t ∧ w' = w) := by
  refine enter (n := 11) (rs := #[.tmp 2]) Try.func35 rfl rfl rfl rfl ?_
  refine w_seq ?_
  refine w_region ?_
  refine l_pbool rfl rfl ?_
  refine l_nil ?_
  refine w_seq ?_
  refine w_region ?_
  refine l_pptr rfl rfl ?_
  refine l_v rfl (q_neqNilF rfl pt_39 rfl rfl) ?_
  refine l_pbool rfl rfl ?_
  refine l_pptr rfl rfl ?_
  refine l_pptr rfl rfl ?_
  refine l_v rfl (q_fieldAddr rfl fo49_3 rfl) ?_
  refine l_v rfl (q_load1 rfl c1_4 rfl (H.cell i hi ht)) ?_
  refine l_pickT (v := .bool _) rfl rfl rfl ?_
  refine l_pbool rfl rfl ?_
  refine l_nil ?_
  refine w_ret ?_
  refine fin1 (v := .bool _) rfl ?_
  exact ⟨rfl, rfl⟩

theorem New_fin {W w : World} {F : List Seg} {b : Nat} (H : St W w (blk b newH.cells 49 :: F)) : St W w (hashL b newH F) :=
  (St.newRow (T := 5) (sz := 1) H).swap01

theorem New_ok {W w : World} {F : List Seg} (H : St W w F) :
    Ok Try.prog 15 [].toArray w (fun v w' => ∃ b, v = .pointer (some ⟨b, 0, none⟩) ∧ St W w' (hashL b newH F)) := by
  refine enter (n := 4) (rs := #[.tmp 0]) Try.func15 rfl rfl rfl rfl ?_
  refine w_seq ?_
  refine w_region ?_
  refine l_pptr rfl rfl ?_
  refine l_nil ?_
  refine w_seq ?_
  refine w_region ?_
  refine b_call rfl cb_34 rfl (begin_ok H) (fun v w hv => ?_)
  obtain ⟨rfl, H⟩ := hv
  refine l_v rfl (q_build (cs := [.int _ _, .int _ _, .int _ _, .int _ _, .int _ _, .int _ _, .int _ _, .int _ _, .slice _ _ _, .int _ _, .bool _]) rfl sp_49 rfl) ?_
  refine b_box rfl rfl rfl H (fun b3 w H => ?_)
  refine l_pptr rfl rfl ?_
  refine l_nil ?_
  refine w_ret ?_
  refine fin1 (v := .pointer _) rfl ?_
  exact ⟨_, rfl, New_fin H⟩

theorem Len_ok {W w : World} {F : List Seg} {b : Nat} {h : HS} (H : St W w (hashL b h F)) :
    Ok Try.prog 16 [.pointer (some ⟨b, 0, none⟩)].toArray w (fun v w' => v = .int .i64 h.n ∧ St W w' (hashL b h F)) := by
  refine enter (n := 10) (rs := #[.tmp 2]) Try.func16 rfl rfl rfl rfl ?_
  refine w_seq ?_
  refine w_region ?_
  refine l_pint rfl rfl ?_
  refine l_nil ?_
  refine w_seq ?_
  refine w_seq ?_
  refine w_region ?_
  refine l_pptr rfl rfl ?_
  refine b_call rfl cb_35 rfl (good_ok (i := 0) (t := true) H rfl rfl) (fun v w hv => ?_)
  obtain ⟨rfl, rfl⟩ := hv
  refine l_pbool rfl rfl ?_
  refine l_nil ?_
  refine w_cond rfl (fun c1 => ?_) (fun c1 => ?_)
  · try simp only [decide_eq_true_eq, decide_eq_false_iff_not, Bool.not_eq_true', Bool.not_eq_false', beq_iff_eq, beq_eq_false_iff_ne, bne_iff_ne, bne_eq_false_iff_eq, ne_eq, Int.not_lt, Int.not_le] at c1
    refine w_seq ?_
    refine w_region ?_
    refine l_pint rfl rfl ?_
    refine l_nil ?_
    refine w_ret ?_
    refine fin1 (v := .int _ _) rfl ?_
    exact absurd c1 (by decide)
  · try simp only [decide_eq_true_eq, decide_eq_false_iff_not, Bool.not_eq_true', Bool.not_eq_false', beq_iff_eq, beq_eq_false_iff_ne, bne_iff_ne, bne_eq_false_iff_eq, ne_eq, Int.not_lt, Int.not_le] at c1
    refine w_skip ?_
    refine w_seq ?_
    refine w_region ?_
    refine l_pptr rfl rfl ?_
    refine l_pptr rfl rfl ?_
    refine l_v rfl (q_fieldAddr rfl fo49_2 rfl) ?_
    refine l_v rfl (q_load1 rfl c1_3 rfl (by first | exact H.cell 0 rfl rfl | exact H.cell 1 rfl rfl | exact H.cell 2 rfl rfl | exact H.cell 3 rfl rfl | exact H.cell 4 rfl rfl | exact H.cell 5 rfl rfl | exact H.cell 6 rfl rfl | exact H.cell 7 rfl rfl | exact H.cell 8 rfl rfl | exact H.cell 9 rfl rfl)) ?_
    refine l_pint rfl rfl ?_
    refine l_nil ?_
    refine w_ret ?_
    refine fin1 (v := .int _ _) rfl ?_
    exact ⟨rfl, H⟩

theorem keys_ok {W w : World} {F : List Seg} (H : St W w F) :
    Ok Try.prog 36 [].toArray w (fun v w' => v = .agg (keysL.map U).toArray ∧ St W w' F) := by
  refine enter (n := 2) (rs := #[.cell 0 82]) Try.func36 rfl rfl rfl rfl ?_
  refine w_seq ?_
  refine w_region ?_
  refine b_alloc rfl ze_82 rfl H (fun b0 w H => ?_)
  refine l_nil ?_
  refine w_seq ?_
  refine w_region ?_
  refine l_v rfl (q_buildArr rfl ar_82 ze_82 (by kernel_rfl : fillL _ _ _ = some (keysL.map U))) ?_
  first | refine b_store rfl sz_82 rfl rfl rfl rfl rfl H 0 rfl rfl rfl (fun w H => ?_) | refine b_store rfl sz_82 rfl rfl rfl rfl rfl H 1 rfl rfl rfl (fun w H => ?_) | refine b_store rfl sz_82 rfl rfl rfl rfl rfl H 2 rfl rfl rfl (fun w H => ?_) | refine b_store rfl sz_82 rfl rfl rfl rfl rfl H 3 rfl rfl rfl (fun w H => ?_) | refine b_store rfl sz_82 rfl rfl rfl rfl rfl H 4 rfl rfl rfl (fun w H => ?_) | refine b_store rfl sz_82 rfl rfl rfl rfl rfl H 5 rfl rfl rfl (fun w H => ?_) | refine b_store rfl sz_82 rfl rfl rfl rfl rfl H 6 rfl rfl rfl (fun w H => ?_) | refine b_store rfl sz_82 rfl rfl rfl rfl rfl H 7 rfl rfl rfl (fun w H => ?_) | refine b_store rfl sz_82 rfl rfl rfl rfl rfl H 8 rfl rfl rfl (fun w H => ?_) | refine b_store rfl sz_82 rfl rfl rfl rfl rfl H 9 rfl rfl rfl (fun w H => ?_)
  refine l_nil ?_
  refine w_ret ?_
  refine finc rfl ag_82 rfl (by first | exact H.cells 0 rfl | exact H.cells 1 rfl | exact H.cells 2 rfl | exact H.cells 3 rfl | exact H.cells 4 rfl | exact H.cells 5 rfl | exact H.cells 6 rfl | exact H.cells 7 rfl | exact H.cells 8 rfl | exact H.cells 9 rfl) ?_
  exact ⟨rfl, H.erase 0⟩

end Go.Proofs.Ytcmmbjplekgihaa
