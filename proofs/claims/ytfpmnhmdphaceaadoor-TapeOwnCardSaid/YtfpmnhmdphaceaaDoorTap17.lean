/- Walks through the tape's functions. -/
import Derived.Test.YtfpmnhmdphaceaaDoorTapKAll
namespace Go.Proofs.YtfpmnhmdphaceaaDoor
open Go.EW
attribute [local irreducible] EW.W EW.L EW.fin block8 outB shaL
set_option linter.unusedVariables false
set_option linter.unusedSimpArgs false
attribute [local irreducible] crcN crcB crcL sealL openR sealR
def szN (v : Nat) : Nat := klen v + 1
theorem szN_len (v : Nat) : (formL v).length = szN v := by
  show (UInt8.ofNat (klen v) :: fb v (klen v) (klen v)).length = _
  rw [List.length_cons, fb_len]; rfl
theorem szN_le (v : Nat) : 1 ≤ szN v ∧ szN v ≤ 9 := by
  have := formL_len v
  rw [szN_len] at this
  unfold szN at *; omega
/-- a text that is held: where it lies, its room, its bytes -/
structure Tx where
  a : Option Addr
  c : Nat
  bs : List UInt8
def Tx.v (t : Tx) : Value := .slice t.a t.bs.length t.c
def Tx.seg (t : Tx) : Seg := row 5 1 t.a t.bs.length t.c (t.bs.map B)
def catL (ts : List (List UInt8)) : List UInt8 := ts.flatMap fun t => formL t.length ++ t
def chunkB (first : Nat) (ts : List (List UInt8)) : List UInt8 := formL 2 ++ formL first ++ formL ts.length ++ catL ts
def sizeT (ts : List (List UInt8)) : Nat := (ts.map fun t => szN t.length + t.length).sum
theorem cat_len : ∀ ts, (catL ts).length = sizeT ts
  | [] => rfl
  | t :: ts => by
    have h := cat_len ts
    unfold catL sizeT at *
    rw [List.flatMap_cons, List.length_append, List.length_append, h, szN_len, List.map_cons, List.sum_cons]
theorem cat_snoc (ts : List (List UInt8)) (t : List UInt8) : catL (ts ++ [t]) = catL ts ++ formL t.length ++ t := by
  unfold catL
  rw [List.flatMap_append, List.flatMap_cons, List.flatMap_nil, List.append_nil, List.append_assoc]
theorem sizeT_snoc (ts : List (List UInt8)) (t : List UInt8) : sizeT (ts ++ [t]) = sizeT ts + (szN t.length + t.length) := by
  unfold sizeT
  rw [List.map_append, List.sum_append, List.map_cons, List.map_nil, List.sum_cons, List.sum_nil, Nat.add_zero]
def fitsN (first cnt size len : Nat) : Bool := decide (cnt < 32) && decide (2 + szN first + szN (cnt + 1) + (size + (szN len + len)) ≤ 32756)
theorem shr_next (v k : Nat) : v / 2 ^ (8 * k) / 2 ^ 8 = v / 2 ^ (8 * (k + 1)) := by
  rw [Nat.div_div_eq_div_mul, ← Nat.pow_add, show 8 * k + 8 = 8 * (k + 1) by omega]
theorem shr_none {v k : Nat} (hv : v < 18446744073709551616) (hk : k = 8) : v / 2 ^ (8 * k) = 0 := by
  subst hk
  exact Nat.div_eq_of_lt hv
theorem klen_end {v k m : Nat} (hm : m + k = 8) (hg : kgo v (8 - k) k = klen v) (h : v / 2 ^ (8 * k) = 0) : klen v = k := by
  rw [← hg]
  match m with
  | 0 => rw [show 8 - k = 0 by omega]; rfl
  | m + 1 => rw [show 8 - k = m + 1 by omega]; exact kgo_stop h
theorem sizeOf_ok {w0 : World} {v : Nat} (hv : v ≤ 9223372036854775807) :
    Ok Tryd.prog 133 [.int .i64 (v : Int)].toArray w0 (fun r w' => r = .int .i64 (szN v : Int) ∧ w' = w0) := by
  refine enter (n := 11) (rs := #[.tmp 2]) Tryd.func133 rfl rfl rfl rfl ?_
  refine w_seq ?_
  refine w_region ?_
  refine l_pint rfl rfl ?_
  refine l_nil ?_
  refine w_seq ?_
  refine w_region ?_
  refine l_pint rfl rfl ?_
  refine l_nil ?_
  refine w_seq ?_
  refine w_block ?_
  refine w_loopG (G := Nat) [0, 3, 4, 5, 6, 7, 8, 9] (fun k => [(0, .int .i64 ((v / 2 ^ (8 * k) : Nat) : Int)), (3, .int .i64 ((k + 1 : Nat) : Int))]) (fun m k w => m + k = 8 ∧ kgo v (8 - k) k = klen v ∧ w = w0) (fun _ => rfl) ?_ ?_
  · exact ⟨8, 0, ⟨by simp; rfl, rfl, trivial⟩, rfl, rfl, rfl⟩
  rintro m k ρ1 w ⟨hmk, hg, hw⟩
  refine w_seq ?_
  refine w_seq ?_
  refine w_region ?_
  refine l_pint rfl rfl ?_
  refine l_pbool rfl rfl ?_
  refine l_nil ?_
  refine w_cond rfl (fun c1 => ?_) (fun c1 => ?_)
  · try simp only [sH] at c1
    have hk8 : k < 8 := by
      by_cases h : k = 8
      · have := shr_none (v := v) (k := k) (by omega) h; omega
      omega
    refine w_skip ?_
    refine w_seq ?_
    refine w_block ?_
    refine w_region ?_
    refine l_pint rfl rfl ?_
    first | refine l_v rfl (q_add rfl rfl rfl (by simp only [inK]; omega)) ?_ | refine l_pint rfl rfl ?_
    refine l_pint rfl rfl ?_
    refine l_nil ?_
    refine w_region ?_
    refine l_pint rfl rfl ?_
    refine l_v rfl (q_pure (i64_shrK (n := v / 2 ^ (8 * k)) (i := 8) rfl rfl (by decide))) ?_
    refine l_pint rfl rfl ?_
    refine l_nil ?_
    refine ⟨by repeat' first | exact aM | exact aR | refine aI rfl ?_ | refine aU rfl ?_ | refine aL rfl ?_, ?_⟩
    refine ⟨m - 1, k + 1, by omega, ⟨congrArg (fun z : Nat => Value.int .i64 (z : Int)) (shr_next v k), by exact congrArg (Value.int IntKind.i64) (Int.natCast_succ (k + 1)).symm, trivial⟩, by omega, ?_, hw⟩
    rw [← hg, show 8 - k = (8 - (k + 1)) + 1 by omega]
    exact (kgo_on (by omega)).symm
  try simp only [sH] at c1
  refine w_exit ?_
  refine w_seq ?_
  refine w_region ?_
  refine l_pint rfl rfl ?_
  refine l_pint rfl rfl ?_
  refine l_nil ?_
  refine w_ret ?_
  refine fin1 (v := .int _ _) rfl ?_
  refine ⟨?_, hw⟩
  unfold szN
  rw [klen_end hmk hg (by generalize v / 2 ^ (8 * k) = z at c1; omega)] <;> rfl
theorem bodySize_ok {w : World} {f c s : Nat} (hf : f ≤ 9223372036854775807) (hc : c ≤ 9223372036854775807) (hs : s ≤ 1000000000000000000) :
    Ok Tryd.prog 112 [.int .i64 (f : Int), .int .i64 (c : Int), .int .i64 (s : Int)].toArray w (fun r w' => r = .int .i64 ((2 + szN f + szN c + s : Nat) : Int) ∧ w' = w) := by
  have h1 := szN_le f
  have h2 := szN_le c
  refine enter (n := 15) (rs := #[.tmp 6]) Tryd.func112 rfl rfl rfl rfl ?_
  refine w_seq ?_
  refine w_region ?_
  refine l_pint rfl rfl ?_
  refine l_nil ?_
  refine w_seq ?_
  refine w_region ?_
  refine l_pint rfl rfl ?_
  refine b_call rfl cb_133 rfl (sizeOf_ok hf) (fun v w hv => ?_)
  obtain ⟨rfl, rfl⟩ := hv
  first | refine l_v rfl (q_add rfl rfl rfl (by simp only [inK]; omega)) ?_ | refine l_pint rfl rfl ?_
  refine l_pint rfl rfl ?_
  refine b_call rfl cb_133 rfl (sizeOf_ok hc) (fun v w hv => ?_)
  obtain ⟨rfl, rfl⟩ := hv
  first | refine l_v rfl (q_add rfl rfl rfl (by simp only [inK]; omega)) ?_ | refine l_pint rfl rfl ?_
  refine l_pint rfl rfl ?_
  first | refine l_v rfl (q_add rfl rfl rfl (by simp only [inK]; omega)) ?_ | refine l_pint rfl rfl ?_
  refine l_pint rfl rfl ?_
  refine l_nil ?_
  refine w_ret ?_
  refine fin1 (v := .int _ _) rfl ?_
  exact ⟨congrArg (Value.int .i64) (by omega), rfl⟩
theorem textSize_ok {w : World} {a : Option Addr} {n c : Nat} (hn : n ≤ 1000000000000000) :
    Ok Tryd.prog 113 [.slice a n c].toArray w (fun r w' => r = .int .i64 ((szN n + n : Nat) : Int) ∧ w' = w) := by
  have h1 := szN_le n
  refine enter (n := 9) (rs := #[.tmp 2]) Tryd.func113 rfl rfl rfl rfl ?_
  refine w_seq ?_
  refine w_region ?_
  refine l_pint rfl rfl ?_
  refine l_nil ?_
  refine w_seq ?_
  refine w_region ?_
  refine l_pslice rfl rfl ?_
  refine l_v rfl (q_lenSlice rfl el_28 rfl) ?_
  refine b_call rfl cb_133 rfl (sizeOf_ok (v := n) (by omega)) (fun v w hv => ?_)
  obtain ⟨rfl, rfl⟩ := hv
  refine l_pslice rfl rfl ?_
  refine l_v rfl (q_lenSlice rfl el_28 rfl) ?_
  first | refine l_v rfl (q_add rfl rfl rfl (by simp only [inK]; omega)) ?_ | refine l_pint rfl rfl ?_
  refine l_pint rfl rfl ?_
  refine l_nil ?_
  refine w_ret ?_
  refine fin1 (v := .int _ _) rfl ?_
  exact ⟨congrArg (Value.int .i64) (by omega), rfl⟩
theorem fitsT_ok {W w : World} {F : List Seg} {b f k sz n c tc : Nat} {a ta : Option Addr} {x0 x1 x90 x91 x7 : Value} (H : St W w (blk b [x0, x1, x90, x91, .int .i64 (f : Int), .slice ta k tc, .int .i64 (sz : Int), x7] 86 :: F)) (hf : f ≤ 1000000000000000) (hsz : sz ≤ 100000000000000000) (hn : n ≤ 1000000000000000) :
    Ok Tryd.prog 73 [.pointer (some ⟨b, 2, none⟩), .slice a n c].toArray w (fun r w' => r = .bool (fitsN f k sz n) ∧ St W w' (blk b [x0, x1, x90, x91, .int .i64 (f : Int), .slice ta k tc, .int .i64 (sz : Int), x7] 86 :: F)) := by
  have h1 := szN_le n
  refine enter (n := 32) (rs := #[.tmp 4]) Tryd.func73 rfl rfl rfl rfl ?_
  refine w_seq ?_
  refine w_region ?_
  refine l_pbool rfl rfl ?_
  refine l_nil ?_
  refine w_seq ?_
  refine w_drawT [24] [3, 10, 14, 20] [(0, 0), (1, 0), (2, 0), (3, 1), (4, 0), (5, 0), (6, 0), (7, 0), (8, 0), (9, 0), (10, 1), (11, 0), (12, 0), (13, 0), (14, 1), (15, 0), (16, 0), (17, 0), (18, 0), (19, 0), (20, 1), (21, 0), (22, 2), (23, 0), (24, 2), (25, 0), (26, 0), (27, 0)] mixed (by kernel_rfl) (fun _ _ _ h => fin_panic h) H (fun H => ?_)
  refine r_pptr rfl rfl rfl ?_
  refine r_pptr rfl rfl rfl ?_
  refine r_w rfl rfl (fun w => q_fieldAddr rfl fo84_2 rfl) ?_
  refine r_v rfl rfl (fun w hS => q_load1 rfl c1_31 rfl (by first | exact hS.cell 0 rfl rfl)) ?_
  refine r_w rfl rfl (fun w => q_lenSlice rfl el_31 rfl) ?_
  refine r_pbool rfl rfl rfl ?_
  refine r_pbool rfl rfl rfl ?_
  refine r_split 11 rfl (fun h11 => ?_) (fun h11 => ?_)
  · try simp only [sH] at h11
    have hk : k < 32 := by omega
    refine r_pptr rfl rfl rfl ?_
    refine r_pptr rfl rfl rfl ?_
    refine r_w rfl rfl (fun w => q_fieldAddr rfl fo84_1 rfl) ?_
    refine r_v rfl rfl (fun w hS => q_load1 rfl c1_3 rfl (by first | exact hS.cell 0 rfl rfl)) ?_
    refine r_pptr rfl rfl rfl ?_
    refine r_pptr rfl rfl rfl ?_
    refine r_w rfl rfl (fun w => q_fieldAddr rfl fo84_2 rfl) ?_
    refine r_v rfl rfl (fun w hS => q_load1 rfl c1_31 rfl (by first | exact hS.cell 0 rfl rfl)) ?_
    refine r_w rfl rfl (fun w => q_lenSlice rfl el_31 rfl) ?_
    first | refine r_w rfl rfl (fun w => q_add rfl rfl rfl (by simp only [inK]; omega)) ?_ | refine r_pint rfl rfl rfl ?_
    refine r_pptr rfl rfl rfl ?_
    refine r_pptr rfl rfl rfl ?_
    refine r_w rfl rfl (fun w => q_fieldAddr rfl fo84_3 rfl) ?_
    refine r_v rfl rfl (fun w hS => q_load1 rfl c1_3 rfl (by first | exact hS.cell 0 rfl rfl)) ?_
    refine r_pslice rfl rfl rfl ?_
    refine r_do rfl ?_
    refine b_call rfl cb_113 rfl (textSize_ok (n := n) hn) (fun v w hv => ?_)
    obtain ⟨rfl, rfl⟩ := hv
    refine l_nil ⟨fun _ _ => (by first | exact H | exact H.drop1 | exact H.drop1.drop1 | exact H.drop1.drop1.drop1), ?_⟩
    first | refine r_w rfl rfl (fun w => q_add rfl rfl rfl (by simp only [inK]; omega)) ?_ | refine r_pint rfl rfl rfl ?_
    refine r_do rfl ?_
    refine b_call rfl cb_112 rfl (bodySize_ok (f := f) (c := k + 1) (s := sz + (szN n + n)) (by omega) (by omega) (by omega)) (fun v w hv => ?_)
    obtain ⟨rfl, rfl⟩ := hv
    refine l_nil ⟨(fun h => nomatch h), ?_⟩
    refine r_pbool rfl rfl rfl ?_
    refine r_pickT (v := .bool _) rfl rfl rfl rfl ?_
    refine r_pbool rfl rfl rfl ?_
    refine r_nil ?_
    refine w_ret ?_
    refine fin1 (v := .bool _) rfl ?_
    refine ⟨congrArg Value.bool ?_, H⟩
    unfold fitsN
    first
      | (rw [decide_eq_true hk, Bool.true_and]; exact decide_eq_decide.2 (by omega))
      | rw [decide_eq_false hk, Bool.false_and]
  try simp only [sH] at h11
  have hk : ¬ k < 32 := by omega
  refine r_no rfl rfl ?_
  refine r_no rfl rfl ?_
  refine r_no rfl rfl ?_
  refine r_no1 rfl rfl ?_
  refine r_no rfl rfl ?_
  refine r_no rfl rfl ?_
  refine r_no rfl rfl ?_
  refine r_no1 rfl rfl ?_
  refine r_no rfl rfl ?_
  refine r_no rfl rfl ?_
  refine r_no rfl rfl ?_
  refine r_no rfl rfl ?_
  refine r_no rfl rfl ?_
  refine r_no1 rfl rfl ?_
  refine r_no rfl rfl ?_
  refine r_do rfl (l_no rfl (l_nil ⟨fun _ _ => (by first | exact H | exact H.drop1 | exact H.drop1.drop1), ?_⟩))
  refine r_no rfl rfl ?_
  refine r_do rfl (l_no rfl (l_nil ⟨(fun h => nomatch h), ?_⟩))
  refine r_no rfl rfl ?_
  refine r_pickF (v := .bool _) rfl rfl rfl rfl ?_
  refine r_pbool rfl rfl rfl ?_
  refine r_nil ?_
  refine w_ret ?_
  refine fin1 (v := .bool _) rfl ?_
  refine ⟨congrArg Value.bool ?_, H⟩
  unfold fitsN
  first
    | (rw [decide_eq_true hk, Bool.true_and]; exact decide_eq_decide.2 (by omega))
    | rw [decide_eq_false hk, Bool.false_and]
theorem putT_ok {W w : World} {F : List Seg} {b f k sz n c tc : Nat} {a ta : Option Addr} {xs : List Value} {x0 x1 x90 x91 x7 : Value} (H : St W w (blk b [x0, x1, x90, x91, .int .i64 (f : Int), .slice ta k tc, .int .i64 (sz : Int), x7] 86 :: row 28 1 ta k tc xs :: F)) (hk : k ≤ 1000000) (hsz : sz ≤ 100000000000000000) (hn : n ≤ 1000000000000000) :
    Ok Tryd.prog 74 [.pointer (some ⟨b, 2, none⟩), .slice a n c].toArray w (fun r w' => r = .tuple #[] ∧ ∃ ta' tc', St W w' (blk b [x0, x1, x90, x91, .int .i64 (f : Int), .slice ta' (k + 1) tc', .int .i64 ((sz + (szN n + n) : Nat) : Int), x7] 86 :: row 28 1 ta' (k + 1) tc' (xs ++ [.slice a n c]) :: F)) := by
  have h1 := szN_le n
  refine enter (n := 23) (rs := #[]) Tryd.func74 rfl rfl rfl rfl ?_
  refine w_seq ?_
  refine w_region ?_
  refine l_pptr rfl rfl ?_
  refine l_pptr rfl rfl ?_
  refine l_pptr rfl rfl ?_
  refine l_v rfl (q_fieldAddr rfl fo84_2 rfl) ?_
  refine l_v rfl (q_load1 rfl c1_31 rfl (by first | exact H.cell 0 rfl rfl | exact H.cell 1 rfl rfl)) ?_
  refine l_pslice rfl rfl ?_
  refine b_buildSlice (cs := [.slice a n c]) rfl el_31 ze_28 rfl rfl rfl H (fun b10 w H => ?_)
  refine b_append rfl el_31 ze_28 rfl rfl rfl H 2 rfl (Rd.mk (H.cells0 0 rfl)) rfl (fun u hu => by obtain rfl := List.mem_singleton.1 hu; rfl) ⟨by omega, by simp only [maxLen]; omega⟩ (fun ta' tc' w H => ?_)
  have H := H.drop1
  refine l_pptr rfl rfl ?_
  refine l_v rfl (q_fieldAddr rfl fo84_2 rfl) ?_
  first | refine b_store rfl sz_31 rfl rfl rfl rfl rfl H 0 rfl rfl rfl (fun w H => ?_) | refine b_store rfl sz_31 rfl rfl rfl rfl rfl H 1 rfl rfl rfl (fun w H => ?_)
  refine l_nil ?_
  refine w_drawT [9] [3] [(0, 0), (1, 0), (2, 0), (3, 1), (4, 0), (5, 2), (6, 0), (7, 0), (8, 0), (9, 2)] mixed (by kernel_rfl) (fun _ _ _ h => fin_panic h) H (fun H => ?_)
  refine r_pptr rfl rfl rfl ?_
  refine r_pptr rfl rfl rfl ?_
  refine r_w rfl rfl (fun w => q_fieldAddr rfl fo84_3 rfl) ?_
  refine r_v rfl rfl (fun w hS => q_load1 rfl c1_3 rfl (by first | exact hS.cell 0 rfl rfl | exact hS.cell 1 rfl rfl)) ?_
  refine r_pslice rfl rfl rfl ?_
  refine r_do rfl ?_
  refine b_call rfl cb_113 rfl (textSize_ok (n := n) hn) (fun v w hv => ?_)
  obtain ⟨rfl, rfl⟩ := hv
  refine l_nil ⟨fun _ _ => (by first | exact H | exact H.drop1 | exact H.drop1.drop1 | exact H.drop1.drop1.drop1), ?_⟩
  first | refine r_w rfl rfl (fun w => q_add rfl rfl rfl (by simp only [inK]; omega)) ?_ | refine r_pint rfl rfl rfl ?_
  refine r_pptr rfl rfl rfl ?_
  refine r_w rfl rfl (fun w => q_fieldAddr rfl fo84_3 rfl) ?_
  refine r_do rfl ?_
  first | refine b_store rfl sz_3 rfl rfl rfl rfl rfl H 0 rfl rfl rfl (fun w H => ?_) | refine b_store rfl sz_3 rfl rfl rfl rfl rfl H 1 rfl rfl rfl (fun w H => ?_)
  refine l_nil ⟨(fun h => nomatch h), ?_⟩
  refine r_nil ?_
  exact fin0n ⟨rfl, ta', tc', H⟩
theorem fitsS_ok {W w : World} {F : List Seg} {b f k sz n c tc : Nat} {a ta : Option Addr} {x0 x1 x2 x3 x4 x5 x6 x7 x90 x91 x13 : Value} (H : St W w (blk b [x0, x1, x2, x3, x4, x5, x6, x7, x90, x91, .int .i64 (f : Int), .slice ta k tc, .int .i64 (sz : Int), x13] 146 :: F)) (hf : f ≤ 1000000000000000) (hsz : sz ≤ 100000000000000000) (hn : n ≤ 1000000000000000) :
    Ok Tryd.prog 73 [.pointer (some ⟨b, 8, none⟩), .slice a n c].toArray w (fun r w' => r = .bool (fitsN f k sz n) ∧ St W w' (blk b [x0, x1, x2, x3, x4, x5, x6, x7, x90, x91, .int .i64 (f : Int), .slice ta k tc, .int .i64 (sz : Int), x13] 146 :: F)) := by
  have h1 := szN_le n
  refine enter (n := 32) (rs := #[.tmp 4]) Tryd.func73 rfl rfl rfl rfl ?_
  refine w_seq ?_
  refine w_region ?_
  refine l_pbool rfl rfl ?_
  refine l_nil ?_
  refine w_seq ?_
  refine w_drawT [24] [3, 10, 14, 20] [(0, 0), (1, 0), (2, 0), (3, 1), (4, 0), (5, 0), (6, 0), (7, 0), (8, 0), (9, 0), (10, 1), (11, 0), (12, 0), (13, 0), (14, 1), (15, 0), (16, 0), (17, 0), (18, 0), (19, 0), (20, 1), (21, 0), (22, 2), (23, 0), (24, 2), (25, 0), (26, 0), (27, 0)] mixed (by kernel_rfl) (fun _ _ _ h => fin_panic h) H (fun H => ?_)
  refine r_pptr rfl rfl rfl ?_
  refine r_pptr rfl rfl rfl ?_
  refine r_w rfl rfl (fun w => q_fieldAddr rfl fo84_2 rfl) ?_
  refine r_v rfl rfl (fun w hS => q_load1 rfl c1_31 rfl (by first | exact hS.cell 0 rfl rfl)) ?_
  refine r_w rfl rfl (fun w => q_lenSlice rfl el_31 rfl) ?_
  refine r_pbool rfl rfl rfl ?_
  refine r_pbool rfl rfl rfl ?_
  refine r_split 11 rfl (fun h11 => ?_) (fun h11 => ?_)
  · try simp only [sH] at h11
    have hk : k < 32 := by omega
    refine r_pptr rfl rfl rfl ?_
    refine r_pptr rfl rfl rfl ?_
    refine r_w rfl rfl (fun w => q_fieldAddr rfl fo84_1 rfl) ?_
    refine r_v rfl rfl (fun w hS => q_load1 rfl c1_3 rfl (by first | exact hS.cell 0 rfl rfl)) ?_
    refine r_pptr rfl rfl rfl ?_
    refine r_pptr rfl rfl rfl ?_
    refine r_w rfl rfl (fun w => q_fieldAddr rfl fo84_2 rfl) ?_
    refine r_v rfl rfl (fun w hS => q_load1 rfl c1_31 rfl (by first | exact hS.cell 0 rfl rfl)) ?_
    refine r_w rfl rfl (fun w => q_lenSlice rfl el_31 rfl) ?_
    first | refine r_w rfl rfl (fun w => q_add rfl rfl rfl (by simp only [inK]; omega)) ?_ | refine r_pint rfl rfl rfl ?_
    refine r_pptr rfl rfl rfl ?_
    refine r_pptr rfl rfl rfl ?_
    refine r_w rfl rfl (fun w => q_fieldAddr rfl fo84_3 rfl) ?_
    refine r_v rfl rfl (fun w hS => q_load1 rfl c1_3 rfl (by first | exact hS.cell 0 rfl rfl)) ?_
    refine r_pslice rfl rfl rfl ?_
    refine r_do rfl ?_
    refine b_call rfl cb_113 rfl (textSize_ok (n := n) hn) (fun v w hv => ?_)
    obtain ⟨rfl, rfl⟩ := hv
    refine l_nil ⟨fun _ _ => (by first | exact H | exact H.drop1 | exact H.drop1.drop1 | exact H.drop1.drop1.drop1), ?_⟩
    first | refine r_w rfl rfl (fun w => q_add rfl rfl rfl (by simp only [inK]; omega)) ?_ | refine r_pint rfl rfl rfl ?_
    refine r_do rfl ?_
    refine b_call rfl cb_112 rfl (bodySize_ok (f := f) (c := k + 1) (s := sz + (szN n + n)) (by omega) (by omega) (by omega)) (fun v w hv => ?_)
    obtain ⟨rfl, rfl⟩ := hv
    refine l_nil ⟨(fun h => nomatch h), ?_⟩
    refine r_pbool rfl rfl rfl ?_
    refine r_pickT (v := .bool _) rfl rfl rfl rfl ?_
    refine r_pbool rfl rfl rfl ?_
    refine r_nil ?_
    refine w_ret ?_
    refine fin1 (v := .bool _) rfl ?_
    refine ⟨congrArg Value.bool ?_, H⟩
    unfold fitsN
    first
      | (rw [decide_eq_true hk, Bool.true_and]; exact decide_eq_decide.2 (by omega))
      | rw [decide_eq_false hk, Bool.false_and]
  try simp only [sH] at h11
  have hk : ¬ k < 32 := by omega
  refine r_no rfl rfl ?_
  refine r_no rfl rfl ?_
  refine r_no rfl rfl ?_
  refine r_no1 rfl rfl ?_
  refine r_no rfl rfl ?_
  refine r_no rfl rfl ?_
  refine r_no rfl rfl ?_
  refine r_no1 rfl rfl ?_
  refine r_no rfl rfl ?_
  refine r_no rfl rfl ?_
  refine r_no rfl rfl ?_
  refine r_no rfl rfl ?_
  refine r_no rfl rfl ?_
  refine r_no1 rfl rfl ?_
  refine r_no rfl rfl ?_
  refine r_do rfl (l_no rfl (l_nil ⟨fun _ _ => (by first | exact H | exact H.drop1 | exact H.drop1.drop1), ?_⟩))
  refine r_no rfl rfl ?_
  refine r_do rfl (l_no rfl (l_nil ⟨(fun h => nomatch h), ?_⟩))
  refine r_no rfl rfl ?_
  refine r_pickF (v := .bool _) rfl rfl rfl rfl ?_
  refine r_pbool rfl rfl rfl ?_
  refine r_nil ?_
  refine w_ret ?_
  refine fin1 (v := .bool _) rfl ?_
  refine ⟨congrArg Value.bool ?_, H⟩
  unfold fitsN
  first
    | (rw [decide_eq_true hk, Bool.true_and]; exact decide_eq_decide.2 (by omega))
    | rw [decide_eq_false hk, Bool.false_and]
theorem putS_ok {W w : World} {F : List Seg} {b f k sz n c tc : Nat} {a ta : Option Addr} {xs : List Value} {x0 x1 x2 x3 x4 x5 x6 x7 x90 x91 x13 : Value} (H : St W w (blk b [x0, x1, x2, x3, x4, x5, x6, x7, x90, x91, .int .i64 (f : Int), .slice ta k tc, .int .i64 (sz : Int), x13] 146 :: row 28 1 ta k tc xs :: F)) (hk : k ≤ 1000000) (hsz : sz ≤ 100000000000000000) (hn : n ≤ 1000000000000000) :
    Ok Tryd.prog 74 [.pointer (some ⟨b, 8, none⟩), .slice a n c].toArray w (fun r w' => r = .tuple #[] ∧ ∃ ta' tc', St W w' (blk b [x0, x1, x2, x3, x4, x5, x6, x7, x90, x91, .int .i64 (f : Int), .slice ta' (k + 1) tc', .int .i64 ((sz + (szN n + n) : Nat) : Int), x13] 146 :: row 28 1 ta' (k + 1) tc' (xs ++ [.slice a n c]) :: F)) := by
  have h1 := szN_le n
  refine enter (n := 23) (rs := #[]) Tryd.func74 rfl rfl rfl rfl ?_
  refine w_seq ?_
  refine w_region ?_
  refine l_pptr rfl rfl ?_
  refine l_pptr rfl rfl ?_
  refine l_pptr rfl rfl ?_
  refine l_v rfl (q_fieldAddr rfl fo84_2 rfl) ?_
  refine l_v rfl (q_load1 rfl c1_31 rfl (by first | exact H.cell 0 rfl rfl | exact H.cell 1 rfl rfl)) ?_
  refine l_pslice rfl rfl ?_
  refine b_buildSlice (cs := [.slice a n c]) rfl el_31 ze_28 rfl rfl rfl H (fun b10 w H => ?_)
  refine b_append rfl el_31 ze_28 rfl rfl rfl H 2 rfl (Rd.mk (H.cells0 0 rfl)) rfl (fun u hu => by obtain rfl := List.mem_singleton.1 hu; rfl) ⟨by omega, by simp only [maxLen]; omega⟩ (fun ta' tc' w H => ?_)
  have H := H.drop1
  refine l_pptr rfl rfl ?_
  refine l_v rfl (q_fieldAddr rfl fo84_2 rfl) ?_
  first | refine b_store rfl sz_31 rfl rfl rfl rfl rfl H 0 rfl rfl rfl (fun w H => ?_) | refine b_store rfl sz_31 rfl rfl rfl rfl rfl H 1 rfl rfl rfl (fun w H => ?_)
  refine l_nil ?_
  refine w_drawT [9] [3] [(0, 0), (1, 0), (2, 0), (3, 1), (4, 0), (5, 2), (6, 0), (7, 0), (8, 0), (9, 2)] mixed (by kernel_rfl) (fun _ _ _ h => fin_panic h) H (fun H => ?_)
  refine r_pptr rfl rfl rfl ?_
  refine r_pptr rfl rfl rfl ?_
  refine r_w rfl rfl (fun w => q_fieldAddr rfl fo84_3 rfl) ?_
  refine r_v rfl rfl (fun w hS => q_load1 rfl c1_3 rfl (by first | exact hS.cell 0 rfl rfl | exact hS.cell 1 rfl rfl)) ?_
  refine r_pslice rfl rfl rfl ?_
  refine r_do rfl ?_
  refine b_call rfl cb_113 rfl (textSize_ok (n := n) hn) (fun v w hv => ?_)
  obtain ⟨rfl, rfl⟩ := hv
  refine l_nil ⟨fun _ _ => (by first | exact H | exact H.drop1 | exact H.drop1.drop1 | exact H.drop1.drop1.drop1), ?_⟩
  first | refine r_w rfl rfl (fun w => q_add rfl rfl rfl (by simp only [inK]; omega)) ?_ | refine r_pint rfl rfl rfl ?_
  refine r_pptr rfl rfl rfl ?_
  refine r_w rfl rfl (fun w => q_fieldAddr rfl fo84_3 rfl) ?_
  refine r_do rfl ?_
  first | refine b_store rfl sz_3 rfl rfl rfl rfl rfl H 0 rfl rfl rfl (fun w H => ?_) | refine b_store rfl sz_3 rfl rfl rfl rfl rfl H 1 rfl rfl rfl (fun w H => ?_)
  refine l_nil ⟨(fun h => nomatch h), ?_⟩
  refine r_nil ?_
  exact fin0n ⟨rfl, ta', tc', H⟩
theorem sealed_ok {W w : World} {F : List Seg} (hN : NibOk W) {b : Nat} {a : Option Addr} {cap : Nat} {bs : List UInt8} {rs : List Value} {T : TypeId} (hb : bs.length ≤ 140737488355328) (H : St W w (writerX rs T b a cap bs F)) :
    Ok Tryd.prog 72 [.pointer (some ⟨b, 0, none⟩)].toArray w (fun r w' => ∃ a' c', r = .slice a' (sealR bs).1.length c' ∧ St W w' (row 5 1 a' (sealR bs).1.length c' ((sealR bs).1.map B) :: writerX rs T b a cap bs F)) := by
  refine enter (n := 18) (rs := #[.tmp 2]) Tryd.func72 rfl rfl rfl rfl ?_
  refine w_seq ?_
  refine w_region ?_
  refine l_pslice rfl rfl ?_
  refine l_nil ?_
  refine w_seq ?_
  refine w_region ?_
  refine l_pptr rfl rfl ?_
  refine b_call rfl cb_46 rfl (Bytes_ok hb H) (fun v w hv => ?_)
  obtain ⟨a9, c9, rfl, H⟩ := hv
  refine l_ptup rfl rfl ?_
  refine l_pslice rfl rfl ?_
  refine l_pint rfl rfl ?_
  refine l_pslice rfl rfl ?_
  refine l_pint rfl rfl ?_
  refine l_nil ?_
  refine w_seq ?_
  refine w_region ?_
  refine l_pslice rfl rfl ?_
  refine b_call rfl cb_111 rfl (Seal_ok hN H (RdIn.row 0 rfl) rfl hb) (fun v w hv => ?_)
  obtain ⟨a14, c14, rfl, H⟩ := hv
  have H := H.erase 1
  refine l_ptup rfl rfl ?_
  refine l_pslice rfl rfl ?_
  refine l_pint rfl rfl ?_
  refine l_pslice rfl rfl ?_
  refine l_pint rfl rfl ?_
  refine l_nil ?_
  refine w_seq ?_
  refine w_region ?_
  refine l_pslice rfl rfl ?_
  refine l_pslice rfl rfl ?_
  refine l_nil ?_
  refine w_ret ?_
  refine fin1 (v := .slice _ _ _) rfl ?_
  exact ⟨a14, c14, rfl, H⟩
theorem four_ok {W w : World} {F : List Seg} (H : St W w F) (n : Nat) :
    Ok Tryd.prog 69 [.int .i64 (n : Int)].toArray w (fun r w' => ∃ b, r = .slice (some ⟨b, 0, none⟩) 4 4 ∧ St W w' (row 5 1 (some ⟨b, 0, none⟩) 4 4 ((be4 n).map B) :: F)) := by
  refine enter (n := 15) (rs := #[.tmp 2]) Tryd.func69 rfl rfl rfl rfl ?_
  refine w_seq ?_
  refine w_region ?_
  refine l_pslice rfl rfl ?_
  refine l_nil ?_
  refine w_seq ?_
  refine w_region ?_
  refine l_pint rfl rfl ?_
  refine l_v rfl (q_pure (i64_shrK (n := n) (i := 24) rfl rfl (by decide))) ?_
  refine l_v rfl (q_lowN (M := n / 2 ^ 24) rfl (by kernel_rfl) in_5 rfl) ?_
  refine l_pint rfl rfl ?_
  refine l_v rfl (q_pure (i64_shrK (n := n) (i := 16) rfl rfl (by decide))) ?_
  refine l_v rfl (q_lowN (M := n / 2 ^ 16) rfl (by kernel_rfl) in_5 rfl) ?_
  refine l_pint rfl rfl ?_
  refine l_v rfl (q_pure (i64_shrK (n := n) (i := 8) rfl rfl (by decide))) ?_
  refine l_v rfl (q_lowN (M := n / 2 ^ 8) rfl (by kernel_rfl) in_5 rfl) ?_
  refine l_pint rfl rfl ?_
  refine l_v rfl (q_lowN (M := n) rfl (by kernel_rfl) in_5 rfl) ?_
  refine b_buildSlice (cs := (be4 n).map B) rfl el_28 ze_5 rfl rfl rfl H (fun b14 w H => ?_)
  refine l_pslice rfl rfl ?_
  refine l_nil ?_
  refine w_ret ?_
  refine fin1 (v := .slice _ _ _) rfl ?_
  exact ⟨b14, rfl, row_blk0 rfl (by decide) H⟩
def TxsOk (W : World) (F : List Seg) (ts : List Tx) : Prop := ∀ t ∈ ts, RdIn W F t.a (t.bs.map B) ∧ t.bs.length ≤ 100000
theorem sizeT_le : ∀ (ts : List (List UInt8)) (m : Nat), (∀ t ∈ ts, t.length ≤ m) → sizeT ts ≤ ts.length * (9 + m)
  | [], _, _ => by simp [sizeT]
  | t :: ts, m, h => by
    have h1 := sizeT_le ts m (fun x hx => h x (List.mem_cons_of_mem _ hx))
    have h2 := h t List.mem_cons_self
    have h3 := szN_le t.length
    unfold sizeT at *
    rw [List.map_cons, List.sum_cons, List.length_cons, Nat.succ_mul]
    omega
theorem txv_get {ts : List Tx} {i : Nat} (hi : i < ts.length) : (ts.map Tx.v)[i]? = some (.slice ts[i].a ts[i].bs.length ts[i].c) := by rw [List.getElem?_map, List.getElem?_eq_getElem hi]; rfl
theorem frame_ok {W w : World} {F : List Seg} (hN : NibOk W) (H : St W w F) {f : Nat} {ta : Option Addr} {tc : Nat} {sz : Value} {ts : List Tx} (hr : RdIn W F ta (ts.map Tx.v)) (htx : TxsOk W F ts) (hts : ts.length ≤ 64) (hf : f ≤ 1000000) (hsz : sz.oneCell' = true) :
    Ok Tryd.prog 67 [.agg #[.slice none 0 0, .int .i64 0, .int .i64 (f : Int), .slice ta ts.length tc, sz]].toArray w (fun r w' => ∃ a' c', r = .slice a' (sealR (chunkB f (ts.map Tx.bs))).1.length c' ∧ St W w' (row 5 1 a' (sealR (chunkB f (ts.map Tx.bs))).1.length c' ((sealR (chunkB f (ts.map Tx.bs))).1.map B) :: F)) := by
  have hf2 := formL_len 2
  have hff := formL_len f
  have hfl := formL_len ts.length
  refine enter (n := 32) (rs := #[.tmp 2]) Tryd.func67 rfl rfl rfl rfl ?_
  refine w_seq ?_
  refine w_region ?_
  refine b_box (cs := [.slice none 0 0, .int .i64 0, .int .i64 (f : Int), .slice ta ts.length tc, sz]) rfl rfl rfl H (fun b1 w H => ?_)
  have H : St W w (writerX [.int .i64 (f : Int), .slice ta ts.length tc, sz] 84 b1 none 0 [] F) := (St.newRow (T := 5) (sz := 1) H).swap01
  refine l_pslice rfl rfl ?_
  refine l_nil ?_
  refine w_seq ?_
  refine w_region ?_
  refine l_v rfl (q_fieldAddr rfl fo84_0 rfl) ?_
  refine b_call rfl cb_43 rfl (WInt_ok (n := 2) (by decide) (by simp) H) (fun v w hv => ?_)
  obtain ⟨rfl, a1, c1, H⟩ := hv
  refine l_nil ?_
  refine w_seq ?_
  refine w_region ?_
  refine l_v rfl (q_fieldAddr rfl fo84_0 rfl) ?_
  refine l_v rfl (q_fieldAddr rfl fo84_1 rfl) ?_
  refine l_v rfl (q_load1 rfl c1_3 rfl (by first | exact H.cell 0 rfl rfl)) ?_
  refine b_call rfl cb_43 rfl (WInt_ok (n := f) (by omega) (by simp; omega) H) (fun v w hv => ?_)
  obtain ⟨rfl, a2, c2, H⟩ := hv
  refine l_nil ?_
  refine w_seq ?_
  refine w_region ?_
  refine l_v rfl (q_fieldAddr rfl fo84_0 rfl) ?_
  refine l_v rfl (q_fieldAddr rfl fo84_2 rfl) ?_
  refine l_v rfl (q_load1 rfl c1_31 rfl (by first | exact H.cell 0 rfl rfl)) ?_
  refine l_v rfl (q_lenSlice rfl el_31 rfl) ?_
  refine b_call rfl cb_43 rfl (WInt_ok (n := ts.length) (by omega) (by simp; omega) H) (fun v w hv => ?_)
  obtain ⟨rfl, a3, c3, H⟩ := hv
  refine l_nil ?_
  refine w_seq ?_
  refine w_seq ?_
  refine w_region ?_
  refine l_v rfl (q_fieldAddr rfl fo84_2 rfl) ?_
  refine l_v rfl (q_load1 rfl c1_31 rfl (by first | exact H.cell 0 rfl rfl)) ?_
  refine l_v rfl (q_lenSlice rfl el_31 rfl) ?_
  refine l_pint rfl rfl ?_
  refine l_nil ?_
  refine w_block ?_
  refine w_loopG (G := Nat × Option Addr × Nat) [4, 19, 20, 21, 22, 23, 24, 25, 26, 27, 28, 29] (fun ⟨i, wa, wc⟩ => [(19, .int .i64 ((i : Nat) : Int))]) (fun m ⟨i, wa, wc⟩ w => m + i = ts.length ∧ St W w (writerX [.int .i64 (f : Int), .slice ta ts.length tc, sz] 84 b1 wa wc (formL 2 ++ formL f ++ formL ts.length ++ catL ((ts.map Tx.bs).take i)) F)) (fun _ => rfl) ?_ ?_
  · exact ⟨ts.length, (0, a3, c3), ⟨rfl, trivial⟩, rfl, by rw [List.take_zero, show catL [] = [] from rfl, List.append_nil]; exact H⟩
  rintro m ⟨i, wa, wc⟩ ρ1 w ⟨hmi, H⟩
  refine w_seq ?_
  refine w_region ?_
  refine l_pbool rfl rfl ?_
  refine l_nil ?_
  refine w_seq ?_
  refine w_cond rfl (fun c1 => ?_) (fun c1 => ?_)
  · try simp only [sH] at c1
    have hi : i < ts.length := by omega
    have hti := htx _ (List.getElem_mem hi)
    have htb := hti.2
    obtain ⟨tb, to_, hta, _⟩ := rd_cell (hr.use H 2 rfl) (txv_get hi)
    have hst := sizeT_le ((ts.map Tx.bs).take i) 100000 (fun t ht => by obtain ⟨x, hx, rfl⟩ := List.mem_map.1 (List.mem_of_mem_take ht); exact (htx x hx).2)
    rw [List.length_take, List.length_map] at hst
    refine w_skip ?_
    refine w_seq ?_
    refine w_block ?_
    refine w_seq ?_
    refine w_region ?_
    refine l_v rfl (q_indexSliceE i rfl el_31 rfl hta rfl rfl hi) ?_
    refine l_v rfl (q_load1 (v := .slice ts[i].a ts[i].bs.length ts[i].c) rfl c1_28 rfl (rd_at hta (hr.use H 2 rfl) (txv_get hi))) ?_
    refine l_pslice rfl rfl ?_
    refine l_nil ?_
    refine w_region ?_
    refine l_v rfl (q_fieldAddr rfl fo84_0 rfl) ?_
    refine l_pslice rfl rfl ?_
    refine l_v rfl (q_bytesStr (bs := ts[i].bs) rfl by_28 st_9 rfl (hti.1.use H 2 rfl) rfl) ?_
    refine l_pslice rfl rfl ?_
    refine l_v rfl (q_lenSlice rfl el_28 rfl) ?_
    refine b_call rfl cb_45 rfl (WText_ok (s := ⟨ts[i].bs.toArray⟩) (mo := ts[i].bs.length) (Nat.le_refl _) (by omega) (by simp only [List.length_append, cat_len]; omega) H) (fun v w hv => ?_)
    obtain ⟨rfl, a', c', H⟩ := hv
    refine l_nil ?_
    refine w_region ?_
    first | refine l_v rfl (q_add rfl rfl rfl (by simp only [inK]; omega)) ?_ | refine l_pint rfl rfl ?_
    refine l_pint rfl rfl ?_
    refine l_nil ?_
    refine ⟨by repeat' first | exact aM | exact aR | refine aI rfl ?_ | refine aU rfl ?_ | refine aL rfl ?_, ?_⟩
    refine ⟨m - 1, (i + 1, a', c'), by omega, ⟨by exact congrArg (Value.int IntKind.i64) (Int.natCast_succ i).symm, trivial⟩, by omega, ?_⟩
    rw [List.take_succ_eq_append_getElem (by rw [List.length_map]; exact hi), cat_snoc, List.getElem_map]
    simp only [← List.append_assoc]
    exact H
  try simp only [sH] at c1
  obtain rfl : i = ts.length := by omega
  have hst := sizeT_le ((ts.map Tx.bs).take ts.length) 100000 (fun t ht => by obtain ⟨x, hx, rfl⟩ := List.mem_map.1 (List.mem_of_mem_take ht); exact (htx x hx).2)
  rw [List.length_take, List.length_map] at hst
  refine w_exit ?_
  refine w_seq ?_
  refine w_region ?_
  refine l_v rfl (q_fieldAddr rfl fo84_0 rfl) ?_
  refine b_call rfl cb_72 rfl (sealed_ok hN (by simp only [List.length_append, cat_len]; omega) H) (fun v w hv => ?_)
  obtain ⟨a31, c31, rfl, H⟩ := hv
  refine l_pslice rfl rfl ?_
  refine l_nil ?_
  refine w_ret ?_
  refine fin1 (v := .slice _ _ _) rfl ?_
  have e : (formL 2 ++ formL f ++ formL ts.length ++ catL ((ts.map Tx.bs).take ts.length)) = chunkB f (ts.map Tx.bs) := by
    unfold chunkB
    rw [List.take_of_length_le (by rw [List.length_map]; exact Nat.le_refl _), List.length_map]
  rw [e] at H
  rw [e]
  exact ⟨a31, c31, rfl, (H.erase 1).erase 1⟩
end Go.Proofs.YtfpmnhmdphaceaaDoor
