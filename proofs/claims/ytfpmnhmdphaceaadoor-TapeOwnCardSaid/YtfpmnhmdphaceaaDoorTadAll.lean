/- The digest's functions in this seat. -/
import Derived.Test.YtfpmnhmdphaceaaDoorFacts22
import Derived.Test.YtfpmnhmdphaceaaDoorWordAll
import Derived.Test.YtfpmnhmdphaceaaDoorBaseAll
namespace Go.Proofs.YtfpmnhmdphaceaaDoor
open Go.EW
attribute [local irreducible] EW.W EW.L EW.fin
set_option linter.unusedVariables false
set_option linter.unusedSimpArgs false
def ror (x : UInt32) (n : Nat) : UInt32 := x >>> UInt32.ofNat n ||| x <<< UInt32.ofNat (32 - n)
theorem ror_ok {W w : World} {F : List Seg} (H : St W w F) (x : UInt32) {n : Nat} (hn : 0 < n ∧ n < 32) :
    Ok Tryd.prog 152 [U x, .int .i64 (n : Int)].toArray w (fun v w' => v = U (ror x n) ∧ St W w' F) := by
  refine enter (n := 13) (rs := #[.tmp 4]) Tryd.func152 rfl rfl rfl rfl ?_
  refine w_seq ?_
  refine w_region ?_
  first | refine l_p (v := U _) rfl rfl ?_ | refine l_pint rfl rfl ?_
  refine l_nil ?_
  refine w_seq ?_
  refine w_drawT [] [] [(0, 0), (1, 0), (2, 0), (3, 0), (4, 0), (5, 0), (6, 0), (7, 0), (8, 0)] mixed (by kernel_rfl) (fun _ _ _ h => fin_panic h) H (fun H => ?_)
  first | refine r_p (v := U _) rfl rfl rfl ?_ | refine r_pint rfl rfl rfl ?_
  refine r_pint rfl rfl rfl ?_
  refine r_w rfl rfl (fun w => q_pure (u_shr rfl rfl (by first | decide | omega))) ?_
  first | refine r_p (v := U _) rfl rfl rfl ?_ | refine r_pint rfl rfl rfl ?_
  refine r_pint rfl rfl rfl ?_
  first | refine r_w rfl rfl (fun w => q_sub rfl rfl rfl (by simp only [inK]; omega)) ?_ | refine r_pint rfl rfl rfl ?_
  refine r_w rfl rfl (fun w => q_pure (u_shl (n := 32 - n) rfl (congrArg (Value.int .i64) (by omega)) (by omega))) ?_
  refine r_w rfl rfl (fun w => q_pure (u_or rfl rfl)) ?_
  first | refine r_p (v := U _) rfl rfl rfl ?_ | refine r_pint rfl rfl rfl ?_
  refine r_nil ?_
  refine w_ret ?_
  refine fin1 (v := .int _ _) rfl ?_
  exact ⟨rfl, H⟩
/-- eight words -/
structure S8 where
  a : UInt32
  b : UInt32
  c : UInt32
  d : UInt32
  e : UInt32
  f : UInt32
  g : UInt32
  h : UInt32
def S8.cells (s : S8) : List Value := [U s.a, U s.b, U s.c, U s.d, U s.e, U s.f, U s.g, U s.h]
def begin8 : S8 := ⟨0x6a09e667, 0xbb67ae85, 0x3c6ef372, 0xa54ff53a, 0x510e527f, 0x9b05688c, 0x1f83d9ab, 0x5be0cd19⟩
def keysL : List UInt32 := [0x428a2f98, 0x71374491, 0xb5c0fbcf, 0xe9b5dba5, 0x3956c25b, 0x59f111f1, 0x923f82a4, 0xab1c5ed5, 0xd807aa98, 0x12835b01, 0x243185be, 0x550c7dc3, 0x72be5d74, 0x80deb1fe, 0x9bdc06a7, 0xc19bf174, 0xe49b69c1, 0xefbe4786, 0x0fc19dc6, 0x240ca1cc, 0x2de92c6f, 0x4a7484aa, 0x5cb0a9dc, 0x76f988da, 0x983e5152, 0xa831c66d, 0xb00327c8, 0xbf597fc7, 0xc6e00bf3, 0xd5a79147, 0x06ca6351, 0x14292967, 0x27b70a85, 0x2e1b2138, 0x4d2c6dfc, 0x53380d13, 0x650a7354, 0x766a0abb, 0x81c2c92e, 0x92722c85, 0xa2bfe8a1, 0xa81a664b, 0xc24b8b70, 0xc76c51a3, 0xd192e819, 0xd6990624, 0xf40e3585, 0x106aa070, 0x19a4c116, 0x1e376c08, 0x2748774c, 0x34b0bcb5, 0x391c0cb3, 0x4ed8aa4a, 0x5b9cca4f, 0x682e6ff3, 0x748f82ee, 0x78a5636f, 0x84c87814, 0x8cc70208, 0x90befffa, 0xa4506ceb, 0xbef9a3f7, 0xc67178f2]
/-- a hasher: its state, what is left over, how many bytes were taken -/
structure HS where
  s : S8
  ra : Option Addr
  rcap : Nat
  rest : List UInt8
  n : Int
def HS.cells (h : HS) : List Value := [U h.s.a, U h.s.b, U h.s.c, U h.s.d, U h.s.e, U h.s.f, U h.s.g, U h.s.h, .slice h.ra h.rest.length h.rcap, .int .i64 h.n, .bool true]
def hashL (b : Nat) (h : HS) (F : List Seg) : List Seg := blk b h.cells 253 :: row 5 1 h.ra h.rest.length h.rcap (h.rest.map B) :: F
def newH : HS := ⟨begin8, none, 0, [], 0⟩
theorem begin_ok {W w : World} {F : List Seg} (H : St W w F) :
    Ok Tryd.prog 145 [].toArray w (fun v w' => v = .agg begin8.cells.toArray ∧ St W w' F) := by
  refine enter (n := 2) (rs := #[.cell 0 250]) Tryd.func145 rfl rfl rfl rfl ?_
  refine w_seq ?_
  refine w_region ?_
  refine b_alloc rfl ze_250 rfl H (fun b0 w H => ?_)
  refine l_nil ?_
  refine w_seq ?_
  refine w_region ?_
  refine l_v rfl (q_buildArr rfl ar_250 ze_250 (by kernel_rfl : fillL _ _ _ = some begin8.cells)) ?_
  first | refine b_store (cs' := [_, _, _, _, _, _, _, _]) rfl sz_250 rfl rfl rfl rfl rfl H 0 rfl rfl rfl (fun w H => ?_) | refine b_store (cs' := [_, _, _, _, _, _, _, _]) rfl sz_250 rfl rfl rfl rfl rfl H 1 rfl rfl rfl (fun w H => ?_) | refine b_store (cs' := [_, _, _, _, _, _, _, _]) rfl sz_250 rfl rfl rfl rfl rfl H 2 rfl rfl rfl (fun w H => ?_) | refine b_store (cs' := [_, _, _, _, _, _, _, _]) rfl sz_250 rfl rfl rfl rfl rfl H 3 rfl rfl rfl (fun w H => ?_) | refine b_store (cs' := [_, _, _, _, _, _, _, _]) rfl sz_250 rfl rfl rfl rfl rfl H 4 rfl rfl rfl (fun w H => ?_) | refine b_store (cs' := [_, _, _, _, _, _, _, _]) rfl sz_250 rfl rfl rfl rfl rfl H 5 rfl rfl rfl (fun w H => ?_) | refine b_store (cs' := [_, _, _, _, _, _, _, _]) rfl sz_250 rfl rfl rfl rfl rfl H 6 rfl rfl rfl (fun w H => ?_) | refine b_store (cs' := [_, _, _, _, _, _, _, _]) rfl sz_250 rfl rfl rfl rfl rfl H 7 rfl rfl rfl (fun w H => ?_) | refine b_store (cs' := [_, _, _, _, _, _, _, _]) rfl sz_250 rfl rfl rfl rfl rfl H 8 rfl rfl rfl (fun w H => ?_) | refine b_store (cs' := [_, _, _, _, _, _, _, _]) rfl sz_250 rfl rfl rfl rfl rfl H 9 rfl rfl rfl (fun w H => ?_)
  refine l_nil ?_
  refine w_ret ?_
  refine finc rfl ag_250 rfl (by first | exact H.cells 0 rfl | exact H.cells 1 rfl | exact H.cells 2 rfl | exact H.cells 3 rfl | exact H.cells 4 rfl | exact H.cells 5 rfl | exact H.cells 6 rfl | exact H.cells 7 rfl | exact H.cells 8 rfl | exact H.cells 9 rfl) ?_
  exact ⟨rfl, H.erase 0⟩
theorem good_ok {W w : World} {S : List Seg} {b i : Nat} {cs : List Value} (H : St W w S) (hi : S[i]? = some (blk b cs 253)) {t : Bool} (ht : cs[10]? = some (.bool t)) :
    Ok Tryd.prog 146 [.pointer (some ⟨b, 0, none⟩)].toArray w (fun v w' => v = .bool t ∧ w' = w) := by
  refine enter (n := 11) (rs := #[.tmp 2]) Tryd.func146 rfl rfl rfl rfl ?_
  refine w_seq ?_
  refine w_region ?_
  refine l_pbool rfl rfl ?_
  refine l_nil ?_
  refine w_seq ?_
  refine w_region ?_
  refine l_pptr rfl rfl ?_
  refine l_v rfl (q_neqNilF rfl pt_241 rfl rfl) ?_
  refine l_pbool rfl rfl ?_
  refine l_pptr rfl rfl ?_
  refine l_pptr rfl rfl ?_
  refine l_v rfl (q_fieldAddr rfl fo253_3 rfl) ?_
  refine l_v rfl (q_load1 rfl c1_4 rfl (H.cell i hi ht)) ?_
  refine l_pickT (v := .bool _) rfl rfl rfl ?_
  refine l_pbool rfl rfl ?_
  refine l_nil ?_
  refine w_ret ?_
  refine fin1 (v := .bool _) rfl ?_
  exact ⟨rfl, rfl⟩
theorem New_fin {W w : World} {F : List Seg} {b : Nat} (H : St W w (blk b newH.cells 253 :: F)) : St W w (hashL b newH F) :=
  (St.newRow (T := 5) (sz := 1) H).swap01
theorem New_ok {W w : World} {F : List Seg} (H : St W w F) :
    Ok Tryd.prog 139 [].toArray w (fun v w' => ∃ b, v = .pointer (some ⟨b, 0, none⟩) ∧ St W w' (hashL b newH F)) := by
  refine enter (n := 4) (rs := #[.tmp 0]) Tryd.func139 rfl rfl rfl rfl ?_
  refine w_seq ?_
  refine w_region ?_
  refine l_pptr rfl rfl ?_
  refine l_nil ?_
  refine w_seq ?_
  refine w_region ?_
  refine b_call rfl cb_145 rfl (begin_ok H) (fun v w hv => ?_)
  obtain ⟨rfl, H⟩ := hv
  refine l_v rfl (q_build (cs := [.int _ _, .int _ _, .int _ _, .int _ _, .int _ _, .int _ _, .int _ _, .int _ _, .slice _ _ _, .int _ _, .bool _]) rfl sp_253 rfl) ?_
  refine b_box rfl rfl rfl H (fun b3 w H => ?_)
  refine l_pptr rfl rfl ?_
  refine l_nil ?_
  refine w_ret ?_
  refine fin1 (v := .pointer _) rfl ?_
  exact ⟨_, rfl, New_fin H⟩
theorem keys_ok {W w : World} {F : List Seg} (H : St W w F) :
    Ok Tryd.prog 147 [].toArray w (fun v w' => v = .agg (keysL.map U).toArray ∧ St W w' F) := by
  refine enter (n := 2) (rs := #[.cell 0 254]) Tryd.func147 rfl rfl rfl rfl ?_
  refine w_seq ?_
  refine w_region ?_
  refine b_alloc rfl ze_254 rfl H (fun b0 w H => ?_)
  refine l_nil ?_
  refine w_seq ?_
  refine w_region ?_
  refine l_v rfl (q_buildArr rfl ar_254 ze_254 (by kernel_rfl : fillL _ _ _ = some (keysL.map U))) ?_
  first | refine b_store rfl sz_254 rfl rfl rfl rfl rfl H 0 rfl rfl rfl (fun w H => ?_) | refine b_store rfl sz_254 rfl rfl rfl rfl rfl H 1 rfl rfl rfl (fun w H => ?_) | refine b_store rfl sz_254 rfl rfl rfl rfl rfl H 2 rfl rfl rfl (fun w H => ?_) | refine b_store rfl sz_254 rfl rfl rfl rfl rfl H 3 rfl rfl rfl (fun w H => ?_) | refine b_store rfl sz_254 rfl rfl rfl rfl rfl H 4 rfl rfl rfl (fun w H => ?_) | refine b_store rfl sz_254 rfl rfl rfl rfl rfl H 5 rfl rfl rfl (fun w H => ?_) | refine b_store rfl sz_254 rfl rfl rfl rfl rfl H 6 rfl rfl rfl (fun w H => ?_) | refine b_store rfl sz_254 rfl rfl rfl rfl rfl H 7 rfl rfl rfl (fun w H => ?_) | refine b_store rfl sz_254 rfl rfl rfl rfl rfl H 8 rfl rfl rfl (fun w H => ?_) | refine b_store rfl sz_254 rfl rfl rfl rfl rfl H 9 rfl rfl rfl (fun w H => ?_)
  refine l_nil ?_
  refine w_ret ?_
  refine finc rfl ag_254 rfl (by first | exact H.cells 0 rfl | exact H.cells 1 rfl | exact H.cells 2 rfl | exact H.cells 3 rfl | exact H.cells 4 rfl | exact H.cells 5 rfl | exact H.cells 6 rfl | exact H.cells 7 rfl | exact H.cells 8 rfl | exact H.cells 9 rfl) ?_
  exact ⟨rfl, H.erase 0⟩
end Go.Proofs.YtfpmnhmdphaceaaDoor
namespace Go.Proofs.YtfpmnhmdphaceaaDoor
open Go.EW
attribute [local irreducible] EW.W EW.L EW.fin
set_option linter.unusedVariables false
set_option linter.unusedSimpArgs false
def word (b : List UInt8) (i : Nat) : UInt32 := (b.getD (4 * i) 0).toUInt32 <<< UInt32.ofNat 24 ||| (b.getD (4 * i + 1) 0).toUInt32 <<< UInt32.ofNat 16 ||| (b.getD (4 * i + 2) 0).toUInt32 <<< UInt32.ofNat 8 ||| (b.getD (4 * i + 3) 0).toUInt32
def sch1 (b : List UInt8) : Nat → List UInt32
  | 0 => List.replicate 64 0
  | i + 1 => (sch1 b i).set i (word b i)
def mixw (p q r s : UInt32) : UInt32 := p + (ror q 7 ^^^ ror q 18 ^^^ q >>> UInt32.ofNat 3) + r + (ror s 17 ^^^ ror s 19 ^^^ s >>> UInt32.ofNat 10)
def sch2 (b : List UInt8) : Nat → List UInt32
  | 0 => sch1 b 16
  | i + 1 => (sch2 b i).set (16 + i) (mixw ((sch2 b i).getD i 0) ((sch2 b i).getD (i + 1) 0) ((sch2 b i).getD (i + 9) 0) ((sch2 b i).getD (i + 14) 0))
def rnd (k w : UInt32) (t : S8) : S8 :=
  let t1 := t.h + (ror t.e 6 ^^^ ror t.e 11 ^^^ ror t.e 25) + (t.e &&& t.f ^^^ ~~~t.e &&& t.g) + k + w
  let t2 := (ror t.a 2 ^^^ ror t.a 13 ^^^ ror t.a 22) + (t.a &&& t.b ^^^ t.a &&& t.c ^^^ t.b &&& t.c)
  ⟨t1 + t2, t.a, t.b, t.c, t.d + t1, t.e, t.f, t.g⟩
def rnds (ws : List UInt32) (s : S8) : Nat → S8
  | 0 => s
  | i + 1 => rnd (keysL.getD i 0) (ws.getD i 0) (rnds ws s i)
def S8.add (s t : S8) : S8 := ⟨s.a + t.a, s.b + t.b, s.c + t.c, s.d + t.d, s.e + t.e, s.f + t.f, s.g + t.g, s.h + t.h⟩
/-- the state behind a block -/
def block8 (s : S8) (b : List UInt8) : S8 := s.add (rnds (sch2 b 48) s 64)
theorem sch1_len (b : List UInt8) : ∀ i, (sch1 b i).length = 64
  | 0 => by simp [sch1]
  | i + 1 => by simp [sch1, sch1_len b i]
theorem sch2_len (b : List UInt8) : ∀ i, (sch2 b i).length = 64
  | 0 => sch1_len b 16
  | i + 1 => by simp [sch2, sch2_len b i]
theorem putL_U {l : List UInt32} {i : Nat} {x : UInt32} : putL (l.map U) (0 + i * 1) [U x] = (l.set i x).map U := by
  rw [Nat.zero_add, Nat.mul_one]
  show (l.map U).set i (U x) = _
  rw [List.map_set]
theorem get_U {l : List UInt32} {i : Nat} (h : i < l.length) : (l.map U)[i]? = some (U (l.getD i 0)) := by
  rw [List.getElem?_map, List.getElem?_eq_getElem h]; simp [List.getD, h]
theorem get_B {l : List UInt8} {i : Nat} (h : i < l.length) : (l.map B)[i]? = some (B (l.getD i 0)) := by
  rw [List.getElem?_map, List.getElem?_eq_getElem h]; simp [List.getD, h]
theorem byte_cell {w : World} {a : Option Addr} {b o : Nat} {bs : List UInt8} {j : Nat} (ha : a = some ⟨b, o, none⟩) (h : Rd w a (bs.map B)) (hj : j < bs.length) : w.cell? ⟨b, o + j * 1, none⟩ = some (B (bs.getD j 0)) := by
  obtain ⟨b', o', h1, h2⟩ := h j (B (bs.getD j 0)) (get_B hj)
  rw [ha] at h1; cases h1
  rw [Nat.mul_one]; exact h2
theorem byte_addr {w : World} {a : Option Addr} {bs : List UInt8} {j : Nat} (h : Rd w a (bs.map B)) (hj : j < bs.length) : ∃ b o, a = some ⟨b, o, none⟩ := by
  obtain ⟨b', o', h1, _⟩ := h j (B (bs.getD j 0)) (get_B hj)
  exact ⟨b', o', h1⟩
end Go.Proofs.YtfpmnhmdphaceaaDoor
namespace Go.Proofs.YtfpmnhmdphaceaaDoor
open Go.EW
attribute [local irreducible] EW.W EW.L EW.fin
set_option linter.unusedVariables false
set_option linter.unusedSimpArgs false
def S8.list (s : S8) : List UInt32 := [s.a, s.b, s.c, s.d, s.e, s.f, s.g, s.h]
def z8 : List Value := [.int .u32 0, .int .u32 0, .int .u32 0, .int .u32 0, .int .u32 0, .int .u32 0, .int .u32 0, .int .u32 0]
def addL (s t : S8) : Nat → List UInt32
  | 0 => s.list
  | i + 1 => (addL s t i).set i ((addL s t i).getD i 0 + t.list.getD i 0)
theorem addL_len (s t : S8) : ∀ i, (addL s t i).length = 8
  | 0 => rfl
  | i + 1 => by simp [addL, addL_len s t i]
theorem addL_8 (s t : S8) : addL s t 8 = (s.add t).list := rfl
theorem zeros64 : ((List.replicate 64 (0 : UInt32)).map U) = List.replicate 64 (.int .u32 0) := by simp [U]
set_option maxRecDepth 20000 in
set_option maxHeartbeats 2000000 in
theorem block_ok {W w : World} {F : List Seg} (H : St W w F) (s : S8) {a : Option Addr} {n cap : Nat} {bs : List UInt8} (hr : RdIn W F a (bs.map B)) (hl : bs.length = n) (hn : 64 ≤ n) {kb : Nat} (hk : RdIn W F (some ⟨kb, 0, none⟩) (keysL.map U)) :
    Ok Tryd.prog 148 [.agg s.cells.toArray, .slice a n cap, .pointer (some ⟨kb, 0, none⟩)].toArray w (fun v w' => v = .agg (block8 s bs).cells.toArray ∧ St W w' F) := by
  obtain ⟨b0, o0, ha⟩ := byte_addr (j := 0) (hr.use H 0 rfl) (by omega)
  obtain ⟨ws, hws⟩ : ∃ ws, ws = sch2 bs 48 := ⟨_, rfl⟩
  have hwl : ws.length = 64 := by rw [hws, sch2_len]
  obtain ⟨r8, hr8⟩ : ∃ r, r = rnds ws s 64 := ⟨_, rfl⟩
  have hb8 : block8 s bs = s.add r8 := by rw [hr8, hws]; rfl
  refine enter (n := 197) (rs := #[.cell 6 250]) Tryd.func148 rfl rfl rfl rfl ?_
  refine w_seq ?_
  refine w_region ?_
  refine b_box rfl rfl rfl H (fun b3 w H => ?_)
  refine b_alloc rfl ze_250 rfl H (fun b6 w H => ?_)
  refine l_nil ?_
  refine w_seq ?_
  refine w_region ?_
  refine b_alloc rfl ze_254 rfl H (fun b7 w H => ?_)
  refine l_nil ?_
  refine w_seq ?_
  refine w_seq ?_
  refine w_region ?_
  refine l_pint rfl rfl ?_
  refine l_nil ?_
  refine w_block ?_
  refine w_loopG (G := Nat) [8, 19, 20, 21, 22, 23, 24, 25, 26, 27, 28, 29, 30, 31, 32, 33, 34, 35, 36, 37, 38, 39, 40, 41, 42, 43, 44, 45, 46, 47, 48, 49, 50, 51, 52, 53, 54, 55, 56, 57] (fun i => [(19, .int .i64 ((i : Nat) : Int))]) (fun m i w => m + i = 16 ∧ St W w (blk b7 ((sch1 bs i).map U) 254 :: blk b6 z8 250 :: blk b3 s.cells 250 :: F)) (fun _ => rfl) ?_ ?_
  · refine ⟨16, 0, ⟨rfl, trivial⟩, rfl, ?_⟩
    rw [sch1, zeros64]; exact H
  rintro m i ρ1 w ⟨hi, H⟩
  refine w_seq ?_
  refine w_region ?_
  refine l_pbool rfl rfl ?_
  refine l_nil ?_
  refine w_seq ?_
  refine w_cond rfl (fun c1 => ?_) (fun c1 => ?_)
  · try simp only [decide_eq_true_eq, decide_eq_false_iff_not, Bool.not_eq_true', Bool.not_eq_false', beq_iff_eq, beq_eq_false_iff_ne, bne_iff_ne, bne_eq_false_iff_eq, ne_eq, Int.not_lt, Int.not_le] at c1
    refine w_skip ?_
    refine w_seq ?_
    refine w_block ?_
    refine w_seq ?_
    refine w_region ?_
    refine l_pint rfl rfl ?_
    refine l_pint rfl rfl ?_
    refine l_nil ?_
    refine w_drawT [35] [5, 13, 22, 31] [(0, 0), (1, 0), (2, 0), (3, 0), (4, 0), (5, 1), (6, 0), (7, 0), (8, 0), (9, 0), (10, 0), (11, 0), (12, 0), (13, 1), (14, 0), (15, 0), (16, 0), (17, 0), (18, 0), (19, 0), (20, 0), (21, 0), (22, 1), (23, 0), (24, 0), (25, 0), (26, 0), (27, 0), (28, 0), (29, 0), (30, 0), (31, 1), (32, 0), (33, 0), (34, 0), (35, 2)] mixed (by kernel_rfl) (fun _ _ _ h => fin_panic h) H (fun H => ?_)
    refine r_pint rfl rfl rfl ?_
    refine r_pslice rfl rfl rfl ?_
    refine r_pint rfl rfl rfl ?_
    first | refine r_w rfl rfl (fun w => q_mul rfl rfl rfl (by simp only [inK]; omega)) ?_ | refine r_pint rfl rfl rfl ?_
    refine r_w rfl rfl (fun w => q_indexSliceE (4 * i) rfl el_28 rfl ha rfl (by omega) (by omega)) ?_
    refine r_v rfl rfl (fun w hS => q_load1 rfl c1_5 rfl (byte_cell ha (hr.use hS 3 rfl) (by omega))) ?_
    refine r_w rfl rfl (fun w => q_byteU rfl rfl in_235 rfl) ?_
    refine r_w rfl rfl (fun w => q_pure (u_shl (n := 24) rfl rfl (by first | decide | omega))) ?_
    refine r_pslice rfl rfl rfl ?_
    refine r_pint rfl rfl rfl ?_
    first | refine r_w rfl rfl (fun w => q_mul rfl rfl rfl (by simp only [inK]; omega)) ?_ | refine r_pint rfl rfl rfl ?_
    first | refine r_w rfl rfl (fun w => q_add rfl rfl rfl (by simp only [inK]; omega)) ?_ | refine r_pint rfl rfl rfl ?_
    refine r_w rfl rfl (fun w => q_indexSliceE (4 * i + 1) rfl el_28 rfl ha rfl (by omega) (by omega)) ?_
    refine r_v rfl rfl (fun w hS => q_load1 rfl c1_5 rfl (byte_cell ha (hr.use hS 3 rfl) (by omega))) ?_
    refine r_w rfl rfl (fun w => q_byteU rfl rfl in_235 rfl) ?_
    refine r_w rfl rfl (fun w => q_pure (u_shl (n := 16) rfl rfl (by first | decide | omega))) ?_
    refine r_w rfl rfl (fun w => q_pure (u_or rfl rfl)) ?_
    refine r_pslice rfl rfl rfl ?_
    refine r_pint rfl rfl rfl ?_
    first | refine r_w rfl rfl (fun w => q_mul rfl rfl rfl (by simp only [inK]; omega)) ?_ | refine r_pint rfl rfl rfl ?_
    first | refine r_w rfl rfl (fun w => q_add rfl rfl rfl (by simp only [inK]; omega)) ?_ | refine r_pint rfl rfl rfl ?_
    refine r_w rfl rfl (fun w => q_indexSliceE (4 * i + 2) rfl el_28 rfl ha rfl (by omega) (by omega)) ?_
    refine r_v rfl rfl (fun w hS => q_load1 rfl c1_5 rfl (byte_cell ha (hr.use hS 3 rfl) (by omega))) ?_
    refine r_w rfl rfl (fun w => q_byteU rfl rfl in_235 rfl) ?_
    refine r_w rfl rfl (fun w => q_pure (u_shl (n := 8) rfl rfl (by first | decide | omega))) ?_
    refine r_w rfl rfl (fun w => q_pure (u_or rfl rfl)) ?_
    refine r_pslice rfl rfl rfl ?_
    refine r_pint rfl rfl rfl ?_
    first | refine r_w rfl rfl (fun w => q_mul rfl rfl rfl (by simp only [inK]; omega)) ?_ | refine r_pint rfl rfl rfl ?_
    first | refine r_w rfl rfl (fun w => q_add rfl rfl rfl (by simp only [inK]; omega)) ?_ | refine r_pint rfl rfl rfl ?_
    refine r_w rfl rfl (fun w => q_indexSliceE (4 * i + 3) rfl el_28 rfl ha rfl (by omega) (by omega)) ?_
    refine r_v rfl rfl (fun w hS => q_load1 rfl c1_5 rfl (byte_cell ha (hr.use hS 3 rfl) (by omega))) ?_
    refine r_w rfl rfl (fun w => q_byteU rfl rfl in_235 rfl) ?_
    refine r_w rfl rfl (fun w => q_pure (u_or rfl rfl)) ?_
    refine r_w rfl rfl (fun w => q_indexArrE i rfl ar_254 rfl rfl rfl (by omega)) ?_
    refine r_do rfl ?_
    first | refine b_store (vs := [U _]) rfl sz_235 rfl rfl rfl rfl rfl H 0 rfl (Nat.ble_eq_true_of_le (by simp only [List.length_map, sch1_len, sch2_len, addL_len, List.length_cons, List.length_nil]; omega)) putL_U (fun w H => ?_) | refine b_store (vs := [U _]) rfl sz_235 rfl rfl rfl rfl rfl H 3 rfl (Nat.ble_eq_true_of_le (by simp only [List.length_map, sch1_len, sch2_len, addL_len, List.length_cons, List.length_nil]; omega)) putL_U (fun w H => ?_)
    refine l_nil ⟨(fun h => nomatch h), ?_⟩
    refine r_nil ?_
    refine w_region ?_
    first | refine l_v rfl (q_add rfl rfl rfl (by simp only [inK]; omega)) ?_ | refine l_pint rfl rfl ?_
    refine l_pint rfl rfl ?_
    refine l_nil ?_
    refine ⟨by repeat' first | exact Agr.mix _ _ _ | exact Agr.refl _ _ | refine Agr.inner rfl ?_ | refine Agr.upd rfl ?_ | refine Agr.updL' rfl ?_, ?_⟩
    exact ⟨m - 1, i + 1, by omega, ⟨by exact congrArg (Value.int IntKind.i64) (Int.natCast_succ i).symm, trivial⟩, by omega, H⟩
  try simp only [decide_eq_true_eq, decide_eq_false_iff_not, Bool.not_eq_true', Bool.not_eq_false', beq_iff_eq, beq_eq_false_iff_ne, bne_iff_ne, bne_eq_false_iff_eq, ne_eq, Int.not_lt, Int.not_le] at c1
  refine w_exit ?_
  refine w_seq ?_
  refine w_seq ?_
  refine w_region ?_
  refine l_pint rfl rfl ?_
  refine l_nil ?_
  refine w_block ?_
  refine w_loopG (G := Nat) [9, 10, 11, 58, 59, 60, 61, 62, 63, 64, 65, 66, 67, 68, 69, 70, 71, 72, 73, 74, 75, 76, 77, 78, 79, 80, 81, 82, 83, 84, 85, 86, 87, 88, 89, 90, 91, 92, 93, 94, 95, 96, 97, 98] (fun i => [(9, .int .i64 ((16 + i : Nat) : Int))]) (fun m i w => m + i = 48 ∧ St W w (blk b7 ((sch2 bs i).map U) 254 :: blk b6 z8 250 :: blk b3 s.cells 250 :: F)) (fun _ => rfl) ?_ ?_
  · obtain rfl : i = 16 := by omega
    exact ⟨48, 0, ⟨rfl, trivial⟩, rfl, H⟩
  rintro m i ρ1 w ⟨hi, H⟩
  refine w_seq ?_
  refine w_seq ?_
  refine w_region ?_
  refine l_pint rfl rfl ?_
  refine l_pbool rfl rfl ?_
  refine l_nil ?_
  refine w_cond rfl (fun c2 => ?_) (fun c2 => ?_)
  · try simp only [decide_eq_true_eq, decide_eq_false_iff_not, Bool.not_eq_true', Bool.not_eq_false', beq_iff_eq, beq_eq_false_iff_ne, bne_iff_ne, bne_eq_false_iff_eq, ne_eq, Int.not_lt, Int.not_le] at c2
    refine w_skip ?_
    refine w_seq ?_
    refine w_block ?_
    refine w_seq ?_
    refine w_drawT [] [3, 7] [(0, 0), (1, 0), (2, 0), (3, 1), (4, 0), (5, 0), (6, 0), (7, 1), (8, 0), (9, 0)] mixed (by kernel_rfl) (fun _ _ _ h => fin_panic h) H (fun H => ?_)
    refine r_pint rfl rfl rfl ?_
    first | refine r_w rfl rfl (fun w => q_sub rfl rfl rfl (by simp only [inK]; omega)) ?_ | refine r_pint rfl rfl rfl ?_
    refine r_w rfl rfl (fun w => q_indexArrE (i + 1) rfl ar_254 rfl rfl (by omega) (by omega)) ?_
    refine r_v rfl rfl (fun w hS => q_load1 rfl c1_235 rfl (arr_cell (hS.cells 0 rfl) (by rw [sch2_len]; omega))) ?_
    refine r_pint rfl rfl rfl ?_
    first | refine r_w rfl rfl (fun w => q_sub rfl rfl rfl (by simp only [inK]; omega)) ?_ | refine r_pint rfl rfl rfl ?_
    refine r_w rfl rfl (fun w => q_indexArrE (i + 14) rfl ar_254 rfl rfl (by omega) (by omega)) ?_
    refine r_v rfl rfl (fun w hS => q_load1 rfl c1_235 rfl (arr_cell (hS.cells 0 rfl) (by rw [sch2_len]; omega))) ?_
    first | refine r_p (v := U _) rfl rfl rfl ?_ | refine r_pint rfl rfl rfl ?_
    first | refine r_p (v := U _) rfl rfl rfl ?_ | refine r_pint rfl rfl rfl ?_
    refine r_nil ?_
    refine w_drawT [29] [4, 17] [(0, 0), (1, 0), (2, 0), (3, 0), (4, 1), (5, 0), (7, 0), (10, 0), (11, 0), (14, 0), (15, 0), (16, 0), (17, 1), (19, 0), (21, 0), (24, 0), (25, 0), (6, 2), (8, 2), (9, 0), (12, 0), (13, 0), (18, 0), (20, 2), (22, 2), (23, 0), (26, 0), (27, 0), (28, 0), (29, 2)] mixed (by kernel_rfl) (fun _ _ _ h => fin_panic h) H (fun H => ?_)
    refine r_pint rfl rfl rfl ?_
    refine r_pint rfl rfl rfl ?_
    first | refine r_w rfl rfl (fun w => q_sub rfl rfl rfl (by simp only [inK]; omega)) ?_ | refine r_pint rfl rfl rfl ?_
    refine r_w rfl rfl (fun w => q_indexArrE (i) rfl ar_254 rfl rfl (by omega) (by omega)) ?_
    refine r_v rfl rfl (fun w hS => q_load1 rfl c1_235 rfl (arr_cell (hS.cells 0 rfl) (by rw [sch2_len]; omega))) ?_
    first | refine r_p (v := U _) rfl rfl rfl ?_ | refine r_pint rfl rfl rfl ?_
    first | refine r_p (v := U _) rfl rfl rfl ?_ | refine r_pint rfl rfl rfl ?_
    first | refine r_p (v := U _) rfl rfl rfl ?_ | refine r_pint rfl rfl rfl ?_
    refine r_w rfl rfl (fun w => q_pure (u_shr (n := 3) rfl rfl (by first | decide | omega))) ?_
    refine r_pint rfl rfl rfl ?_
    first | refine r_w rfl rfl (fun w => q_sub rfl rfl rfl (by simp only [inK]; omega)) ?_ | refine r_pint rfl rfl rfl ?_
    refine r_w rfl rfl (fun w => q_indexArrE (i + 9) rfl ar_254 rfl rfl (by omega) (by omega)) ?_
    refine r_v rfl rfl (fun w hS => q_load1 rfl c1_235 rfl (arr_cell (hS.cells 0 rfl) (by rw [sch2_len]; omega))) ?_
    first | refine r_p (v := U _) rfl rfl rfl ?_ | refine r_pint rfl rfl rfl ?_
    first | refine r_p (v := U _) rfl rfl rfl ?_ | refine r_pint rfl rfl rfl ?_
    first | refine r_p (v := U _) rfl rfl rfl ?_ | refine r_pint rfl rfl rfl ?_
    refine r_w rfl rfl (fun w => q_pure (u_shr (n := 10) rfl rfl (by first | decide | omega))) ?_
    refine r_do rfl ?_
    refine b_call rfl cb_152 rfl (ror_ok H _ (n := 7) (by omega)) (fun v w hv => ?_)
    obtain ⟨rfl, H⟩ := hv
    refine l_nil ⟨fun _ _ => H, ?_⟩
    refine r_do rfl ?_
    refine b_call rfl cb_152 rfl (ror_ok H _ (n := 18) (by omega)) (fun v w hv => ?_)
    obtain ⟨rfl, H⟩ := hv
    refine l_nil ⟨fun _ _ => H, ?_⟩
    refine r_w rfl rfl (fun w => q_pure (u_xor rfl rfl)) ?_
    refine r_w rfl rfl (fun w => q_pure (u_xor rfl rfl)) ?_
    refine r_w rfl rfl (fun w => q_pure (u_add rfl rfl)) ?_
    refine r_w rfl rfl (fun w => q_pure (u_add rfl rfl)) ?_
    refine r_do rfl ?_
    refine b_call rfl cb_152 rfl (ror_ok H _ (n := 17) (by omega)) (fun v w hv => ?_)
    obtain ⟨rfl, H⟩ := hv
    refine l_nil ⟨fun _ _ => H, ?_⟩
    refine r_do rfl ?_
    refine b_call rfl cb_152 rfl (ror_ok H _ (n := 19) (by omega)) (fun v w hv => ?_)
    obtain ⟨rfl, H⟩ := hv
    refine l_nil ⟨fun _ _ => H, ?_⟩
    refine r_w rfl rfl (fun w => q_pure (u_xor rfl rfl)) ?_
    refine r_w rfl rfl (fun w => q_pure (u_xor rfl rfl)) ?_
    refine r_w rfl rfl (fun w => q_pure (u_add rfl rfl)) ?_
    refine r_w rfl rfl (fun w => q_indexArrE (16 + i) rfl ar_254 rfl rfl rfl (by omega)) ?_
    refine r_do rfl ?_
    first | refine b_store (vs := [U _]) rfl sz_235 rfl rfl rfl rfl rfl H 0 rfl (Nat.ble_eq_true_of_le (by simp only [List.length_map, sch1_len, sch2_len, addL_len, List.length_cons, List.length_nil]; omega)) putL_U (fun w H => ?_) | refine b_store (vs := [U _]) rfl sz_235 rfl rfl rfl rfl rfl H 3 rfl (Nat.ble_eq_true_of_le (by simp only [List.length_map, sch1_len, sch2_len, addL_len, List.length_cons, List.length_nil]; omega)) putL_U (fun w H => ?_)
    refine l_nil ⟨(fun h => nomatch h), ?_⟩
    refine r_nil ?_
    refine w_region ?_
    refine l_pint rfl rfl ?_
    first | refine l_v rfl (q_add rfl rfl rfl (by simp only [inK]; omega)) ?_ | refine l_pint rfl rfl ?_
    refine l_pint rfl rfl ?_
    refine l_nil ?_
    refine ⟨by repeat' first | exact Agr.mix _ _ _ | exact Agr.refl _ _ | refine Agr.inner rfl ?_ | refine Agr.upd rfl ?_ | refine Agr.updL' rfl ?_, ?_⟩
    exact ⟨m - 1, i + 1, by omega, ⟨by exact congrArg (Value.int IntKind.i64) (by omega), trivial⟩, by omega, H⟩
  try simp only [decide_eq_true_eq, decide_eq_false_iff_not, Bool.not_eq_true', Bool.not_eq_false', beq_iff_eq, beq_eq_false_iff_ne, bne_iff_ne, bne_eq_false_iff_eq, ne_eq, Int.not_lt, Int.not_le] at c2
  refine w_exit ?_
  refine w_seq ?_
  refine w_region ?_
  refine l_v rfl (q_loadN (vs := [_, _, _, _, _, _, _, _]) rfl ag_250 rfl rfl (by first | exact H.cells 0 rfl | exact H.cells 1 rfl | exact H.cells 2 rfl | exact H.cells 3 rfl | exact H.cells 4 rfl)) ?_
  refine b_alloc rfl ze_250 rfl H (fun b12 w H => ?_)
  first | refine b_store (cs' := [_, _, _, _, _, _, _, _]) rfl sz_250 rfl rfl rfl rfl rfl H 0 rfl rfl rfl (fun w H => ?_) | refine b_store (cs' := [_, _, _, _, _, _, _, _]) rfl sz_250 rfl rfl rfl rfl rfl H 1 rfl rfl rfl (fun w H => ?_) | refine b_store (cs' := [_, _, _, _, _, _, _, _]) rfl sz_250 rfl rfl rfl rfl rfl H 2 rfl rfl rfl (fun w H => ?_) | refine b_store (cs' := [_, _, _, _, _, _, _, _]) rfl sz_250 rfl rfl rfl rfl rfl H 3 rfl rfl rfl (fun w H => ?_) | refine b_store (cs' := [_, _, _, _, _, _, _, _]) rfl sz_250 rfl rfl rfl rfl rfl H 4 rfl rfl rfl (fun w H => ?_)
  refine l_nil ?_
  refine w_seq ?_
  refine w_seq ?_
  refine w_region ?_
  refine l_pint rfl rfl ?_
  refine l_nil ?_
  refine w_block ?_
  refine w_loopG (G := Nat) [13, 14, 15, 16, 17, 100, 101, 102, 103, 104, 105, 106, 107, 108, 109, 110, 111, 112, 113, 114, 115, 116, 117, 118, 119, 120, 121, 122, 123, 124, 125, 126, 127, 128, 129, 130, 131, 132, 133, 134, 135, 136, 137, 138, 139, 140, 141, 142, 143, 144, 145, 146, 147, 148, 149, 150, 151, 152, 153, 154, 155, 156, 157, 158, 159, 160, 161, 162, 163, 164, 165, 166, 167, 168, 169, 170, 171, 172, 173, 174, 175, 176, 177, 178, 179, 180, 181, 182, 183] (fun i => [(100, .int .i64 ((i : Nat) : Int))]) (fun m i w => m + i = 64 ∧ St W w (blk b12 (rnds ws s i).cells 250 :: blk b7 (ws.map U) 254 :: blk b6 z8 250 :: blk b3 s.cells 250 :: F)) (fun _ => rfl) ?_ ?_
  · obtain rfl : i = 48 := by omega
    rw [← hws] at H
    exact ⟨64, 0, ⟨rfl, trivial⟩, rfl, H⟩
  rintro m i ρ1 w ⟨hi, H⟩
  refine w_seq ?_
  refine w_region ?_
  refine l_pbool rfl rfl ?_
  refine l_nil ?_
  refine w_seq ?_
  refine w_cond rfl (fun c3 => ?_) (fun c3 => ?_)
  · try simp only [decide_eq_true_eq, decide_eq_false_iff_not, Bool.not_eq_true', Bool.not_eq_false', beq_iff_eq, beq_eq_false_iff_ne, bne_iff_ne, bne_eq_false_iff_eq, ne_eq, Int.not_lt, Int.not_le] at c3
    refine w_skip ?_
    refine w_seq ?_
    refine w_block ?_
    refine w_seq ?_
    refine w_region ?_
    refine l_pint rfl rfl ?_
    refine l_pint rfl rfl ?_
    refine l_nil ?_
    refine w_seq ?_
    refine w_drawT [] [1, 3] [(0, 0), (1, 1), (2, 0), (3, 1), (4, 0), (5, 0)] mixed (by kernel_rfl) (fun _ _ _ h => fin_panic h) H (fun H => ?_)
    first | refine r_w rfl rfl (fun w => q_indexArrN rfl ar_250 rfl rfl (by omega)) ?_ | refine r_w rfl rfl (fun w => q_indexArr rfl ar_250 rfl rfl ⟨by omega, by omega⟩) ?_
    refine r_v rfl rfl (fun w hS => q_load1 rfl c1_235 rfl (by first | exact hS.cell 0 rfl rfl | exact hS.cell 1 rfl rfl | exact hS.cell 2 rfl rfl | exact hS.cell 3 rfl rfl | exact hS.cell 4 rfl rfl)) ?_
    first | refine r_w rfl rfl (fun w => q_indexArrN rfl ar_250 rfl rfl (by omega)) ?_ | refine r_w rfl rfl (fun w => q_indexArr rfl ar_250 rfl rfl ⟨by omega, by omega⟩) ?_
    refine r_v rfl rfl (fun w hS => q_load1 rfl c1_235 rfl (by first | exact hS.cell 0 rfl rfl | exact hS.cell 1 rfl rfl | exact hS.cell 2 rfl rfl | exact hS.cell 3 rfl rfl | exact hS.cell 4 rfl rfl)) ?_
    first | refine r_p (v := U _) rfl rfl rfl ?_ | refine r_pint rfl rfl rfl ?_
    first | refine r_p (v := U _) rfl rfl rfl ?_ | refine r_pint rfl rfl rfl ?_
    refine r_nil ?_
    refine w_seq ?_
    refine w_drawT [] [1, 13, 18, 26, 30] [(0, 0), (1, 1), (2, 0), (4, 0), (7, 0), (11, 0), (12, 0), (13, 1), (14, 0), (15, 0), (16, 0), (17, 0), (18, 1), (19, 0), (20, 0), (22, 0), (23, 0), (24, 0), (25, 0), (26, 1), (28, 0), (29, 0), (30, 1), (3, 2), (5, 2), (6, 0), (8, 2), (9, 0), (10, 0), (21, 0), (27, 0), (31, 0), (32, 0)] mixed (by kernel_rfl) (fun _ _ _ h => fin_panic h) H (fun H => ?_)
    first | refine r_w rfl rfl (fun w => q_indexArrN rfl ar_250 rfl rfl (by omega)) ?_ | refine r_w rfl rfl (fun w => q_indexArr rfl ar_250 rfl rfl ⟨by omega, by omega⟩) ?_
    refine r_v rfl rfl (fun w hS => q_load1 rfl c1_235 rfl (by first | exact hS.cell 0 rfl rfl | exact hS.cell 1 rfl rfl | exact hS.cell 2 rfl rfl | exact hS.cell 3 rfl rfl | exact hS.cell 4 rfl rfl)) ?_
    first | refine r_p (v := U _) rfl rfl rfl ?_ | refine r_pint rfl rfl rfl ?_
    first | refine r_p (v := U _) rfl rfl rfl ?_ | refine r_pint rfl rfl rfl ?_
    first | refine r_p (v := U _) rfl rfl rfl ?_ | refine r_pint rfl rfl rfl ?_
    first | refine r_p (v := U _) rfl rfl rfl ?_ | refine r_pint rfl rfl rfl ?_
    first | refine r_w rfl rfl (fun w => q_indexArrN rfl ar_250 rfl rfl (by omega)) ?_ | refine r_w rfl rfl (fun w => q_indexArr rfl ar_250 rfl rfl ⟨by omega, by omega⟩) ?_
    refine r_v rfl rfl (fun w hS => q_load1 rfl c1_235 rfl (by first | exact hS.cell 0 rfl rfl | exact hS.cell 1 rfl rfl | exact hS.cell 2 rfl rfl | exact hS.cell 3 rfl rfl | exact hS.cell 4 rfl rfl)) ?_
    refine r_w rfl rfl (fun w => q_pure (u_and rfl rfl)) ?_
    first | refine r_p (v := U _) rfl rfl rfl ?_ | refine r_pint rfl rfl rfl ?_
    refine r_w rfl rfl (fun w => q_pure (u_not rfl)) ?_
    first | refine r_w rfl rfl (fun w => q_indexArrN rfl ar_250 rfl rfl (by omega)) ?_ | refine r_w rfl rfl (fun w => q_indexArr rfl ar_250 rfl rfl ⟨by omega, by omega⟩) ?_
    refine r_v rfl rfl (fun w hS => q_load1 rfl c1_235 rfl (by first | exact hS.cell 0 rfl rfl | exact hS.cell 1 rfl rfl | exact hS.cell 2 rfl rfl | exact hS.cell 3 rfl rfl | exact hS.cell 4 rfl rfl)) ?_
    refine r_w rfl rfl (fun w => q_pure (u_and rfl rfl)) ?_
    refine r_w rfl rfl (fun w => q_pure (u_xor rfl rfl)) ?_
    refine r_pptr rfl rfl rfl ?_
    refine r_pint rfl rfl rfl ?_
    refine r_pptr rfl rfl rfl ?_
    refine r_w rfl rfl (fun w => q_indexArrE (i) rfl ar_254 rfl rfl (by omega) (by omega)) ?_
    refine r_v rfl rfl (fun w hS => q_load1 rfl c1_235 rfl (arr_cell (hk.use hS 4 rfl).cells (by show i < 64; omega))) ?_
    refine r_pint rfl rfl rfl ?_
    refine r_w rfl rfl (fun w => q_indexArrE (i) rfl ar_254 rfl rfl (by omega) (by omega)) ?_
    refine r_v rfl rfl (fun w hS => q_load1 rfl c1_235 rfl (arr_cell (hS.cells 1 rfl) (by omega))) ?_
    refine r_do rfl ?_
    refine b_call rfl cb_152 rfl (ror_ok H _ (n := 6) (by omega)) (fun v w hv => ?_)
    obtain ⟨rfl, H⟩ := hv
    refine l_nil ⟨fun _ _ => H, ?_⟩
    refine r_do rfl ?_
    refine b_call rfl cb_152 rfl (ror_ok H _ (n := 11) (by omega)) (fun v w hv => ?_)
    obtain ⟨rfl, H⟩ := hv
    refine l_nil ⟨fun _ _ => H, ?_⟩
    refine r_w rfl rfl (fun w => q_pure (u_xor rfl rfl)) ?_
    refine r_do rfl ?_
    refine b_call rfl cb_152 rfl (ror_ok H _ (n := 25) (by omega)) (fun v w hv => ?_)
    obtain ⟨rfl, H⟩ := hv
    refine l_nil ⟨fun _ _ => H, ?_⟩
    refine r_w rfl rfl (fun w => q_pure (u_xor rfl rfl)) ?_
    refine r_w rfl rfl (fun w => q_pure (u_add rfl rfl)) ?_
    refine r_w rfl rfl (fun w => q_pure (u_add rfl rfl)) ?_
    refine r_w rfl rfl (fun w => q_pure (u_add rfl rfl)) ?_
    refine r_w rfl rfl (fun w => q_pure (u_add rfl rfl)) ?_
    first | refine r_p (v := U _) rfl rfl rfl ?_ | refine r_pint rfl rfl rfl ?_
    refine r_nil ?_
    refine w_seq ?_
    refine w_drawT [] [10, 14, 18, 20] [(0, 0), (2, 0), (5, 0), (8, 0), (9, 0), (10, 1), (11, 0), (12, 0), (13, 0), (14, 1), (15, 0), (16, 0), (17, 0), (18, 1), (19, 0), (20, 1), (21, 0), (22, 0), (1, 2), (3, 2), (4, 0), (6, 2), (7, 0), (23, 0), (24, 0)] mixed (by kernel_rfl) (fun _ _ _ h => fin_panic h) H (fun H => ?_)
    first | refine r_p (v := U _) rfl rfl rfl ?_ | refine r_pint rfl rfl rfl ?_
    first | refine r_p (v := U _) rfl rfl rfl ?_ | refine r_pint rfl rfl rfl ?_
    first | refine r_p (v := U _) rfl rfl rfl ?_ | refine r_pint rfl rfl rfl ?_
    first | refine r_p (v := U _) rfl rfl rfl ?_ | refine r_pint rfl rfl rfl ?_
    first | refine r_w rfl rfl (fun w => q_indexArrN rfl ar_250 rfl rfl (by omega)) ?_ | refine r_w rfl rfl (fun w => q_indexArr rfl ar_250 rfl rfl ⟨by omega, by omega⟩) ?_
    refine r_v rfl rfl (fun w hS => q_load1 rfl c1_235 rfl (by first | exact hS.cell 0 rfl rfl | exact hS.cell 1 rfl rfl | exact hS.cell 2 rfl rfl | exact hS.cell 3 rfl rfl | exact hS.cell 4 rfl rfl)) ?_
    refine r_w rfl rfl (fun w => q_pure (u_and rfl rfl)) ?_
    first | refine r_p (v := U _) rfl rfl rfl ?_ | refine r_pint rfl rfl rfl ?_
    first | refine r_w rfl rfl (fun w => q_indexArrN rfl ar_250 rfl rfl (by omega)) ?_ | refine r_w rfl rfl (fun w => q_indexArr rfl ar_250 rfl rfl ⟨by omega, by omega⟩) ?_
    refine r_v rfl rfl (fun w hS => q_load1 rfl c1_235 rfl (by first | exact hS.cell 0 rfl rfl | exact hS.cell 1 rfl rfl | exact hS.cell 2 rfl rfl | exact hS.cell 3 rfl rfl | exact hS.cell 4 rfl rfl)) ?_
    refine r_w rfl rfl (fun w => q_pure (u_and rfl rfl)) ?_
    refine r_w rfl rfl (fun w => q_pure (u_xor rfl rfl)) ?_
    first | refine r_w rfl rfl (fun w => q_indexArrN rfl ar_250 rfl rfl (by omega)) ?_ | refine r_w rfl rfl (fun w => q_indexArr rfl ar_250 rfl rfl ⟨by omega, by omega⟩) ?_
    refine r_v rfl rfl (fun w hS => q_load1 rfl c1_235 rfl (by first | exact hS.cell 0 rfl rfl | exact hS.cell 1 rfl rfl | exact hS.cell 2 rfl rfl | exact hS.cell 3 rfl rfl | exact hS.cell 4 rfl rfl)) ?_
    first | refine r_w rfl rfl (fun w => q_indexArrN rfl ar_250 rfl rfl (by omega)) ?_ | refine r_w rfl rfl (fun w => q_indexArr rfl ar_250 rfl rfl ⟨by omega, by omega⟩) ?_
    refine r_v rfl rfl (fun w hS => q_load1 rfl c1_235 rfl (by first | exact hS.cell 0 rfl rfl | exact hS.cell 1 rfl rfl | exact hS.cell 2 rfl rfl | exact hS.cell 3 rfl rfl | exact hS.cell 4 rfl rfl)) ?_
    refine r_w rfl rfl (fun w => q_pure (u_and rfl rfl)) ?_
    refine r_w rfl rfl (fun w => q_pure (u_xor rfl rfl)) ?_
    refine r_do rfl ?_
    refine b_call rfl cb_152 rfl (ror_ok H _ (n := 2) (by omega)) (fun v w hv => ?_)
    obtain ⟨rfl, H⟩ := hv
    refine l_nil ⟨fun _ _ => H, ?_⟩
    refine r_do rfl ?_
    refine b_call rfl cb_152 rfl (ror_ok H _ (n := 13) (by omega)) (fun v w hv => ?_)
    obtain ⟨rfl, H⟩ := hv
    refine l_nil ⟨fun _ _ => H, ?_⟩
    refine r_w rfl rfl (fun w => q_pure (u_xor rfl rfl)) ?_
    refine r_do rfl ?_
    refine b_call rfl cb_152 rfl (ror_ok H _ (n := 22) (by omega)) (fun v w hv => ?_)
    obtain ⟨rfl, H⟩ := hv
    refine l_nil ⟨fun _ _ => H, ?_⟩
    refine r_w rfl rfl (fun w => q_pure (u_xor rfl rfl)) ?_
    refine r_w rfl rfl (fun w => q_pure (u_add rfl rfl)) ?_
    first | refine r_p (v := U _) rfl rfl rfl ?_ | refine r_pint rfl rfl rfl ?_
    refine r_nil ?_
    refine w_region ?_
    first | refine l_p (v := U _) rfl rfl ?_ | refine l_pint rfl rfl ?_
    first | refine l_p (v := U _) rfl rfl ?_ | refine l_pint rfl rfl ?_
    refine l_v rfl (q_pure (u_add rfl rfl)) ?_
    first | refine l_v rfl (q_indexArrN rfl ar_250 rfl rfl (by omega)) ?_ | refine l_v rfl (q_indexArr rfl ar_250 rfl rfl ⟨by omega, by omega⟩) ?_
    refine l_v rfl (q_load1 rfl c1_235 rfl (by first | exact H.cell 0 rfl rfl | exact H.cell 1 rfl rfl | exact H.cell 2 rfl rfl | exact H.cell 3 rfl rfl | exact H.cell 4 rfl rfl)) ?_
    first | refine l_v rfl (q_indexArrN rfl ar_250 rfl rfl (by omega)) ?_ | refine l_v rfl (q_indexArr rfl ar_250 rfl rfl ⟨by omega, by omega⟩) ?_
    refine l_v rfl (q_load1 rfl c1_235 rfl (by first | exact H.cell 0 rfl rfl | exact H.cell 1 rfl rfl | exact H.cell 2 rfl rfl | exact H.cell 3 rfl rfl | exact H.cell 4 rfl rfl)) ?_
    first | refine l_v rfl (q_indexArrN rfl ar_250 rfl rfl (by omega)) ?_ | refine l_v rfl (q_indexArr rfl ar_250 rfl rfl ⟨by omega, by omega⟩) ?_
    refine l_v rfl (q_load1 rfl c1_235 rfl (by first | exact H.cell 0 rfl rfl | exact H.cell 1 rfl rfl | exact H.cell 2 rfl rfl | exact H.cell 3 rfl rfl | exact H.cell 4 rfl rfl)) ?_
    first | refine l_v rfl (q_indexArrN rfl ar_250 rfl rfl (by omega)) ?_ | refine l_v rfl (q_indexArr rfl ar_250 rfl rfl ⟨by omega, by omega⟩) ?_
    refine l_v rfl (q_load1 rfl c1_235 rfl (by first | exact H.cell 0 rfl rfl | exact H.cell 1 rfl rfl | exact H.cell 2 rfl rfl | exact H.cell 3 rfl rfl | exact H.cell 4 rfl rfl)) ?_
    first | refine l_p (v := U _) rfl rfl ?_ | refine l_pint rfl rfl ?_
    refine l_v rfl (q_pure (u_add rfl rfl)) ?_
    first | refine l_v rfl (q_indexArrN rfl ar_250 rfl rfl (by omega)) ?_ | refine l_v rfl (q_indexArr rfl ar_250 rfl rfl ⟨by omega, by omega⟩) ?_
    refine l_v rfl (q_load1 rfl c1_235 rfl (by first | exact H.cell 0 rfl rfl | exact H.cell 1 rfl rfl | exact H.cell 2 rfl rfl | exact H.cell 3 rfl rfl | exact H.cell 4 rfl rfl)) ?_
    first | refine l_v rfl (q_indexArrN rfl ar_250 rfl rfl (by omega)) ?_ | refine l_v rfl (q_indexArr rfl ar_250 rfl rfl ⟨by omega, by omega⟩) ?_
    refine l_v rfl (q_load1 rfl c1_235 rfl (by first | exact H.cell 0 rfl rfl | exact H.cell 1 rfl rfl | exact H.cell 2 rfl rfl | exact H.cell 3 rfl rfl | exact H.cell 4 rfl rfl)) ?_
    first | refine l_v rfl (q_indexArrN rfl ar_250 rfl rfl (by omega)) ?_ | refine l_v rfl (q_indexArr rfl ar_250 rfl rfl ⟨by omega, by omega⟩) ?_
    refine l_v rfl (q_load1 rfl c1_235 rfl (by first | exact H.cell 0 rfl rfl | exact H.cell 1 rfl rfl | exact H.cell 2 rfl rfl | exact H.cell 3 rfl rfl | exact H.cell 4 rfl rfl)) ?_
    refine l_v rfl (q_buildArr (cs := [U _, U _, U _, U _, U _, U _, U _, U _]) rfl ar_250 ze_250 rfl) ?_
    first | refine b_store (cs' := [_, _, _, _, _, _, _, _]) rfl sz_250 rfl rfl rfl rfl rfl H 0 rfl rfl rfl (fun w H => ?_) | refine b_store (cs' := [_, _, _, _, _, _, _, _]) rfl sz_250 rfl rfl rfl rfl rfl H 1 rfl rfl rfl (fun w H => ?_) | refine b_store (cs' := [_, _, _, _, _, _, _, _]) rfl sz_250 rfl rfl rfl rfl rfl H 2 rfl rfl rfl (fun w H => ?_) | refine b_store (cs' := [_, _, _, _, _, _, _, _]) rfl sz_250 rfl rfl rfl rfl rfl H 3 rfl rfl rfl (fun w H => ?_) | refine b_store (cs' := [_, _, _, _, _, _, _, _]) rfl sz_250 rfl rfl rfl rfl rfl H 4 rfl rfl rfl (fun w H => ?_)
    refine l_nil ?_
    refine w_region ?_
    first | refine l_v rfl (q_add rfl rfl rfl (by simp only [inK]; omega)) ?_ | refine l_pint rfl rfl ?_
    refine l_pint rfl rfl ?_
    refine l_nil ?_
    refine ⟨by repeat' first | exact Agr.mix _ _ _ | exact Agr.refl _ _ | refine Agr.inner rfl ?_ | refine Agr.upd rfl ?_ | refine Agr.updL' rfl ?_, ?_⟩
    exact ⟨m - 1, i + 1, by omega, ⟨by exact congrArg (Value.int IntKind.i64) (Int.natCast_succ i).symm, trivial⟩, by omega, H⟩
  try simp only [decide_eq_true_eq, decide_eq_false_iff_not, Bool.not_eq_true', Bool.not_eq_false', beq_iff_eq, beq_eq_false_iff_ne, bne_iff_ne, bne_eq_false_iff_eq, ne_eq, Int.not_lt, Int.not_le] at c3
  refine w_exit ?_
  refine w_seq ?_
  refine w_seq ?_
  refine w_region ?_
  refine l_pint rfl rfl ?_
  refine l_nil ?_
  refine w_block ?_
  refine w_loopG (G := Nat) [18, 184, 185, 186, 187, 188, 189, 190, 191, 192, 193, 194, 195] (fun i => [(184, .int .i64 ((i : Nat) : Int))]) (fun m i w => m + i = 8 ∧ St W w (blk b12 (r8.list.map U) 250 :: blk b7 (ws.map U) 254 :: blk b6 z8 250 :: blk b3 ((addL s r8 i).map U) 250 :: F)) (fun _ => rfl) ?_ ?_
  · obtain rfl : i = 64 := by omega
    rw [← hr8] at H
    exact ⟨8, 0, ⟨rfl, trivial⟩, rfl, H⟩
  rintro m i ρ1 w ⟨hi, H⟩
  refine w_seq ?_
  refine w_region ?_
  refine l_pbool rfl rfl ?_
  refine l_nil ?_
  refine w_seq ?_
  refine w_cond rfl (fun c4 => ?_) (fun c4 => ?_)
  · try simp only [decide_eq_true_eq, decide_eq_false_iff_not, Bool.not_eq_true', Bool.not_eq_false', beq_iff_eq, beq_eq_false_iff_ne, bne_iff_ne, bne_eq_false_iff_eq, ne_eq, Int.not_lt, Int.not_le] at c4
    refine w_skip ?_
    refine w_seq ?_
    refine w_block ?_
    refine w_seq ?_
    refine w_region ?_
    refine l_pint rfl rfl ?_
    refine l_pint rfl rfl ?_
    refine l_nil ?_
    refine w_drawT [8] [2, 5] [(0, 0), (1, 0), (2, 1), (3, 0), (4, 0), (5, 1), (6, 0), (7, 0), (8, 2)] mixed (by kernel_rfl) (fun _ _ _ h => fin_panic h) H (fun H => ?_)
    refine r_pint rfl rfl rfl ?_
    refine r_w rfl rfl (fun w => q_indexArrE i rfl ar_250 rfl rfl rfl (by omega)) ?_
    refine r_v rfl rfl (fun w hS => q_load1 rfl c1_235 rfl (arr_cell (hS.cells 3 rfl) (by rw [addL_len]; omega))) ?_
    refine r_pint rfl rfl rfl ?_
    refine r_w rfl rfl (fun w => q_indexArrE i rfl ar_250 rfl rfl rfl (by omega)) ?_
    refine r_v rfl rfl (fun w hS => q_load1 rfl c1_235 rfl (arr_cell (hS.cells 0 rfl) (by show i < 8; omega))) ?_
    refine r_w rfl rfl (fun w => q_pure (u_add rfl rfl)) ?_
    refine r_w rfl rfl (fun w => q_indexArrE i rfl ar_250 rfl rfl rfl (by omega)) ?_
    refine r_do rfl ?_
    first | refine b_store (vs := [U _]) rfl sz_235 rfl rfl rfl rfl rfl H 0 rfl (Nat.ble_eq_true_of_le (by simp only [List.length_map, sch1_len, sch2_len, addL_len, List.length_cons, List.length_nil]; omega)) putL_U (fun w H => ?_) | refine b_store (vs := [U _]) rfl sz_235 rfl rfl rfl rfl rfl H 3 rfl (Nat.ble_eq_true_of_le (by simp only [List.length_map, sch1_len, sch2_len, addL_len, List.length_cons, List.length_nil]; omega)) putL_U (fun w H => ?_)
    refine l_nil ⟨(fun h => nomatch h), ?_⟩
    refine r_nil ?_
    refine w_region ?_
    first | refine l_v rfl (q_add rfl rfl rfl (by simp only [inK]; omega)) ?_ | refine l_pint rfl rfl ?_
    refine l_pint rfl rfl ?_
    refine l_nil ?_
    refine ⟨by repeat' first | exact Agr.mix _ _ _ | exact Agr.refl _ _ | refine Agr.inner rfl ?_ | refine Agr.upd rfl ?_ | refine Agr.updL' rfl ?_, ?_⟩
    exact ⟨m - 1, i + 1, by omega, ⟨by exact congrArg (Value.int IntKind.i64) (Int.natCast_succ i).symm, trivial⟩, by omega, H⟩
  try simp only [decide_eq_true_eq, decide_eq_false_iff_not, Bool.not_eq_true', Bool.not_eq_false', beq_iff_eq, beq_eq_false_iff_ne, bne_iff_ne, bne_eq_false_iff_eq, ne_eq, Int.not_lt, Int.not_le] at c4
  obtain rfl : i = 8 := by omega
  rw [addL_8] at H
  refine w_exit ?_
  refine w_seq ?_
  refine w_region ?_
  refine l_v rfl (q_loadN (vs := [_, _, _, _, _, _, _, _]) rfl ag_250 rfl rfl (by first | exact H.cells 0 rfl | exact H.cells 1 rfl | exact H.cells 2 rfl | exact H.cells 3 rfl | exact H.cells 4 rfl)) ?_
  first | refine b_store (cs' := [_, _, _, _, _, _, _, _]) rfl sz_250 rfl rfl rfl rfl rfl H 0 rfl rfl rfl (fun w H => ?_) | refine b_store (cs' := [_, _, _, _, _, _, _, _]) rfl sz_250 rfl rfl rfl rfl rfl H 1 rfl rfl rfl (fun w H => ?_) | refine b_store (cs' := [_, _, _, _, _, _, _, _]) rfl sz_250 rfl rfl rfl rfl rfl H 2 rfl rfl rfl (fun w H => ?_) | refine b_store (cs' := [_, _, _, _, _, _, _, _]) rfl sz_250 rfl rfl rfl rfl rfl H 3 rfl rfl rfl (fun w H => ?_) | refine b_store (cs' := [_, _, _, _, _, _, _, _]) rfl sz_250 rfl rfl rfl rfl rfl H 4 rfl rfl rfl (fun w H => ?_)
  refine l_nil ?_
  refine w_ret ?_
  refine finc rfl ag_250 rfl (by first | exact H.cells 0 rfl | exact H.cells 1 rfl | exact H.cells 2 rfl | exact H.cells 3 rfl | exact H.cells 4 rfl) ?_
  refine ⟨by rw [hb8]; rfl, (((H.erase 0).erase 0).erase 0).erase 0⟩
end Go.Proofs.YtfpmnhmdphaceaaDoor
namespace Go.Proofs.YtfpmnhmdphaceaaDoor
open Go.EW
attribute [local irreducible] EW.W EW.L EW.fin block8
set_option linter.unusedVariables false
set_option linter.unusedSimpArgs false
/-- the state behind the first k blocks -/
def blocks (s : S8) (l : List UInt8) : Nat → S8
  | 0 => s
  | k + 1 => block8 (blocks s l k) ((l.drop (64 * k)).take 64)
def loopW (s : S8) (l : List UInt8) : S8 × List UInt8 := (blocks s l (l.length / 64), l.drop (64 * (l.length / 64)))
def writeW (s : S8) (rest bs : List UInt8) : S8 × List UInt8 :=
  if rest.length > 0 then
    if (rest ++ bs.take (min (64 - rest.length) bs.length)).length < 64 then (s, rest ++ bs.take (min (64 - rest.length) bs.length))
    else loopW (block8 s (rest ++ bs.take (min (64 - rest.length) bs.length))) (bs.drop (min (64 - rest.length) bs.length))
  else loopW s bs
theorem rdin_take {W : World} {F : List Seg} {a : Option Addr} {bs : List UInt8} (h : RdIn W F a (bs.map B)) (m c : Nat) : RdIn W F (subA a 1 0 c) ((bs.take m).map B) := by
  have := h.subA (sz := 1) (l := 0) (m := c) (j := m) (fun _ => .inr rfl)
  simpa [List.map_take] using this
theorem rdin_drop {W : World} {F : List Seg} {a : Option Addr} {bs : List UInt8} (h : RdIn W F a (bs.map B)) {k c : Nat} (hc : bs.length ≤ c) : RdIn W F (subA a 1 k c) ((bs.drop k).map B) := by
  have := h.subA (sz := 1) (l := k) (m := c) (j := bs.length - k) (fun hk => .inl (by omega))
  rw [Nat.mul_one, List.take_of_length_le (by simp)] at this
  simpa [List.map_drop] using this
theorem blocks_succ' (s : S8) (l : List UInt8) : ∀ k, blocks s l (k + 1) = blocks (block8 s (l.take 64)) (l.drop 64) k
  | 0 => by simp [blocks]
  | k + 1 => by
    rw [blocks, blocks_succ' s l k, blocks, List.drop_drop]
    congr 3
    omega
theorem loopW_big {s : S8} {l : List UInt8} (h : 64 ≤ l.length) : loopW s l = loopW (block8 s (l.take 64)) (l.drop 64) := by
  unfold loopW
  have e : l.length / 64 = (l.length - 64) / 64 + 1 := by omega
  rw [e, List.length_drop, blocks_succ', List.drop_drop]
  congr 2
  omega
theorem loopW_small {s : S8} {l : List UInt8} (h : l.length < 64) : loopW s l = (s, l) := by
  unfold loopW
  rw [Nat.div_eq_of_lt h]; simp [blocks]
theorem Write_ok {W w : World} {F : List Seg} {b : Nat} {h : HS} (H : St W w (hashL b h F)) (hrest : h.rest.length < 64) {a : Option Addr} {n cap : Nat} {bs : List UInt8} (hr : RdIn W F a (bs.map B)) (hl : bs.length = n) (hcap : n ≤ cap) (hn : n ≤ 140737488355200) (hnn : 0 ≤ h.n ∧ h.n ≤ 4611686018427387904) :
    Ok Tryd.prog 140 [.pointer (some ⟨b, 0, none⟩), .slice a n cap].toArray w (fun v w' => v = .tuple #[] ∧ ∃ ra rcap, St W w' (hashL b ⟨(writeW h.s h.rest bs).1, ra, rcap, (writeW h.s h.rest bs).2, h.n + n⟩ F)) := by
  obtain ⟨keys, hkeys⟩ : ∃ k, k = keysL.map U := ⟨_, rfl⟩
  refine enter (n := 98) (rs := #[]) Tryd.func140 rfl rfl rfl rfl ?_
  refine w_seq ?_
  refine w_seq ?_
  refine w_region ?_
  refine l_pptr rfl rfl ?_
  refine b_call rfl cb_146 rfl (good_ok (i := 0) (t := true) H rfl rfl) (fun v w hv => ?_)
  obtain ⟨rfl, rfl⟩ := hv
  refine l_pbool rfl rfl ?_
  refine l_nil ?_
  refine w_cond rfl (fun c1 => ?_) (fun c1 => ?_)
  · try simp only [decide_eq_true_eq, decide_eq_false_iff_not, Bool.not_eq_true', Bool.not_eq_false', beq_iff_eq, beq_eq_false_iff_ne, bne_iff_ne, bne_eq_false_iff_eq, ne_eq, Int.not_lt, Int.not_le] at c1
    refine w_ret ?_
    refine fin0 ?_
    exact absurd c1 (by decide)
  try simp only [decide_eq_true_eq, decide_eq_false_iff_not, Bool.not_eq_true', Bool.not_eq_false', beq_iff_eq, beq_eq_false_iff_ne, bne_iff_ne, bne_eq_false_iff_eq, ne_eq, Int.not_lt, Int.not_le] at c1
  refine w_skip ?_
  refine w_seq ?_
  refine w_region ?_
  refine l_pptr rfl rfl ?_
  refine l_pptr rfl rfl ?_
  refine l_v rfl (q_fieldAddr rfl fo253_2 rfl) ?_
  refine l_v rfl (q_load1 rfl c1_3 rfl (by first | exact H.cell 0 rfl rfl | exact H.cell 1 rfl rfl | exact H.cell 2 rfl rfl | exact H.cell 3 rfl rfl)) ?_
  refine l_pslice rfl rfl ?_
  refine l_v rfl (q_lenSlice rfl el_28 rfl) ?_
  first | refine l_v rfl (q_add rfl rfl rfl (by simp only [inK]; omega)) ?_ | refine l_pint rfl rfl ?_
  refine l_pptr rfl rfl ?_
  refine l_v rfl (q_fieldAddr rfl fo253_2 rfl) ?_
  first | refine b_store (cs' := [_, _, _, _, _, _, _, _, _, _, _]) rfl sz_3 rfl rfl rfl rfl rfl H 0 rfl rfl rfl (fun w H => ?_) | refine b_store (cs' := [_, _, _, _, _, _, _, _, _, _, _]) rfl sz_3 rfl rfl rfl rfl rfl H 1 rfl rfl rfl (fun w H => ?_) | refine b_store (cs' := [_, _, _, _, _, _, _, _, _, _, _]) rfl sz_3 rfl rfl rfl rfl rfl H 2 rfl rfl rfl (fun w H => ?_) | refine b_store (cs' := [_, _, _, _, _, _, _, _, _, _, _]) rfl sz_3 rfl rfl rfl rfl rfl H 3 rfl rfl rfl (fun w H => ?_)
  refine l_nil ?_
  refine w_seq ?_
  refine w_region ?_
  refine b_call rfl cb_147 rfl (keys_ok H) (fun v w hv => ?_)
  obtain ⟨rfl, H⟩ := hv
  refine b_alloc rfl ze_254 rfl H (fun b4 w H => ?_)
  refine b_store (vs := keysL.map U) rfl sz_254 rfl rfl rfl rfl rfl H 0 rfl rfl (putL_all rfl) (fun w H => ?_)
  refine l_nil ?_
  refine w_cutG (G := Option Addr × Nat × Nat × List UInt8 × HS) [1, 5, 19, 20, 21, 22, 23, 24, 25, 26, 27, 28, 29, 30, 31, 32, 33, 34, 35, 36, 37, 38, 39, 40, 41, 42, 43, 44, 45, 46, 47, 48, 49, 50, 51, 52, 53, 54, 55, 56, 57, 58, 59, 60, 61, 62, 63, 64, 65, 66, 67, 68, 69, 70, 71, 72, 73] (fun ⟨a1, n1, cp1, l1, h1⟩ => [(1, .slice a1 n1 cp1)]) (fun ⟨a1, n1, cp1, l1, h1⟩ w => RdIn W F a1 (l1.map B) ∧ l1.length = n1 ∧ n1 ≤ cp1 ∧ n1 ≤ 140737488355328 ∧ h1.rest = [] ∧ h1.n = h.n + n ∧ loopW h1.s l1 = writeW h.s h.rest bs ∧ St W w (blk b4 (keysL.map U) 254 :: hashL b h1 F)) (fun _ => rfl) ?_ ?_
  · refine w_seq ?_
    refine w_region ?_
    refine l_pptr rfl rfl ?_
    refine l_pptr rfl rfl ?_
    refine l_v rfl (q_fieldAddr rfl fo253_1 rfl) ?_
    refine l_v rfl (q_load1 rfl c1_28 rfl (by first | exact H.cell 0 rfl rfl | exact H.cell 1 rfl rfl | exact H.cell 2 rfl rfl | exact H.cell 3 rfl rfl)) ?_
    refine l_v rfl (q_lenSlice rfl el_28 rfl) ?_
    refine l_pbool rfl rfl ?_
    refine l_nil ?_
    refine w_cond rfl (fun c2 => ?_) (fun c2 => ?_)
    · try simp only [decide_eq_true_eq, decide_eq_false_iff_not, Bool.not_eq_true', Bool.not_eq_false', beq_iff_eq, beq_eq_false_iff_ne, bne_iff_ne, bne_eq_false_iff_eq, ne_eq, Int.not_lt, Int.not_le] at c2
      refine w_seq ?_
      refine w_region ?_
      refine l_pptr rfl rfl ?_
      refine l_pptr rfl rfl ?_
      refine l_v rfl (q_fieldAddr rfl fo253_1 rfl) ?_
      refine l_v rfl (q_load1 rfl c1_28 rfl (by first | exact H.cell 0 rfl rfl | exact H.cell 1 rfl rfl | exact H.cell 2 rfl rfl | exact H.cell 3 rfl rfl)) ?_
      refine l_v rfl (q_lenSlice rfl el_28 rfl) ?_
      first | refine l_v rfl (q_sub rfl rfl rfl (by simp only [inK]; omega)) ?_ | refine l_pint rfl rfl ?_
      refine l_pslice rfl rfl ?_
      refine l_v rfl (q_lenSlice rfl el_28 rfl) ?_
      refine l_v rfl (q_min (((min (64 - h.rest.length) bs.length) : Nat) : Int) rfl rfl rfl (by split <;> omega)) ?_
      refine l_pint rfl rfl ?_
      refine l_nil ?_
      refine w_seq ?_
      refine w_drawT [8, 11] [4] [(0, 0), (1, 0), (2, 0), (3, 0), (4, 1), (5, 0), (6, 0), (7, 0), (8, 2), (9, 0), (10, 0), (11, 2)] mixed (by kernel_rfl) (fun _ _ _ h => fin_panic h) H (fun H => ?_)
      refine r_pptr rfl rfl rfl ?_
      refine r_pptr rfl rfl rfl ?_
      refine r_pptr rfl rfl rfl ?_
      refine r_w rfl rfl (fun w => q_fieldAddr rfl fo253_1 rfl) ?_
      refine r_v rfl rfl (fun w hS => q_load1 rfl c1_28 rfl (by first | exact hS.cell 0 rfl rfl | exact hS.cell 1 rfl rfl | exact hS.cell 2 rfl rfl | exact hS.cell 3 rfl rfl)) ?_
      refine r_pslice rfl rfl rfl ?_
      refine r_pint rfl rfl rfl ?_
      refine r_w rfl rfl (fun w => q_slice rfl el_28 rfl Bnd.none (by first | exact Bnd.nat (by omega) | exact Bnd.mk ⟨by omega, by omega⟩) Bnd.none (by simp)) ?_
      refine r_do rfl ?_
      refine b_append rfl el_28 ze_5 rfl rfl rfl H 2 rfl (ys := (bs.take (min (64 - h.rest.length) bs.length)).map B) ((rdin_take hr (min (64 - h.rest.length) bs.length) cap).use H 3 rfl) (by simp <;> omega) (oneB _) ⟨by omega, by simp only [maxLen]; omega⟩ (fun a42 c42 w H => ?_)
      refine l_nil ⟨(fun h => nomatch h), ?_⟩
      refine r_pptr rfl rfl rfl ?_
      refine r_w rfl rfl (fun w => q_fieldAddr rfl fo253_1 rfl) ?_
      refine r_do rfl ?_
      first | refine b_store (cs' := [_, _, _, _, _, _, _, _, _, _, _]) rfl sz_28 rfl rfl rfl rfl rfl H 0 rfl rfl rfl (fun w H => ?_) | refine b_store (cs' := [_, _, _, _, _, _, _, _, _, _, _]) rfl sz_28 rfl rfl rfl rfl rfl H 1 rfl rfl rfl (fun w H => ?_) | refine b_store (cs' := [_, _, _, _, _, _, _, _, _, _, _]) rfl sz_28 rfl rfl rfl rfl rfl H 2 rfl rfl rfl (fun w H => ?_) | refine b_store (cs' := [_, _, _, _, _, _, _, _, _, _, _]) rfl sz_28 rfl rfl rfl rfl rfl H 3 rfl rfl rfl (fun w H => ?_)
      refine l_nil ⟨(fun h => nomatch h), ?_⟩
      refine r_nil ?_
      refine w_seq ?_
      refine w_region ?_
      refine l_pslice rfl rfl ?_
      refine l_pint rfl rfl ?_
      refine l_v rfl (q_slice rfl el_28 rfl Bnd.none Bnd.none (by first | exact Bnd.nat (by omega) | exact Bnd.mk ⟨by omega, by omega⟩) (by simp)) ?_
      refine l_pslice rfl rfl ?_
      refine l_nil ?_
      refine w_seq ?_
      refine w_seq ?_
      refine w_region ?_
      refine l_pptr rfl rfl ?_
      refine l_pptr rfl rfl ?_
      refine l_v rfl (q_fieldAddr rfl fo253_1 rfl) ?_
      refine l_v rfl (q_load1 rfl c1_28 rfl (by first | exact H.cell 0 rfl rfl | exact H.cell 1 rfl rfl | exact H.cell 2 rfl rfl | exact H.cell 3 rfl rfl)) ?_
      refine l_v rfl (q_lenSlice rfl el_28 rfl) ?_
      refine l_pbool rfl rfl ?_
      refine l_nil ?_
      refine w_cond rfl (fun c3 => ?_) (fun c3 => ?_)
      · try simp only [decide_eq_true_eq, decide_eq_false_iff_not, Bool.not_eq_true', Bool.not_eq_false', beq_iff_eq, beq_eq_false_iff_ne, bne_iff_ne, bne_eq_false_iff_eq, ne_eq, Int.not_lt, Int.not_le] at c3
        refine w_ret ?_
        refine fin0 ?_
        have hlen : ((h.rest ++ bs.take (min (64 - h.rest.length) bs.length))).length = h.rest.length + (min (64 - h.rest.length) bs.length) := by simp <;> omega
        have e : writeW h.s h.rest bs = (h.s, (h.rest ++ bs.take (min (64 - h.rest.length) bs.length))) := by unfold writeW; rw [if_pos (by omega), if_pos (by rw [hlen]; omega)]
        have H2 : St W w (blk b [U (h.s).a, U (h.s).b, U (h.s).c, U (h.s).d, U (h.s).e, U (h.s).f, U (h.s).g, U (h.s).h, .slice a42 (h.rest.length + (min (64 - h.rest.length) bs.length)) c42, .int .i64 (h.n + n), .bool true] 253 :: row 5 1 a42 (h.rest.length + (min (64 - h.rest.length) bs.length)) c42 (h.rest.map B ++ (bs.take (min (64 - h.rest.length) bs.length)).map B) :: F) := H.erase 0
        refine ⟨rfl, a42, c42, ?_⟩
        rw [e]
        unfold hashL HS.cells
        simp only [hlen, List.map_append]
        exact H2
      try simp only [decide_eq_true_eq, decide_eq_false_iff_not, Bool.not_eq_true', Bool.not_eq_false', beq_iff_eq, beq_eq_false_iff_ne, bne_iff_ne, bne_eq_false_iff_eq, ne_eq, Int.not_lt, Int.not_le] at c3
      refine w_skip ?_
      refine w_seq ?_
      refine w_drawT [9, 12] [4, 8] [(0, 0), (1, 0), (2, 0), (3, 0), (4, 1), (5, 0), (6, 0), (7, 0), (8, 1), (9, 2), (10, 0), (11, 0), (12, 2)] mixed (by kernel_rfl) (fun _ _ _ h => fin_panic h) H (fun H => ?_)
      refine r_pptr rfl rfl rfl ?_
      refine r_pptr rfl rfl rfl ?_
      refine r_pptr rfl rfl rfl ?_
      refine r_w rfl rfl (fun w => q_fieldAddr rfl fo253_0 rfl) ?_
      refine r_v rfl rfl (fun w hS => q_loadN (vs := [_, _, _, _, _, _, _, _]) rfl ag_250 rfl rfl ((hS.cells 1 rfl).sub 0 8)) ?_
      refine r_pptr rfl rfl rfl ?_
      refine r_pptr rfl rfl rfl ?_
      refine r_w rfl rfl (fun w => q_fieldAddr rfl fo253_1 rfl) ?_
      refine r_v rfl rfl (fun w hS => q_load1 rfl c1_28 rfl (by first | exact hS.cell 0 rfl rfl | exact hS.cell 1 rfl rfl | exact hS.cell 2 rfl rfl | exact hS.cell 3 rfl rfl)) ?_
      refine r_do rfl ?_
      refine b_call rfl cb_148 rfl (block_ok H h.s (bs := (h.rest ++ bs.take (min (64 - h.rest.length) bs.length))) (by rw [List.map_append]; exact RdIn.row 2 rfl) (by simp <;> omega) (by omega) (RdIn.blk 0 rfl)) (fun v w hv => ?_)
      obtain ⟨rfl, H⟩ := hv
      refine l_nil ⟨(fun h => nomatch h), ?_⟩
      refine r_pptr rfl rfl rfl ?_
      refine r_w rfl rfl (fun w => q_fieldAddr rfl fo253_0 rfl) ?_
      refine r_do rfl ?_
      first | refine b_store (cs' := [_, _, _, _, _, _, _, _, _, _, _]) rfl sz_250 rfl rfl rfl rfl rfl H 0 rfl rfl rfl (fun w H => ?_) | refine b_store (cs' := [_, _, _, _, _, _, _, _, _, _, _]) rfl sz_250 rfl rfl rfl rfl rfl H 1 rfl rfl rfl (fun w H => ?_) | refine b_store (cs' := [_, _, _, _, _, _, _, _, _, _, _]) rfl sz_250 rfl rfl rfl rfl rfl H 2 rfl rfl rfl (fun w H => ?_) | refine b_store (cs' := [_, _, _, _, _, _, _, _, _, _, _]) rfl sz_250 rfl rfl rfl rfl rfl H 3 rfl rfl rfl (fun w H => ?_)
      refine l_nil ⟨(fun h => nomatch h), ?_⟩
      refine r_nil ?_
      refine w_region ?_
      refine l_pptr rfl rfl ?_
      refine l_pptr rfl rfl ?_
      refine l_pptr rfl rfl ?_
      refine l_v rfl (q_fieldAddr rfl fo253_1 rfl) ?_
      refine l_v rfl (q_load1 rfl c1_28 rfl (by first | exact H.cell 0 rfl rfl | exact H.cell 1 rfl rfl | exact H.cell 2 rfl rfl | exact H.cell 3 rfl rfl)) ?_
      refine l_v rfl (q_slice rfl el_28 rfl Bnd.none (by first | exact Bnd.nat (by omega) | exact Bnd.mk ⟨by omega, by omega⟩) Bnd.none (by simp)) ?_
      refine l_pptr rfl rfl ?_
      refine l_v rfl (q_fieldAddr rfl fo253_1 rfl) ?_
      first | refine b_store (cs' := [_, _, _, _, _, _, _, _, _, _, _]) rfl sz_28 rfl rfl rfl rfl rfl H 0 rfl rfl rfl (fun w H => ?_) | refine b_store (cs' := [_, _, _, _, _, _, _, _, _, _, _]) rfl sz_28 rfl rfl rfl rfl rfl H 1 rfl rfl rfl (fun w H => ?_) | refine b_store (cs' := [_, _, _, _, _, _, _, _, _, _, _]) rfl sz_28 rfl rfl rfl rfl rfl H 2 rfl rfl rfl (fun w H => ?_) | refine b_store (cs' := [_, _, _, _, _, _, _, _, _, _, _]) rfl sz_28 rfl rfl rfl rfl rfl H 3 rfl rfl rfl (fun w H => ?_)
      refine l_nil ?_
      refine ⟨by repeat' first | exact Agr.mix _ _ _ | exact Agr.refl _ _ | refine Agr.inner rfl ?_ | refine Agr.upd rfl ?_ | refine Agr.updL' rfl ?_, ?_⟩
      have hlen : ((h.rest ++ bs.take (min (64 - h.rest.length) bs.length))).length = h.rest.length + (min (64 - h.rest.length) bs.length) := by simp <;> omega
      have e : writeW h.s h.rest bs = loopW (block8 h.s (h.rest ++ bs.take (min (64 - h.rest.length) bs.length))) (bs.drop (min (64 - h.rest.length) bs.length)) := by unfold writeW; rw [if_pos (by omega), if_neg (by rw [hlen]; omega)]
      have H2 : St W w (row 5 1 a42 0 c42 ((h.rest.map B ++ (bs.take (min (64 - h.rest.length) bs.length)).map B).take (0 * 1)) :: blk b4 (keysL.map U) 254 :: blk b [U (block8 h.s (h.rest ++ bs.take (min (64 - h.rest.length) bs.length))).a, U (block8 h.s (h.rest ++ bs.take (min (64 - h.rest.length) bs.length))).b, U (block8 h.s (h.rest ++ bs.take (min (64 - h.rest.length) bs.length))).c, U (block8 h.s (h.rest ++ bs.take (min (64 - h.rest.length) bs.length))).d, U (block8 h.s (h.rest ++ bs.take (min (64 - h.rest.length) bs.length))).e, U (block8 h.s (h.rest ++ bs.take (min (64 - h.rest.length) bs.length))).f, U (block8 h.s (h.rest ++ bs.take (min (64 - h.rest.length) bs.length))).g, U (block8 h.s (h.rest ++ bs.take (min (64 - h.rest.length) bs.length))).h, .slice (subA a42 1 0 c42) 0 c42, .int .i64 (h.n + n), .bool true] 253 :: F) := (H.front 2 rfl).imp (row_shrink (k := 0) (by omega))
      rw [subA_z] at H2
      exact ⟨(subA a 1 (min (64 - h.rest.length) bs.length) cap, n - (min (64 - h.rest.length) bs.length), cap - (min (64 - h.rest.length) bs.length), bs.drop (min (64 - h.rest.length) bs.length), ⟨block8 h.s (h.rest ++ bs.take (min (64 - h.rest.length) bs.length)), a42, c42, [], h.n + n⟩), ⟨rfl, trivial⟩, rdin_drop hr (by omega), by simp <;> omega, by omega, by omega, rfl, rfl, e.symm, H2.pick [1, 2, 0] (pre := [_, _, _]) rfl rfl⟩
    try simp only [decide_eq_true_eq, decide_eq_false_iff_not, Bool.not_eq_true', Bool.not_eq_false', beq_iff_eq, beq_eq_false_iff_ne, bne_iff_ne, bne_eq_false_iff_eq, ne_eq, Int.not_lt, Int.not_le] at c2
    refine w_skip ?_
    refine ⟨by repeat' first | exact Agr.mix _ _ _ | exact Agr.refl _ _ | refine Agr.inner rfl ?_ | refine Agr.upd rfl ?_ | refine Agr.updL' rfl ?_, ?_⟩
    exact ⟨(a, n, cap, bs, ⟨h.s, h.ra, h.rcap, h.rest, h.n + n⟩), ⟨rfl, trivial⟩, hr, hl, hcap, by omega, List.eq_nil_of_length_eq_zero (by show h.rest.length = 0; omega), rfl, by unfold writeW; rw [if_neg (by omega)], H⟩
  rintro ⟨a1, n1, cp1, l1, h1⟩ ρ1 w ⟨hr1, hl1, hc1, hb1, hrest1, hn1, hloop, H⟩
  refine w_seq ?_
  refine w_block ?_
  refine w_loopG (G := Option Addr × Nat × Nat × List UInt8 × S8) [1, 74, 75, 76, 77, 78, 79, 80, 81, 82, 83, 84, 85, 86, 87, 88] (fun ⟨a2, n2, c2, l2, s2⟩ => [(1, .slice a2 n2 c2)]) (fun m ⟨a2, n2, c2, l2, s2⟩ w => m = l2.length ∧ RdIn W F a2 (l2.map B) ∧ l2.length = n2 ∧ n2 ≤ c2 ∧ n2 ≤ 140737488355328 ∧ loopW s2 l2 = writeW h.s h.rest bs ∧ St W w (blk b4 (keysL.map U) 254 :: hashL b ⟨s2, h1.ra, h1.rcap, [], h.n + n⟩ F)) (fun _ => rfl) ?_ ?_
  · refine ⟨l1.length, (a1, n1, cp1, l1, h1.s), ⟨rfl, trivial⟩, rfl, hr1, hl1, hc1, hb1, hloop, ?_⟩
    obtain ⟨s', ra', rc', rest', n'⟩ := h1
    simp only at hrest1 hn1
    subst hrest1; subst hn1
    exact H
  rintro m ⟨a2, n2, c2, l2, s2⟩ ρ1 w ⟨rfl, hr2, hl2, hc2, hb2, hloop2, H⟩
  refine w_seq ?_
  refine w_seq ?_
  refine w_region ?_
  refine l_pslice rfl rfl ?_
  refine l_v rfl (q_lenSlice rfl el_28 rfl) ?_
  refine l_pbool rfl rfl ?_
  refine l_nil ?_
  refine w_cond rfl (fun c4 => ?_) (fun c4 => ?_)
  · try simp only [decide_eq_true_eq, decide_eq_false_iff_not, Bool.not_eq_true', Bool.not_eq_false', beq_iff_eq, beq_eq_false_iff_ne, bne_iff_ne, bne_eq_false_iff_eq, ne_eq, Int.not_lt, Int.not_le] at c4
    refine w_skip ?_
    refine w_block ?_
    refine w_seq ?_
    refine w_drawT [7, 10] [4] [(0, 0), (1, 0), (2, 0), (3, 0), (4, 1), (5, 0), (6, 0), (7, 2), (8, 0), (9, 0), (10, 2)] mixed (by kernel_rfl) (fun _ _ _ h => fin_panic h) H (fun H => ?_)
    refine r_pptr rfl rfl rfl ?_
    refine r_pptr rfl rfl rfl ?_
    refine r_pptr rfl rfl rfl ?_
    refine r_w rfl rfl (fun w => q_fieldAddr rfl fo253_0 rfl) ?_
    refine r_v rfl rfl (fun w hS => q_loadN (vs := [_, _, _, _, _, _, _, _]) rfl ag_250 rfl rfl ((hS.cells 1 rfl).sub 0 8)) ?_
    refine r_pslice rfl rfl rfl ?_
    refine r_w rfl rfl (fun w => q_slice rfl el_28 rfl Bnd.none (by first | exact Bnd.nat (by omega) | exact Bnd.mk ⟨by omega, by omega⟩) Bnd.none (by simp)) ?_
    refine r_do rfl ?_
    refine b_call rfl cb_148 rfl (block_ok H s2 (bs := l2.take 64) (n := 64) ((rdin_take hr2 64 c2).up 3 rfl) (by simp <;> omega) (by omega) (RdIn.blk 0 rfl)) (fun v w hv => ?_)
    obtain ⟨rfl, H⟩ := hv
    refine l_nil ⟨(fun h => nomatch h), ?_⟩
    refine r_pptr rfl rfl rfl ?_
    refine r_w rfl rfl (fun w => q_fieldAddr rfl fo253_0 rfl) ?_
    refine r_do rfl ?_
    first | refine b_store (cs' := [_, _, _, _, _, _, _, _, _, _, _]) rfl sz_250 rfl rfl rfl rfl rfl H 0 rfl rfl rfl (fun w H => ?_) | refine b_store (cs' := [_, _, _, _, _, _, _, _, _, _, _]) rfl sz_250 rfl rfl rfl rfl rfl H 1 rfl rfl rfl (fun w H => ?_) | refine b_store (cs' := [_, _, _, _, _, _, _, _, _, _, _]) rfl sz_250 rfl rfl rfl rfl rfl H 2 rfl rfl rfl (fun w H => ?_) | refine b_store (cs' := [_, _, _, _, _, _, _, _, _, _, _]) rfl sz_250 rfl rfl rfl rfl rfl H 3 rfl rfl rfl (fun w H => ?_)
    refine l_nil ⟨(fun h => nomatch h), ?_⟩
    refine r_nil ?_
    refine w_region ?_
    refine l_pslice rfl rfl ?_
    refine l_v rfl (q_slice rfl el_28 rfl Bnd.none Bnd.none (by first | exact Bnd.nat (by omega) | exact Bnd.mk ⟨by omega, by omega⟩) (by simp)) ?_
    refine l_pslice rfl rfl ?_
    refine l_nil ?_
    refine ⟨by repeat' first | exact Agr.mix _ _ _ | exact Agr.refl _ _ | refine Agr.inner rfl ?_ | refine Agr.upd rfl ?_ | refine Agr.updL' rfl ?_, ?_⟩
    exact ⟨(l2.drop 64).length, (subA a2 1 64 c2, n2 - 64, c2 - 64, l2.drop 64, block8 s2 (l2.take 64)), by simp; omega, ⟨rfl, trivial⟩, rfl, rdin_drop hr2 (by omega), by simp; omega, by omega, by omega, (loopW_big (by omega)).symm.trans hloop2, H⟩
  try simp only [decide_eq_true_eq, decide_eq_false_iff_not, Bool.not_eq_true', Bool.not_eq_false', beq_iff_eq, beq_eq_false_iff_ne, bne_iff_ne, bne_eq_false_iff_eq, ne_eq, Int.not_lt, Int.not_le] at c4
  refine w_exit ?_
  refine w_region ?_
  refine l_pptr rfl rfl ?_
  refine l_pptr rfl rfl ?_
  refine l_pptr rfl rfl ?_
  refine l_v rfl (q_fieldAddr rfl fo253_1 rfl) ?_
  refine l_v rfl (q_load1 rfl c1_28 rfl (by first | exact H.cell 0 rfl rfl | exact H.cell 1 rfl rfl | exact H.cell 2 rfl rfl | exact H.cell 3 rfl rfl)) ?_
  refine l_pslice rfl rfl ?_
  refine b_append rfl el_28 ze_5 rfl rfl rfl H 2 rfl (ys := l2.map B) (hr2.use H 3 rfl) (by simp <;> omega) (oneB _) ⟨by simp only [List.length_nil]; omega, by simp only [maxLen, List.length_nil]; omega⟩ (fun a95 c95 w H => ?_)
  refine l_pptr rfl rfl ?_
  refine l_v rfl (q_fieldAddr rfl fo253_1 rfl) ?_
  first | refine b_store (cs' := [_, _, _, _, _, _, _, _, _, _, _]) rfl sz_28 rfl rfl rfl rfl rfl H 0 rfl rfl rfl (fun w H => ?_) | refine b_store (cs' := [_, _, _, _, _, _, _, _, _, _, _]) rfl sz_28 rfl rfl rfl rfl rfl H 1 rfl rfl rfl (fun w H => ?_) | refine b_store (cs' := [_, _, _, _, _, _, _, _, _, _, _]) rfl sz_28 rfl rfl rfl rfl rfl H 2 rfl rfl rfl (fun w H => ?_) | refine b_store (cs' := [_, _, _, _, _, _, _, _, _, _, _]) rfl sz_28 rfl rfl rfl rfl rfl H 3 rfl rfl rfl (fun w H => ?_)
  refine l_nil ?_
  refine fin0n ⟨rfl, a95, c95, ?_⟩
  rw [← hloop2, loopW_small (by omega)]
  subst hl2
  have H2 : St W w (blk b [U (s2).a, U (s2).b, U (s2).c, U (s2).d, U (s2).e, U (s2).f, U (s2).g, U (s2).h, .slice a95 (0 + l2.length) c95, .int .i64 (h.n + n), .bool true] 253 :: row 5 1 a95 (0 + l2.length) c95 ([] ++ l2.map B) :: F) := H.erase 0
  rw [Nat.zero_add, List.nil_append] at H2
  exact H2
end Go.Proofs.YtfpmnhmdphaceaaDoor
namespace Go.Proofs.YtfpmnhmdphaceaaDoor
open Go.EW
set_option linter.unusedVariables false
theorem write_base {s : S8} {all bs : List UInt8} (h : all.length < 64) : writeW s all bs = loopW s (all ++ bs) := by
  unfold writeW
  by_cases h0 : all.length > 0
  · rw [if_pos h0]
    have hlen : (all ++ bs.take (min (64 - all.length) bs.length)).length = all.length + min (64 - all.length) bs.length := by simp <;> omega
    by_cases h1 : all.length + bs.length < 64
    · have hm : min (64 - all.length) bs.length = bs.length := by omega
      rw [if_pos (by rw [hlen]; omega), hm, List.take_length, loopW_small (by simp; omega)]
    have hm : min (64 - all.length) bs.length = 64 - all.length := by omega
    rw [if_neg (by rw [hlen]; omega), hm, loopW_big (l := all ++ bs) (by simp; omega)]
    rw [List.take_append, List.drop_append, List.take_of_length_le (show all.length ≤ 64 by omega), List.drop_eq_nil_of_le (show all.length ≤ 64 by omega), List.nil_append]
  have : all = [] := List.eq_nil_of_length_eq_zero (by omega)
  subst this
  rw [if_neg (by simp)]; rfl
theorem write_law (bs : List UInt8) : ∀ (k : Nat) (s : S8) (all : List UInt8), all.length < 64 * (k + 1) → writeW (loopW s all).1 (loopW s all).2 bs = loopW s (all ++ bs)
  | 0, s, all, h => by
    rw [loopW_small (by omega)]; exact write_base (by omega)
  | k + 1, s, all, h => by
    by_cases h64 : all.length < 64
    · rw [loopW_small h64]; exact write_base h64
    rw [loopW_big (by omega), loopW_big (l := all ++ bs) (by simp; omega), List.take_append_of_le_length (by omega), List.drop_append_of_le_length (by omega)]
    exact write_law bs k _ _ (by simp; omega)
/-- a hasher that has taken these bytes -/
structure HOk (h : HS) (all : List UInt8) : Prop where
  n : h.n = all.length
  s : (h.s, h.rest) = loopW begin8 all
theorem HOk.new : HOk newH [] := ⟨rfl, by rw [loopW_small (by simp)]; rfl⟩
theorem loopW_rest {s : S8} {l : List UInt8} : (loopW s l).2.length < 64 := by
  unfold loopW; simp; omega
theorem HOk.rest {h : HS} {all : List UInt8} (hk : HOk h all) : h.rest.length < 64 := by
  have := hk.s
  have h2 : h.rest = (loopW begin8 all).2 := congrArg Prod.snd this
  rw [h2]; exact loopW_rest
theorem HOk.write {h : HS} {all bs : List UInt8} (hk : HOk h all) (ra : Option Addr) (rcap : Nat) : HOk ⟨(writeW h.s h.rest bs).1, ra, rcap, (writeW h.s h.rest bs).2, h.n + bs.length⟩ (all ++ bs) := by
  refine ⟨by simp [hk.n], ?_⟩
  have h1 : h.s = (loopW begin8 all).1 := congrArg Prod.fst hk.s
  have h2 : h.rest = (loopW begin8 all).2 := congrArg Prod.snd hk.s
  simp only [h1, h2]
  rw [← write_law bs (all.length / 64) begin8 all (by omega)]
end Go.Proofs.YtfpmnhmdphaceaaDoor
namespace Go.Proofs.YtfpmnhmdphaceaaDoor
open Go.EW
attribute [local irreducible] EW.W EW.L EW.fin block8
set_option linter.unusedVariables false
set_option linter.unusedSimpArgs false
theorem loop_split (x : List UInt8) : ∀ (k : Nat) (s : S8) (all : List UInt8), all.length < 64 * (k + 1) → loopW (loopW s all).1 ((loopW s all).2 ++ x) = loopW s (all ++ x)
  | 0, s, all, h => by rw [loopW_small (s := s) (l := all) (by omega)]
  | k + 1, s, all, h => by
    by_cases h64 : all.length < 64
    · rw [loopW_small (s := s) (l := all) h64]
    rw [loopW_big (s := s) (l := all) (by omega), loopW_big (s := s) (l := all ++ x) (by simp; omega), List.take_append_of_le_length (by omega), List.drop_append_of_le_length (by omega)]
    exact loop_split x k _ _ (by simp; omega)
/-- the filling: a one bit, zeros, the length -/
def lenB (n : Nat) (i : Nat) : UInt8 := UInt8.ofNat (8 * n / 2 ^ (56 - 8 * i))
def lens (n : Nat) : Nat → List UInt8
  | 0 => []
  | i + 1 => lens n i ++ [lenB n i]
def pad (n : Nat) : List UInt8 := 128 :: (List.replicate ((119 - n % 64) % 64) 0 ++ lens n 8)
def byteAt (s : S8) (c : Nat) : UInt8 := (s.list.getD (c / 4) 0 >>> UInt32.ofNat (24 - 8 * (c % 4))).toUInt8
def outB (s : S8) : Nat → List UInt8
  | 0 => List.replicate 32 0
  | c + 1 => (outB s c).set c (byteAt s c)
theorem outB_len (s : S8) : ∀ c, (outB s c).length = 32
  | 0 => by simp [outB]
  | c + 1 => by simp [outB, outB_len s c]
theorem lens_len (n : Nat) : ∀ i, (lens n i).length = i
  | 0 => rfl
  | i + 1 => by simp [lens, lens_len n i]
/-- SHA-256 -/
def shaL (all : List UInt8) : List UInt8 := outB (loopW begin8 (all ++ pad all.length)).1 32
theorem shaL_of {h : HS} {all : List UInt8} (hk : HOk h all) : shaL all = outB (loopW h.s (h.rest ++ pad all.length)).1 32 := by
  have h1 : h.s = (loopW begin8 all).1 := congrArg Prod.fst hk.s
  have h2 : h.rest = (loopW begin8 all).2 := congrArg Prod.snd hk.s
  unfold shaL
  rw [h1, h2, loop_split (pad all.length) (all.length / 64) begin8 all (by omega)]
theorem pad_div {h : HS} {all : List UInt8} (hk : HOk h all) : (h.rest ++ pad all.length).length % 64 = 0 := by
  have h2 : h.rest = (loopW begin8 all).2 := congrArg Prod.snd hk.s
  have h3 : h.rest.length = all.length % 64 := by rw [h2]; unfold loopW; simp; omega
  simp only [pad, List.length_append, List.length_cons, List.length_replicate, lens_len, h3]
  omega
end Go.Proofs.YtfpmnhmdphaceaaDoor
namespace Go.Proofs.YtfpmnhmdphaceaaDoor
open Go.EW
attribute [local irreducible] EW.W EW.L EW.fin block8 outB
set_option linter.unusedVariables false
set_option linter.unusedSimpArgs false
def z32 : List Value := (List.replicate 32 (0 : UInt8)).map B
/-- a row of bytes that grew by one -/
theorem row_snoc {W w : World} {S : List Seg} {a : Option Addr} {n cap : Nat} {l : List UInt8} {u : UInt8} (hn : n = l.length + 1) (H : St W w (row 5 1 a n cap (l.map B ++ [B u]) :: S)) : St W w (row 5 1 a (l ++ [u]).length cap ((l ++ [u]).map B) :: S) := by
  subst hn
  simpa using H
theorem out_put {s : S8} {i j : Nat} {u : UInt8} (hj : j < 4) (hu : u = (s.list.getD i 0 >>> UInt32.ofNat (24 - 8 * j)).toUInt8) : putL ((outB s (4 * i + j)).map B) (0 + (4 * i + j) * 1) [B u] = (outB s (4 * i + (j + 1))).map B := by
  subst hu
  rw [Nat.mul_one, Nat.zero_add, show 4 * i + (j + 1) = (4 * i + j) + 1 by omega, outB, List.map_set]
  have e1 : (4 * i + j) / 4 = i := by omega
  have e2 : (4 * i + j) % 4 = j := by omega
  unfold byteAt
  rw [e1, e2]
  rfl
theorem all1 (l : List UInt8) : (l.map B).all Value.oneCell' = true := List.all_eq_true.2 (oneB l)
theorem rem64 (n : Nat) : ((n : Int)).tmod 64 = ((n % 64 : Nat) : Int) := by
  rw [Int.tmod_eq_emod_of_nonneg (by omega)]; omega
set_option maxRecDepth 8000 in
set_option maxHeartbeats 1000000 in
theorem Sum_ok {W w : World} {F : List Seg} {b : Nat} {h : HS} {all : List UInt8} (H : St W w (hashL b h F)) (hk : HOk h all) (hn : all.length ≤ 576460752303423488) :
    Ok Tryd.prog 141 [.pointer (some ⟨b, 0, none⟩)].toArray w (fun v w' => v = .agg ((shaL all).map B).toArray ∧ St W w' (hashL b h F)) := by
  have hrl := hk.rest
  have hrl2 : h.rest.length = all.length % 64 := by
    have h2 : h.rest = (loopW begin8 all).2 := congrArg Prod.snd hk.s
    rw [h2]; unfold loopW; simp; omega
  refine enter (n := 86) (rs := #[.cell 2 195]) Tryd.func141 rfl rfl rfl rfl ?_
  refine w_seq ?_
  refine w_region ?_
  refine b_alloc rfl ze_195 rfl H (fun b2 w H => ?_)
  refine l_nil ?_
  refine w_seq ?_
  refine w_seq ?_
  refine w_region ?_
  refine l_pptr rfl rfl ?_
  refine b_call rfl cb_146 rfl (good_ok (i := 1) (t := true) H rfl rfl) (fun v w hv => ?_)
  obtain ⟨rfl, rfl⟩ := hv
  refine l_pbool rfl rfl ?_
  refine l_nil ?_
  refine w_cond rfl (fun c1 => ?_) (fun c1 => ?_)
  · try simp only [decide_eq_true_eq, decide_eq_false_iff_not, Bool.not_eq_true', Bool.not_eq_false', beq_iff_eq, beq_eq_false_iff_ne, bne_iff_ne, bne_eq_false_iff_eq, ne_eq, Int.not_lt, Int.not_le] at c1
    refine w_seq ?_
    refine w_region ?_
    refine l_v rfl (q_buildArr rfl ar_195 ze_195 (by kernel_rfl : fillL _ _ _ = some z32)) ?_
    first | refine b_store rfl sz_195 rfl rfl rfl rfl rfl H 0 rfl rfl rfl (fun w H => ?_) | refine b_store rfl sz_195 rfl rfl rfl rfl rfl H 1 rfl rfl rfl (fun w H => ?_) | refine b_store rfl sz_195 rfl rfl rfl rfl rfl H 2 rfl rfl rfl (fun w H => ?_) | refine b_store rfl sz_195 rfl rfl rfl rfl rfl H 3 rfl rfl rfl (fun w H => ?_) | refine b_store rfl sz_195 rfl rfl rfl rfl rfl H 4 rfl rfl rfl (fun w H => ?_)
    refine l_nil ?_
    refine w_ret ?_
    refine finc rfl ag_195 rfl (by first | exact H.cells 0 rfl | exact H.cells 1 rfl | exact H.cells 2 rfl | exact H.cells 3 rfl | exact H.cells 4 rfl) ?_
    exact absurd c1 (by decide)
  try simp only [decide_eq_true_eq, decide_eq_false_iff_not, Bool.not_eq_true', Bool.not_eq_false', beq_iff_eq, beq_eq_false_iff_ne, bne_iff_ne, bne_eq_false_iff_eq, ne_eq, Int.not_lt, Int.not_le] at c1
  refine w_skip ?_
  refine w_seq ?_
  refine w_region ?_
  refine l_pptr rfl rfl ?_
  refine l_pptr rfl rfl ?_
  refine l_v rfl (q_fieldAddr rfl fo253_1 rfl) ?_
  refine l_v rfl (q_load1 rfl c1_28 rfl (by first | exact H.cell 0 rfl rfl | exact H.cell 1 rfl rfl | exact H.cell 2 rfl rfl | exact H.cell 3 rfl rfl | exact H.cell 4 rfl rfl)) ?_
  refine b_append rfl el_28 ze_5 rfl rfl rfl (St.newRow H) 0 rfl (ys := h.rest.map B) ((H.rowInv (i := 2) rfl).2.2.2.2) (by simp) (oneB _) ⟨by have := hk.rest; omega, by have := hk.rest; simp only [maxLen]; omega⟩ (fun a20 c20 w H => ?_)
  refine l_pslice rfl rfl ?_
  refine l_nil ?_
  refine w_seq ?_
  refine w_region ?_
  refine l_pslice rfl rfl ?_
  refine b_buildSlice (cs := [_]) rfl el_28 ze_5 rfl rfl rfl H (fun b22 w H => ?_)
  refine b_append rfl el_28 ze_5 rfl rfl rfl H 1 rfl (Rd.mk (H.cells0 0 rfl)) rfl (fun u hu => by obtain rfl := List.mem_singleton.1 hu; rfl) ⟨by omega, by simp only [maxLen]; omega⟩ (fun a23 c23 w H => ?_)
  refine l_pslice rfl rfl ?_
  refine l_nil ?_
  refine w_seq ?_
  refine w_block ?_
  refine w_loopG (G := Nat × Option Addr × Nat × List UInt8) [3, 24, 25, 26, 27, 28, 29, 30] (fun ⟨k, a3, c3, l⟩ => [(3, .slice a3 l.length c3)]) (fun m ⟨k, a3, c3, l⟩ w => m + k = (119 - all.length % 64) % 64 ∧ l.length = h.rest.length + 1 + k ∧ l = h.rest ++ 128 :: List.replicate k 0 ∧ St W w (row 5 1 a3 l.length c3 (l.map B) :: blk b2 z32 195 :: hashL b h F)) (fun _ => rfl) ?_ ?_
  · refine ⟨(119 - all.length % 64) % 64, (0, a23, c23, h.rest ++ [128]), ⟨by exact congrArg (fun x => Value.slice a23 x c23) (by simp), trivial⟩, rfl, by simp, rfl, ?_⟩
    have H2 : St W w (row 5 1 a23 (0 + h.rest.length + 1) c23 (([] ++ h.rest.map B) ++ [B 128]) :: blk b2 z32 195 :: hashL b h F) := H.drop1
    rw [List.nil_append, Nat.zero_add] at H2
    exact row_snoc rfl H2
  rintro m ⟨k, a3, c3, l⟩ ρ1 w ⟨hmk, hll, hlk, H⟩
  refine w_seq ?_
  refine w_seq ?_
  refine w_region ?_
  refine l_pslice rfl rfl ?_
  refine l_v rfl (q_lenSlice rfl el_28 rfl) ?_
  refine l_v rfl (q_rem rfl rfl rfl (by omega)) ?_
  refine l_pbool rfl rfl ?_
  refine l_nil ?_
  refine w_cond rfl (fun c2 => ?_) (fun c2 => ?_)
  · try simp only [decide_eq_true_eq, decide_eq_false_iff_not, Bool.not_eq_true', Bool.not_eq_false', beq_iff_eq, beq_eq_false_iff_ne, bne_iff_ne, bne_eq_false_iff_eq, ne_eq, Int.not_lt, Int.not_le] at c2
    rw [rem64] at c2
    refine w_skip ?_
    refine w_block ?_
    refine w_region ?_
    refine l_pslice rfl rfl ?_
    refine b_buildSlice (cs := [_]) rfl el_28 ze_5 rfl rfl rfl H (fun b29 w H => ?_)
    refine b_append rfl el_28 ze_5 rfl rfl rfl H 1 rfl (Rd.mk (H.cells0 0 rfl)) rfl (fun u hu => by obtain rfl := List.mem_singleton.1 hu; rfl) ⟨by omega, by simp only [maxLen]; omega⟩ (fun a30 c30 w H => ?_)
    refine l_pslice rfl rfl ?_
    refine l_nil ?_
    refine ⟨by repeat' first | exact Agr.mix _ _ _ | exact Agr.refl _ _ | refine Agr.inner rfl ?_ | refine Agr.upd rfl ?_ | refine Agr.updL' rfl ?_, ?_⟩
    refine ⟨m - 1, (k + 1, a30, c30, l ++ [0]), by omega, ⟨by exact congrArg (fun x => Value.slice a30 x c30) (by simp), trivial⟩, by omega, by simp; omega, by rw [hlk, List.replicate_succ']; simp, ?_⟩
    exact row_snoc rfl (show St W w (row 5 1 a30 (l.length + 1) c30 (l.map B ++ [B 0]) :: blk b2 z32 195 :: hashL b h F) from H.drop1)
  try simp only [decide_eq_true_eq, decide_eq_false_iff_not, Bool.not_eq_true', Bool.not_eq_false', beq_iff_eq, beq_eq_false_iff_ne, bne_iff_ne, bne_eq_false_iff_eq, ne_eq, Int.not_lt, Int.not_le] at c2
  rw [rem64] at c2
  obtain rfl : k = (119 - all.length % 64) % 64 := by omega
  refine w_exit ?_
  refine w_seq ?_
  refine w_region ?_
  refine l_pptr rfl rfl ?_
  refine l_pptr rfl rfl ?_
  refine l_v rfl (q_fieldAddr rfl fo253_2 rfl) ?_
  refine l_v rfl (q_load1 rfl c1_3 rfl (by first | exact H.cell 0 rfl rfl | exact H.cell 1 rfl rfl | exact H.cell 2 rfl rfl | exact H.cell 3 rfl rfl | exact H.cell 4 rfl rfl)) ?_
  refine l_v rfl (q_convIntIn rfl (by kernel_rfl) in_23 rfl (by simp only [inK, hk.n]; omega)) ?_
  first | refine l_v rfl (q_mul rfl rfl rfl (by simp only [inK, hk.n]; omega)) ?_ | refine l_pint rfl rfl ?_
  refine l_pint rfl rfl ?_
  refine l_nil ?_
  refine w_seq ?_
  refine w_seq ?_
  refine w_region ?_
  refine l_pint rfl rfl ?_
  refine l_nil ?_
  refine w_block ?_
  refine w_loopG (G := Nat × Option Addr × Nat × List UInt8) [3, 5, 37, 38, 39, 40, 41, 42, 43, 44, 45, 46, 47, 48, 49] (fun ⟨i, ap, cp, lp⟩ => [(37, .int .i64 ((i : Nat) : Int)), (3, .slice ap lp.length cp)]) (fun m ⟨i, ap, cp, lp⟩ w => m + i = 8 ∧ lp = h.rest ++ 128 :: (List.replicate ((119 - all.length % 64) % 64) 0 ++ lens all.length i) ∧ St W w (row 5 1 ap lp.length cp (lp.map B) :: blk b2 z32 195 :: hashL b h F)) (fun _ => rfl) ?_ ?_
  · exact ⟨8, (0, a3, c3, l), ⟨rfl, rfl, trivial⟩, rfl, by rw [hlk, lens, List.append_nil], H⟩
  rintro m ⟨i, ap, cp, lp⟩ ρ1 w ⟨hmi, hli, H⟩
  have hll : lp.length = h.rest.length + 1 + ((119 - all.length % 64) % 64 + i) := by rw [hli]; simp [lens_len]; omega
  refine w_seq ?_
  refine w_region ?_
  refine l_pbool rfl rfl ?_
  refine l_nil ?_
  refine w_seq ?_
  refine w_cond rfl (fun c3 => ?_) (fun c3 => ?_)
  · try simp only [decide_eq_true_eq, decide_eq_false_iff_not, Bool.not_eq_true', Bool.not_eq_false', beq_iff_eq, beq_eq_false_iff_ne, bne_iff_ne, bne_eq_false_iff_eq, ne_eq, Int.not_lt, Int.not_le] at c3
    refine w_skip ?_
    refine w_seq ?_
    refine w_block ?_
    refine w_seq ?_
    refine w_region ?_
    refine l_pint rfl rfl ?_
    refine l_pint rfl rfl ?_
    refine l_nil ?_
    refine w_region ?_
    refine l_pslice rfl rfl ?_
    refine l_pint rfl rfl ?_
    refine l_pint rfl rfl ?_
    first | refine l_v rfl (q_mul rfl rfl rfl (by simp only [inK]; omega)) ?_ | refine l_pint rfl rfl ?_
    first | refine l_v rfl (q_sub rfl rfl rfl (by simp only [inK]; omega)) ?_ | refine l_pint rfl rfl ?_
    refine l_v rfl (q_pure (u64_shr (8 * all.length) (56 - 8 * i) rfl (by rw [hk.n]; omega) rfl (by omega) (by omega))) ?_
    refine l_v rfl (q_lowN rfl (by kernel_rfl) in_5 rfl) ?_
    refine b_buildSlice (cs := [_]) rfl el_28 ze_5 rfl rfl rfl H (fun b47 w H => ?_)
    refine b_append rfl el_28 ze_5 rfl rfl rfl H 1 rfl (Rd.mk (H.cells0 0 rfl)) rfl (fun u hu => by obtain rfl := List.mem_singleton.1 hu; rfl) ⟨by omega, by simp only [maxLen]; omega⟩ (fun a48 c48 w H => ?_)
    refine l_pslice rfl rfl ?_
    refine l_nil ?_
    refine w_region ?_
    first | refine l_v rfl (q_add rfl rfl rfl (by simp only [inK]; omega)) ?_ | refine l_pint rfl rfl ?_
    refine l_pint rfl rfl ?_
    refine l_nil ?_
    refine ⟨by repeat' first | exact Agr.mix _ _ _ | exact Agr.refl _ _ | refine Agr.inner rfl ?_ | refine Agr.upd rfl ?_ | refine Agr.updL' rfl ?_, ?_⟩
    refine ⟨m - 1, (i + 1, a48, c48, lp ++ [lenB all.length i]), by omega, ⟨by exact congrArg (Value.int IntKind.i64) (Int.natCast_succ i).symm, by exact congrArg (fun x => Value.slice a48 x c48) (by simp), trivial⟩, by omega, by rw [hli, lens]; simp, ?_⟩
    exact row_snoc rfl (show St W w (row 5 1 a48 (lp.length + 1) c48 (lp.map B ++ [B (lenB all.length i)]) :: blk b2 z32 195 :: hashL b h F) from H.drop1)
  try simp only [decide_eq_true_eq, decide_eq_false_iff_not, Bool.not_eq_true', Bool.not_eq_false', beq_iff_eq, beq_eq_false_iff_ne, bne_iff_ne, bne_eq_false_iff_eq, ne_eq, Int.not_lt, Int.not_le] at c3
  obtain rfl : i = 8 := by omega
  have hcp := (H.rowInv (i := 0) rfl).2.1
  have hlp : lp = h.rest ++ pad all.length := hli
  have hp64 : lp.length % 64 = 0 := by rw [hlp]; exact pad_div hk
  have hll2 : lp.length ≤ 200 := by rw [hli]; simp [lens_len]; omega
  refine w_exit ?_
  refine w_seq ?_
  refine w_region ?_
  refine l_pptr rfl rfl ?_
  refine l_pptr rfl rfl ?_
  refine l_v rfl (q_fieldAddr rfl fo253_0 rfl) ?_
  refine l_v rfl (q_loadN (vs := [_, _, _, _, _, _, _, _]) rfl ag_250 rfl rfl ((H.cells 2 rfl).sub 0 8)) ?_
  refine b_alloc rfl ze_250 rfl H (fun b6 w H => ?_)
  first | refine b_store (cs' := [_, _, _, _, _, _, _, _]) rfl sz_250 rfl rfl rfl rfl rfl H 0 rfl rfl rfl (fun w H => ?_) | refine b_store (cs' := [_, _, _, _, _, _, _, _]) rfl sz_250 rfl rfl rfl rfl rfl H 1 rfl rfl rfl (fun w H => ?_) | refine b_store (cs' := [_, _, _, _, _, _, _, _]) rfl sz_250 rfl rfl rfl rfl rfl H 2 rfl rfl rfl (fun w H => ?_) | refine b_store (cs' := [_, _, _, _, _, _, _, _]) rfl sz_250 rfl rfl rfl rfl rfl H 3 rfl rfl rfl (fun w H => ?_) | refine b_store (cs' := [_, _, _, _, _, _, _, _]) rfl sz_250 rfl rfl rfl rfl rfl H 4 rfl rfl rfl (fun w H => ?_)
  refine l_nil ?_
  refine w_seq ?_
  refine w_region ?_
  refine b_call rfl cb_147 rfl (keys_ok H) (fun v w hv => ?_)
  obtain ⟨rfl, H⟩ := hv
  refine b_alloc rfl ze_254 rfl H (fun b7 w H => ?_)
  refine b_store (vs := keysL.map U) rfl sz_254 rfl rfl rfl rfl rfl H 0 rfl rfl (putL_all rfl) (fun w H => ?_)
  refine l_nil ?_
  refine w_seq ?_
  refine w_block ?_
  refine w_loopG (G := Option Addr × Nat × Nat × List UInt8 × S8) [3, 55, 56, 57, 58, 59, 60, 61, 62, 63] (fun ⟨a3, n3, c3, l3, s3⟩ => [(3, .slice a3 n3 c3)]) (fun m ⟨a3, n3, c3, l3, s3⟩ w => m = l3.length ∧ RdIn W (row 5 1 ap lp.length cp (lp.map B) :: blk b2 z32 195 :: hashL b h F) a3 (l3.map B) ∧ l3.length = n3 ∧ n3 ≤ c3 ∧ l3.length % 64 = 0 ∧ l3.length ≤ 9000000000000000000 ∧ loopW s3 l3 = loopW h.s lp ∧ St W w (blk b7 (keysL.map U) 254 :: blk b6 s3.cells 250 :: row 5 1 ap lp.length cp (lp.map B) :: blk b2 z32 195 :: hashL b h F)) (fun _ => rfl) ?_ ?_
  · exact ⟨lp.length, (ap, lp.length, cp, lp, h.s), ⟨rfl, trivial⟩, rfl, RdIn.row 0 rfl, rfl, hcp, hp64, by omega, rfl, H⟩
  rintro m ⟨a3, n3, c3, l3, s3⟩ ρ1 w ⟨rfl, hr3, hl3, hc3, h643, hb3, hloop3, H⟩
  refine w_seq ?_
  refine w_seq ?_
  refine w_region ?_
  refine l_pslice rfl rfl ?_
  refine l_v rfl (q_lenSlice rfl el_28 rfl) ?_
  refine l_pbool rfl rfl ?_
  refine l_nil ?_
  refine w_cond rfl (fun c4 => ?_) (fun c4 => ?_)
  · try simp only [decide_eq_true_eq, decide_eq_false_iff_not, Bool.not_eq_true', Bool.not_eq_false', beq_iff_eq, beq_eq_false_iff_ne, bne_iff_ne, bne_eq_false_iff_eq, ne_eq, Int.not_lt, Int.not_le] at c4
    refine w_skip ?_
    refine w_seq ?_
    refine w_block ?_
    refine w_drawT [3, 4] [0] [(0, 1), (1, 0), (2, 0), (3, 2), (4, 2)] mixed (by kernel_rfl) (fun _ _ _ h => fin_panic h) H (fun H => ?_)
    refine r_v rfl rfl (fun w hS => q_loadN (vs := [_, _, _, _, _, _, _, _]) rfl ag_250 rfl rfl (by first | exact hS.cells 0 rfl | exact hS.cells 1 rfl | exact hS.cells 2 rfl | exact hS.cells 3 rfl | exact hS.cells 4 rfl)) ?_
    refine r_pslice rfl rfl rfl ?_
    refine r_w rfl rfl (fun w => q_slice rfl el_28 rfl Bnd.none (by first | exact Bnd.nat (by omega) | exact Bnd.mk ⟨by omega, by omega⟩) Bnd.none (by simp)) ?_
    refine r_do rfl ?_
    refine b_call rfl cb_148 rfl (block_ok H s3 (bs := l3.take 64) (n := 64) ((rdin_take hr3 64 c3).up 2 rfl) (by simp <;> omega) (by omega) (RdIn.blk 0 rfl)) (fun v w hv => ?_)
    obtain ⟨rfl, H⟩ := hv
    refine l_nil ⟨(fun h => nomatch h), ?_⟩
    refine r_do rfl ?_
    first | refine b_store (cs' := [_, _, _, _, _, _, _, _]) rfl sz_250 rfl rfl rfl rfl rfl H 0 rfl rfl rfl (fun w H => ?_) | refine b_store (cs' := [_, _, _, _, _, _, _, _]) rfl sz_250 rfl rfl rfl rfl rfl H 1 rfl rfl rfl (fun w H => ?_) | refine b_store (cs' := [_, _, _, _, _, _, _, _]) rfl sz_250 rfl rfl rfl rfl rfl H 2 rfl rfl rfl (fun w H => ?_) | refine b_store (cs' := [_, _, _, _, _, _, _, _]) rfl sz_250 rfl rfl rfl rfl rfl H 3 rfl rfl rfl (fun w H => ?_) | refine b_store (cs' := [_, _, _, _, _, _, _, _]) rfl sz_250 rfl rfl rfl rfl rfl H 4 rfl rfl rfl (fun w H => ?_)
    refine l_nil ⟨(fun h => nomatch h), ?_⟩
    refine r_nil ?_
    refine w_region ?_
    refine l_pslice rfl rfl ?_
    refine l_v rfl (q_slice rfl el_28 rfl Bnd.none Bnd.none (by first | exact Bnd.nat (by omega) | exact Bnd.mk ⟨by omega, by omega⟩) (by simp)) ?_
    refine l_pslice rfl rfl ?_
    refine l_nil ?_
    refine ⟨by repeat' first | exact Agr.mix _ _ _ | exact Agr.refl _ _ | refine Agr.inner rfl ?_ | refine Agr.upd rfl ?_ | refine Agr.updL' rfl ?_, ?_⟩
    exact ⟨(l3.drop 64).length, (subA a3 1 64 c3, n3 - 64, c3 - 64, l3.drop 64, block8 s3 (l3.take 64)), by simp <;> omega, ⟨rfl, trivial⟩, rfl, rdin_drop hr3 (by omega), by simp <;> omega, by omega, by simp <;> omega, by simp <;> omega, (loopW_big (by omega)).symm.trans hloop3, H⟩
  try simp only [decide_eq_true_eq, decide_eq_false_iff_not, Bool.not_eq_true', Bool.not_eq_false', beq_iff_eq, beq_eq_false_iff_ne, bne_iff_ne, bne_eq_false_iff_eq, ne_eq, Int.not_lt, Int.not_le] at c4
  refine w_exit ?_
  refine w_seq ?_
  refine w_region ?_
  refine b_alloc rfl ze_195 rfl H (fun b8 w H => ?_)
  refine l_nil ?_
  refine w_seq ?_
  refine w_seq ?_
  refine w_region ?_
  refine l_v rfl (q_loadN (vs := [_, _, _, _, _, _, _, _]) rfl ag_250 rfl rfl (by first | exact H.cells 0 rfl | exact H.cells 1 rfl | exact H.cells 2 rfl | exact H.cells 3 rfl | exact H.cells 4 rfl)) ?_
  refine l_pint rfl rfl ?_
  refine l_nil ?_
  refine w_block ?_
  refine w_loopG (G := Nat) [9, 10, 11, 65, 66, 67, 68, 69, 70, 71, 72, 73, 74, 75, 76, 77, 78, 79, 80, 81, 82, 83, 84] (fun i => [(65, .int .i64 ((i : Nat) : Int))]) (fun m i w => m + i = 8 ∧ St W w (blk b8 ((outB s3 (4 * i)).map B) 195 :: blk b7 (keysL.map U) 254 :: blk b6 s3.cells 250 :: row 5 1 ap lp.length cp (lp.map B) :: blk b2 z32 195 :: hashL b h F)) (fun _ => rfl) ?_ ?_
  · refine ⟨8, 0, ⟨rfl, trivial⟩, rfl, ?_⟩
    rw [show (outB s3 (4 * 0)).map B = z32 from by rw [Nat.mul_zero, outB]; rfl]
    exact H
  rintro m i ρ1 w ⟨hmi8, H⟩
  refine w_seq ?_
  refine w_region ?_
  refine l_pbool rfl rfl ?_
  refine l_nil ?_
  refine w_seq ?_
  refine w_cond rfl (fun c5 => ?_) (fun c5 => ?_)
  · try simp only [decide_eq_true_eq, decide_eq_false_iff_not, Bool.not_eq_true', Bool.not_eq_false', beq_iff_eq, beq_eq_false_iff_ne, bne_iff_ne, bne_eq_false_iff_eq, ne_eq, Int.not_lt, Int.not_le] at c5
    refine w_skip ?_
    refine w_seq ?_
    refine w_block ?_
    refine w_seq ?_
    refine w_region ?_
    refine l_pint rfl rfl ?_
    refine l_v rfl (q_indexAgg1 (cs := s3.list.map U) (v := U (s3.list.getD i 0)) rfl ar_250 c1_235 rfl rfl ⟨by omega, by omega⟩ (get_U (by show i < 8; omega))) ?_
    refine l_pint rfl rfl ?_
    first | refine l_p (v := U _) rfl rfl ?_ | refine l_pint rfl rfl ?_
    refine l_nil ?_
    refine w_seq ?_
    refine w_region ?_
    refine l_pint rfl rfl ?_
    refine l_nil ?_
    refine w_block ?_
    refine w_loopG (G := Nat) [11, 69, 70, 71, 72, 73, 74, 75, 76, 77, 78, 79, 80, 81, 82, 83] (fun j => [(69, .int .i64 ((j : Nat) : Int))]) (fun m j w => m + j = 4 ∧ St W w (blk b8 ((outB s3 (4 * i + j)).map B) 195 :: blk b7 (keysL.map U) 254 :: blk b6 s3.cells 250 :: row 5 1 ap lp.length cp (lp.map B) :: blk b2 z32 195 :: hashL b h F)) (fun _ => rfl) ?_ ?_
    · exact ⟨4, 0, ⟨rfl, trivial⟩, rfl, H⟩
    rintro m j ρ1 w ⟨hmj, H⟩
    refine w_seq ?_
    refine w_region ?_
    refine l_pbool rfl rfl ?_
    refine l_nil ?_
    refine w_seq ?_
    refine w_cond rfl (fun c6 => ?_) (fun c6 => ?_)
    · try simp only [decide_eq_true_eq, decide_eq_false_iff_not, Bool.not_eq_true', Bool.not_eq_false', beq_iff_eq, beq_eq_false_iff_ne, bne_iff_ne, bne_eq_false_iff_eq, ne_eq, Int.not_lt, Int.not_le] at c6
      have hj6 : j < 4 := by omega
      refine w_skip ?_
      refine w_seq ?_
      refine w_block ?_
      refine w_seq ?_
      refine w_region ?_
      refine l_pint rfl rfl ?_
      refine l_pint rfl rfl ?_
      refine l_nil ?_
      refine w_region ?_
      refine l_pint rfl rfl ?_
      first | refine l_v rfl (q_mul rfl rfl rfl (by simp only [inK]; omega)) ?_ | refine l_pint rfl rfl ?_
      refine l_pint rfl rfl ?_
      first | refine l_v rfl (q_add rfl rfl rfl (by simp only [inK]; omega)) ?_ | refine l_pint rfl rfl ?_
      first | refine l_p (v := U _) rfl rfl ?_ | refine l_pint rfl rfl ?_
      refine l_pint rfl rfl ?_
      first | refine l_v rfl (q_mul rfl rfl rfl (by simp only [inK]; omega)) ?_ | refine l_pint rfl rfl ?_
      first | refine l_v rfl (q_sub rfl rfl rfl (by simp only [inK]; omega)) ?_ | refine l_pint rfl rfl ?_
      refine l_v rfl (q_pure (u_shr (n := 24 - 8 * j) rfl (congrArg (Value.int .i64) (by omega)) (by omega))) ?_
      refine l_v rfl (q_lowB rfl rfl in_5 rfl) ?_
      refine l_v rfl (q_indexArrE (4 * i + j) rfl ar_195 rfl rfl (by omega) (by omega)) ?_
      refine b_store (vs := [B (s3.list.getD i 0 >>> UInt32.ofNat (24 - 8 * j)).toUInt8]) (cs' := (outB s3 (4 * i + (j + 1))).map B) rfl sz_5 rfl rfl rfl rfl rfl H 0 rfl (by simp [outB_len, Nat.ble_eq, -Nat.reduceMul]; omega) (out_put hj6 rfl) (fun w H => ?_)
      refine l_nil ?_
      refine w_region ?_
      first | refine l_v rfl (q_add rfl rfl rfl (by simp only [inK]; omega)) ?_ | refine l_pint rfl rfl ?_
      refine l_pint rfl rfl ?_
      refine l_nil ?_
      refine ⟨by repeat' first | exact Agr.mix _ _ _ | exact Agr.refl _ _ | refine Agr.inner rfl ?_ | refine Agr.upd rfl ?_ | refine Agr.updL' rfl ?_, ?_⟩
      exact ⟨m - 1, j + 1, by omega, ⟨by exact congrArg (Value.int IntKind.i64) (Int.natCast_succ j).symm, trivial⟩, by omega, H⟩
    try simp only [decide_eq_true_eq, decide_eq_false_iff_not, Bool.not_eq_true', Bool.not_eq_false', beq_iff_eq, beq_eq_false_iff_ne, bne_iff_ne, bne_eq_false_iff_eq, ne_eq, Int.not_lt, Int.not_le] at c6
    obtain rfl : j = 4 := by omega
    have H : St W w (blk b8 ((outB s3 (4 * (i + 1))).map B) 195 :: blk b7 (keysL.map U) 254 :: blk b6 s3.cells 250 :: row 5 1 ap lp.length cp (lp.map B) :: blk b2 z32 195 :: hashL b h F) := H
    refine w_exit ?_
    refine w_region ?_
    first | refine l_v rfl (q_add rfl rfl rfl (by simp only [inK]; omega)) ?_ | refine l_pint rfl rfl ?_
    refine l_pint rfl rfl ?_
    refine l_nil ?_
    refine ⟨by repeat' first | exact Agr.mix _ _ _ | exact Agr.refl _ _ | refine Agr.inner rfl ?_ | refine Agr.upd rfl ?_ | refine Agr.updL' rfl ?_, ?_⟩
    exact ⟨8 - (i + 1), i + 1, by omega, ⟨by exact congrArg (Value.int IntKind.i64) (Int.natCast_succ i).symm, trivial⟩, by omega, H⟩
  try simp only [decide_eq_true_eq, decide_eq_false_iff_not, Bool.not_eq_true', Bool.not_eq_false', beq_iff_eq, beq_eq_false_iff_ne, bne_iff_ne, bne_eq_false_iff_eq, ne_eq, Int.not_lt, Int.not_le] at c5
  obtain rfl : i = 8 := by omega
  refine w_exit ?_
  refine w_seq ?_
  refine w_region ?_
  refine l_v rfl (q_loadN (vs := (outB s3 32).map B) rfl ag_195 rfl (by simp [outB_len]) (H.cells 0 rfl)) ?_
  refine b_store (vs := (outB s3 32).map B) rfl sz_195 rfl rfl rfl (by simp [outB_len]) (all1 _) H 4 rfl (by simp [outB_len, z32]) (putL_all (by simp [outB_len, z32])) (fun w H => ?_)
  refine l_nil ?_
  refine w_ret ?_
  refine finc rfl ag_195 (by simp [outB_len]) (H.cells 4 rfl) ?_
  have hl0 : l3 = [] := List.eq_nil_of_length_eq_zero (by omega)
  subst hl0
  have e3 : s3 = (loopW h.s lp).1 := by rw [← hloop3, loopW_small (by simp)]
  refine ⟨?_, H.erase (0 + 4) |>.erase 3 |>.erase 2 |>.erase 1 |>.erase 0⟩
  rw [shaL_of hk, ← hlp, ← e3]
end Go.Proofs.YtfpmnhmdphaceaaDoor
namespace Go.Proofs.YtfpmnhmdphaceaaDoor
open Go.EW
attribute [local irreducible] EW.W EW.L EW.fin block8 outB parA pgo hexL shaL digitI
set_option linter.unusedVariables false
set_option linter.unusedSimpArgs false
theorem RdIn.blk0 {W : World} {S : List Seg} {b : Nat} {cs : List Value} {T : TypeId} (i : Nat) (hi : S[i]? = some (EW.blk0 b cs T)) : RdIn W S (some ⟨b, 0, none⟩) cs := fun w S' H =>
  Rd.mk (H.cells0 (S'.length + i) (by rw [List.getElem?_append_right (by omega)]; simpa using hi))
theorem rd_cell {w : World} {a : Option Addr} {xs : List Value} {k : Nat} {x : Value} (h : Rd w a xs) (hk : xs[k]? = some x) : ∃ b o, a = some ⟨b, o, none⟩ ∧ w.cell? ⟨b, o + k * 1, none⟩ = some x := by
  obtain ⟨b, o, ha, hc⟩ := h k x hk
  exact ⟨b, o, ha, by rw [Nat.mul_one]; exact hc⟩
/-- a part: where its bytes lie, how much room, the bytes -/
abbrev Part := Option Addr × Nat × List UInt8
def pv (p : Part) : Value := .slice p.1 p.2.2.length p.2.1
def joinL (ps : List Part) : List UInt8 := ps.flatMap (·.2.2)
theorem joinL_snoc {ps : List Part} {i : Nat} (hi : i < ps.length) : joinL (ps.take (i + 1)) = joinL (ps.take i) ++ ps[i].2.2 := by
  unfold joinL
  rw [List.take_add_one, List.getElem?_eq_getElem hi, List.flatMap_append]
  simp only [Option.toList_some, List.flatMap_cons, List.flatMap_nil, List.append_nil]
theorem joinL_le (ps : List Part) (i : Nat) : (joinL (ps.take i)).length ≤ (joinL ps).length := by
  conv => rhs; rw [← List.take_append_drop i ps]
  unfold joinL
  rw [List.flatMap_append, List.length_append]; omega
theorem shaL_len (l : List UInt8) : (shaL l).length = 32 := by unfold shaL; rw [outB_len]
/-- a part that can be read, and is not too long -/
def PartOk (W : World) (F : List Seg) (p : Part) : Prop := RdIn W F p.1 (p.2.2.map B) ∧ p.2.2.length ≤ p.2.1 ∧ p.2.2.length ≤ 140737488355200
theorem Join_ok {W w : World} {F : List Seg} (H : St W w F) {a : Option Addr} {n cap : Nat} {ps : List Part} (hr : RdIn W F a (ps.map pv)) (hn : n = ps.length) (hp : ∀ p ∈ ps, PartOk W F p) (ht : (joinL ps).length ≤ 576460752303423488) (hps : ps.length ≤ 140737488355328) :
    Ok Tryd.prog 131 [.slice a n cap].toArray w (fun v w' => v = .agg ((shaL (joinL ps)).map B).toArray ∧ St W w' F) := by
  refine enter (n := 19) (rs := #[.cell 2 195]) Tryd.func131 rfl rfl rfl rfl ?_
  refine w_seq ?_
  refine w_region ?_
  refine b_alloc rfl ze_195 rfl H (fun b2 w H => ?_)
  refine l_nil ?_
  refine w_seq ?_
  refine w_region ?_
  refine b_call rfl cb_139 rfl (New_ok H) (fun v w hv => ?_)
  obtain ⟨b, rfl, H⟩ := hv
  refine l_pptr rfl rfl ?_
  refine l_nil ?_
  refine w_seq ?_
  refine w_seq ?_
  refine w_region ?_
  refine l_pslice rfl rfl ?_
  refine l_v rfl (q_lenSlice rfl el_31 rfl) ?_
  refine l_pint rfl rfl ?_
  refine l_nil ?_
  refine w_block ?_
  refine w_loopG (G := Nat × HS) [5, 9, 10, 11, 12, 13, 14, 15, 16] (fun ⟨i, h⟩ => [(9, .int .i64 ((i : Nat) : Int))]) (fun m ⟨i, h⟩ w => m + i = ps.length ∧ HOk h (joinL (ps.take i)) ∧ St W w (hashL b h (blk b2 z32 195 :: F))) (fun _ => rfl) ?_ ?_
  · exact ⟨ps.length, (0, newH), ⟨rfl, trivial⟩, by omega, HOk.new, H⟩
  rintro m ⟨i, h⟩ ρ1 w ⟨hmi, hk, H⟩
  refine w_seq ?_
  refine w_region ?_
  refine l_pbool rfl rfl ?_
  refine l_nil ?_
  refine w_seq ?_
  refine w_cond rfl (fun c1 => ?_) (fun c1 => ?_)
  · try simp only [decide_eq_true_eq, decide_eq_false_iff_not, Bool.not_eq_true', Bool.not_eq_false', beq_iff_eq, beq_eq_false_iff_ne, bne_iff_ne, bne_eq_false_iff_eq, ne_eq, Int.not_lt, Int.not_le] at c1
    have hi' : i < ps.length := by omega
    have hjl := joinL_le ps i
    obtain ⟨b0, o0, ha0, hc0⟩ := rd_cell (x := pv ps[i]) (hr.use H 3 rfl) (by rw [List.getElem?_map, List.getElem?_eq_getElem hi']; rfl)
    refine w_skip ?_
    refine w_seq ?_
    refine w_block ?_
    refine w_seq ?_
    refine w_region ?_
    refine l_v rfl (q_indexSliceE i rfl el_31 rfl ha0 rfl rfl (by omega)) ?_
    refine l_v rfl (q_load1 rfl c1_28 rfl hc0) ?_
    refine l_pslice rfl rfl ?_
    refine l_nil ?_
    refine w_region ?_
    refine l_pptr rfl rfl ?_
    refine l_pslice rfl rfl ?_
    refine b_call rfl cb_140 rfl (Write_ok H hk.rest ((hp ps[i] (List.getElem_mem hi')).1.up 1 rfl) rfl (hp ps[i] (List.getElem_mem hi')).2.1 (hp ps[i] (List.getElem_mem hi')).2.2 (by rw [hk.n]; omega)) (fun v w hv => ?_)
    obtain ⟨rfl, ra, rc, H⟩ := hv
    refine l_nil ?_
    refine w_region ?_
    first | refine l_v rfl (q_add rfl rfl rfl (by simp only [inK]; omega)) ?_ | refine l_pint rfl rfl ?_
    refine l_pint rfl rfl ?_
    refine l_nil ?_
    refine ⟨by repeat' first | exact Agr.mix _ _ _ | exact Agr.refl _ _ | refine Agr.inner rfl ?_ | refine Agr.upd rfl ?_ | refine Agr.updL' rfl ?_, ?_⟩
    exact ⟨m - 1, (i + 1, _), by omega, ⟨by exact congrArg (Value.int IntKind.i64) (Int.natCast_succ i).symm, trivial⟩, by omega, by rw [joinL_snoc hi']; exact hk.write ra rc, H⟩
  try simp only [decide_eq_true_eq, decide_eq_false_iff_not, Bool.not_eq_true', Bool.not_eq_false', beq_iff_eq, beq_eq_false_iff_ne, bne_iff_ne, bne_eq_false_iff_eq, ne_eq, Int.not_lt, Int.not_le] at c1
  obtain rfl : i = ps.length := by omega
  rw [List.take_length] at hk
  refine w_exit ?_
  refine w_seq ?_
  refine w_region ?_
  refine l_pptr rfl rfl ?_
  refine b_call rfl cb_141 rfl (Sum_ok H hk (by omega)) (fun v w hv => ?_)
  obtain ⟨rfl, H⟩ := hv
  refine b_store (vs := (shaL (joinL ps)).map B) rfl sz_195 rfl rfl rfl (by simp [shaL_len]) (all1 _) H 2 rfl (by simp [shaL_len, z32]) (putL_all (by simp [shaL_len, z32])) (fun w H => ?_)
  refine l_nil ?_
  refine w_ret ?_
  refine finc rfl ag_195 (by simp [shaL_len]) (H.cells 2 rfl) ?_
  exact ⟨rfl, ((H.erase 2).erase 1).erase 0⟩
theorem SumB_ok {W w : World} {F : List Seg} (H : St W w F) {a : Option Addr} {cap : Nat} {bs : List UInt8} (hr : RdIn W F a (bs.map B)) (hc : bs.length ≤ cap) (hn : bs.length ≤ 140737488355200) :
    Ok Tryd.prog 109 [.slice a bs.length cap].toArray w (fun v w' => v = .agg ((shaL bs).map B).toArray ∧ St W w' F) := by
  refine enter (n := 6) (rs := #[.cell 2 195]) Tryd.func109 rfl rfl rfl rfl ?_
  refine w_seq ?_
  refine w_region ?_
  refine b_alloc rfl ze_195 rfl H (fun b2 w H => ?_)
  refine l_nil ?_
  refine w_seq ?_
  refine w_region ?_
  refine l_pslice rfl rfl ?_
  refine b_buildSlice (cs := [pv (a, cap, bs)]) rfl el_31 ze_28 rfl rfl rfl H (fun b4 w H => ?_)
  refine b_call rfl cb_131 rfl (Join_ok H (n := 1) (ps := [(a, cap, bs)]) (RdIn.blk0 0 rfl) rfl (fun p hp => by obtain rfl := List.mem_singleton.1 hp; exact ⟨hr.up 2 rfl, hc, hn⟩) (by simp [joinL]; omega) (by simp)) (fun v w hv => ?_)
  obtain ⟨rfl, H⟩ := hv
  refine b_store (vs := (shaL (joinL [(a, cap, bs)])).map B) rfl sz_195 rfl rfl rfl (by simp [shaL_len]) (all1 _) H 1 rfl (by simp [shaL_len]) (putL_all (by simp [shaL_len])) (fun w H => ?_)
  refine l_nil ?_
  refine w_ret ?_
  refine finc rfl ag_195 (by simp [shaL_len]) (H.cells 1 rfl) ?_
  refine ⟨?_, (H.erase 1).erase 0⟩
  simp [joinL]
end Go.Proofs.YtfpmnhmdphaceaaDoor
namespace Go.Proofs.YtfpmnhmdphaceaaDoor
open Go.EW
set_option linter.unusedVariables false
theorem SumB_to {W w : World} {F : List Seg} (H : St W w F) {a : Option Addr} {n cap : Nat} {bs : List UInt8} (hr : RdIn W F a (bs.map B)) (hl : bs.length = n) (hc : n ≤ cap) (hn : n ≤ 140737488355200) :
    Ok Tryd.prog 109 [.slice a n cap].toArray w (fun v w' => v = .agg ((shaL bs).map B).toArray ∧ St W w' F) := by
  subst hl; exact SumB_ok H hr hc hn
theorem pickP (is : List Nat) {pre F : List Seg} (hb : pickB is pre.length = true) (hfull : (List.range pre.length).filter (fun i => !memb is i) = []) : (pre ++ F).Perm (is.filterMap (fun i => pre[i]?) ++ F) := by
  obtain ⟨n1, n2⟩ := pickB_spec is _ hb
  have hp := (range_split is pre.length n1 n2).filterMap (fun i => pre[i]?)
  rw [range_get, List.filterMap_append] at hp
  rw [hfull, List.filterMap_nil, List.append_nil] at hp
  exact hp.append_right F
theorem Ok_perm {f : FuncId} {args : Array Value} {W w : World} {S S' : List Seg} {R : Value → Prop} (hp : S.Perm S') (h : St W w S' → Ok Tryd.prog f args w (fun v w' => R v ∧ St W w' S')) (H : St W w S) : Ok Tryd.prog f args w (fun v w' => R v ∧ St W w' S) :=
  (h (H.perm hp)).mono (fun v w' hv => ⟨hv.1, hv.2.perm hp.symm⟩)
end Go.Proofs.YtfpmnhmdphaceaaDoor
namespace Go.Proofs.YtfpmnhmdphaceaaDoor
open Go.EW
attribute [local irreducible] EW.W EW.L EW.fin block8 outB parA pgo hexL shaL digitI
set_option linter.unusedVariables false
set_option linter.unusedSimpArgs false
attribute [local irreducible] tgo outH lgo rgo pl cubeL
theorem rd_at {w : World} {a : Option Addr} {b o j : Nat} {xs : List Value} {v : Value} (ha : a = some ⟨b, o, none⟩) (h : Rd w a xs) (hj : xs[j]? = some v) : w.cell? ⟨b, o + j * 1, none⟩ = some v := by
  obtain ⟨b', o', h1, h2⟩ := h j v hj
  rw [ha] at h1; cases h1
  rw [Nat.mul_one]; exact h2
end Go.Proofs.YtfpmnhmdphaceaaDoor
namespace Go.Proofs.YtfpmnhmdphaceaaDoor
open Go.EW
attribute [local irreducible] EW.W EW.L EW.fin block8 outB parA pgo hexL shaL digitI
set_option linter.unusedVariables false
set_option linter.unusedSimpArgs false
attribute [local irreducible] tgo outH lgo rgo pl cubeL rootU
end Go.Proofs.YtfpmnhmdphaceaaDoor
namespace Go.Proofs.YtfpmnhmdphaceaaDoor
open Go.EW
attribute [local irreducible] EW.W EW.L EW.fin block8 outB parA pgo hexL shaL digitI
set_option linter.unusedVariables false
set_option linter.unusedSimpArgs false
end Go.Proofs.YtfpmnhmdphaceaaDoor
namespace Go.Proofs.YtfpmnhmdphaceaaDoor
open Go.EW
attribute [local irreducible] EW.W EW.L EW.fin block8 outB parA pgo hexL shaL digitI
set_option linter.unusedVariables false
set_option linter.unusedSimpArgs false
end Go.Proofs.YtfpmnhmdphaceaaDoor
namespace Go.Proofs.YtfpmnhmdphaceaaDoor
open Go.EW
attribute [local irreducible] EW.W EW.L EW.fin block8 outB parA pgo hexL shaL digitI
set_option linter.unusedVariables false
set_option linter.unusedSimpArgs false
end Go.Proofs.YtfpmnhmdphaceaaDoor
