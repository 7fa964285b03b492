/- The network's there, address, copied and lay do what their contracts say, of every net that is laid in owned memory. -/
import Derived.Test.YtmgcmgfjaimlnaaBaseAll
import Derived.Test.YtmgcmgfjaimlnaaFacts14
namespace Go.Proofs.Ytmgcmgfjaimlnaa
open Go.EW
attribute [local irreducible] EW.W EW.L EW.fin
set_option linter.unusedVariables false
set_option linter.unusedSimpArgs false
/-- a packet, and what its bytes are -/
structure Pk where
  fr : Int
  to : Int
  a : Option Addr
  n : Nat
  cap : Nat
  bs : List UInt8
def Pk.cells (p : Pk) : List Value := [.int .i64 p.fr, .int .i64 p.to, .slice p.a p.n p.cap]
def Pk.own (p : Pk) : Seg := row 5 1 p.a p.n p.cap (p.bs.map B)
theorem there_ok {W w : World} {S : List Seg} {b i : Nat} {cs : List Value} (H : St W w S) (hi : S[i]? = some (blk b cs 84)) {a : Option Addr} {n cap : Nat} (hp : cs[2]? = some (.slice a n cap)) (k : Int) :
    Ok Try.prog 50 [.pointer (some ⟨b, 0, none⟩), .int .i64 k].toArray w (fun v w' => v = .bool (decide (0 ≤ k) && decide (k < n)) ∧ w' = w) := by
  refine enter (n := 16) (rs := #[.tmp 4]) Try.func50 rfl rfl rfl rfl ?_
  refine w_seq ?_
  refine w_region ?_
  refine l_pbool rfl rfl ?_
  refine l_nil ?_
  refine w_seq ?_
  refine w_region ?_
  refine l_pint rfl rfl ?_
  refine l_pbool rfl rfl ?_
  refine l_pbool rfl rfl ?_
  refine l_split 7 rfl (fun h7 => ?_) (fun h7 => ?_)
  · try simp only [decide_eq_true_eq, decide_eq_false_iff_not, Bool.not_eq_true', Bool.not_eq_false', beq_iff_eq, beq_eq_false_iff_ne, bne_iff_ne, bne_eq_false_iff_eq, ne_eq, Int.not_lt, Int.not_le] at h7
    refine l_pint rfl rfl ?_
    refine l_pptr rfl rfl ?_
    refine l_pptr rfl rfl ?_
    refine l_v rfl (q_fieldAddr rfl fo84_2 rfl) ?_
    refine l_v rfl (q_load1 rfl c1_22 rfl (H.cell i hi hp)) ?_
    refine l_v rfl (q_lenSlice rfl el_22 rfl) ?_
    refine l_pbool rfl rfl ?_
    refine l_pickT (v := .bool _) rfl rfl rfl ?_
    refine l_pbool rfl rfl ?_
    refine l_nil ?_
    refine w_ret ?_
    refine fin1 (v := .bool _) rfl ?_
    refine ⟨?_, rfl⟩
    first | (simp at h7 ⊢; done) | (simp at h7 ⊢; omega)
  try simp only [decide_eq_true_eq, decide_eq_false_iff_not, Bool.not_eq_true', Bool.not_eq_false', beq_iff_eq, beq_eq_false_iff_ne, bne_iff_ne, bne_eq_false_iff_eq, ne_eq, Int.not_lt, Int.not_le] at h7
  refine l_no rfl ?_
  refine l_no rfl ?_
  refine l_no rfl ?_
  refine l_no rfl ?_
  refine l_no rfl ?_
  refine l_no rfl ?_
  refine l_no rfl ?_
  refine l_pickF (v := .bool _) rfl rfl rfl ?_
  refine l_pbool rfl rfl ?_
  refine l_nil ?_
  refine w_ret ?_
  refine fin1 (v := .bool _) rfl ?_
  refine ⟨?_, rfl⟩
  first | (simp at h7 ⊢; done) | (simp at h7 ⊢; omega)
theorem address_ok {W w : World} {S : List Seg} {b i : Nat} {cs : List Value} (H : St W w S) (hi : S[i]? = some (blk b cs 84)) {no cl : Int} (hn : cs[0]? = some (.int .i64 no)) (hc : cs[1]? = some (.int .i64 cl)) (hb : 0 ≤ cl ∧ cl ≤ 100) (x : Int) :
    Ok Try.prog 82 [.pointer (some ⟨b, 0, none⟩), .int .i64 x].toArray w (fun v w' => v = .bool (decide (0 ≤ x ∧ x < no ∨ 7 ≤ x ∧ x < 7 + cl)) ∧ w' = w) := by
  refine enter (n := 28) (rs := #[.tmp 4]) Try.func82 rfl rfl rfl rfl ?_
  refine w_seq ?_
  refine w_region ?_
  refine l_pbool rfl rfl ?_
  refine l_nil ?_
  refine w_seq ?_
  refine w_region ?_
  refine l_pint rfl rfl ?_
  refine l_pbool rfl rfl ?_
  refine l_pbool rfl rfl ?_
  refine l_split 7 rfl (fun h7 => ?_) (fun h7 => ?_)
  · try simp only [decide_eq_true_eq, decide_eq_false_iff_not, Bool.not_eq_true', Bool.not_eq_false', beq_iff_eq, beq_eq_false_iff_ne, bne_iff_ne, bne_eq_false_iff_eq, ne_eq, Int.not_lt, Int.not_le] at h7
    refine l_pint rfl rfl ?_
    refine l_pptr rfl rfl ?_
    refine l_pptr rfl rfl ?_
    refine l_v rfl (q_fieldAddr rfl fo84_0 rfl) ?_
    refine l_v rfl (q_load1 rfl c1_3 rfl (by first | exact H.cell i hi hn | exact H.cell i hi hc)) ?_
    refine l_pbool rfl rfl ?_
    refine l_pickT (v := .bool _) rfl rfl rfl ?_
    refine l_pbool rfl rfl ?_
    refine l_split 15 rfl (fun h15 => ?_) (fun h15 => ?_)
    · try simp only [decide_eq_true_eq, decide_eq_false_iff_not, Bool.not_eq_true', Bool.not_eq_false', beq_iff_eq, beq_eq_false_iff_ne, bne_iff_ne, bne_eq_false_iff_eq, ne_eq, Int.not_lt, Int.not_le] at h15
      refine l_no rfl ?_
      refine l_no rfl ?_
      refine l_no rfl ?_
      refine l_no rfl ?_
      refine l_no rfl ?_
      refine l_no rfl ?_
      refine l_no rfl ?_
      refine l_no rfl ?_
      refine l_no rfl ?_
      refine l_no rfl ?_
      refine l_no rfl ?_
      refine l_pickT (v := .bool _) rfl rfl rfl ?_
      refine l_pbool rfl rfl ?_
      refine l_nil ?_
      refine w_ret ?_
      refine fin1 (v := .bool _) rfl ?_
      refine ⟨congrArg Value.bool ?_, rfl⟩
      first | (simp at *; done) | (simp at *; omega) | (rw [Bool.eq_iff_iff]; simp at *; omega)
    try simp only [decide_eq_true_eq, decide_eq_false_iff_not, Bool.not_eq_true', Bool.not_eq_false', beq_iff_eq, beq_eq_false_iff_ne, bne_iff_ne, bne_eq_false_iff_eq, ne_eq, Int.not_lt, Int.not_le] at h15
    refine l_pint rfl rfl ?_
    refine l_pbool rfl rfl ?_
    refine l_pbool rfl rfl ?_
    refine l_split 18 rfl (fun h18 => ?_) (fun h18 => ?_)
    · try simp only [decide_eq_true_eq, decide_eq_false_iff_not, Bool.not_eq_true', Bool.not_eq_false', beq_iff_eq, beq_eq_false_iff_ne, bne_iff_ne, bne_eq_false_iff_eq, ne_eq, Int.not_lt, Int.not_le] at h18
      refine l_pint rfl rfl ?_
      refine l_pptr rfl rfl ?_
      refine l_pptr rfl rfl ?_
      refine l_v rfl (q_fieldAddr rfl fo84_1 rfl) ?_
      refine l_v rfl (q_load1 rfl c1_3 rfl (by first | exact H.cell i hi hn | exact H.cell i hi hc)) ?_
      first | refine l_v rfl (q_add rfl rfl rfl (by simp only [inK]; omega)) ?_ | refine l_pint rfl rfl ?_
      refine l_pbool rfl rfl ?_
      refine l_pickT (v := .bool _) rfl rfl rfl ?_
      refine l_pickF (v := .bool _) rfl rfl rfl ?_
      refine l_pbool rfl rfl ?_
      refine l_nil ?_
      refine w_ret ?_
      refine fin1 (v := .bool _) rfl ?_
      refine ⟨congrArg Value.bool ?_, rfl⟩
      first | (simp at *; done) | (simp at *; omega) | (rw [Bool.eq_iff_iff]; simp at *; omega)
    try simp only [decide_eq_true_eq, decide_eq_false_iff_not, Bool.not_eq_true', Bool.not_eq_false', beq_iff_eq, beq_eq_false_iff_ne, bne_iff_ne, bne_eq_false_iff_eq, ne_eq, Int.not_lt, Int.not_le] at h18
    refine l_no rfl ?_
    refine l_no rfl ?_
    refine l_no rfl ?_
    refine l_no rfl ?_
    refine l_no rfl ?_
    refine l_no rfl ?_
    refine l_no rfl ?_
    refine l_pickF (v := .bool _) rfl rfl rfl ?_
    refine l_pickF (v := .bool _) rfl rfl rfl ?_
    refine l_pbool rfl rfl ?_
    refine l_nil ?_
    refine w_ret ?_
    refine fin1 (v := .bool _) rfl ?_
    refine ⟨congrArg Value.bool ?_, rfl⟩
    first | (simp at *; done) | (simp at *; omega) | (rw [Bool.eq_iff_iff]; simp at *; omega)
  try simp only [decide_eq_true_eq, decide_eq_false_iff_not, Bool.not_eq_true', Bool.not_eq_false', beq_iff_eq, beq_eq_false_iff_ne, bne_iff_ne, bne_eq_false_iff_eq, ne_eq, Int.not_lt, Int.not_le] at h7
  refine l_no rfl ?_
  refine l_no rfl ?_
  refine l_no rfl ?_
  refine l_no rfl ?_
  refine l_no rfl ?_
  refine l_no rfl ?_
  refine l_pickF (v := .bool _) rfl rfl rfl ?_
  refine l_pbool rfl rfl ?_
  refine l_pint rfl rfl ?_
  refine l_pbool rfl rfl ?_
  refine l_pbool rfl rfl ?_
  refine l_split 18 rfl (fun h18 => ?_) (fun h18 => ?_)
  · try simp only [decide_eq_true_eq, decide_eq_false_iff_not, Bool.not_eq_true', Bool.not_eq_false', beq_iff_eq, beq_eq_false_iff_ne, bne_iff_ne, bne_eq_false_iff_eq, ne_eq, Int.not_lt, Int.not_le] at h18
    refine l_pint rfl rfl ?_
    refine l_pptr rfl rfl ?_
    refine l_pptr rfl rfl ?_
    refine l_v rfl (q_fieldAddr rfl fo84_1 rfl) ?_
    refine l_v rfl (q_load1 rfl c1_3 rfl (by first | exact H.cell i hi hn | exact H.cell i hi hc)) ?_
    first | refine l_v rfl (q_add rfl rfl rfl (by simp only [inK]; omega)) ?_ | refine l_pint rfl rfl ?_
    refine l_pbool rfl rfl ?_
    refine l_pickT (v := .bool _) rfl rfl rfl ?_
    refine l_pickF (v := .bool _) rfl rfl rfl ?_
    refine l_pbool rfl rfl ?_
    refine l_nil ?_
    refine w_ret ?_
    refine fin1 (v := .bool _) rfl ?_
    refine ⟨congrArg Value.bool ?_, rfl⟩
    first | (simp at *; done) | (simp at *; omega) | (rw [Bool.eq_iff_iff]; simp at *; omega)
  try simp only [decide_eq_true_eq, decide_eq_false_iff_not, Bool.not_eq_true', Bool.not_eq_false', beq_iff_eq, beq_eq_false_iff_ne, bne_iff_ne, bne_eq_false_iff_eq, ne_eq, Int.not_lt, Int.not_le] at h18
  refine l_no rfl ?_
  refine l_no rfl ?_
  refine l_no rfl ?_
  refine l_no rfl ?_
  refine l_no rfl ?_
  refine l_no rfl ?_
  refine l_no rfl ?_
  refine l_pickF (v := .bool _) rfl rfl rfl ?_
  refine l_pickF (v := .bool _) rfl rfl rfl ?_
  refine l_pbool rfl rfl ?_
  refine l_nil ?_
  refine w_ret ?_
  refine fin1 (v := .bool _) rfl ?_
  refine ⟨congrArg Value.bool ?_, rfl⟩
  first | (simp at *; done) | (simp at *; omega) | (rw [Bool.eq_iff_iff]; simp at *; omega)
theorem copied_ok {W w : World} {F : List Seg} (H : St W w F) (fr to : Int) {a : Option Addr} {n cap : Nat} {bs : List UInt8} (hr : RdIn W F a (bs.map B)) (hl : bs.length = n) (hn : n ≤ 140737488355328) :
    Ok Try.prog 47 [.agg #[.int .i64 fr, .int .i64 to, .slice a n cap]].toArray w (fun v w' => ∃ b, v = .agg #[.int .i64 fr, .int .i64 to, .slice (some ⟨b, 0, none⟩) n n] ∧ St W w' (row 5 1 (some ⟨b, 0, none⟩) n n (bs.map B) :: F)) := by
  refine enter (n := 23) (rs := #[.cell 2 31]) Try.func47 rfl rfl rfl rfl ?_
  refine w_seq ?_
  refine w_region ?_
  refine b_box rfl rfl rfl H (fun b1 w H => ?_)
  refine b_alloc rfl ze_31 rfl H (fun b2 w H => ?_)
  refine l_nil ?_
  refine w_seq ?_
  refine w_region ?_
  refine l_v rfl (q_fieldAddr rfl fo31_2 rfl) ?_
  refine l_v rfl (q_load1 rfl c1_29 rfl (by first | exact H.cell 0 rfl rfl | exact H.cell 1 rfl rfl | exact H.cell 2 rfl rfl | exact H.cell 3 rfl rfl | exact H.cell 4 rfl rfl | exact H.cell 5 rfl rfl | exact H.cell 6 rfl rfl | exact H.cell 7 rfl rfl | exact H.cell 8 rfl rfl | exact H.cell 9 rfl rfl)) ?_
  refine l_v rfl (q_lenSlice rfl el_29 rfl) ?_
  refine b_make rfl el_29 ze_5 rfl rfl rfl ⟨by omega, by simp only [maxLen]; omega⟩ H (fun b7 w H => ?_)
  refine l_pslice rfl rfl ?_
  refine l_nil ?_
  refine w_seq ?_
  refine w_region ?_
  refine l_pslice rfl rfl ?_
  refine l_v rfl (q_fieldAddr rfl fo31_2 rfl) ?_
  refine l_v rfl (q_load1 rfl c1_29 rfl (by first | exact H.cell 0 rfl rfl | exact H.cell 1 rfl rfl | exact H.cell 2 rfl rfl | exact H.cell 3 rfl rfl | exact H.cell 4 rfl rfl | exact H.cell 5 rfl rfl | exact H.cell 6 rfl rfl | exact H.cell 7 rfl rfl | exact H.cell 8 rfl rfl | exact H.cell 9 rfl rfl)) ?_
  refine b_copy0 rfl el_29 rfl rfl H 0 rfl (hr.use H 3 rfl) (by simp [hl]) (by simp [hl, length_repL, Value.cells]) (oneB bs) (fun w H => ?_)
  refine l_nil ?_
  refine w_seq ?_
  refine w_drawT [11] [1, 3] [(0, 0), (1, 1), (2, 0), (3, 1), (4, 0), (5, 0), (6, 0), (7, 0), (8, 0), (9, 0), (10, 0), (11, 2)] mixed (by kernel_rfl) (fun _ _ _ h => fin_panic h) H (fun H => ?_)
  refine r_w rfl rfl (fun w => q_fieldAddr rfl fo31_0 rfl) ?_
  refine r_v rfl rfl (fun w hS => q_load1 rfl c1_3 rfl (by first | exact hS.cell 0 rfl rfl | exact hS.cell 1 rfl rfl | exact hS.cell 2 rfl rfl | exact hS.cell 3 rfl rfl | exact hS.cell 4 rfl rfl | exact hS.cell 5 rfl rfl | exact hS.cell 6 rfl rfl | exact hS.cell 7 rfl rfl | exact hS.cell 8 rfl rfl | exact hS.cell 9 rfl rfl)) ?_
  refine r_w rfl rfl (fun w => q_fieldAddr rfl fo31_1 rfl) ?_
  refine r_v rfl rfl (fun w hS => q_load1 rfl c1_3 rfl (by first | exact hS.cell 0 rfl rfl | exact hS.cell 1 rfl rfl | exact hS.cell 2 rfl rfl | exact hS.cell 3 rfl rfl | exact hS.cell 4 rfl rfl | exact hS.cell 5 rfl rfl | exact hS.cell 6 rfl rfl | exact hS.cell 7 rfl rfl | exact hS.cell 8 rfl rfl | exact hS.cell 9 rfl rfl)) ?_
  refine r_pslice rfl rfl rfl ?_
  refine r_pslice rfl rfl rfl ?_
  refine r_w rfl rfl (fun w => q_lenSlice rfl el_29 rfl) ?_
  refine r_pslice rfl rfl rfl ?_
  refine r_w rfl rfl (fun w => q_lenSlice rfl el_29 rfl) ?_
  refine r_w rfl rfl (fun w => q_slice rfl el_29 rfl (by first | exact Bnd.nat (by omega) | exact Bnd.mk ⟨by omega, by omega⟩) (by first | exact Bnd.nat (by omega) | exact Bnd.mk ⟨by omega, by omega⟩) Bnd.none (by simp)) ?_
  refine r_w rfl rfl (fun w => q_build (cs := [.int _ _, .int _ _, .slice _ _ _]) rfl sp_31 rfl) ?_
  refine r_do rfl ?_
  first | refine b_store (cs' := [_, _, _]) rfl sz_31 rfl rfl rfl rfl rfl H 0 rfl rfl rfl (fun w H => ?_) | refine b_store (cs' := [_, _, _]) rfl sz_31 rfl rfl rfl rfl rfl H 1 rfl rfl rfl (fun w H => ?_) | refine b_store (cs' := [_, _, _]) rfl sz_31 rfl rfl rfl rfl rfl H 2 rfl rfl rfl (fun w H => ?_) | refine b_store (cs' := [_, _, _]) rfl sz_31 rfl rfl rfl rfl rfl H 3 rfl rfl rfl (fun w H => ?_) | refine b_store (cs' := [_, _, _]) rfl sz_31 rfl rfl rfl rfl rfl H 4 rfl rfl rfl (fun w H => ?_) | refine b_store (cs' := [_, _, _]) rfl sz_31 rfl rfl rfl rfl rfl H 5 rfl rfl rfl (fun w H => ?_) | refine b_store (cs' := [_, _, _]) rfl sz_31 rfl rfl rfl rfl rfl H 6 rfl rfl rfl (fun w H => ?_) | refine b_store (cs' := [_, _, _]) rfl sz_31 rfl rfl rfl rfl rfl H 7 rfl rfl rfl (fun w H => ?_) | refine b_store (cs' := [_, _, _]) rfl sz_31 rfl rfl rfl rfl rfl H 8 rfl rfl rfl (fun w H => ?_) | refine b_store (cs' := [_, _, _]) rfl sz_31 rfl rfl rfl rfl rfl H 9 rfl rfl rfl (fun w H => ?_)
  refine l_nil ⟨(fun h => nomatch h), ?_⟩
  refine r_nil ?_
  refine w_ret ?_
  refine finc rfl ag_31 rfl (by first | exact H.cells 0 rfl | exact H.cells 1 rfl | exact H.cells 2 rfl | exact H.cells 3 rfl | exact H.cells 4 rfl | exact H.cells 5 rfl | exact H.cells 6 rfl | exact H.cells 7 rfl | exact H.cells 8 rfl | exact H.cells 9 rfl) ?_
  refine ⟨b7, by rw [subA_zero]; rfl, ?_⟩
  have e : putL (repL n [Value.int .u8 0]) 0 (bs.map B) = bs.map B := putL_all (by simp [length_repL, hl])
  have H2 : St W w (blk0 b7 (putL (repL n [Value.int .u8 0]) 0 (bs.map B)) 5 :: F) := (H.erase 2).erase 1
  rw [e] at H2
  exact H2.imp fun c h => row_of_blk0 h (by simp [hl]) (List.take_length) (by simp [hl]) (Nat.le_refl _) (by simp only [maxLen]; omega)
/-- a net: what it holds, and where -/
structure NetS where
  nodes : Int
  clients : Int
  pa : Option Addr
  pcap : Nat
  pool : List Pk
  ra : Option Addr
  rcap : Nat
  record : List Pk
  pm : Nat
  cm : Nat
  place : List (Ky × Int)
  came : List (Ky × Int)
def NetS.cells (s : NetS) : List Value := [.int .i64 s.nodes, .int .i64 s.clients, .slice s.pa s.pool.length s.pcap, .slice s.ra s.record.length s.rcap, .map (some s.pm), .map (some s.cm)]
def pks (l : List Pk) : List Value := l.flatMap Pk.cells
def netL (b : Nat) (s : NetS) (F : List Seg) : List Seg :=
  blk b s.cells 84 :: row 31 3 s.pa s.pool.length s.pcap (pks s.pool) :: Segs (s.pool.map Pk.own) :: row 31 3 s.ra s.record.length s.rcap (pks s.record) :: Segs (s.record.map Pk.own) :: kmap s.pm s.place :: kmap s.cm s.came :: F
def NetS.addr (s : NetS) (x : Int) : Prop := 0 ≤ x ∧ x < s.nodes ∨ 7 ≤ x ∧ x < 7 + s.clients
instance (s : NetS) (x : Int) : Decidable (s.addr x) := by unfold NetS.addr; infer_instance
structure NetS.fit (s : NetS) : Prop where
  cl : 0 ≤ s.clients ∧ s.clients ≤ 100
  pool : ∀ p ∈ s.pool, p.n ≤ 32768
  record : ∀ p ∈ s.record, p.n ≤ 32768
def layE (s : NetS) (fr to : Int) (n : Nat) (from_ : Bool) : Int := if (from_ = true ∧ ¬ s.addr fr) ∨ ¬ s.addr to then 140 else if n > 32768 then 142 else 0
theorem layE_140 {st : NetS} {fr to : Int} {n : Nat} {f : Bool} (h : (f = true ∧ ¬ st.addr fr) ∨ ¬ st.addr to) : layE st fr to n f = 140 := if_pos h
theorem layE_142 {st : NetS} {fr to : Int} {n : Nat} {f : Bool} (h1 : ¬ (f = true ∧ ¬ st.addr fr)) (h2 : st.addr to) (h3 : n > 32768) : layE st fr to n f = 142 := by
  unfold layE; rw [if_neg (by rintro (h | h); exact h1 h; exact h h2), if_pos h3]
theorem layE_0 {st : NetS} {fr to : Int} {n : Nat} {f : Bool} (h1 : ¬ (f = true ∧ ¬ st.addr fr)) (h2 : st.addr to) (h3 : ¬ n > 32768) : layE st fr to n f = 0 := by
  unfold layE; rw [if_neg (by rintro (h | h); exact h1 h; exact h h2), if_neg h3]
theorem lay_bad {W w : World} {F : List Seg} {b : Nat} {st : NetS} {fr to c : Int} {n : Nat} {f : Bool} {X : Prop} (he : layE st fr to n f = c) (hc : c ≠ 0) (H : St W w (netL b st F)) :
    Value.int .i64 c = .int .i64 (layE st fr to n f) ∧ ((layE st fr to n f ≠ 0 ∧ St W w (netL b st F)) ∨ (layE st fr to n f = 0 ∧ X)) := by
  rw [he]; exact ⟨rfl, .inl ⟨hc, H⟩⟩
theorem lay_good {W w : World} {F : List Seg} {b b33 b4 : Nat} {x y : List Value} {T1 T2 : Nat} {st : NetS} {fr to : Int} {n : Nat} {bs : List UInt8} {a' pa : Option Addr} {pcap : Nat}
    (H : St W w (blk0 b33 x T1 :: row 5 1 a' n n (bs.map B) :: blk b4 y T2 :: blk b [.int .i64 st.nodes, .int .i64 st.clients, .slice pa (st.pool.length + 1) pcap, .slice st.ra st.record.length st.rcap, .map (some st.pm), .map (some st.cm)] 84 ::
      row 31 3 pa (st.pool.length + 1) pcap (pks st.pool ++ [.int .i64 fr, .int .i64 to, .slice a' n n]) :: Segs (st.pool.map Pk.own) :: row 31 3 st.ra st.record.length st.rcap (pks st.record) :: Segs (st.record.map Pk.own) :: kmap st.pm st.place :: kmap st.cm st.came :: F)) :
    St W w (netL b { st with pa, pcap, pool := st.pool ++ [⟨fr, to, a', n, n, bs⟩] } F) := by
  have H : St W w (row 5 1 a' n n (bs.map B) :: blk b [.int .i64 st.nodes, .int .i64 st.clients, .slice pa (st.pool.length + 1) pcap, .slice st.ra st.record.length st.rcap, .map (some st.pm), .map (some st.cm)] 84 ::
      row 31 3 pa (st.pool.length + 1) pcap (pks st.pool ++ [.int .i64 fr, .int .i64 to, .slice a' n n]) :: Segs (st.pool.map Pk.own) :: row 31 3 st.ra st.record.length st.rcap (pks st.record) :: Segs (st.record.map Pk.own) :: kmap st.pm st.place :: kmap st.cm st.came :: F) := (H.erase 0).erase 1
  have H := St.snocseg.1 (H.front 3 rfl)
  have H := H.rot3
  have e : (st.pool ++ [(⟨fr, to, a', n, n, bs⟩ : Pk)]).map Pk.own = st.pool.map Pk.own ++ [row 5 1 a' n n (bs.map B)] := by simp [Pk.own]
  have e2 : pks (st.pool ++ [(⟨fr, to, a', n, n, bs⟩ : Pk)]) = pks st.pool ++ [.int .i64 fr, .int .i64 to, .slice a' n n] := by simp [pks, Pk.cells]
  unfold netL NetS.cells
  simp only [e, e2, List.length_append, List.length_singleton]
  exact H
theorem lay_ok {W w : World} {F : List Seg} {b : Nat} {st : NetS} (H : St W w (netL b st F)) (hfit : st.fit) (fr to : Int) {a : Option Addr} {n cap : Nat} {bs : List UInt8} (hr : RdIn W F a (bs.map B)) (hl : bs.length = n) (hroom : (st.pool.length + 1) * 40 ≤ 211106232532992) (from_ : Bool) :
    Ok Try.prog 46 [.pointer (some ⟨b, 0, none⟩), .agg #[.int .i64 fr, .int .i64 to, .slice a n cap], .bool from_].toArray w (fun v w' => v = .int .i64 (layE st fr to n from_) ∧
      ((layE st fr to n from_ ≠ 0 ∧ St W w' (netL b st F)) ∨ (layE st fr to n from_ = 0 ∧ ∃ a' pa pcap, St W w' (netL b { st with pa, pcap, pool := st.pool ++ [⟨fr, to, a', n, n, bs⟩] } F)))) := by
  refine enter (n := 37) (rs := #[.tmp 6]) Try.func46 rfl rfl rfl rfl ?_
  refine w_seq ?_
  refine w_region ?_
  refine b_box rfl rfl rfl H (fun b4 w H => ?_)
  refine l_pint rfl rfl ?_
  refine l_nil ?_
  refine w_seq ?_
  refine w_seq ?_
  refine w_region ?_
  refine l_pbool rfl rfl ?_
  refine l_pbool rfl rfl ?_
  refine l_split 8 rfl (fun h8 => ?_) (fun h8 => ?_)
  · try simp only [decide_eq_true_eq, decide_eq_false_iff_not, Bool.not_eq_true', Bool.not_eq_false', beq_iff_eq, beq_eq_false_iff_ne, bne_iff_ne, bne_eq_false_iff_eq, ne_eq, Int.not_lt, Int.not_le] at h8
    refine l_pptr rfl rfl ?_
    refine l_v rfl (q_fieldAddr rfl fo31_0 rfl) ?_
    refine l_v rfl (q_load1 rfl c1_3 rfl (by first | exact H.cell 0 rfl rfl | exact H.cell 1 rfl rfl | exact H.cell 2 rfl rfl | exact H.cell 3 rfl rfl | exact H.cell 4 rfl rfl | exact H.cell 5 rfl rfl | exact H.cell 6 rfl rfl | exact H.cell 7 rfl rfl | exact H.cell 8 rfl rfl | exact H.cell 9 rfl rfl)) ?_
    refine b_call rfl cb_82 rfl (address_ok (i := 1) H rfl rfl rfl hfit.cl _) (fun v w hv => ?_)
    obtain ⟨rfl, rfl⟩ := hv
    refine l_pbool rfl rfl ?_
    refine l_pickT (v := .bool _) rfl rfl rfl ?_
    refine l_pbool rfl rfl ?_
    refine l_split 15 rfl (fun h15 => ?_) (fun h15 => ?_)
    · try simp only [decide_eq_true_eq, decide_eq_false_iff_not, Bool.not_eq_true', Bool.not_eq_false', beq_iff_eq, beq_eq_false_iff_ne, bne_iff_ne, bne_eq_false_iff_eq, ne_eq, Int.not_lt, Int.not_le] at h15
      refine l_no rfl ?_
      refine l_no rfl ?_
      refine l_no rfl ?_
      refine l_no rfl ?_
      refine l_no rfl ?_
      refine l_pickT (v := .bool _) rfl rfl rfl ?_
      refine l_nil ?_
      refine w_cond_t rfl ?_
      refine w_seq ?_
      refine w_region ?_
      refine l_pint rfl rfl ?_
      refine l_nil ?_
      refine w_ret ?_
      refine fin1 (v := .int _ _) rfl ?_
      exact lay_bad (layE_140 (.inl ⟨h8, h15⟩)) (by decide) (H.erase 0)
    try simp only [decide_eq_true_eq, decide_eq_false_iff_not, Bool.not_eq_true', Bool.not_eq_false', beq_iff_eq, beq_eq_false_iff_ne, bne_iff_ne, bne_eq_false_iff_eq, ne_eq, Int.not_lt, Int.not_le] at h15
    refine l_pptr rfl rfl ?_
    refine l_v rfl (q_fieldAddr rfl fo31_1 rfl) ?_
    refine l_v rfl (q_load1 rfl c1_3 rfl (by first | exact H.cell 0 rfl rfl | exact H.cell 1 rfl rfl | exact H.cell 2 rfl rfl | exact H.cell 3 rfl rfl | exact H.cell 4 rfl rfl | exact H.cell 5 rfl rfl | exact H.cell 6 rfl rfl | exact H.cell 7 rfl rfl | exact H.cell 8 rfl rfl | exact H.cell 9 rfl rfl)) ?_
    refine b_call rfl cb_82 rfl (address_ok (i := 1) H rfl rfl rfl hfit.cl _) (fun v w hv => ?_)
    obtain ⟨rfl, rfl⟩ := hv
    refine l_pbool rfl rfl ?_
    refine l_pickF (v := .bool _) rfl rfl rfl ?_
    refine l_nil ?_
    refine w_cond rfl (fun c1 => ?_) (fun c1 => ?_)
    · try simp only [decide_eq_true_eq, decide_eq_false_iff_not, Bool.not_eq_true', Bool.not_eq_false', beq_iff_eq, beq_eq_false_iff_ne, bne_iff_ne, bne_eq_false_iff_eq, ne_eq, Int.not_lt, Int.not_le] at c1
      refine w_seq ?_
      refine w_region ?_
      refine l_pint rfl rfl ?_
      refine l_nil ?_
      refine w_ret ?_
      refine fin1 (v := .int _ _) rfl ?_
      exact lay_bad (layE_140 (.inr c1)) (by decide) (H.erase 0)
    try simp only [decide_eq_true_eq, decide_eq_false_iff_not, Bool.not_eq_true', Bool.not_eq_false', beq_iff_eq, beq_eq_false_iff_ne, bne_iff_ne, bne_eq_false_iff_eq, ne_eq, Int.not_lt, Int.not_le] at c1
    refine w_skip ?_
    refine w_seq ?_
    refine w_seq ?_
    refine w_region ?_
    refine l_v rfl (q_fieldAddr rfl fo31_2 rfl) ?_
    refine l_v rfl (q_load1 rfl c1_29 rfl (by first | exact H.cell 0 rfl rfl | exact H.cell 1 rfl rfl | exact H.cell 2 rfl rfl | exact H.cell 3 rfl rfl | exact H.cell 4 rfl rfl | exact H.cell 5 rfl rfl | exact H.cell 6 rfl rfl | exact H.cell 7 rfl rfl | exact H.cell 8 rfl rfl | exact H.cell 9 rfl rfl)) ?_
    refine l_v rfl (q_lenSlice rfl el_29 rfl) ?_
    refine l_pbool rfl rfl ?_
    refine l_nil ?_
    refine w_cond rfl (fun c2 => ?_) (fun c2 => ?_)
    · try simp only [decide_eq_true_eq, decide_eq_false_iff_not, Bool.not_eq_true', Bool.not_eq_false', beq_iff_eq, beq_eq_false_iff_ne, bne_iff_ne, bne_eq_false_iff_eq, ne_eq, Int.not_lt, Int.not_le] at c2
      refine w_seq ?_
      refine w_region ?_
      refine l_pint rfl rfl ?_
      refine l_nil ?_
      refine w_ret ?_
      refine fin1 (v := .int _ _) rfl ?_
      exact lay_bad (layE_142 (fun h => h.2 h15) c1 (by omega)) (by decide) (H.erase 0)
    try simp only [decide_eq_true_eq, decide_eq_false_iff_not, Bool.not_eq_true', Bool.not_eq_false', beq_iff_eq, beq_eq_false_iff_ne, bne_iff_ne, bne_eq_false_iff_eq, ne_eq, Int.not_lt, Int.not_le] at c2
    refine w_skip ?_
    refine w_seq ?_
    refine w_drawS [8, 11] [4, 5] 99 [(0, 0), (1, 0), (2, 0), (3, 0), (4, 1), (5, 1), (6, 2), (7, 2), (8, 2), (9, 0), (10, 0), (11, 2)] mixed (by kernel_rfl) (fun _ _ _ h => fin_panic h) H (fun H => ?_)
    refine r_pptr rfl rfl rfl ?_
    refine r_pptr rfl rfl rfl ?_
    refine r_pptr rfl rfl rfl ?_
    refine r_w rfl rfl (fun w => q_fieldAddr rfl fo84_2 rfl) ?_
    refine r_v rfl rfl (fun w hS => q_load1 rfl c1_22 rfl (by first | exact hS.cell 0 rfl rfl | exact hS.cell 1 rfl rfl | exact hS.cell 2 rfl rfl | exact hS.cell 3 rfl rfl | exact hS.cell 4 rfl rfl | exact hS.cell 5 rfl rfl | exact hS.cell 6 rfl rfl | exact hS.cell 7 rfl rfl | exact hS.cell 8 rfl rfl | exact hS.cell 9 rfl rfl)) ?_
    refine r_v rfl rfl (fun w hS => q_loadN (vs := [_, _, _]) rfl ag_31 rfl rfl (by first | exact hS.cells 0 rfl | exact hS.cells 1 rfl | exact hS.cells 2 rfl | exact hS.cells 3 rfl | exact hS.cells 4 rfl | exact hS.cells 5 rfl | exact hS.cells 6 rfl | exact hS.cells 7 rfl | exact hS.cells 8 rfl | exact hS.cells 9 rfl)) ?_
    refine r_do rfl ?_
    refine b_call rfl cb_47 rfl (copied_ok H fr to (hr.up 8 rfl) hl (by omega)) (fun v w hv => ?_)
    obtain ⟨b47, rfl, H⟩ := hv
    refine l_nil ⟨fun _ _ => (by first | exact Sx.of H 0 99 rfl | exact Sx.of H 1 99 rfl | exact Sx.of H 2 99 rfl | exact Sx.of H 3 99 rfl | exact Sx.of H 4 99 rfl), ?_⟩
    refine r_do rfl ?_
    refine b_buildSlice (cs := [_, _, _]) rfl el_22 ze_31 rfl rfl rfl H (fun b33 w H => ?_)
    refine l_nil ⟨fun _ _ => (by first | exact Sx.of H 0 99 rfl | exact Sx.of H 1 99 rfl | exact Sx.of H 2 99 rfl | exact Sx.of H 3 99 rfl | exact Sx.of H 4 99 rfl), ?_⟩
    refine r_do rfl ?_
    first | refine b_append rfl el_22 ze_31 rfl rfl rfl H 1 rfl (Rd.mk (H.cells0 0 rfl)) rfl (by simp [Value.oneCell']) ⟨by (try dsimp only); omega, by simp only [maxLen]; (try dsimp only); omega⟩ (fun a34 c34 w H => ?_) | refine b_append rfl el_22 ze_31 rfl rfl rfl H 2 rfl (Rd.mk (H.cells0 0 rfl)) rfl (by simp [Value.oneCell']) ⟨by (try dsimp only); omega, by simp only [maxLen]; (try dsimp only); omega⟩ (fun a34 c34 w H => ?_) | refine b_append rfl el_22 ze_31 rfl rfl rfl H 3 rfl (Rd.mk (H.cells0 0 rfl)) rfl (by simp [Value.oneCell']) ⟨by (try dsimp only); omega, by simp only [maxLen]; (try dsimp only); omega⟩ (fun a34 c34 w H => ?_) | refine b_append rfl el_22 ze_31 rfl rfl rfl H 4 rfl (Rd.mk (H.cells0 0 rfl)) rfl (by simp [Value.oneCell']) ⟨by (try dsimp only); omega, by simp only [maxLen]; (try dsimp only); omega⟩ (fun a34 c34 w H => ?_) | refine b_append rfl el_22 ze_31 rfl rfl rfl H 5 rfl (Rd.mk (H.cells0 0 rfl)) rfl (by simp [Value.oneCell']) ⟨by (try dsimp only); omega, by simp only [maxLen]; (try dsimp only); omega⟩ (fun a34 c34 w H => ?_) | refine b_append rfl el_22 ze_31 rfl rfl rfl H 6 rfl (Rd.mk (H.cells0 0 rfl)) rfl (by simp [Value.oneCell']) ⟨by (try dsimp only); omega, by simp only [maxLen]; (try dsimp only); omega⟩ (fun a34 c34 w H => ?_) | refine b_append rfl el_22 ze_31 rfl rfl rfl H 7 rfl (Rd.mk (H.cells0 0 rfl)) rfl (by simp [Value.oneCell']) ⟨by (try dsimp only); omega, by simp only [maxLen]; (try dsimp only); omega⟩ (fun a34 c34 w H => ?_) | refine b_append rfl el_22 ze_31 rfl rfl rfl H 8 rfl (Rd.mk (H.cells0 0 rfl)) rfl (by simp [Value.oneCell']) ⟨by (try dsimp only); omega, by simp only [maxLen]; (try dsimp only); omega⟩ (fun a34 c34 w H => ?_) | refine b_append rfl el_22 ze_31 rfl rfl rfl H 9 rfl (Rd.mk (H.cells0 0 rfl)) rfl (by simp [Value.oneCell']) ⟨by (try dsimp only); omega, by simp only [maxLen]; (try dsimp only); omega⟩ (fun a34 c34 w H => ?_)
    refine l_nil ⟨(fun h => nomatch h), ?_⟩
    refine r_pptr rfl rfl rfl ?_
    refine r_w rfl rfl (fun w => q_fieldAddr rfl fo84_2 rfl) ?_
    refine r_do rfl ?_
    first | refine b_store rfl sz_22 rfl rfl rfl rfl rfl H 0 rfl rfl rfl (fun w H => ?_) | refine b_store rfl sz_22 rfl rfl rfl rfl rfl H 1 rfl rfl rfl (fun w H => ?_) | refine b_store rfl sz_22 rfl rfl rfl rfl rfl H 2 rfl rfl rfl (fun w H => ?_) | refine b_store rfl sz_22 rfl rfl rfl rfl rfl H 3 rfl rfl rfl (fun w H => ?_) | refine b_store rfl sz_22 rfl rfl rfl rfl rfl H 4 rfl rfl rfl (fun w H => ?_) | refine b_store rfl sz_22 rfl rfl rfl rfl rfl H 5 rfl rfl rfl (fun w H => ?_) | refine b_store rfl sz_22 rfl rfl rfl rfl rfl H 6 rfl rfl rfl (fun w H => ?_) | refine b_store rfl sz_22 rfl rfl rfl rfl rfl H 7 rfl rfl rfl (fun w H => ?_) | refine b_store rfl sz_22 rfl rfl rfl rfl rfl H 8 rfl rfl rfl (fun w H => ?_) | refine b_store rfl sz_22 rfl rfl rfl rfl rfl H 9 rfl rfl rfl (fun w H => ?_)
    refine l_nil ⟨(fun h => nomatch h), ?_⟩
    refine r_nil ?_
    refine w_seq ?_
    refine w_region ?_
    refine l_pint rfl rfl ?_
    refine l_nil ?_
    refine w_ret ?_
    refine fin1 (v := .int _ _) rfl ?_
    have e := layE_0 (fr := fr) (f := from_) (fun h => h.2 h15) c1 (show ¬ n > 32768 by omega)
    exact ⟨by rw [e], .inr ⟨e, _, _, _, lay_good H⟩⟩
  try simp only [decide_eq_true_eq, decide_eq_false_iff_not, Bool.not_eq_true', Bool.not_eq_false', beq_iff_eq, beq_eq_false_iff_ne, bne_iff_ne, bne_eq_false_iff_eq, ne_eq, Int.not_lt, Int.not_le] at h8
  refine l_no rfl ?_
  refine l_no rfl ?_
  refine l_no rfl ?_
  refine l_no rfl ?_
  refine l_no rfl ?_
  refine l_pickF (v := .bool _) rfl rfl rfl ?_
  refine l_pbool rfl rfl ?_
  refine l_pptr rfl rfl ?_
  refine l_v rfl (q_fieldAddr rfl fo31_1 rfl) ?_
  refine l_v rfl (q_load1 rfl c1_3 rfl (by first | exact H.cell 0 rfl rfl | exact H.cell 1 rfl rfl | exact H.cell 2 rfl rfl | exact H.cell 3 rfl rfl | exact H.cell 4 rfl rfl | exact H.cell 5 rfl rfl | exact H.cell 6 rfl rfl | exact H.cell 7 rfl rfl | exact H.cell 8 rfl rfl | exact H.cell 9 rfl rfl)) ?_
  refine b_call rfl cb_82 rfl (address_ok (i := 1) H rfl rfl rfl hfit.cl _) (fun v w hv => ?_)
  obtain ⟨rfl, rfl⟩ := hv
  refine l_pbool rfl rfl ?_
  refine l_pickF (v := .bool _) rfl rfl rfl ?_
  refine l_nil ?_
  refine w_cond rfl (fun c3 => ?_) (fun c3 => ?_)
  · try simp only [decide_eq_true_eq, decide_eq_false_iff_not, Bool.not_eq_true', Bool.not_eq_false', beq_iff_eq, beq_eq_false_iff_ne, bne_iff_ne, bne_eq_false_iff_eq, ne_eq, Int.not_lt, Int.not_le] at c3
    refine w_seq ?_
    refine w_region ?_
    refine l_pint rfl rfl ?_
    refine l_nil ?_
    refine w_ret ?_
    refine fin1 (v := .int _ _) rfl ?_
    exact lay_bad (layE_140 (.inr c3)) (by decide) (H.erase 0)
  try simp only [decide_eq_true_eq, decide_eq_false_iff_not, Bool.not_eq_true', Bool.not_eq_false', beq_iff_eq, beq_eq_false_iff_ne, bne_iff_ne, bne_eq_false_iff_eq, ne_eq, Int.not_lt, Int.not_le] at c3
  refine w_skip ?_
  refine w_seq ?_
  refine w_seq ?_
  refine w_region ?_
  refine l_v rfl (q_fieldAddr rfl fo31_2 rfl) ?_
  refine l_v rfl (q_load1 rfl c1_29 rfl (by first | exact H.cell 0 rfl rfl | exact H.cell 1 rfl rfl | exact H.cell 2 rfl rfl | exact H.cell 3 rfl rfl | exact H.cell 4 rfl rfl | exact H.cell 5 rfl rfl | exact H.cell 6 rfl rfl | exact H.cell 7 rfl rfl | exact H.cell 8 rfl rfl | exact H.cell 9 rfl rfl)) ?_
  refine l_v rfl (q_lenSlice rfl el_29 rfl) ?_
  refine l_pbool rfl rfl ?_
  refine l_nil ?_
  refine w_cond rfl (fun c4 => ?_) (fun c4 => ?_)
  · try simp only [decide_eq_true_eq, decide_eq_false_iff_not, Bool.not_eq_true', Bool.not_eq_false', beq_iff_eq, beq_eq_false_iff_ne, bne_iff_ne, bne_eq_false_iff_eq, ne_eq, Int.not_lt, Int.not_le] at c4
    refine w_seq ?_
    refine w_region ?_
    refine l_pint rfl rfl ?_
    refine l_nil ?_
    refine w_ret ?_
    refine fin1 (v := .int _ _) rfl ?_
    exact lay_bad (layE_142 (fun h => by simp [h.1] at h8) c3 (by omega)) (by decide) (H.erase 0)
  try simp only [decide_eq_true_eq, decide_eq_false_iff_not, Bool.not_eq_true', Bool.not_eq_false', beq_iff_eq, beq_eq_false_iff_ne, bne_iff_ne, bne_eq_false_iff_eq, ne_eq, Int.not_lt, Int.not_le] at c4
  refine w_skip ?_
  refine w_seq ?_
  refine w_drawS [8, 11] [4, 5] 99 [(0, 0), (1, 0), (2, 0), (3, 0), (4, 1), (5, 1), (6, 2), (7, 2), (8, 2), (9, 0), (10, 0), (11, 2)] mixed (by kernel_rfl) (fun _ _ _ h => fin_panic h) H (fun H => ?_)
  refine r_pptr rfl rfl rfl ?_
  refine r_pptr rfl rfl rfl ?_
  refine r_pptr rfl rfl rfl ?_
  refine r_w rfl rfl (fun w => q_fieldAddr rfl fo84_2 rfl) ?_
  refine r_v rfl rfl (fun w hS => q_load1 rfl c1_22 rfl (by first | exact hS.cell 0 rfl rfl | exact hS.cell 1 rfl rfl | exact hS.cell 2 rfl rfl | exact hS.cell 3 rfl rfl | exact hS.cell 4 rfl rfl | exact hS.cell 5 rfl rfl | exact hS.cell 6 rfl rfl | exact hS.cell 7 rfl rfl | exact hS.cell 8 rfl rfl | exact hS.cell 9 rfl rfl)) ?_
  refine r_v rfl rfl (fun w hS => q_loadN (vs := [_, _, _]) rfl ag_31 rfl rfl (by first | exact hS.cells 0 rfl | exact hS.cells 1 rfl | exact hS.cells 2 rfl | exact hS.cells 3 rfl | exact hS.cells 4 rfl | exact hS.cells 5 rfl | exact hS.cells 6 rfl | exact hS.cells 7 rfl | exact hS.cells 8 rfl | exact hS.cells 9 rfl)) ?_
  refine r_do rfl ?_
  refine b_call rfl cb_47 rfl (copied_ok H fr to (hr.up 8 rfl) hl (by omega)) (fun v w hv => ?_)
  obtain ⟨b47, rfl, H⟩ := hv
  refine l_nil ⟨fun _ _ => (by first | exact Sx.of H 0 99 rfl | exact Sx.of H 1 99 rfl | exact Sx.of H 2 99 rfl | exact Sx.of H 3 99 rfl | exact Sx.of H 4 99 rfl), ?_⟩
  refine r_do rfl ?_
  refine b_buildSlice (cs := [_, _, _]) rfl el_22 ze_31 rfl rfl rfl H (fun b33 w H => ?_)
  refine l_nil ⟨fun _ _ => (by first | exact Sx.of H 0 99 rfl | exact Sx.of H 1 99 rfl | exact Sx.of H 2 99 rfl | exact Sx.of H 3 99 rfl | exact Sx.of H 4 99 rfl), ?_⟩
  refine r_do rfl ?_
  first | refine b_append rfl el_22 ze_31 rfl rfl rfl H 1 rfl (Rd.mk (H.cells0 0 rfl)) rfl (by simp [Value.oneCell']) ⟨by (try dsimp only); omega, by simp only [maxLen]; (try dsimp only); omega⟩ (fun a34 c34 w H => ?_) | refine b_append rfl el_22 ze_31 rfl rfl rfl H 2 rfl (Rd.mk (H.cells0 0 rfl)) rfl (by simp [Value.oneCell']) ⟨by (try dsimp only); omega, by simp only [maxLen]; (try dsimp only); omega⟩ (fun a34 c34 w H => ?_) | refine b_append rfl el_22 ze_31 rfl rfl rfl H 3 rfl (Rd.mk (H.cells0 0 rfl)) rfl (by simp [Value.oneCell']) ⟨by (try dsimp only); omega, by simp only [maxLen]; (try dsimp only); omega⟩ (fun a34 c34 w H => ?_) | refine b_append rfl el_22 ze_31 rfl rfl rfl H 4 rfl (Rd.mk (H.cells0 0 rfl)) rfl (by simp [Value.oneCell']) ⟨by (try dsimp only); omega, by simp only [maxLen]; (try dsimp only); omega⟩ (fun a34 c34 w H => ?_) | refine b_append rfl el_22 ze_31 rfl rfl rfl H 5 rfl (Rd.mk (H.cells0 0 rfl)) rfl (by simp [Value.oneCell']) ⟨by (try dsimp only); omega, by simp only [maxLen]; (try dsimp only); omega⟩ (fun a34 c34 w H => ?_) | refine b_append rfl el_22 ze_31 rfl rfl rfl H 6 rfl (Rd.mk (H.cells0 0 rfl)) rfl (by simp [Value.oneCell']) ⟨by (try dsimp only); omega, by simp only [maxLen]; (try dsimp only); omega⟩ (fun a34 c34 w H => ?_) | refine b_append rfl el_22 ze_31 rfl rfl rfl H 7 rfl (Rd.mk (H.cells0 0 rfl)) rfl (by simp [Value.oneCell']) ⟨by (try dsimp only); omega, by simp only [maxLen]; (try dsimp only); omega⟩ (fun a34 c34 w H => ?_) | refine b_append rfl el_22 ze_31 rfl rfl rfl H 8 rfl (Rd.mk (H.cells0 0 rfl)) rfl (by simp [Value.oneCell']) ⟨by (try dsimp only); omega, by simp only [maxLen]; (try dsimp only); omega⟩ (fun a34 c34 w H => ?_) | refine b_append rfl el_22 ze_31 rfl rfl rfl H 9 rfl (Rd.mk (H.cells0 0 rfl)) rfl (by simp [Value.oneCell']) ⟨by (try dsimp only); omega, by simp only [maxLen]; (try dsimp only); omega⟩ (fun a34 c34 w H => ?_)
  refine l_nil ⟨(fun h => nomatch h), ?_⟩
  refine r_pptr rfl rfl rfl ?_
  refine r_w rfl rfl (fun w => q_fieldAddr rfl fo84_2 rfl) ?_
  refine r_do rfl ?_
  first | refine b_store rfl sz_22 rfl rfl rfl rfl rfl H 0 rfl rfl rfl (fun w H => ?_) | refine b_store rfl sz_22 rfl rfl rfl rfl rfl H 1 rfl rfl rfl (fun w H => ?_) | refine b_store rfl sz_22 rfl rfl rfl rfl rfl H 2 rfl rfl rfl (fun w H => ?_) | refine b_store rfl sz_22 rfl rfl rfl rfl rfl H 3 rfl rfl rfl (fun w H => ?_) | refine b_store rfl sz_22 rfl rfl rfl rfl rfl H 4 rfl rfl rfl (fun w H => ?_) | refine b_store rfl sz_22 rfl rfl rfl rfl rfl H 5 rfl rfl rfl (fun w H => ?_) | refine b_store rfl sz_22 rfl rfl rfl rfl rfl H 6 rfl rfl rfl (fun w H => ?_) | refine b_store rfl sz_22 rfl rfl rfl rfl rfl H 7 rfl rfl rfl (fun w H => ?_) | refine b_store rfl sz_22 rfl rfl rfl rfl rfl H 8 rfl rfl rfl (fun w H => ?_) | refine b_store rfl sz_22 rfl rfl rfl rfl rfl H 9 rfl rfl rfl (fun w H => ?_)
  refine l_nil ⟨(fun h => nomatch h), ?_⟩
  refine r_nil ?_
  refine w_seq ?_
  refine w_region ?_
  refine l_pint rfl rfl ?_
  refine l_nil ?_
  refine w_ret ?_
  refine fin1 (v := .int _ _) rfl ?_
  have e := layE_0 (fr := fr) (f := from_) (fun h => by simp [h.1] at h8) c3 (show ¬ n > 32768 by omega)
  exact ⟨by rw [e], .inr ⟨e, _, _, _, lay_good H⟩⟩
end Go.Proofs.Ytmgcmgfjaimlnaa
