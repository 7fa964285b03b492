/- The reference net, and its calls New, Len, Sent, Clear, has, address; for nets whose packets fit. -/
import Derived.Test.YtmgcmgfjaimlnaaNep54
import Derived.Test.YtmgcmgfjaimlnaaNep31
namespace Go.Proofs.Ytmgcmgfjaimlnaa
open Go.EW
attribute [local irreducible] EW.W EW.L EW.fin
set_option linter.unusedVariables false
set_option linter.unusedSimpArgs false
/-- the reference's net: what it holds, and where -/
structure RS where
  nodes : Int
  clients : Int
  pa : Option Addr
  pcap : Nat
  pool : List Pk
  ra : Option Addr
  rcap : Nat
  rc : List Pk
def RS.cells (s : RS) : List Value := [.int .i64 s.nodes, .int .i64 s.clients, .slice s.pa s.pool.length s.pcap, .slice s.ra s.rc.length s.rcap]
def rfL (b : Nat) (s : RS) (F : List Seg) : List Seg :=
  blk b s.cells 97 :: row 31 3 s.pa s.pool.length s.pcap (pks s.pool) :: Segs (s.pool.map Pk.own) :: row 31 3 s.ra s.rc.length s.rcap (pks s.rc) :: Segs (s.rc.map Pk.own) :: F
def RS.addr (s : RS) (x : Int) : Prop := 0 ≤ x ∧ x < s.nodes ∨ 7 ≤ x ∧ x < 7 + s.clients
instance (s : RS) (x : Int) : Decidable (s.addr x) := by unfold RS.addr; infer_instance
structure RS.fit (s : RS) : Prop where
  cl : 0 ≤ s.clients ∧ s.clients ≤ 100
  pool : ∀ p ∈ s.pool, p.n ≤ 32768
  rc : ∀ p ∈ s.rc, p.n ≤ 32768
theorem rAddr_ok {W w : World} {F : List Seg} {b : Nat} {st : RS} (H : St W w (rfL b st F)) (hcl : 0 ≤ st.clients ∧ st.clients ≤ 100) (x : Int) :
    Ok Try.prog 85 [.pointer (some ⟨b, 0, none⟩), .int .i64 x].toArray w (fun v w' => v = .bool (decide (0 ≤ x ∧ x < st.nodes ∨ 7 ≤ x ∧ x < 7 + st.clients)) ∧ St W w' (rfL b st F)) := by
  refine enter (n := 28) (rs := #[.tmp 4]) Try.func85 rfl rfl rfl rfl ?_
  refine w_seq ?_
  refine w_region ?_
  refine l_pbool rfl rfl ?_
  refine l_nil ?_
  refine w_seq ?_
  refine w_region ?_
  refine l_pint rfl rfl ?_
  refine l_pbool rfl rfl ?_
  refine l_pbool rfl rfl ?_
  refine l_split 7 rfl (fun h7 => ?_) (fun h7 => ?_)
  · try simp only [sH] at h7
    refine l_pint rfl rfl ?_
    refine l_pptr rfl rfl ?_
    refine l_pptr rfl rfl ?_
    refine l_v rfl (q_fieldAddr rfl fo97_0 rfl) ?_
    refine l_v rfl (q_load1 rfl c1_3 rfl (by first | exact H.cell 0 rfl rfl)) ?_
    refine l_pbool rfl rfl ?_
    refine l_pickT (v := .bool _) rfl rfl rfl ?_
    refine l_pbool rfl rfl ?_
    refine l_split 15 rfl (fun h15 => ?_) (fun h15 => ?_)
    · try simp only [sH] at h15
      refine l_no rfl ?_
      refine l_no rfl ?_
      refine l_no rfl ?_
      refine l_no rfl ?_
      refine l_no rfl ?_
      refine l_no rfl ?_
      refine l_no rfl ?_
      refine l_no rfl ?_
      refine l_no rfl ?_
      refine l_no rfl ?_
      refine l_no rfl ?_
      refine l_pickT (v := .bool _) rfl rfl rfl ?_
      refine l_pbool rfl rfl ?_
      refine l_nil ?_
      refine w_ret ?_
      refine fin1 (v := .bool _) rfl ?_
      refine ⟨congrArg Value.bool ?_, H⟩
      rw [Bool.eq_iff_iff]; simp; omega
    try simp only [sH] at h15
    refine l_pint rfl rfl ?_
    refine l_pbool rfl rfl ?_
    refine l_pbool rfl rfl ?_
    refine l_split 18 rfl (fun h18 => ?_) (fun h18 => ?_)
    · try simp only [sH] at h18
      refine l_pint rfl rfl ?_
      refine l_pptr rfl rfl ?_
      refine l_pptr rfl rfl ?_
      refine l_v rfl (q_fieldAddr rfl fo97_1 rfl) ?_
      refine l_v rfl (q_load1 rfl c1_3 rfl (by first | exact H.cell 0 rfl rfl)) ?_
      first | refine l_v rfl (q_add rfl rfl rfl (by simp only [inK]; omega)) ?_ | refine l_pint rfl rfl ?_
      refine l_pbool rfl rfl ?_
      refine l_pickT (v := .bool _) rfl rfl rfl ?_
      refine l_pickF (v := .bool _) rfl rfl rfl ?_
      refine l_pbool rfl rfl ?_
      refine l_nil ?_
      refine w_ret ?_
      refine fin1 (v := .bool _) rfl ?_
      refine ⟨congrArg Value.bool ?_, H⟩
      rw [Bool.eq_iff_iff]; simp; omega
    try simp only [sH] at h18
    refine l_no rfl ?_
    refine l_no rfl ?_
    refine l_no rfl ?_
    refine l_no rfl ?_
    refine l_no rfl ?_
    refine l_no rfl ?_
    refine l_no rfl ?_
    refine l_pickF (v := .bool _) rfl rfl rfl ?_
    refine l_pickF (v := .bool _) rfl rfl rfl ?_
    refine l_pbool rfl rfl ?_
    refine l_nil ?_
    refine w_ret ?_
    refine fin1 (v := .bool _) rfl ?_
    refine ⟨congrArg Value.bool ?_, H⟩
    rw [Bool.eq_iff_iff]; simp; omega
  try simp only [sH] at h7
  refine l_no rfl ?_
  refine l_no rfl ?_
  refine l_no rfl ?_
  refine l_no rfl ?_
  refine l_no rfl ?_
  refine l_no rfl ?_
  refine l_pickF (v := .bool _) rfl rfl rfl ?_
  refine l_pbool rfl rfl ?_
  refine l_pint rfl rfl ?_
  refine l_pbool rfl rfl ?_
  refine l_pbool rfl rfl ?_
  refine l_split 18 rfl (fun h18 => ?_) (fun h18 => ?_)
  · try simp only [sH] at h18
    refine l_pint rfl rfl ?_
    refine l_pptr rfl rfl ?_
    refine l_pptr rfl rfl ?_
    refine l_v rfl (q_fieldAddr rfl fo97_1 rfl) ?_
    refine l_v rfl (q_load1 rfl c1_3 rfl (by first | exact H.cell 0 rfl rfl)) ?_
    first | refine l_v rfl (q_add rfl rfl rfl (by simp only [inK]; omega)) ?_ | refine l_pint rfl rfl ?_
    refine l_pbool rfl rfl ?_
    refine l_pickT (v := .bool _) rfl rfl rfl ?_
    refine l_pickF (v := .bool _) rfl rfl rfl ?_
    refine l_pbool rfl rfl ?_
    refine l_nil ?_
    refine w_ret ?_
    refine fin1 (v := .bool _) rfl ?_
    refine ⟨congrArg Value.bool ?_, H⟩
    rw [Bool.eq_iff_iff]; simp; omega
  try simp only [sH] at h18
  refine l_no rfl ?_
  refine l_no rfl ?_
  refine l_no rfl ?_
  refine l_no rfl ?_
  refine l_no rfl ?_
  refine l_no rfl ?_
  refine l_no rfl ?_
  refine l_pickF (v := .bool _) rfl rfl rfl ?_
  refine l_pickF (v := .bool _) rfl rfl rfl ?_
  refine l_pbool rfl rfl ?_
  refine l_nil ?_
  refine w_ret ?_
  refine fin1 (v := .bool _) rfl ?_
  refine ⟨congrArg Value.bool ?_, H⟩
  rw [Bool.eq_iff_iff]; simp; omega
theorem rHas_ok {W w : World} {F : List Seg} {b : Nat} {st : RS} (H : St W w (rfL b st F)) (k : Int) :
    Ok Try.prog 80 [.pointer (some ⟨b, 0, none⟩), .int .i64 k].toArray w (fun v w' => v = .bool (decide (0 ≤ k) && decide (k < st.pool.length)) ∧ St W w' (rfL b st F)) := by
  refine enter (n := 16) (rs := #[.tmp 4]) Try.func80 rfl rfl rfl rfl ?_
  refine w_seq ?_
  refine w_region ?_
  refine l_pbool rfl rfl ?_
  refine l_nil ?_
  refine w_seq ?_
  refine w_region ?_
  refine l_pint rfl rfl ?_
  refine l_pbool rfl rfl ?_
  refine l_pbool rfl rfl ?_
  refine l_split 7 rfl (fun h7 => ?_) (fun h7 => ?_)
  · try simp only [sH] at h7
    refine l_pint rfl rfl ?_
    refine l_pptr rfl rfl ?_
    refine l_pptr rfl rfl ?_
    refine l_v rfl (q_fieldAddr rfl fo97_2 rfl) ?_
    refine l_v rfl (q_load1 rfl c1_22 rfl (by first | exact H.cell 0 rfl rfl)) ?_
    refine l_v rfl (q_lenSlice rfl el_22 rfl) ?_
    refine l_pbool rfl rfl ?_
    refine l_pickT (v := .bool _) rfl rfl rfl ?_
    refine l_pbool rfl rfl ?_
    refine l_nil ?_
    refine w_ret ?_
    refine fin1 (v := .bool _) rfl ?_
    refine ⟨congrArg Value.bool ?_, H⟩
    rw [Bool.eq_iff_iff]; simp; omega
  try simp only [sH] at h7
  refine l_no rfl ?_
  refine l_no rfl ?_
  refine l_no rfl ?_
  refine l_no rfl ?_
  refine l_no rfl ?_
  refine l_no rfl ?_
  refine l_no rfl ?_
  refine l_pickF (v := .bool _) rfl rfl rfl ?_
  refine l_pbool rfl rfl ?_
  refine l_nil ?_
  refine w_ret ?_
  refine fin1 (v := .bool _) rfl ?_
  refine ⟨congrArg Value.bool ?_, H⟩
  rw [Bool.eq_iff_iff]; simp; omega
theorem rLen_ok {W w : World} {F : List Seg} {b : Nat} {st : RS} (H : St W w (rfL b st F)) :
    Ok Try.prog 40 [.pointer (some ⟨b, 0, none⟩)].toArray w (fun v w' => v = .int .i64 st.pool.length ∧ St W w' (rfL b st F)) := by
  refine enter (n := 10) (rs := #[.tmp 2]) Try.func40 rfl rfl rfl rfl ?_
  refine w_seq ?_
  refine w_region ?_
  refine l_pint rfl rfl ?_
  refine l_nil ?_
  refine w_seq ?_
  refine w_seq ?_
  refine w_region ?_
  refine l_pptr rfl rfl ?_
  refine l_v rfl (q_eqlNilF rfl pt_61 rfl rfl) ?_
  refine l_nil ?_
  refine w_cond_f rfl ?_
  refine w_skip ?_
  refine w_seq ?_
  refine w_region ?_
  refine l_pptr rfl rfl ?_
  refine l_pptr rfl rfl ?_
  refine l_v rfl (q_fieldAddr rfl fo97_2 rfl) ?_
  refine l_v rfl (q_load1 rfl c1_22 rfl (by first | exact H.cell 0 rfl rfl)) ?_
  refine l_v rfl (q_lenSlice rfl el_22 rfl) ?_
  refine l_pint rfl rfl ?_
  refine l_nil ?_
  refine w_ret ?_
  refine fin1 (v := .int _ _) rfl ?_
  exact ⟨rfl, H⟩
theorem rSent_ok {W w : World} {F : List Seg} {b : Nat} {st : RS} (H : St W w (rfL b st F)) :
    Ok Try.prog 38 [.pointer (some ⟨b, 0, none⟩)].toArray w (fun v w' => v = .int .i64 st.rc.length ∧ St W w' (rfL b st F)) := by
  refine enter (n := 10) (rs := #[.tmp 2]) Try.func38 rfl rfl rfl rfl ?_
  refine w_seq ?_
  refine w_region ?_
  refine l_pint rfl rfl ?_
  refine l_nil ?_
  refine w_seq ?_
  refine w_seq ?_
  refine w_region ?_
  refine l_pptr rfl rfl ?_
  refine l_v rfl (q_eqlNilF rfl pt_61 rfl rfl) ?_
  refine l_nil ?_
  refine w_cond_f rfl ?_
  refine w_skip ?_
  refine w_seq ?_
  refine w_region ?_
  refine l_pptr rfl rfl ?_
  refine l_pptr rfl rfl ?_
  refine l_v rfl (q_fieldAddr rfl fo97_3 rfl) ?_
  refine l_v rfl (q_load1 rfl c1_22 rfl (by first | exact H.cell 0 rfl rfl)) ?_
  refine l_v rfl (q_lenSlice rfl el_22 rfl) ?_
  refine l_pint rfl rfl ?_
  refine l_nil ?_
  refine w_ret ?_
  refine fin1 (v := .int _ _) rfl ?_
  exact ⟨rfl, H⟩
theorem rClear_ok {W w : World} {F : List Seg} {b : Nat} {st : RS} (H : St W w (rfL b st F)) :
    Ok Try.prog 67 [.pointer (some ⟨b, 0, none⟩)].toArray w (fun v w' => v = .tuple #[] ∧ St W w' (rfL b { st with pa := none, pcap := 0, pool := [] } F)) := by
  refine enter (n := 7) (rs := #[]) Try.func67 rfl rfl rfl rfl ?_
  refine w_seq ?_
  refine w_region ?_
  refine l_pptr rfl rfl ?_
  refine l_v rfl (q_neqNilF rfl pt_61 rfl rfl) ?_
  refine l_nil ?_
  refine w_cond_t rfl ?_
  refine w_region ?_
  refine l_pptr rfl rfl ?_
  refine l_pptr rfl rfl ?_
  refine l_v rfl (q_fieldAddr rfl fo97_2 rfl) ?_
  first | refine b_store rfl sz_22 rfl rfl rfl rfl rfl H 0 rfl rfl rfl (fun w H => ?_)
  refine l_nil ?_
  exact fin0n ⟨rfl, St.pick [2, 0, 1, 5, 6] (pre := [_, _, _, _, _, _, _]) rfl (St.newRow (T := 31) (sz := 3) (St.nilseg.2 H)) rfl⟩
theorem rNew_ok {W w : World} {F : List Seg} (H : St W w F) (nodes clients : Int) :
    Ok Try.prog 35 [.int .i64 nodes, .int .i64 clients].toArray w (fun v w' => ∃ x y, v = .tuple #[x, y] ∧ ((¬ (1 ≤ nodes ∧ nodes ≤ 7 ∧ 0 ≤ clients ∧ clients ≤ 16) ∧ x = .pointer none ∧ y = .int .i64 3 ∧ St W w' F) ∨ ((1 ≤ nodes ∧ nodes ≤ 7 ∧ 0 ≤ clients ∧ clients ≤ 16) ∧ y = .int .i64 0 ∧ ∃ b, x = .pointer (some ⟨b, 0, none⟩) ∧ St W w' (rfL b ⟨nodes, clients, none, 0, [], none, 0, []⟩ F)))) := by
  refine enter (n := 24) (rs := #[.tmp 4, .tmp 5]) Try.func35 rfl rfl rfl rfl ?_
  refine w_seq ?_
  refine w_region ?_
  refine l_pptr rfl rfl ?_
  refine l_pint rfl rfl ?_
  refine l_nil ?_
  refine w_seq ?_
  refine w_seq ?_
  refine w_region ?_
  refine l_pint rfl rfl ?_
  refine l_pbool rfl rfl ?_
  refine l_pbool rfl rfl ?_
  refine l_split 8 rfl (fun h8 => ?_) (fun h8 => ?_)
  · try simp only [sH] at h8
    refine l_no rfl ?_
    refine l_no rfl ?_
    refine l_pickT (v := .bool _) rfl rfl rfl ?_
    refine l_pbool rfl rfl ?_
    refine l_no rfl ?_
    refine l_no rfl ?_
    refine l_pickT (v := .bool _) rfl rfl rfl ?_
    refine l_pbool rfl rfl ?_
    refine l_no rfl ?_
    refine l_no rfl ?_
    refine l_pickT (v := .bool _) rfl rfl rfl ?_
    refine l_nil ?_
    refine w_cond_t rfl ?_
    refine w_seq ?_
    refine w_region ?_
    refine l_pptr rfl rfl ?_
    refine l_pint rfl rfl ?_
    refine l_nil ?_
    refine w_ret ?_
    refine fin2 rfl rfl ?_
    exact ⟨_, _, rfl, .inl ⟨by omega, rfl, rfl, H⟩⟩
  try simp only [sH] at h8
  refine l_pint rfl rfl ?_
  refine l_pbool rfl rfl ?_
  refine l_pickF (v := .bool _) rfl rfl rfl ?_
  refine l_pbool rfl rfl ?_
  refine l_split 12 rfl (fun h12 => ?_) (fun h12 => ?_)
  · try simp only [sH] at h12
    refine l_no rfl ?_
    refine l_no rfl ?_
    refine l_pickT (v := .bool _) rfl rfl rfl ?_
    refine l_pbool rfl rfl ?_
    refine l_no rfl ?_
    refine l_no rfl ?_
    refine l_pickT (v := .bool _) rfl rfl rfl ?_
    refine l_nil ?_
    refine w_cond_t rfl ?_
    refine w_seq ?_
    refine w_region ?_
    refine l_pptr rfl rfl ?_
    refine l_pint rfl rfl ?_
    refine l_nil ?_
    refine w_ret ?_
    refine fin2 rfl rfl ?_
    exact ⟨_, _, rfl, .inl ⟨by omega, rfl, rfl, H⟩⟩
  try simp only [sH] at h12
  refine l_pint rfl rfl ?_
  refine l_pbool rfl rfl ?_
  refine l_pickF (v := .bool _) rfl rfl rfl ?_
  refine l_pbool rfl rfl ?_
  refine l_split 16 rfl (fun h16 => ?_) (fun h16 => ?_)
  · try simp only [sH] at h16
    refine l_no rfl ?_
    refine l_no rfl ?_
    refine l_pickT (v := .bool _) rfl rfl rfl ?_
    refine l_nil ?_
    refine w_cond_t rfl ?_
    refine w_seq ?_
    refine w_region ?_
    refine l_pptr rfl rfl ?_
    refine l_pint rfl rfl ?_
    refine l_nil ?_
    refine w_ret ?_
    refine fin2 rfl rfl ?_
    exact ⟨_, _, rfl, .inl ⟨by omega, rfl, rfl, H⟩⟩
  try simp only [sH] at h16
  refine l_pint rfl rfl ?_
  refine l_pbool rfl rfl ?_
  refine l_pickF (v := .bool _) rfl rfl rfl ?_
  refine l_nil ?_
  refine w_cond rfl (fun c1 => ?_) (fun c1 => ?_)
  · try simp only [sH] at c1
    refine w_seq ?_
    refine w_region ?_
    refine l_pptr rfl rfl ?_
    refine l_pint rfl rfl ?_
    refine l_nil ?_
    refine w_ret ?_
    refine fin2 rfl rfl ?_
    exact ⟨_, _, rfl, .inl ⟨by omega, rfl, rfl, H⟩⟩
  try simp only [sH] at c1
  refine w_skip ?_
  refine w_seq ?_
  refine w_region ?_
  refine l_pint rfl rfl ?_
  refine l_pint rfl rfl ?_
  refine l_v rfl (q_build (cs := [.int _ _, .int _ _, .slice _ _ _, .slice _ _ _]) rfl sp_97 rfl) ?_
  refine b_box (cs := [.int .i64 nodes, .int .i64 clients, .slice none 0 0, .slice none 0 0]) rfl rfl rfl H (fun b23 w H => ?_)
  refine l_pptr rfl rfl ?_
  refine l_pint rfl rfl ?_
  refine l_nil ?_
  refine w_ret ?_
  refine fin2 rfl rfl ?_
  exact ⟨_, _, rfl, .inr ⟨by omega, rfl, b23, rfl, St.pick [4, 2, 3, 0, 1] (pre := [_, _, _, _, _]) rfl (St.newRow (T := 31) (sz := 3) (St.nilseg.2 (St.newRow (T := 31) (sz := 3) (St.nilseg.2 H)))) rfl⟩⟩
end Go.Proofs.Ytmgcmgfjaimlnaa
