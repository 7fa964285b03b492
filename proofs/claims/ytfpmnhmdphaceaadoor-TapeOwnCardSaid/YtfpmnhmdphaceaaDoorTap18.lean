/- Walks through the tape's functions. -/
import Derived.Test.YtfpmnhmdphaceaaDoorTap17
namespace Go.Proofs.YtfpmnhmdphaceaaDoor
open Go.EW
attribute [local irreducible] EW.W EW.L EW.fin block8 outB shaL
set_option linter.unusedVariables false
set_option linter.unusedSimpArgs false
attribute [local irreducible] crcN crcB crcL sealL openR sealR
/-- a setup -/
structure Stp where
  f : Int
  room : Int
  pat : Int
  ung : Bool
  cls : List Int
def Stp.cells (s : Stp) (a : Option Addr) (c : Nat) : List Value := [I s.f, I s.room, I s.pat, .bool s.ung, .slice a s.cls.length c]
def stp0 : Stp := ⟨0, 0, 0, false, []⟩
def intsV (l : List Int) : List Value := l.map I
def cfgOk (s : Stp) : Prop := 1 ≤ s.f ∧ s.f ≤ 3 ∧ 1 ≤ s.room ∧ s.room ≤ 256 ∧ 6 ≤ s.pat ∧ s.pat ≤ 100
instance (s : Stp) : Decidable (cfgOk s) := by unfold cfgOk; infer_instance
def chkS (s : Stp) : Nat := if ¬ cfgOk s then 1 else if 16 < s.cls.length then 152 else if s.cls.any (fun x => decide (x < 0)) = true then 152 else 0
def plainN (s : Stp) : Int := if s.ung = true then 1 else 0
def hv (s : Stp) : List Int := [1, 1, s.f, s.room, s.pat, plainN s, (s.cls.length : Int)]
def numsB (l : List Int) : List UInt8 := l.flatMap fun x => formL x.toNat
def headB (s : Stp) : List UInt8 := numsB (hv s) ++ numsB s.cls
def StpOk (s : Stp) : Prop := ∀ x ∈ s.cls, x ≤ 9223372036854775807
theorem numsB_snoc (l : List Int) (x : Int) : numsB (l ++ [x]) = numsB l ++ formL x.toNat := by
  unfold numsB
  rw [List.flatMap_append, List.flatMap_cons, List.flatMap_nil, List.append_nil]
theorem numsB_take {l : List Int} {i : Nat} (hi : i < l.length) : numsB (l.take (i + 1)) = numsB (l.take i) ++ formL (l[i]).toNat := by
  rw [List.take_succ_eq_append_getElem hi, numsB_snoc]
theorem numsB_len : ∀ l : List Int, (numsB l).length ≤ 9 * l.length
  | [] => Nat.zero_le _
  | x :: l => by
    have h := numsB_len l
    have h2 := formL_len x.toNat
    unfold numsB at *
    rw [List.flatMap_cons, List.length_append, List.length_cons]; omega
theorem int_at {w : World} {a : Option Addr} {l : List Int} {i : Nat} (h : Rd w a (intsV l)) (hi : i < l.length) : ∃ b o, a = some ⟨b, o, none⟩ ∧ w.cell? ⟨b, o + i * 1, none⟩ = some (I l[i]) :=
  rd_cell h (by unfold intsV; rw [List.getElem?_map, List.getElem?_eq_getElem hi]; rfl)
theorem any_step {l : List Int} {i : Nat} (hi : i < l.length) (h : (l.take i).any (fun x => decide (x < 0)) = false) (hx : ¬ l[i] < 0) : (l.take (i + 1)).any (fun x => decide (x < 0)) = false := by
  rw [List.take_succ_eq_append_getElem hi, List.any_append, h]
  simp; omega
theorem any_hit {l : List Int} {i : Nat} (hi : i < l.length) (hx : l[i] < 0) : l.any (fun x => decide (x < 0)) = true :=
  List.any_eq_true.2 ⟨_, List.getElem_mem hi, decide_eq_true hx⟩
theorem any_no {l : List Int} (h : l.any (fun x => decide (x < 0)) = false) {i : Nat} (hi : i < l.length) : 0 ≤ l[i] := by
  have h2 := List.any_eq_false.1 h _ (List.getElem_mem hi)
  simp at h2; omega
theorem chk_cfg {s : Stp} (h : ¬ cfgOk s) : chkS s = 1 := if_pos h
theorem chk_long {s : Stp} (h : cfgOk s) (h2 : 16 < s.cls.length) : chkS s = 152 := by unfold chkS; rw [if_neg (fun h3 => h3 h), if_pos h2]
theorem chk_neg {s : Stp} (h : cfgOk s) (h2 : ¬ 16 < s.cls.length) (h3 : s.cls.any (fun x => decide (x < 0)) = true) : chkS s = 152 := by unfold chkS; rw [if_neg (fun h3 => h3 h), if_neg h2, if_pos h3]
theorem chk_ok {s : Stp} (h : cfgOk s) (h2 : ¬ 16 < s.cls.length) (h3 : s.cls.any (fun x => decide (x < 0)) = false) : chkS s = 0 := by unfold chkS; rw [if_neg (fun h3 => h3 h), if_neg h2, if_neg (by rw [h3]; decide)]
theorem chk_inv {s : Stp} (h : chkS s = 0) : cfgOk s ∧ s.cls.length ≤ 16 ∧ s.cls.any (fun x => decide (x < 0)) = false := by
  unfold chkS at h
  split at h
  · cases h
  rename_i h1
  split at h
  · cases h
  rename_i h2
  split at h
  · cases h
  rename_i h3
  exact ⟨Classical.byContradiction h1, by omega, by simpa using h3⟩
theorem hv_ok {s : Stp} (h : cfgOk s) (h2 : s.cls.length ≤ 16) {i : Nat} (hi : i < 7) : ∃ x, (hv s)[i]? = some x ∧ 0 ≤ x ∧ x ≤ 9223372036854775807 := by
  obtain ⟨h1, h2', h3, h4, h5, h6⟩ := h
  have hp : 0 ≤ plainN s ∧ plainN s ≤ 1 := by unfold plainN; split <;> omega
  match i, hi with
  | 0, _ => exact ⟨1, rfl, by omega, by omega⟩
  | 1, _ => exact ⟨1, rfl, by omega, by omega⟩
  | 2, _ => exact ⟨_, rfl, by omega, by omega⟩
  | 3, _ => exact ⟨_, rfl, by omega, by omega⟩
  | 4, _ => exact ⟨_, rfl, by omega, by omega⟩
  | 5, _ => exact ⟨_, rfl, by omega, by omega⟩
  | 6, _ => exact ⟨_, rfl, by omega, by omega⟩
theorem CheckConfig_ok {W w : World} {F : List Seg} (H : St W w F) (s : Stp) :
    Ok Tryd.prog 110 [.agg #[I s.f, I s.room, I s.pat, .bool s.ung]].toArray w (fun r w' => r = I (if cfgOk s then 0 else 1) ∧ St W w' F) := by
  refine enter (n := 31) (rs := #[.tmp 2]) Tryd.func110 rfl rfl rfl rfl ?_
  refine w_seq ?_
  refine w_region ?_
  refine b_box (cs := [I s.f, I s.room, I s.pat, .bool s.ung]) rfl rfl rfl H (fun b1 w H => ?_)
  refine l_pint rfl rfl ?_
  refine l_nil ?_
  refine w_seq ?_
  refine w_seq ?_
  refine w_region ?_
  refine l_v rfl (q_fieldAddr rfl fo53_0 rfl) ?_
  refine l_v rfl (q_load1 rfl c1_3 rfl (by first | exact H.cell 0 rfl rfl)) ?_
  refine l_pbool rfl rfl ?_
  refine l_pbool rfl rfl ?_
  refine l_split 6 rfl (fun h6 => ?_) (fun h6 => ?_)
  · try simp only [sH] at h6
    refine l_no rfl ?_
    refine l_no rfl ?_
    refine l_no rfl ?_
    refine l_pickT (v := .bool _) rfl rfl rfl ?_
    refine l_pbool rfl rfl ?_
    refine l_no rfl ?_
    refine l_no rfl ?_
    refine l_no rfl ?_
    refine l_pickT (v := .bool _) rfl rfl rfl ?_
    refine l_pbool rfl rfl ?_
    refine l_no rfl ?_
    refine l_no rfl ?_
    refine l_no rfl ?_
    refine l_pickT (v := .bool _) rfl rfl rfl ?_
    refine l_pbool rfl rfl ?_
    refine l_no rfl ?_
    refine l_no rfl ?_
    refine l_no rfl ?_
    refine l_pickT (v := .bool _) rfl rfl rfl ?_
    refine l_pbool rfl rfl ?_
    refine l_no rfl ?_
    refine l_no rfl ?_
    refine l_no rfl ?_
    refine l_pickT (v := .bool _) rfl rfl rfl ?_
    refine l_nil ?_
    refine w_cond_t rfl ?_
    refine w_seq ?_
    refine w_region ?_
    refine l_pint rfl rfl ?_
    refine l_nil ?_
    refine w_ret ?_
    refine fin1 (v := .int _ _) rfl ?_
    first
      | (refine ⟨?_, H.drop1⟩
         rw [if_neg (by unfold cfgOk; omega)])
      | (refine ⟨?_, H.drop1⟩
         rw [if_pos (by unfold cfgOk; omega)])
  try simp only [sH] at h6
  refine l_v rfl (q_fieldAddr rfl fo53_0 rfl) ?_
  refine l_v rfl (q_load1 rfl c1_3 rfl (by first | exact H.cell 0 rfl rfl)) ?_
  refine l_pbool rfl rfl ?_
  refine l_pickF (v := .bool _) rfl rfl rfl ?_
  refine l_pbool rfl rfl ?_
  refine l_split 11 rfl (fun h11 => ?_) (fun h11 => ?_)
  · try simp only [sH] at h11
    refine l_no rfl ?_
    refine l_no rfl ?_
    refine l_no rfl ?_
    refine l_pickT (v := .bool _) rfl rfl rfl ?_
    refine l_pbool rfl rfl ?_
    refine l_no rfl ?_
    refine l_no rfl ?_
    refine l_no rfl ?_
    refine l_pickT (v := .bool _) rfl rfl rfl ?_
    refine l_pbool rfl rfl ?_
    refine l_no rfl ?_
    refine l_no rfl ?_
    refine l_no rfl ?_
    refine l_pickT (v := .bool _) rfl rfl rfl ?_
    refine l_pbool rfl rfl ?_
    refine l_no rfl ?_
    refine l_no rfl ?_
    refine l_no rfl ?_
    refine l_pickT (v := .bool _) rfl rfl rfl ?_
    refine l_nil ?_
    refine w_cond_t rfl ?_
    refine w_seq ?_
    refine w_region ?_
    refine l_pint rfl rfl ?_
    refine l_nil ?_
    refine w_ret ?_
    refine fin1 (v := .int _ _) rfl ?_
    first
      | (refine ⟨?_, H.drop1⟩
         rw [if_neg (by unfold cfgOk; omega)])
      | (refine ⟨?_, H.drop1⟩
         rw [if_pos (by unfold cfgOk; omega)])
  try simp only [sH] at h11
  refine l_v rfl (q_fieldAddr rfl fo53_1 rfl) ?_
  refine l_v rfl (q_load1 rfl c1_3 rfl (by first | exact H.cell 0 rfl rfl)) ?_
  refine l_pbool rfl rfl ?_
  refine l_pickF (v := .bool _) rfl rfl rfl ?_
  refine l_pbool rfl rfl ?_
  refine l_split 16 rfl (fun h16 => ?_) (fun h16 => ?_)
  · try simp only [sH] at h16
    refine l_no rfl ?_
    refine l_no rfl ?_
    refine l_no rfl ?_
    refine l_pickT (v := .bool _) rfl rfl rfl ?_
    refine l_pbool rfl rfl ?_
    refine l_no rfl ?_
    refine l_no rfl ?_
    refine l_no rfl ?_
    refine l_pickT (v := .bool _) rfl rfl rfl ?_
    refine l_pbool rfl rfl ?_
    refine l_no rfl ?_
    refine l_no rfl ?_
    refine l_no rfl ?_
    refine l_pickT (v := .bool _) rfl rfl rfl ?_
    refine l_nil ?_
    refine w_cond_t rfl ?_
    refine w_seq ?_
    refine w_region ?_
    refine l_pint rfl rfl ?_
    refine l_nil ?_
    refine w_ret ?_
    refine fin1 (v := .int _ _) rfl ?_
    first
      | (refine ⟨?_, H.drop1⟩
         rw [if_neg (by unfold cfgOk; omega)])
      | (refine ⟨?_, H.drop1⟩
         rw [if_pos (by unfold cfgOk; omega)])
  try simp only [sH] at h16
  refine l_v rfl (q_fieldAddr rfl fo53_1 rfl) ?_
  refine l_v rfl (q_load1 rfl c1_3 rfl (by first | exact H.cell 0 rfl rfl)) ?_
  refine l_pbool rfl rfl ?_
  refine l_pickF (v := .bool _) rfl rfl rfl ?_
  refine l_pbool rfl rfl ?_
  refine l_split 21 rfl (fun h21 => ?_) (fun h21 => ?_)
  · try simp only [sH] at h21
    refine l_no rfl ?_
    refine l_no rfl ?_
    refine l_no rfl ?_
    refine l_pickT (v := .bool _) rfl rfl rfl ?_
    refine l_pbool rfl rfl ?_
    refine l_no rfl ?_
    refine l_no rfl ?_
    refine l_no rfl ?_
    refine l_pickT (v := .bool _) rfl rfl rfl ?_
    refine l_nil ?_
    refine w_cond_t rfl ?_
    refine w_seq ?_
    refine w_region ?_
    refine l_pint rfl rfl ?_
    refine l_nil ?_
    refine w_ret ?_
    refine fin1 (v := .int _ _) rfl ?_
    first
      | (refine ⟨?_, H.drop1⟩
         rw [if_neg (by unfold cfgOk; omega)])
      | (refine ⟨?_, H.drop1⟩
         rw [if_pos (by unfold cfgOk; omega)])
  try simp only [sH] at h21
  refine l_v rfl (q_fieldAddr rfl fo53_2 rfl) ?_
  refine l_v rfl (q_load1 rfl c1_3 rfl (by first | exact H.cell 0 rfl rfl)) ?_
  refine l_pbool rfl rfl ?_
  refine l_pickF (v := .bool _) rfl rfl rfl ?_
  refine l_pbool rfl rfl ?_
  refine l_split 26 rfl (fun h26 => ?_) (fun h26 => ?_)
  · try simp only [sH] at h26
    refine l_no rfl ?_
    refine l_no rfl ?_
    refine l_no rfl ?_
    refine l_pickT (v := .bool _) rfl rfl rfl ?_
    refine l_nil ?_
    refine w_cond_t rfl ?_
    refine w_seq ?_
    refine w_region ?_
    refine l_pint rfl rfl ?_
    refine l_nil ?_
    refine w_ret ?_
    refine fin1 (v := .int _ _) rfl ?_
    first
      | (refine ⟨?_, H.drop1⟩
         rw [if_neg (by unfold cfgOk; omega)])
      | (refine ⟨?_, H.drop1⟩
         rw [if_pos (by unfold cfgOk; omega)])
  try simp only [sH] at h26
  refine l_v rfl (q_fieldAddr rfl fo53_2 rfl) ?_
  refine l_v rfl (q_load1 rfl c1_3 rfl (by first | exact H.cell 0 rfl rfl)) ?_
  refine l_pbool rfl rfl ?_
  refine l_pickF (v := .bool _) rfl rfl rfl ?_
  refine l_nil ?_
  refine w_cond rfl (fun c1 => ?_) (fun c1 => ?_)
  · try simp only [sH] at c1
    refine w_seq ?_
    refine w_region ?_
    refine l_pint rfl rfl ?_
    refine l_nil ?_
    refine w_ret ?_
    refine fin1 (v := .int _ _) rfl ?_
    first
      | (refine ⟨?_, H.drop1⟩
         rw [if_neg (by unfold cfgOk; omega)])
      | (refine ⟨?_, H.drop1⟩
         rw [if_pos (by unfold cfgOk; omega)])
  try simp only [sH] at c1
  refine w_skip ?_
  refine w_seq ?_
  refine w_region ?_
  refine l_pint rfl rfl ?_
  refine l_nil ?_
  refine w_ret ?_
  refine fin1 (v := .int _ _) rfl ?_
  first
    | (refine ⟨?_, H.drop1⟩
       rw [if_neg (by unfold cfgOk; omega)])
    | (refine ⟨?_, H.drop1⟩
       rw [if_pos (by unfold cfgOk; omega)])
theorem checked_ok {W w : World} {F : List Seg} (H : St W w F) (s : Stp) {a : Option Addr} {c : Nat} (hr : RdIn W F a (intsV s.cls)) :
    Ok Tryd.prog 71 [.agg (s.cells a c).toArray].toArray w (fun r w' => r = I (chkS s : Int) ∧ St W w' F) := by
  refine enter (n := 27) (rs := #[.tmp 2]) Tryd.func71 rfl rfl rfl rfl ?_
  refine w_seq ?_
  refine w_region ?_
  refine b_box (cs := s.cells a c) rfl rfl rfl H (fun b1 w H => ?_)
  refine l_pint rfl rfl ?_
  refine l_nil ?_
  refine w_seq ?_
  refine w_seq ?_
  refine w_region ?_
  refine l_v rfl (q_fieldAddr rfl fo56_0 rfl) ?_
  refine l_v rfl (q_loadN (vs := [I s.f, I s.room, I s.pat, .bool s.ung]) rfl ag_53 rfl rfl ((H.cells 0 rfl).sub 0 4)) ?_
  refine b_call rfl cb_110 rfl (CheckConfig_ok H s) (fun v w hv => ?_)
  obtain ⟨rfl, H⟩ := hv
  refine l_pint rfl rfl ?_
  refine l_nil ?_
  refine w_seq ?_
  refine w_region ?_
  refine l_pint rfl rfl ?_
  refine l_pbool rfl rfl ?_
  refine l_nil ?_
  refine w_cond rfl (fun c1 => ?_) (fun c1 => ?_)
  · try simp only [sH] at c1
    have hcf : ¬ cfgOk s := fun h => by rw [if_pos h] at c1; omega
    refine w_seq ?_
    refine w_region ?_
    refine l_pint rfl rfl ?_
    refine l_pint rfl rfl ?_
    refine l_nil ?_
    refine w_ret ?_
    refine fin1 (v := .int _ _) rfl ?_
    refine ⟨?_, H.drop1⟩
    rw [chk_cfg hcf, if_neg hcf]; rfl
  try simp only [sH] at c1
  have hcf : cfgOk s := Classical.byContradiction fun h => by rw [if_neg h] at c1; omega
  refine w_skip ?_
  refine w_seq ?_
  refine w_seq ?_
  refine w_region ?_
  refine l_v rfl (q_fieldAddr rfl fo56_1 rfl) ?_
  refine l_v rfl (q_load1 rfl c1_54 rfl (by first | exact H.cell 0 rfl rfl | exact H.cell 1 rfl rfl)) ?_
  refine l_v rfl (q_lenSlice rfl el_54 rfl) ?_
  refine l_pbool rfl rfl ?_
  refine l_nil ?_
  refine w_cond rfl (fun c2 => ?_) (fun c2 => ?_)
  · try simp only [sH] at c2
    refine w_seq ?_
    refine w_region ?_
    refine l_pint rfl rfl ?_
    refine l_nil ?_
    refine w_ret ?_
    refine fin1 (v := .int _ _) rfl ?_
    refine ⟨?_, H.drop1⟩
    rw [chk_long hcf (by omega)]; rfl
  try simp only [sH] at c2
  refine w_skip ?_
  refine w_seq ?_
  refine w_seq ?_
  refine w_region ?_
  refine l_v rfl (q_fieldAddr rfl fo56_1 rfl) ?_
  refine l_v rfl (q_load1 rfl c1_54 rfl (by first | exact H.cell 0 rfl rfl | exact H.cell 1 rfl rfl)) ?_
  refine l_v rfl (q_lenSlice rfl el_54 rfl) ?_
  refine l_pint rfl rfl ?_
  refine l_nil ?_
  refine w_block ?_
  refine w_loopG (G := Nat) [2, 5, 19, 20, 21, 22, 23, 24, 25, 26] (fun i => [(19, .int .i64 ((i : Nat) : Int))]) (fun m i w => m + i = s.cls.length ∧ (s.cls.take i).any (fun x => decide (x < 0)) = false ∧ St W w (blk b1 (s.cells a c) 56 :: F)) (fun _ => rfl) ?_ ?_
  · exact ⟨s.cls.length, 0, ⟨rfl, trivial⟩, rfl, rfl, H⟩
  rintro m i ρ1 w ⟨hmi, han, H⟩
  refine w_seq ?_
  refine w_region ?_
  refine l_pbool rfl rfl ?_
  refine l_nil ?_
  refine w_seq ?_
  refine w_cond rfl (fun c3 => ?_) (fun c3 => ?_)
  · try simp only [sH] at c3
    have hi : i < s.cls.length := by omega
    obtain ⟨cb, co, hca, hcc⟩ := int_at (hr.use H 1 rfl) hi
    refine w_skip ?_
    refine w_seq ?_
    refine w_block ?_
    refine w_seq ?_
    refine w_region ?_
    refine l_v rfl (q_indexSliceE i rfl el_54 rfl hca rfl rfl hi) ?_
    refine l_v rfl (q_loadN (vs := [I s.cls[i]]) rfl ag_150 rfl rfl (by rw [Nat.mul_one] at hcc ⊢; exact ⟨hcc, trivial⟩)) ?_
    refine b_alloc rfl ze_150 rfl H (fun b5 w H => ?_)
    refine b_store (cs' := [I s.cls[i]]) rfl sz_150 rfl rfl rfl rfl rfl H 0 rfl rfl rfl (fun w H => ?_)
    refine l_nil ?_
    refine w_seq ?_
    refine w_region ?_
    refine l_v rfl (q_fieldAddr rfl fo150_0 rfl) ?_
    refine l_v rfl (q_load1 rfl c1_3 rfl (H.cell 0 rfl rfl)) ?_
    refine l_pbool rfl rfl ?_
    refine l_nil ?_
    refine w_cond rfl (fun c4 => ?_) (fun c4 => ?_)
    · try simp only [sH] at c4
      refine w_seq ?_
      refine w_region ?_
      refine l_pint rfl rfl ?_
      refine l_nil ?_
      refine w_ret ?_
      refine fin1 (v := .int _ _) rfl ?_
      refine ⟨?_, H.drop1.drop1⟩
      rw [chk_neg hcf (by omega) (any_hit hi (by omega))]; rfl
    try simp only [sH] at c4
    refine w_skip ?_
    refine w_region ?_
    first | refine l_v rfl (q_add rfl rfl rfl (by simp only [inK]; omega)) ?_ | refine l_pint rfl rfl ?_
    refine l_pint rfl rfl ?_
    refine l_nil ?_
    refine ⟨by repeat' first | exact aM | exact aR | refine aI rfl ?_ | refine aU rfl ?_ | refine aL rfl ?_, ?_⟩
    exact ⟨m - 1, i + 1, by omega, ⟨by exact congrArg (Value.int IntKind.i64) (Int.natCast_succ i).symm, trivial⟩, by omega, any_step hi han (by omega), H.drop1⟩
  try simp only [sH] at c3
  obtain rfl : i = s.cls.length := by omega
  rw [List.take_length] at han
  refine w_exit ?_
  refine w_seq ?_
  refine w_region ?_
  refine l_pint rfl rfl ?_
  refine l_nil ?_
  refine w_ret ?_
  refine fin1 (v := .int _ _) rfl ?_
  refine ⟨?_, H.drop1⟩
  rw [chk_ok hcf (by omega) han]; rfl
end Go.Proofs.YtfpmnhmdphaceaaDoor
