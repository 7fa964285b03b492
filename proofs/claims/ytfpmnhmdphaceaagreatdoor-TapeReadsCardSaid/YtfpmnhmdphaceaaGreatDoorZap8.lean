/- A part of this claim: laws of the tape's functions and of plain lists; no conditions beyond those that the theorems name. -/
import Derived.Test.YtfpmnhmdphaceaaGreatDoorZap7
namespace Go.Proofs.YtfpmnhmdphaceaaGreatDoor
open Go.EW
attribute [local irreducible] EW.W EW.L EW.fin block8 outB shaL
set_option linter.unusedVariables false
set_option linter.unusedSimpArgs false
/-- a reader of the document's in memory -/
def refL (rb : Nat) (a : Option Addr) (c : Nat) (bs : List UInt8) (s : Rs) (F : List Seg) : List Seg := blk rb [.slice a bs.length c, .int .i64 (s.at_ : Int), .int .i64 (s.err : Int)] 189 :: F
theorem rEnd_ok {W w : World} {F : List Seg} {rb : Nat} {a : Option Addr} {c : Nat} {bs : List UInt8} {s : Rs} (H : St W w (refL rb a c bs s F)) (hr : RdIn W F a (bs.map B)) (hcp : bs.length ≤ c) (hs : RsOk2 bs s) (hb : bs.length ≤ 140737488355328) :
    Ok Tryz.prog 103 [.pointer (some ⟨rb, 0, none⟩)].toArray w (fun r w' => r = .int .i64 (rEnd bs s : Int) ∧ St W w' (refL rb a c bs s F)) := by
  refine enter (n := 24) (rs := #[.tmp 2]) Tryz.func103 rfl rfl rfl rfl ?_
  refine w_seq ?_
  refine w_region ?_
  refine l_pint rfl rfl ?_
  refine l_nil ?_
  refine w_seq ?_
  refine w_seq ?_
  refine w_drawT [] [3, 9, 13] [(0, 0), (1, 0), (2, 0), (3, 1), (4, 0), (5, 0), (6, 0), (7, 0), (8, 0), (9, 1), (10, 0), (11, 0), (12, 0), (13, 1), (14, 0), (15, 0), (16, 0)] mixed (by kernel_rfl) (fun _ _ _ h => fin_panic h) H (fun H => ?_)
  refine r_pptr rfl rfl rfl ?_
  refine r_pptr rfl rfl rfl ?_
  refine r_w rfl rfl (fun w => q_fieldAddr rfl fo189_2 rfl) ?_
  refine r_v rfl rfl (fun w hS => q_load1 rfl c1_3 rfl (by first | exact hS.cell 0 rfl rfl)) ?_
  refine r_pbool rfl rfl rfl ?_
  refine r_pbool rfl rfl rfl ?_
  refine r_split 8 rfl (fun h8 => ?_) (fun h8 => ?_)
  · try simp only [sH] at h8
    refine r_pptr rfl rfl rfl ?_
    refine r_pptr rfl rfl rfl ?_
    refine r_w rfl rfl (fun w => q_fieldAddr rfl fo189_1 rfl) ?_
    refine r_v rfl rfl (fun w hS => q_load1 rfl c1_3 rfl (by first | exact hS.cell 0 rfl rfl)) ?_
    refine r_pptr rfl rfl rfl ?_
    refine r_pptr rfl rfl rfl ?_
    refine r_w rfl rfl (fun w => q_fieldAddr rfl fo189_0 rfl) ?_
    refine r_v rfl rfl (fun w hS => q_load1 rfl c1_50 rfl (by first | exact hS.cell 0 rfl rfl)) ?_
    refine r_w rfl rfl (fun w => q_lenSlice rfl el_50 rfl) ?_
    refine r_pbool rfl rfl rfl ?_
    refine r_pickT (v := .bool _) rfl rfl rfl rfl ?_
    refine r_nil ?_
    refine w_cond rfl (fun c1 => ?_) (fun c1 => ?_)
    · try simp only [sH] at c1
      refine w_seq ?_
      refine w_region ?_
      refine l_pint rfl rfl ?_
      refine l_nil ?_
      refine w_ret ?_
      refine fin1 (v := .int _ _) rfl ?_
      refine ⟨?_, H⟩
      unfold rEnd
      rw [if_neg (by omega), if_pos (by omega)]; rfl
    try simp only [sH] at c1
    refine w_skip ?_
    refine w_seq ?_
    refine w_region ?_
    refine l_pptr rfl rfl ?_
    refine l_pptr rfl rfl ?_
    refine l_v rfl (q_fieldAddr rfl fo189_2 rfl) ?_
    refine l_v rfl (q_load1 rfl c1_3 rfl (by first | exact H.cell 0 rfl rfl)) ?_
    refine l_pint rfl rfl ?_
    refine l_nil ?_
    refine w_ret ?_
    refine fin1 (v := .int _ _) rfl ?_
    refine ⟨?_, H⟩
    unfold rEnd
    first
      | rw [if_pos (by omega)]
      | (rw [if_neg (by omega), if_neg (by omega), show s.err = 0 by omega] <;> rfl)
  try simp only [sH] at h8
  refine r_no rfl rfl ?_
  refine r_no rfl rfl ?_
  refine r_no rfl rfl ?_
  refine r_no1 rfl rfl ?_
  refine r_no rfl rfl ?_
  refine r_no rfl rfl ?_
  refine r_no rfl rfl ?_
  refine r_no1 rfl rfl ?_
  refine r_no rfl rfl ?_
  refine r_no rfl rfl ?_
  refine r_pickF (v := .bool _) rfl rfl rfl rfl ?_
  refine r_nil ?_
  refine w_cond_f rfl ?_
  refine w_skip ?_
  refine w_seq ?_
  refine w_region ?_
  refine l_pptr rfl rfl ?_
  refine l_pptr rfl rfl ?_
  refine l_v rfl (q_fieldAddr rfl fo189_2 rfl) ?_
  refine l_v rfl (q_load1 rfl c1_3 rfl (by first | exact H.cell 0 rfl rfl)) ?_
  refine l_pint rfl rfl ?_
  refine l_nil ?_
  refine w_ret ?_
  refine fin1 (v := .int _ _) rfl ?_
  refine ⟨?_, H⟩
  unfold rEnd
  first
    | rw [if_pos (by omega)]
    | (rw [if_neg (by omega), if_neg (by omega), show s.err = 0 by omega] <;> rfl)
theorem rNumber_ok {W w : World} {F : List Seg} {rb : Nat} {a : Option Addr} {c : Nat} {bs : List UInt8} {s : Rs} (H : St W w (refL rb a c bs s F)) (hr : RdIn W F a (bs.map B)) (hcp : bs.length ≤ c) (hs : RsOk2 bs s) (hb : bs.length ≤ 140737488355328) :
    Ok Tryz.prog 107 [.pointer (some ⟨rb, 0, none⟩)].toArray w (fun r w' => r = N64 (rNum bs s).1 ∧ St W w' (refL rb a c bs (rNum bs s).2 F)) := by
  have hge := getN_err bs s.at_
  refine enter (n := 35) (rs := #[.tmp 2]) Tryz.func107 rfl rfl rfl rfl ?_
  refine w_seq ?_
  refine w_region ?_
  refine l_pint rfl rfl ?_
  refine l_nil ?_
  refine w_seq ?_
  refine w_seq ?_
  refine w_region ?_
  refine l_pptr rfl rfl ?_
  refine l_pptr rfl rfl ?_
  refine l_v rfl (q_fieldAddr rfl fo189_2 rfl) ?_
  refine l_v rfl (q_load1 rfl c1_3 rfl (by first | exact H.cell 0 rfl rfl)) ?_
  refine l_pbool rfl rfl ?_
  refine l_nil ?_
  refine w_cond rfl (fun c1 => ?_) (fun c1 => ?_)
  · try simp only [sH] at c1
    refine w_seq ?_
    refine w_region ?_
    refine l_pint rfl rfl ?_
    refine l_nil ?_
    refine w_ret ?_
    refine fin1 (v := .int _ _) rfl ?_
    have e : rNum bs s = (0, s) := if_pos (by omega)
    rw [e]; exact ⟨rfl, H⟩
  try simp only [sH] at c1
  refine w_skip ?_
  refine w_seq ?_
  refine w_drawT [8] [3, 7] [(0, 0), (1, 0), (2, 0), (3, 1), (4, 0), (5, 0), (6, 0), (7, 1), (8, 2), (9, 0), (10, 0), (11, 0), (12, 0), (13, 0), (14, 0), (15, 0)] mixed (by kernel_rfl) (fun _ _ _ h => fin_panic h) H (fun H => ?_)
  refine r_pptr rfl rfl rfl ?_
  refine r_pptr rfl rfl rfl ?_
  refine r_w rfl rfl (fun w => q_fieldAddr rfl fo189_0 rfl) ?_
  refine r_v rfl rfl (fun w hS => q_load1 rfl c1_50 rfl (by first | exact hS.cell 0 rfl rfl)) ?_
  refine r_pptr rfl rfl rfl ?_
  refine r_pptr rfl rfl rfl ?_
  refine r_w rfl rfl (fun w => q_fieldAddr rfl fo189_1 rfl) ?_
  refine r_v rfl rfl (fun w hS => q_load1 rfl c1_3 rfl (by first | exact hS.cell 0 rfl rfl)) ?_
  refine r_do rfl ?_
  refine b_call rfl cb_117 rfl (rnumber_ok H (hr.up 1 rfl) rfl hb hs.1) (fun v w hv => ?_)
  obtain ⟨rfl, H⟩ := hv
  refine l_nil ⟨(fun h => nomatch h), ?_⟩
  refine r_ptup rfl rfl rfl ?_
  refine r_pint rfl rfl rfl ?_
  refine r_pint rfl rfl rfl ?_
  refine r_pint rfl rfl rfl ?_
  refine r_pint rfl rfl rfl ?_
  refine r_pint rfl rfl rfl ?_
  refine r_pint rfl rfl rfl ?_
  refine r_nil ?_
  refine w_seq ?_
  refine w_region ?_
  refine l_pptr rfl rfl ?_
  refine l_pint rfl rfl ?_
  refine l_pptr rfl rfl ?_
  refine l_v rfl (q_fieldAddr rfl fo189_2 rfl) ?_
  first | refine b_store rfl sz_3 rfl rfl rfl rfl rfl H 0 rfl rfl rfl (fun w H => ?_)
  refine l_nil ?_
  refine w_seq ?_
  refine w_seq ?_
  refine w_region ?_
  refine l_pint rfl rfl ?_
  refine l_pbool rfl rfl ?_
  refine l_nil ?_
  refine w_cond rfl (fun c2 => ?_) (fun c2 => ?_)
  · try simp only [sH] at c2
    refine w_seq ?_
    refine w_region ?_
    refine l_pint rfl rfl ?_
    refine l_nil ?_
    refine w_ret ?_
    refine fin1 (v := .int _ _) rfl ?_
    have e : rNum bs s = (0, ⟨s.at_, (getN bs s.at_).2.2⟩) := by unfold rNum; rw [if_neg (by omega), if_pos (by omega)]
    rw [e]; exact ⟨rfl, H⟩
  try simp only [sH] at c2
  refine w_skip ?_
  refine w_seq ?_
  refine w_region ?_
  refine l_pptr rfl rfl ?_
  refine l_pint rfl rfl ?_
  refine l_pptr rfl rfl ?_
  refine l_v rfl (q_fieldAddr rfl fo189_1 rfl) ?_
  first | refine b_store rfl sz_3 rfl rfl rfl rfl rfl H 0 rfl rfl rfl (fun w H => ?_)
  refine l_nil ?_
  refine w_seq ?_
  refine w_region ?_
  refine l_pint rfl rfl ?_
  refine l_pint rfl rfl ?_
  refine l_nil ?_
  refine w_ret ?_
  refine fin1 (v := .int _ _) rfl ?_
  have e0 : (getN bs s.at_).2.2 = 0 := by omega
  have e : rNum bs s = ((getN bs s.at_).1, ⟨(getN bs s.at_).2.1, 0⟩) := by unfold rNum; rw [if_neg (by omega), if_neg (by omega)]
  rw [e]
  rw [e0] at H
  exact ⟨rfl, H⟩
theorem rInt_ok {W w : World} {F : List Seg} {rb : Nat} {a : Option Addr} {c : Nat} {bs : List UInt8} {s : Rs} (H : St W w (refL rb a c bs s F)) (hr : RdIn W F a (bs.map B)) (hcp : bs.length ≤ c) (hs : RsOk2 bs s) (hb : bs.length ≤ 140737488355328) {mo : Nat} (hmo : mo ≤ 9223372036854775807) :
    Ok Tryz.prog 102 [.pointer (some ⟨rb, 0, none⟩), .int .i64 (mo : Int)].toArray w (fun r w' => r = .int .i64 ((rInt bs mo s).1 : Int) ∧ St W w' (refL rb a c bs (rInt bs mo s).2 F)) := by
  have hge := getN_err bs s.at_
  have hgl := getN_lt bs s.at_
  refine enter (n := 51) (rs := #[.tmp 4]) Tryz.func102 rfl rfl rfl rfl ?_
  refine w_seq ?_
  refine w_region ?_
  refine l_pint rfl rfl ?_
  refine l_nil ?_
  refine w_seq ?_
  refine w_seq ?_
  refine w_region ?_
  refine l_pptr rfl rfl ?_
  refine l_pptr rfl rfl ?_
  refine l_v rfl (q_fieldAddr rfl fo189_2 rfl) ?_
  refine l_v rfl (q_load1 rfl c1_3 rfl (by first | exact H.cell 0 rfl rfl)) ?_
  refine l_pbool rfl rfl ?_
  refine l_nil ?_
  refine w_cond rfl (fun c1 => ?_) (fun c1 => ?_)
  · try simp only [sH] at c1
    refine w_seq ?_
    refine w_region ?_
    refine l_pint rfl rfl ?_
    refine l_nil ?_
    refine w_ret ?_
    refine fin1 (v := .int _ _) rfl ?_
    have e : rInt bs mo s = (0, s) := if_pos (by omega)
    rw [e]; exact ⟨rfl, H⟩
  try simp only [sH] at c1
  refine w_skip ?_
  refine w_seq ?_
  refine w_seq ?_
  refine w_region ?_
  refine l_pint rfl rfl ?_
  refine l_pbool rfl rfl ?_
  refine l_nil ?_
  refine w_cond rfl (fun c2 => ?_) (fun c2 => ?_)
  · try simp only [sH] at c2
    exact absurd c2 (by omega)
  try simp only [sH] at c2
  refine w_skip ?_
  refine w_seq ?_
  refine w_drawT [8] [3, 7] [(0, 0), (1, 0), (2, 0), (3, 1), (4, 0), (5, 0), (6, 0), (7, 1), (8, 2), (9, 0), (10, 0), (11, 0), (12, 0), (13, 0), (14, 0), (15, 0)] mixed (by kernel_rfl) (fun _ _ _ h => fin_panic h) H (fun H => ?_)
  refine r_pptr rfl rfl rfl ?_
  refine r_pptr rfl rfl rfl ?_
  refine r_w rfl rfl (fun w => q_fieldAddr rfl fo189_0 rfl) ?_
  refine r_v rfl rfl (fun w hS => q_load1 rfl c1_50 rfl (by first | exact hS.cell 0 rfl rfl)) ?_
  refine r_pptr rfl rfl rfl ?_
  refine r_pptr rfl rfl rfl ?_
  refine r_w rfl rfl (fun w => q_fieldAddr rfl fo189_1 rfl) ?_
  refine r_v rfl rfl (fun w hS => q_load1 rfl c1_3 rfl (by first | exact hS.cell 0 rfl rfl)) ?_
  refine r_do rfl ?_
  refine b_call rfl cb_117 rfl (rnumber_ok H (hr.up 1 rfl) rfl hb hs.1) (fun v w hv => ?_)
  obtain ⟨rfl, H⟩ := hv
  refine l_nil ⟨(fun h => nomatch h), ?_⟩
  refine r_ptup rfl rfl rfl ?_
  refine r_pint rfl rfl rfl ?_
  refine r_pint rfl rfl rfl ?_
  refine r_pint rfl rfl rfl ?_
  refine r_pint rfl rfl rfl ?_
  refine r_pint rfl rfl rfl ?_
  refine r_pint rfl rfl rfl ?_
  refine r_nil ?_
  refine w_seq ?_
  refine w_seq ?_
  refine w_region ?_
  refine l_pint rfl rfl ?_
  refine l_pbool rfl rfl ?_
  refine l_pbool rfl rfl ?_
  refine l_split 33 rfl (fun h33 => ?_) (fun h33 => ?_)
  · try simp only [sH] at h33
    refine l_pint rfl rfl ?_
    refine l_pint rfl rfl ?_
    refine l_v rfl (q_convIntIn rfl (by kernel_rfl) in_45 rfl (by simp only [inK]; omega)) ?_
    refine l_pbool rfl rfl ?_
    refine l_pickT (v := .bool _) rfl rfl rfl ?_
    refine l_nil ?_
    refine w_cond rfl (fun c3 => ?_) (fun c3 => ?_)
    · try simp only [sH] at c3
      refine w_region ?_
      refine l_pint rfl rfl ?_
      refine l_nil ?_
      refine w_seq ?_
      refine w_region ?_
      refine l_pptr rfl rfl ?_
      refine l_pint rfl rfl ?_
      refine l_pptr rfl rfl ?_
      refine l_v rfl (q_fieldAddr rfl fo189_2 rfl) ?_
      first | refine b_store rfl sz_3 rfl rfl rfl rfl rfl H 0 rfl rfl rfl (fun w H => ?_)
      refine l_nil ?_
      refine w_seq ?_
      refine w_seq ?_
      refine w_region ?_
      refine l_pint rfl rfl ?_
      refine l_pbool rfl rfl ?_
      refine l_nil ?_
      refine w_cond rfl (fun c4 => ?_) (fun c4 => ?_)
      · try simp only [sH] at c4
        refine w_seq ?_
        refine w_region ?_
        refine l_pint rfl rfl ?_
        refine l_nil ?_
        refine w_ret ?_
        refine fin1 (v := .int _ _) rfl ?_
        have e : rInt bs mo s = (0, ⟨s.at_, 11⟩) := by unfold rInt; rw [if_neg (by omega), if_neg (by omega), if_pos (by omega)]
        rw [e]; exact ⟨rfl, H⟩
      try simp only [sH] at c4
      refine w_skip ?_
      refine w_seq ?_
      refine w_region ?_
      refine l_pptr rfl rfl ?_
      refine l_pint rfl rfl ?_
      refine l_pptr rfl rfl ?_
      refine l_v rfl (q_fieldAddr rfl fo189_1 rfl) ?_
      first | refine b_store rfl sz_3 rfl rfl rfl rfl rfl H 0 rfl rfl rfl (fun w H => ?_)
      refine l_nil ?_
      refine w_seq ?_
      refine w_region ?_
      refine l_pint rfl rfl ?_
      refine l_v rfl (q_convIntIn rfl (by kernel_rfl) in_3 rfl (by simp only [inK]; omega)) ?_
      refine l_pint rfl rfl ?_
      refine l_nil ?_
      refine w_ret ?_
      refine fin1 (v := .int _ _) rfl ?_
      omega
    try simp only [sH] at c3
    refine w_skip ?_
    refine w_seq ?_
    refine w_region ?_
    refine l_pptr rfl rfl ?_
    refine l_pint rfl rfl ?_
    refine l_pptr rfl rfl ?_
    refine l_v rfl (q_fieldAddr rfl fo189_2 rfl) ?_
    first | refine b_store rfl sz_3 rfl rfl rfl rfl rfl H 0 rfl rfl rfl (fun w H => ?_)
    refine l_nil ?_
    refine w_seq ?_
    refine w_seq ?_
    refine w_region ?_
    refine l_pint rfl rfl ?_
    refine l_pbool rfl rfl ?_
    refine l_nil ?_
    refine w_cond rfl (fun c5 => ?_) (fun c5 => ?_)
    · try simp only [sH] at c5
      refine w_seq ?_
      refine w_region ?_
      refine l_pint rfl rfl ?_
      refine l_nil ?_
      refine w_ret ?_
      refine fin1 (v := .int _ _) rfl ?_
      omega
    try simp only [sH] at c5
    refine w_skip ?_
    refine w_seq ?_
    refine w_region ?_
    refine l_pptr rfl rfl ?_
    refine l_pint rfl rfl ?_
    refine l_pptr rfl rfl ?_
    refine l_v rfl (q_fieldAddr rfl fo189_1 rfl) ?_
    first | refine b_store rfl sz_3 rfl rfl rfl rfl rfl H 0 rfl rfl rfl (fun w H => ?_)
    refine l_nil ?_
    refine w_seq ?_
    refine w_region ?_
    refine l_pint rfl rfl ?_
    refine l_v rfl (q_convIntIn rfl (by kernel_rfl) in_3 rfl (by simp only [inK]; omega)) ?_
    refine l_pint rfl rfl ?_
    refine l_nil ?_
    refine w_ret ?_
    refine fin1 (v := .int _ _) rfl ?_
    have e0 : (getN bs s.at_).2.2 = 0 := by omega
    have e : rInt bs mo s = ((getN bs s.at_).1, ⟨(getN bs s.at_).2.1, 0⟩) := by unfold rInt; rw [if_neg (by omega), if_neg (by omega), if_neg (by omega)]
    rw [e]
    rw [e0] at H
    exact ⟨rfl, H⟩
  try simp only [sH] at h33
  refine l_no rfl ?_
  refine l_no rfl ?_
  refine l_no rfl ?_
  refine l_no rfl ?_
  refine l_pickF (v := .bool _) rfl rfl rfl ?_
  refine l_nil ?_
  refine w_cond_f rfl ?_
  refine w_skip ?_
  refine w_seq ?_
  refine w_region ?_
  refine l_pptr rfl rfl ?_
  refine l_pint rfl rfl ?_
  refine l_pptr rfl rfl ?_
  refine l_v rfl (q_fieldAddr rfl fo189_2 rfl) ?_
  first | refine b_store rfl sz_3 rfl rfl rfl rfl rfl H 0 rfl rfl rfl (fun w H => ?_)
  refine l_nil ?_
  refine w_seq ?_
  refine w_seq ?_
  refine w_region ?_
  refine l_pint rfl rfl ?_
  refine l_pbool rfl rfl ?_
  refine l_nil ?_
  refine w_cond rfl (fun c6 => ?_) (fun c6 => ?_)
  · try simp only [sH] at c6
    refine w_seq ?_
    refine w_region ?_
    refine l_pint rfl rfl ?_
    refine l_nil ?_
    refine w_ret ?_
    refine fin1 (v := .int _ _) rfl ?_
    have e : rInt bs mo s = (0, ⟨s.at_, (getN bs s.at_).2.2⟩) := by unfold rInt; rw [if_neg (by omega), if_pos (by omega)]
    rw [e]; exact ⟨rfl, H⟩
  try simp only [sH] at c6
  refine w_skip ?_
  refine w_seq ?_
  refine w_region ?_
  refine l_pptr rfl rfl ?_
  refine l_pint rfl rfl ?_
  refine l_pptr rfl rfl ?_
  refine l_v rfl (q_fieldAddr rfl fo189_1 rfl) ?_
  first | refine b_store rfl sz_3 rfl rfl rfl rfl rfl H 0 rfl rfl rfl (fun w H => ?_)
  refine l_nil ?_
  refine w_seq ?_
  refine w_region ?_
  refine l_pint rfl rfl ?_
  refine l_v rfl (q_convIntIn rfl (by kernel_rfl) in_3 rfl (by simp only [inK]; omega)) ?_
  refine l_pint rfl rfl ?_
  refine l_nil ?_
  refine w_ret ?_
  refine fin1 (v := .int _ _) rfl ?_
  omega
theorem rText_ok {W w : World} {F : List Seg} {rb : Nat} {a : Option Addr} {c : Nat} {bs : List UInt8} {s : Rs} (H : St W w (refL rb a c bs s F)) (hr : RdIn W F a (bs.map B)) (hcp : bs.length ≤ c) (hs : RsOk2 bs s) (hb : bs.length ≤ 140737488355328) {mo : Nat} (hmo : mo ≤ 9223372036854775807) :
    Ok Tryz.prog 104 [.pointer (some ⟨rb, 0, none⟩), .int .i64 (mo : Int)].toArray w (fun r w' => r = .string ⟨(rText bs mo s).1.toArray⟩ ∧ St W w' (refL rb a c bs (rText bs mo s).2 F)) := by
  have hi2 := rInt_ok2 (m := mo) hs
  have hil := rInt_le (b := bs) (m := mo) (s := s)
  have hi21 := hi2.1
  have hz : s.err ≠ 0 → rInt bs mo s = (0, s) := fun h => if_pos h
  refine enter (n := 65) (rs := #[.tmp 4]) Tryz.func104 rfl rfl rfl rfl ?_
  refine w_seq ?_
  refine w_region ?_
  refine l_pstr rfl rfl ?_
  refine l_nil ?_
  refine w_seq ?_
  refine w_region ?_
  refine l_pptr rfl rfl ?_
  refine l_pptr rfl rfl ?_
  refine l_v rfl (q_fieldAddr rfl fo189_1 rfl) ?_
  refine l_v rfl (q_load1 rfl c1_3 rfl (by first | exact H.cell 0 rfl rfl)) ?_
  refine l_pint rfl rfl ?_
  refine l_nil ?_
  refine w_seq ?_
  refine w_region ?_
  refine l_pptr rfl rfl ?_
  refine l_pint rfl rfl ?_
  refine b_call rfl cb_102 rfl (rInt_ok H hr hcp hs hb hmo) (fun v w hv => ?_)
  obtain ⟨rfl, H⟩ := hv
  refine l_pint rfl rfl ?_
  refine l_nil ?_
  refine w_seq ?_
  refine w_seq ?_
  refine w_region ?_
  refine l_pptr rfl rfl ?_
  refine l_pptr rfl rfl ?_
  refine l_v rfl (q_fieldAddr rfl fo189_2 rfl) ?_
  refine l_v rfl (q_load1 rfl c1_3 rfl (by first | exact H.cell 0 rfl rfl)) ?_
  refine l_pbool rfl rfl ?_
  refine l_nil ?_
  refine w_cond rfl (fun c1 => ?_) (fun c1 => ?_)
  · try simp only [sH] at c1
    refine w_seq ?_
    refine w_region ?_
    refine l_pstr rfl rfl ?_
    refine l_nil ?_
    refine w_ret ?_
    refine fin1 (v := .string _) rfl ?_
    by_cases hz0 : s.err = 0
    · have e : rText bs mo s = ([], (rInt bs mo s).2) := by unfold rText; rw [if_neg (by omega), if_pos (by omega)]
      rw [e]; exact ⟨rfl, H⟩
    have e : rText bs mo s = ([], s) := if_pos hz0
    rw [e]
    rw [hz hz0] at H
    exact ⟨rfl, H⟩
  try simp only [sH] at c1
  refine w_skip ?_
  refine w_seq ?_
  refine w_seq ?_
  refine w_drawT [] [3, 8] [(0, 0), (1, 0), (2, 0), (3, 1), (4, 0), (5, 0), (6, 0), (7, 0), (8, 1), (9, 0), (10, 0), (11, 0)] mixed (by kernel_rfl) (fun _ _ _ h => fin_panic h) H (fun H => ?_)
  refine r_pptr rfl rfl rfl ?_
  refine r_pptr rfl rfl rfl ?_
  refine r_w rfl rfl (fun w => q_fieldAddr rfl fo189_0 rfl) ?_
  refine r_v rfl rfl (fun w hS => q_load1 rfl c1_50 rfl (by first | exact hS.cell 0 rfl rfl)) ?_
  refine r_w rfl rfl (fun w => q_lenSlice rfl el_50 rfl) ?_
  refine r_pptr rfl rfl rfl ?_
  refine r_pptr rfl rfl rfl ?_
  refine r_w rfl rfl (fun w => q_fieldAddr rfl fo189_1 rfl) ?_
  refine r_v rfl rfl (fun w hS => q_load1 rfl c1_3 rfl (by first | exact hS.cell 0 rfl rfl)) ?_
  first | refine r_w rfl rfl (fun w => q_sub rfl rfl rfl (by simp only [inK]; omega)) ?_ | refine r_pint rfl rfl rfl ?_
  refine r_pint rfl rfl rfl ?_
  refine r_pbool rfl rfl rfl ?_
  refine r_nil ?_
  refine w_cond rfl (fun c2 => ?_) (fun c2 => ?_)
  · try simp only [sH] at c2
    refine w_seq ?_
    refine w_region ?_
    refine l_pptr rfl rfl ?_
    refine l_pptr rfl rfl ?_
    refine l_v rfl (q_fieldAddr rfl fo189_2 rfl) ?_
    first | refine b_store rfl sz_3 rfl rfl rfl rfl rfl H 0 rfl rfl rfl (fun w H => ?_)
    refine l_nil ?_
    refine w_seq ?_
    refine w_region ?_
    refine l_pptr rfl rfl ?_
    refine l_pint rfl rfl ?_
    refine l_pptr rfl rfl ?_
    refine l_v rfl (q_fieldAddr rfl fo189_1 rfl) ?_
    first | refine b_store rfl sz_3 rfl rfl rfl rfl rfl H 0 rfl rfl rfl (fun w H => ?_)
    refine l_nil ?_
    refine w_seq ?_
    refine w_region ?_
    refine l_pstr rfl rfl ?_
    refine l_nil ?_
    refine w_ret ?_
    refine fin1 (v := .string _) rfl ?_
    have hE : (rInt bs mo s).2.err = 0 := by omega
    have es : s.err = 0 := by
      by_cases h : s.err = 0
      · exact h
      have h2 := hz h; rw [h2] at hE; exact absurd hE h
    have e : rText bs mo s = ([], ⟨s.at_, 10⟩) := by unfold rText; rw [if_neg (by omega), if_neg (by omega), if_pos (by omega)]
    rw [e]; exact ⟨rfl, H⟩
  try simp only [sH] at c2
  refine w_skip ?_
  refine w_seq ?_
  refine w_drawT [] [3, 7, 11, 15] [(0, 0), (1, 0), (2, 0), (3, 1), (4, 0), (5, 0), (6, 0), (7, 1), (8, 0), (9, 0), (10, 0), (11, 1), (12, 0), (13, 0), (14, 0), (15, 1), (16, 0)] mixed (by kernel_rfl) (fun _ _ _ h => fin_panic h) H (fun H => ?_)
  refine r_pptr rfl rfl rfl ?_
  refine r_pptr rfl rfl rfl ?_
  refine r_w rfl rfl (fun w => q_fieldAddr rfl fo189_0 rfl) ?_
  refine r_v rfl rfl (fun w hS => q_load1 rfl c1_50 rfl (by first | exact hS.cell 0 rfl rfl)) ?_
  refine r_pptr rfl rfl rfl ?_
  refine r_pptr rfl rfl rfl ?_
  refine r_w rfl rfl (fun w => q_fieldAddr rfl fo189_1 rfl) ?_
  refine r_v rfl rfl (fun w hS => q_load1 rfl c1_3 rfl (by first | exact hS.cell 0 rfl rfl)) ?_
  refine r_pptr rfl rfl rfl ?_
  refine r_pptr rfl rfl rfl ?_
  refine r_w rfl rfl (fun w => q_fieldAddr rfl fo189_1 rfl) ?_
  refine r_v rfl rfl (fun w hS => q_load1 rfl c1_3 rfl (by first | exact hS.cell 0 rfl rfl)) ?_
  refine r_pint rfl rfl rfl ?_
  first | refine r_w rfl rfl (fun w => q_add rfl rfl rfl (by simp only [inK]; omega)) ?_ | refine r_pint rfl rfl rfl ?_
  refine r_w rfl rfl (fun w => q_slice (l := (rInt bs mo s).2.at_) (h := (rInt bs mo s).2.at_ + (rInt bs mo s).1) (m := c) rfl el_50 rfl Bnd.none (Bnd.mk ⟨by omega, by omega⟩) (Bnd.nat (by omega)) (by simp)) ?_
  refine r_v rfl rfl (fun w hS => q_bytesStr (bs := (bs.drop (rInt bs mo s).2.at_).take (rInt bs mo s).1) rfl by_50 st_9 rfl (rd_part (hr.use hS 1 rfl) hcp (by omega)) (by simp only [List.length_take, List.length_drop]; omega)) ?_
  refine r_pstr rfl rfl rfl ?_
  refine r_nil ?_
  refine w_seq ?_
  refine w_region ?_
  refine l_pptr rfl rfl ?_
  refine l_pptr rfl rfl ?_
  refine l_pptr rfl rfl ?_
  refine l_v rfl (q_fieldAddr rfl fo189_1 rfl) ?_
  refine l_v rfl (q_load1 rfl c1_3 rfl (by first | exact H.cell 0 rfl rfl)) ?_
  first | refine l_v rfl (q_add rfl rfl rfl (by simp only [inK]; omega)) ?_ | refine l_pint rfl rfl ?_
  first | refine l_v rfl (q_add rfl rfl rfl (by simp only [inK]; omega)) ?_ | refine l_pint rfl rfl ?_
  refine l_pptr rfl rfl ?_
  refine l_v rfl (q_fieldAddr rfl fo189_1 rfl) ?_
  first | refine b_store rfl sz_3 rfl rfl rfl rfl rfl H 0 rfl rfl rfl (fun w H => ?_)
  refine l_nil ?_
  refine w_seq ?_
  refine w_region ?_
  refine l_pstr rfl rfl ?_
  refine l_pstr rfl rfl ?_
  refine l_nil ?_
  refine w_ret ?_
  refine fin1 (v := .string _) rfl ?_
  have hE : (rInt bs mo s).2.err = 0 := by omega
  have es : s.err = 0 := by
    by_cases h : s.err = 0
    · exact h
    have h2 := hz h; rw [h2] at hE; exact absurd hE h
  have e : rText bs mo s = ((bs.drop (rInt bs mo s).2.at_).take (rInt bs mo s).1, ⟨(rInt bs mo s).2.at_ + (rInt bs mo s).1, 0⟩) := by unfold rText; rw [if_neg (by omega), if_neg (by omega), if_neg (by omega)]
  rw [e]
  rw [hE] at H
  exact ⟨rfl, H⟩
end Go.Proofs.YtfpmnhmdphaceaaGreatDoor
