/- The reference's Config, Setup, getHead, first, fits, events, lastFrame, right and tail do what the plain functions say; the law of a reading's chunks. -/
import Derived.Test.YtfpmnhmdphaceaaGreatDoorZap46
import Derived.Test.YtfpmnhmdphaceaaGreatDoorZap28
namespace Go.Proofs.YtfpmnhmdphaceaaGreatDoor
open Go.EW
attribute [local irreducible] EW.W EW.L EW.fin block8 outB shaL
set_option linter.unusedVariables false
set_option linter.unusedSimpArgs false
attribute [local irreducible] crcN crcB crcL sealL openR sealR
theorem cfgr_no {s : Stp} (h : ¬ cfgOk s) : false = decide (cfgOk s) := (decide_eq_false h).symm
theorem cfgr_eq {s : Stp} {p : Prop} [Decidable p] (h : p ↔ cfgOk s) : decide p = decide (cfgOk s) := decide_eq_decide.2 h
theorem Config_r {W w : World} {F : List Seg} (H : St W w F) (s : Stp) :
    Ok Tryz.prog 26 [.agg #[I s.f, I s.room, I s.pat, .bool s.ung]].toArray w (fun r w' => r = .bool (decide (cfgOk s)) ∧ St W w' F) := by
  refine enter (n := 31) (rs := #[.tmp 2]) Tryz.func26 rfl rfl rfl rfl ?_
  refine w_seq ?_
  refine w_region ?_
  refine b_box (cs := [I s.f, I s.room, I s.pat, .bool s.ung]) rfl rfl rfl H (fun b1 w H => ?_)
  refine l_pbool rfl rfl ?_
  refine l_nil ?_
  refine w_seq ?_
  refine w_region ?_
  refine l_v rfl (q_fieldAddr rfl fo23_0 rfl) ?_
  refine l_v rfl (q_load1 rfl c1_3 rfl (by first | exact H.cell 0 rfl rfl)) ?_
  refine l_pbool rfl rfl ?_
  refine l_pbool rfl rfl ?_
  refine l_split 6 rfl (fun h6 => ?_) (fun h6 => ?_)
  · try simp only [sH] at h6
    refine l_v rfl (q_fieldAddr rfl fo23_0 rfl) ?_
    refine l_v rfl (q_load1 rfl c1_3 rfl (by first | exact H.cell 0 rfl rfl)) ?_
    refine l_pbool rfl rfl ?_
    refine l_pickT (v := .bool _) rfl rfl rfl ?_
    refine l_pbool rfl rfl ?_
    refine l_split 11 rfl (fun h11 => ?_) (fun h11 => ?_)
    · try simp only [sH] at h11
      refine l_v rfl (q_fieldAddr rfl fo23_1 rfl) ?_
      refine l_v rfl (q_load1 rfl c1_3 rfl (by first | exact H.cell 0 rfl rfl)) ?_
      refine l_pbool rfl rfl ?_
      refine l_pickT (v := .bool _) rfl rfl rfl ?_
      refine l_pbool rfl rfl ?_
      refine l_split 16 rfl (fun h16 => ?_) (fun h16 => ?_)
      · try simp only [sH] at h16
        refine l_v rfl (q_fieldAddr rfl fo23_1 rfl) ?_
        refine l_v rfl (q_load1 rfl c1_3 rfl (by first | exact H.cell 0 rfl rfl)) ?_
        refine l_pbool rfl rfl ?_
        refine l_pickT (v := .bool _) rfl rfl rfl ?_
        refine l_pbool rfl rfl ?_
        refine l_split 21 rfl (fun h21 => ?_) (fun h21 => ?_)
        · try simp only [sH] at h21
          refine l_v rfl (q_fieldAddr rfl fo23_2 rfl) ?_
          refine l_v rfl (q_load1 rfl c1_3 rfl (by first | exact H.cell 0 rfl rfl)) ?_
          refine l_pbool rfl rfl ?_
          refine l_pickT (v := .bool _) rfl rfl rfl ?_
          refine l_pbool rfl rfl ?_
          refine l_split 26 rfl (fun h26 => ?_) (fun h26 => ?_)
          · try simp only [sH] at h26
            refine l_v rfl (q_fieldAddr rfl fo23_2 rfl) ?_
            refine l_v rfl (q_load1 rfl c1_3 rfl (by first | exact H.cell 0 rfl rfl)) ?_
            refine l_pbool rfl rfl ?_
            refine l_pickT (v := .bool _) rfl rfl rfl ?_
            refine l_pbool rfl rfl ?_
            refine l_nil ?_
            refine w_ret ?_
            refine fin1 (v := .bool _) rfl ?_
            refine ⟨congrArg Value.bool ?_, H.drop1⟩
            first
              | exact cfgr_no (by unfold cfgOk; omega)
              | exact cfgr_eq (by unfold cfgOk; omega)
          try simp only [sH] at h26
          refine l_no rfl ?_
          refine l_no rfl ?_
          refine l_no rfl ?_
          refine l_pickF (v := .bool _) rfl rfl rfl ?_
          refine l_pbool rfl rfl ?_
          refine l_nil ?_
          refine w_ret ?_
          refine fin1 (v := .bool _) rfl ?_
          refine ⟨congrArg Value.bool ?_, H.drop1⟩
          first
            | exact cfgr_no (by unfold cfgOk; omega)
            | exact cfgr_eq (by unfold cfgOk; omega)
        try simp only [sH] at h21
        refine l_no rfl ?_
        refine l_no rfl ?_
        refine l_no rfl ?_
        refine l_pickF (v := .bool _) rfl rfl rfl ?_
        refine l_pbool rfl rfl ?_
        refine l_no rfl ?_
        refine l_no rfl ?_
        refine l_no rfl ?_
        refine l_pickF (v := .bool _) rfl rfl rfl ?_
        refine l_pbool rfl rfl ?_
        refine l_nil ?_
        refine w_ret ?_
        refine fin1 (v := .bool _) rfl ?_
        refine ⟨congrArg Value.bool ?_, H.drop1⟩
        first
          | exact cfgr_no (by unfold cfgOk; omega)
          | exact cfgr_eq (by unfold cfgOk; omega)
      try simp only [sH] at h16
      refine l_no rfl ?_
      refine l_no rfl ?_
      refine l_no rfl ?_
      refine l_pickF (v := .bool _) rfl rfl rfl ?_
      refine l_pbool rfl rfl ?_
      refine l_no rfl ?_
      refine l_no rfl ?_
      refine l_no rfl ?_
      refine l_pickF (v := .bool _) rfl rfl rfl ?_
      refine l_pbool rfl rfl ?_
      refine l_no rfl ?_
      refine l_no rfl ?_
      refine l_no rfl ?_
      refine l_pickF (v := .bool _) rfl rfl rfl ?_
      refine l_pbool rfl rfl ?_
      refine l_nil ?_
      refine w_ret ?_
      refine fin1 (v := .bool _) rfl ?_
      refine ⟨congrArg Value.bool ?_, H.drop1⟩
      first
        | exact cfgr_no (by unfold cfgOk; omega)
        | exact cfgr_eq (by unfold cfgOk; omega)
    try simp only [sH] at h11
    refine l_no rfl ?_
    refine l_no rfl ?_
    refine l_no rfl ?_
    refine l_pickF (v := .bool _) rfl rfl rfl ?_
    refine l_pbool rfl rfl ?_
    refine l_no rfl ?_
    refine l_no rfl ?_
    refine l_no rfl ?_
    refine l_pickF (v := .bool _) rfl rfl rfl ?_
    refine l_pbool rfl rfl ?_
    refine l_no rfl ?_
    refine l_no rfl ?_
    refine l_no rfl ?_
    refine l_pickF (v := .bool _) rfl rfl rfl ?_
    refine l_pbool rfl rfl ?_
    refine l_no rfl ?_
    refine l_no rfl ?_
    refine l_no rfl ?_
    refine l_pickF (v := .bool _) rfl rfl rfl ?_
    refine l_pbool rfl rfl ?_
    refine l_nil ?_
    refine w_ret ?_
    refine fin1 (v := .bool _) rfl ?_
    refine ⟨congrArg Value.bool ?_, H.drop1⟩
    first
      | exact cfgr_no (by unfold cfgOk; omega)
      | exact cfgr_eq (by unfold cfgOk; omega)
  try simp only [sH] at h6
  refine l_no rfl ?_
  refine l_no rfl ?_
  refine l_no rfl ?_
  refine l_pickF (v := .bool _) rfl rfl rfl ?_
  refine l_pbool rfl rfl ?_
  refine l_no rfl ?_
  refine l_no rfl ?_
  refine l_no rfl ?_
  refine l_pickF (v := .bool _) rfl rfl rfl ?_
  refine l_pbool rfl rfl ?_
  refine l_no rfl ?_
  refine l_no rfl ?_
  refine l_no rfl ?_
  refine l_pickF (v := .bool _) rfl rfl rfl ?_
  refine l_pbool rfl rfl ?_
  refine l_no rfl ?_
  refine l_no rfl ?_
  refine l_no rfl ?_
  refine l_pickF (v := .bool _) rfl rfl rfl ?_
  refine l_pbool rfl rfl ?_
  refine l_no rfl ?_
  refine l_no rfl ?_
  refine l_no rfl ?_
  refine l_pickF (v := .bool _) rfl rfl rfl ?_
  refine l_pbool rfl rfl ?_
  refine l_nil ?_
  refine w_ret ?_
  refine fin1 (v := .bool _) rfl ?_
  refine ⟨congrArg Value.bool ?_, H.drop1⟩
  first
    | exact cfgr_no (by unfold cfgOk; omega)
    | exact cfgr_eq (by unfold cfgOk; omega)
theorem Setup_r {W w : World} {F : List Seg} (H : St W w F) (s : Stp) {a : Option Addr} {c : Nat} (hr : RdIn W F a (intsV s.cls)) :
    Ok Tryz.prog 7 [.agg (s.cells a c).toArray].toArray w (fun r w' => r = I (chkS s : Int) ∧ St W w' F) := by
  refine enter (n := 26) (rs := #[.tmp 2]) Tryz.func7 rfl rfl rfl rfl ?_
  refine w_seq ?_
  refine w_region ?_
  refine b_box (cs := s.cells a c) rfl rfl rfl H (fun b1 w H => ?_)
  refine l_pint rfl rfl ?_
  refine l_nil ?_
  refine w_seq ?_
  refine w_seq ?_
  refine w_region ?_
  refine l_v rfl (q_fieldAddr rfl fo26_0 rfl) ?_
  refine l_v rfl (q_loadN (vs := [I s.f, I s.room, I s.pat, .bool s.ung]) rfl ag_23 rfl rfl ((H.cells 0 rfl).sub 0 4)) ?_
  refine b_call rfl cb_26 rfl (Config_r H s) (fun v w hv => ?_)
  obtain ⟨rfl, H⟩ := hv
  refine l_pbool rfl rfl ?_
  refine l_nil ?_
  refine w_cond rfl (fun c1 => ?_) (fun c1 => ?_)
  · try simp only [sH] at c1
    have hcf : ¬ cfgOk s := by simpa using c1
    refine w_seq ?_
    refine w_region ?_
    refine l_pint rfl rfl ?_
    refine l_nil ?_
    refine w_ret ?_
    refine fin1 (v := .int _ _) rfl ?_
    refine ⟨?_, H.drop1⟩
    rw [chk_cfg hcf]; rfl
  try simp only [sH] at c1
  have hcf : cfgOk s := by simpa using c1
  refine w_skip ?_
  refine w_seq ?_
  refine w_seq ?_
  refine w_region ?_
  refine l_v rfl (q_fieldAddr rfl fo26_1 rfl) ?_
  refine l_v rfl (q_load1 rfl c1_24 rfl (by first | exact H.cell 0 rfl rfl | exact H.cell 1 rfl rfl)) ?_
  refine l_v rfl (q_lenSlice rfl el_24 rfl) ?_
  refine l_pbool rfl rfl ?_
  refine l_nil ?_
  refine w_cond rfl (fun c2 => ?_) (fun c2 => ?_)
  · try simp only [sH] at c2
    refine w_seq ?_
    refine w_region ?_
    refine l_pint rfl rfl ?_
    refine l_nil ?_
    refine w_ret ?_
    refine fin1 (v := .int _ _) rfl ?_
    refine ⟨?_, H.drop1⟩
    rw [chk_long hcf (by omega)]; rfl
  try simp only [sH] at c2
  refine w_skip ?_
  refine w_seq ?_
  refine w_seq ?_
  refine w_region ?_
  refine l_pint rfl rfl ?_
  refine l_nil ?_
  refine w_block ?_
  refine w_loopG (G := Nat) [2, 3, 12, 13, 14, 15, 16, 17, 18, 19, 20, 21, 22, 23, 24, 25] (fun i => [(3, .int .i64 ((i : Nat) : Int))]) (fun m i w => m + i = s.cls.length ∧ (s.cls.take i).any (fun x => decide (x < 0)) = false ∧ St W w (blk b1 (s.cells a c) 26 :: F)) (fun _ => rfl) ?_ ?_
  · exact ⟨s.cls.length, 0, ⟨rfl, trivial⟩, rfl, rfl, H⟩
  rintro m i ρ1 w ⟨hmi, han, H⟩
  refine w_seq ?_
  refine w_seq ?_
  refine w_region ?_
  refine l_pint rfl rfl ?_
  refine l_v rfl (q_fieldAddr rfl fo26_1 rfl) ?_
  refine l_v rfl (q_load1 rfl c1_24 rfl (by first | exact H.cell 0 rfl rfl | exact H.cell 1 rfl rfl)) ?_
  refine l_v rfl (q_lenSlice rfl el_24 rfl) ?_
  refine l_pbool rfl rfl ?_
  refine l_nil ?_
  refine w_cond rfl (fun c3 => ?_) (fun c3 => ?_)
  · try simp only [sH] at c3
    have hi : i < s.cls.length := by omega
    obtain ⟨cb, co, hca, hcc⟩ := int_at (hr.use H 1 rfl) hi
    refine w_skip ?_
    refine w_seq ?_
    refine w_block ?_
    refine w_seq ?_
    refine w_region ?_
    refine l_v rfl (q_fieldAddr rfl fo26_1 rfl) ?_
    refine l_v rfl (q_load1 rfl c1_24 rfl (by first | exact H.cell 0 rfl rfl | exact H.cell 1 rfl rfl)) ?_
    refine l_pint rfl rfl ?_
    refine l_v rfl (q_indexSliceE i rfl el_24 rfl hca rfl rfl hi) ?_
    refine l_v rfl (q_fieldAddr rfl fo36_0 rfl) ?_
    refine l_v rfl (q_load1 rfl c1_3 rfl hcc) ?_
    refine l_pbool rfl rfl ?_
    refine l_nil ?_
    refine w_cond rfl (fun c4 => ?_) (fun c4 => ?_)
    · try simp only [sH] at c4
      refine w_seq ?_
      refine w_region ?_
      refine l_pint rfl rfl ?_
      refine l_nil ?_
      refine w_ret ?_
      refine fin1 (v := .int _ _) rfl ?_
      refine ⟨?_, H.drop1⟩
      rw [chk_neg hcf (by omega) (any_hit hi (by omega))]; rfl
    try simp only [sH] at c4
    refine w_skip ?_
    refine w_region ?_
    refine l_pint rfl rfl ?_
    first | refine l_v rfl (q_add rfl rfl rfl (by simp only [inK]; omega)) ?_ | refine l_pint rfl rfl ?_
    refine l_pint rfl rfl ?_
    refine l_nil ?_
    refine ⟨by repeat' first | exact aM | exact aR | refine aI rfl ?_ | refine aU rfl ?_ | refine aL rfl ?_, ?_⟩
    exact ⟨m - 1, i + 1, by omega, ⟨by exact congrArg (Value.int IntKind.i64) (Int.natCast_succ i).symm, trivial⟩, by omega, any_step hi han (by omega), H⟩
  try simp only [sH] at c3
  obtain rfl : i = s.cls.length := by omega
  rw [List.take_length] at han
  refine w_exit ?_
  refine w_seq ?_
  refine w_region ?_
  refine l_pint rfl rfl ?_
  refine l_nil ?_
  refine w_ret ?_
  refine fin1 (v := .int _ _) rfl ?_
  refine ⟨?_, H.drop1⟩
  rw [chk_ok hcf (by omega) han]; rfl
theorem first_r {W w : World} {F : List Seg} (H : St W w F) {a : Option Addr} {n c : Nat} {bs : List UInt8} (hr : RdIn W F a (bs.map B)) (hl : bs.length = n) (hcp : bs.length ≤ c) (hn : n ≤ 100000) :
    Ok Tryz.prog 79 [.slice a n c].toArray w (fun r w' => r = I (numberR bs) ∧ St W w' F) := by
  subst hl
  refine enter (n := 16) (rs := #[.tmp 2]) Tryz.func79 rfl rfl rfl rfl ?_
  refine w_seq ?_
  refine w_region ?_
  refine l_pint rfl rfl ?_
  refine l_nil ?_
  refine w_seq ?_
  refine w_region ?_
  refine l_pslice rfl rfl ?_
  refine l_v rfl (q_build (cs := [.slice a bs.length c, .int .i64 0, .int .i64 0]) rfl sp_189 rfl) ?_
  refine b_box (cs := [.slice a bs.length c, .int .i64 0, .int .i64 0]) rfl rfl rfl H (fun rb w H => ?_)
  have H : St W w (refL rb a c bs ⟨0, 0⟩ F) := H
  refine l_pptr rfl rfl ?_
  refine l_nil ?_
  refine w_seq ?_
  refine w_region ?_
  refine l_pptr rfl rfl ?_
  refine b_call rfl cb_102 rfl (rInt_ok (mo := maxI) H hr hcp (rs0 bs) (by omega) (by decide)) (fun v w hv => ?_)
  obtain ⟨rfl, H⟩ := hv
  refine l_pint rfl rfl ?_
  refine l_nil ?_
  refine w_seq ?_
  refine w_seq ?_
  refine w_region ?_
  refine l_pptr rfl rfl ?_
  refine l_pptr rfl rfl ?_
  refine l_v rfl (q_fieldAddr rfl fo189_2 rfl) ?_
  refine l_v rfl (q_load1 rfl c1_3 rfl (by first | exact H.cell 0 rfl rfl)) ?_
  refine l_pbool rfl rfl ?_
  refine l_nil ?_
  refine w_cond rfl (fun c1 => ?_) (fun c1 => ?_)
  · try simp only [sH] at c1
    refine w_seq ?_
    refine w_region ?_
    refine l_pint rfl rfl ?_
    refine l_nil ?_
    refine w_ret ?_
    refine fin1 (v := .int _ _) rfl ?_
    refine ⟨?_, H.drop1⟩
    unfold numberR
    rw [if_pos (rInt_at0.1 (fun h => c1 (congrArg _ h)))]
  try simp only [sH] at c1
  refine w_skip ?_
  refine w_seq ?_
  refine w_region ?_
  refine l_pint rfl rfl ?_
  refine l_pint rfl rfl ?_
  refine l_nil ?_
  refine w_ret ?_
  refine fin1 (v := .int _ _) rfl ?_
  refine ⟨?_, H.drop1⟩
  unfold numberR
  rw [if_neg (fun h => rInt_at0.2 h (by omega))]
end Go.Proofs.YtfpmnhmdphaceaaGreatDoor
namespace Go.Proofs.YtfpmnhmdphaceaaGreatDoor
open Go.EW
attribute [local irreducible] EW.W EW.L EW.fin block8 outB shaL
set_option linter.unusedVariables false
set_option linter.unusedSimpArgs false
attribute [local irreducible] crcN crcB crcL sealL openR sealR
/-- a number of at most 16, a number of any size -/
theorem rInt16 (b : List UInt8) (s : Rs) : rInt b 16 s = rInt b maxI s ∨ ((rInt b 16 s).2.err ≠ 0 ∧ (rInt b 16 s).1 = 0 ∧ 16 < (rInt b maxI s).1) := by
  unfold rInt
  by_cases h1 : s.err ≠ 0
  · rw [if_pos h1, if_pos h1]; exact .inl rfl
  rw [if_neg h1, if_neg h1]
  by_cases h2 : (getN b s.at_).2.2 ≠ 0
  · rw [if_pos h2, if_pos h2]; exact .inl rfl
  rw [if_neg h2, if_neg h2]
  by_cases h3 : 16 < (getN b s.at_).1
  · rw [if_pos h3]
    have hm : maxI = 9223372036854775807 := rfl
    by_cases h4 : maxI < (getN b s.at_).1
    · rw [if_pos h4]; exact .inl rfl
    rw [if_neg h4]; exact .inr ⟨by show 11 ≠ 0; decide, rfl, h3⟩
  rw [if_neg h3, if_neg (by have hm : maxI = 9223372036854775807 := rfl; omega)]; exact .inl rfl
theorem rInts_s2 (b : List UInt8) (s : Rs) (i : Nat) : (rInts b s (i + 1)).2 = (rInt b maxI (rInts b s i).2).2 := rfl
theorem vv0 (b : List UInt8) : (rInt b maxI (rInts b ⟨0, 0⟩ 0).2).1 = VV b 0 := rfl
theorem vv1 (b : List UInt8) : (rInt b maxI (rInts b ⟨0, 0⟩ 1).2).1 = VV b 1 := rfl
theorem vv2 (b : List UInt8) : (rInt b maxI (rInts b ⟨0, 0⟩ 2).2).1 = VV b 2 := rfl
theorem vv3 (b : List UInt8) : (rInt b maxI (rInts b ⟨0, 0⟩ 3).2).1 = VV b 3 := rfl
theorem vv4 (b : List UInt8) : (rInt b maxI (rInts b ⟨0, 0⟩ 4).2).1 = VV b 4 := rfl
theorem vv5 (b : List UInt8) : (rInt b maxI (rInts b ⟨0, 0⟩ 5).2).1 = VV b 5 := rfl
def S16 (b : List UInt8) : Rs := (rInt b 16 (rInts b ⟨0, 0⟩ 6).2).2
def N16 (b : List UInt8) : Nat := (rInt b 16 (rInts b ⟨0, 0⟩ 6).2).1
theorem n16e (b : List UInt8) : (rInt b 16 (rInts b ⟨0, 0⟩ 6).2).1 = N16 b := rfl
theorem s16e (b : List UInt8) : (rInt b 16 (rInts b ⟨0, 0⟩ 6).2).2 = S16 b := rfl
theorem s16ok (b : List UInt8) : RsOk2 b (S16 b) := rInt_ok2 (rInts_ok2 (rs0 b) 6)
def headG (b : List UInt8) (i : Nat) : Stp := { headS b with cls := castL (rInts b (S16 b) i).1 }
theorem headG_len (b : List UInt8) (i : Nat) : (headG b i).cls.length = i := by
  unfold headG castL
  rw [List.length_map, rInts_len]
theorem headG_succ (b : List UInt8) (i : Nat) : (headG b (i + 1)).cls = (headG b i).cls ++ [((rInt b maxI (rInts b (S16 b) i).2).1 : Int)] := by
  unfold headG castL
  rw [rInts, List.map_append]; rfl
theorem headG_stp (b : List UInt8) (i : Nat) : StpOk (headG b i) := by
  intro x hx
  obtain ⟨v, hv, rfl⟩ := List.mem_map.1 (show x ∈ List.map _ _ from hx)
  have := rInts_le _ v hv
  have hm : maxI = 9223372036854775807 := rfl
  omega
theorem n16_le (b : List UInt8) : N16 b ≤ 16 := rInt_le
/-- a head that is one is read so -/
theorem headG_inv {b : List UInt8} (h : (headR b).2 = true) : VV b 0 = 1 ∧ VV b 1 = 1 ∧ rEnd b (rInts b (S16 b) (N16 b)).2 = 0 ∧ headG b (N16 b) = (headR b).1 ∧ chkS (headG b (N16 b)) = 0 ∧ b = headB (headG b (N16 b)) := by
  have hg := headR_good h
  unfold headR at h hg ⊢
  split at h
  · cases h
  rename_i hk
  rw [if_neg hk] at hg ⊢
  have e : rInt b 16 (rInts b ⟨0, 0⟩ 6).2 = rInt b maxI (rInts b ⟨0, 0⟩ 6).2 := by
    rcases rInt16 b (rInts b ⟨0, 0⟩ 6).2 with h1 | ⟨_, _, h1⟩
    · exact h1
    exact absurd (show 16 < VV b 6 from h1) (by omega)
  have en : N16 b = VV b 6 := congrArg Prod.fst e
  have es : S16 b = (rInts b ⟨0, 0⟩ 7).2 := by unfold S16; rw [e]; exact (rInts_s2 b ⟨0, 0⟩ 6).symm
  have eg : headG b (N16 b) = headC b (VV b 6) := by unfold headG headC; rw [en, es]
  simp only [Bool.and_eq_true, decide_eq_true_eq] at h
  rw [eg, en, es]
  exact ⟨by omega, by omega, h.1, rfl, h.2, hg.1⟩
theorem headG_fwd {b : List UInt8} (hc : chkS (headG b (N16 b)) = 0) (hb : headB (headG b (N16 b)) = b) : headR b = (headG b (N16 b), true) := by
  have h := headR_head hc (headG_stp b (N16 b))
  rw [hb] at h; exact h
attribute [local irreducible] VV N16 S16
set_option maxRecDepth 8000 in
set_option maxHeartbeats 1000000 in
theorem getHead_r {W w : World} {F : List Seg} (H : St W w F) {a : Option Addr} {n c : Nat} {bs : List UInt8} (hr : RdIn W F a (bs.map B)) (hl : bs.length = n) (hcp : bs.length ≤ c) (hn : n ≤ 100000) :
    Ok Tryz.prog 78 [.slice a n c].toArray w (fun r w' => ∃ s, ∃ a' c', r = .tuple #[.agg (Stp.cells s a' c').toArray, .bool (headR bs).2] ∧ ((headR bs).2 = true → s = (headR bs).1) ∧ St W w' (row 36 1 a' s.cls.length c' (intsV s.cls) :: F)) := by
  subst hl
  have hmx : maxI = 9223372036854775807 := rfl
  have hn16 := n16_le bs
  refine enter (n := 74) (rs := #[.cell 2 26, .tmp 3]) Tryz.func78 rfl rfl rfl rfl ?_
  refine w_seq ?_
  refine w_region ?_
  refine b_alloc (cs := stp0.cells none 0) rfl ze_26 rfl H (fun b2 w H => ?_)
  refine l_pbool rfl rfl ?_
  refine l_nil ?_
  refine w_seq ?_
  refine w_region ?_
  refine l_pslice rfl rfl ?_
  refine l_v rfl (q_build (cs := [.slice a bs.length c, .int .i64 0, .int .i64 0]) rfl sp_189 rfl) ?_
  refine b_box (cs := [.slice a bs.length c, .int .i64 0, .int .i64 0]) rfl rfl rfl H (fun rb w H => ?_)
  have H : St W w (refL rb a c bs (rInts bs ⟨0, 0⟩ 0).2 (blk b2 (stp0.cells none 0) 26 :: F)) := H
  refine l_pptr rfl rfl ?_
  refine l_nil ?_
  refine w_seq ?_
  refine w_region ?_
  refine b_alloc (cs := stp0.cells none 0) rfl ze_26 rfl H (fun b5 w H => ?_)
  have H : St W w (refL rb a c bs (rInts bs ⟨0, 0⟩ 0).2 (blk b5 (stp0.cells none 0) 26 :: blk b2 (stp0.cells none 0) 26 :: F)) := St.pick [1, 0] (pre := [_, _]) rfl H rfl
  refine l_nil ?_
  refine w_seq ?_
  refine w_region ?_
  refine l_pptr rfl rfl ?_
  refine b_call rfl cb_102 rfl (rInt_ok (mo := maxI) H (hr.up 2 rfl) hcp (rInts_ok2 (rs0 bs) 0) (by omega) (by decide)) (fun v w hv => ?_)
  obtain ⟨hvv, H⟩ := hv
  rw [vv0] at hvv
  subst hvv
  have H : St W w (refL rb a c bs (rInts bs ⟨0, 0⟩ 1).2 _) := H
  refine l_pint rfl rfl ?_
  refine l_nil ?_
  refine w_seq ?_
  refine w_region ?_
  refine l_pptr rfl rfl ?_
  refine b_call rfl cb_102 rfl (rInt_ok (mo := maxI) H (hr.up 2 rfl) hcp (rInts_ok2 (rs0 bs) 1) (by omega) (by decide)) (fun v w hv => ?_)
  obtain ⟨hvv, H⟩ := hv
  rw [vv1] at hvv
  subst hvv
  have H : St W w (refL rb a c bs (rInts bs ⟨0, 0⟩ 2).2 _) := H
  refine l_pint rfl rfl ?_
  refine l_nil ?_
  refine w_seq ?_
  refine w_region ?_
  refine l_pptr rfl rfl ?_
  refine b_call rfl cb_102 rfl (rInt_ok (mo := maxI) H (hr.up 2 rfl) hcp (rInts_ok2 (rs0 bs) 2) (by omega) (by decide)) (fun v w hv => ?_)
  obtain ⟨hvv, H⟩ := hv
  rw [vv2] at hvv
  subst hvv
  have H : St W w (refL rb a c bs (rInts bs ⟨0, 0⟩ 3).2 _) := H
  refine l_v rfl (q_fieldAddr rfl fo26_0 rfl) ?_
  refine l_v rfl (q_fieldAddr rfl fo23_0 rfl) ?_
  refine b_store (vs := [I (VV bs 2 : Int)]) (cs' := [I (VV bs 2 : Int), I 0, I 0, .bool false, Value.slice none 0 0]) rfl sz_3 rfl rfl rfl rfl rfl H 1 rfl rfl rfl (fun w H => ?_)
  refine l_nil ?_
  refine w_seq ?_
  refine w_region ?_
  refine l_pptr rfl rfl ?_
  refine b_call rfl cb_102 rfl (rInt_ok (mo := maxI) H (hr.up 2 rfl) hcp (rInts_ok2 (rs0 bs) 3) (by omega) (by decide)) (fun v w hv => ?_)
  obtain ⟨hvv, H⟩ := hv
  rw [vv3] at hvv
  subst hvv
  have H : St W w (refL rb a c bs (rInts bs ⟨0, 0⟩ 4).2 _) := H
  refine l_v rfl (q_fieldAddr rfl fo26_0 rfl) ?_
  refine l_v rfl (q_fieldAddr rfl fo23_1 rfl) ?_
  refine b_store (vs := [I (VV bs 3 : Int)]) (cs' := [I (VV bs 2 : Int), I (VV bs 3 : Int), I 0, .bool false, Value.slice none 0 0]) rfl sz_3 rfl rfl rfl rfl rfl H 1 rfl rfl rfl (fun w H => ?_)
  refine l_nil ?_
  refine w_seq ?_
  refine w_region ?_
  refine l_pptr rfl rfl ?_
  refine b_call rfl cb_102 rfl (rInt_ok (mo := maxI) H (hr.up 2 rfl) hcp (rInts_ok2 (rs0 bs) 4) (by omega) (by decide)) (fun v w hv => ?_)
  obtain ⟨hvv, H⟩ := hv
  rw [vv4] at hvv
  subst hvv
  have H : St W w (refL rb a c bs (rInts bs ⟨0, 0⟩ 5).2 _) := H
  refine l_v rfl (q_fieldAddr rfl fo26_0 rfl) ?_
  refine l_v rfl (q_fieldAddr rfl fo23_2 rfl) ?_
  refine b_store (vs := [I (VV bs 4 : Int)]) (cs' := [I (VV bs 2 : Int), I (VV bs 3 : Int), I (VV bs 4 : Int), .bool false, Value.slice none 0 0]) rfl sz_3 rfl rfl rfl rfl rfl H 1 rfl rfl rfl (fun w H => ?_)
  refine l_nil ?_
  refine w_seq ?_
  refine w_region ?_
  refine l_pptr rfl rfl ?_
  refine b_call rfl cb_102 rfl (rInt_ok (mo := maxI) H (hr.up 2 rfl) hcp (rInts_ok2 (rs0 bs) 5) (by omega) (by decide)) (fun v w hv => ?_)
  obtain ⟨hvv, H⟩ := hv
  rw [vv5] at hvv
  subst hvv
  have H : St W w (refL rb a c bs (rInts bs ⟨0, 0⟩ 6).2 _) := H
  refine l_pbool rfl rfl ?_
  refine l_v rfl (q_fieldAddr rfl fo26_0 rfl) ?_
  refine l_v rfl (q_fieldAddr rfl fo23_3 rfl) ?_
  refine b_store (vs := [.bool ((VV bs 5 : Int) == 1)]) (cs' := (headG bs 0).cells none 0) rfl sz_4 rfl rfl rfl rfl rfl H 1 rfl rfl rfl (fun w H => ?_)
  refine l_nil ?_
  refine w_seq ?_
  refine w_region ?_
  refine l_pptr rfl rfl ?_
  refine b_call rfl cb_102 rfl (rInt_ok (mo := 16) H (hr.up 2 rfl) hcp (rInts_ok2 (rs0 bs) 6) (by omega) (by decide)) (fun v w hv => ?_)
  obtain ⟨hvv, H⟩ := hv
  rw [n16e] at hvv
  rw [s16e] at H
  subst hvv
  have H : St W w (refL rb a c bs (S16 bs) _) := H
  refine l_pint rfl rfl ?_
  refine l_nil ?_
  refine w_seq ?_
  refine w_seq ?_
  refine w_region ?_
  refine l_pint rfl rfl ?_
  refine l_nil ?_
  refine w_block ?_
  refine w_loopG (G := Nat × Option Addr × Nat) [9, 36, 37, 38, 39, 40, 41, 42, 43, 44, 45, 46, 47, 48] (fun ⟨i, la, lc⟩ => [(9, I ((i : Nat) : Int))]) (fun m ⟨i, la, lc⟩ w => m + i = N16 bs ∧ St W w (refL rb a c bs (rInts bs (S16 bs) i).2 (blk b5 ((headG bs i).cells la lc) 26 :: row 36 1 la (headG bs i).cls.length lc (intsV (headG bs i).cls) :: blk b2 (stp0.cells none 0) 26 :: F))) (fun _ => rfl) ?_ ?_
  · exact ⟨N16 bs, (0, none, 0), ⟨rfl, trivial⟩, Nat.add_zero _, St.pick [1, 2, 0] (pre := [_, _, _]) rfl (St.newRow (T := 36) (sz := 1) H) rfl⟩
  rintro m ⟨i, la, lc⟩ ρ1 w ⟨hmi, H⟩
  refine w_seq ?_
  refine w_seq ?_
  refine w_region ?_
  refine l_pint rfl rfl ?_
  refine l_pint rfl rfl ?_
  refine l_pbool rfl rfl ?_
  refine l_nil ?_
  refine w_cond rfl (fun c1 => ?_) (fun c1 => ?_)
  · try simp only [sH] at c1
    refine w_skip ?_
    refine w_seq ?_
    refine w_block ?_
    refine w_drawX [6, 8] [1] 1 [(0, 0), (1, 1), (2, 0), (3, 2), (4, 0), (5, 2), (6, 2), (7, 0), (8, 2)] mixed (by kernel_rfl) (fun _ _ _ h => fin_panic h) H (fun H => ?_)
    refine r_w rfl rfl (fun w => q_fieldAddr rfl fo26_1 rfl) ?_
    refine r_v rfl rfl (fun w hS => q_load1 rfl c1_24 rfl (hS.cell 0 rfl rfl)) ?_
    refine r_pptr rfl rfl rfl ?_
    refine r_do rfl ?_
    refine b_call rfl cb_102 rfl (rInt_ok (mo := maxI) H (hr.up 3 rfl) hcp (rInts_ok2 (s16ok bs) i) (by omega) (by decide)) (fun v w hv => ?_)
    obtain ⟨rfl, H⟩ := hv
    refine l_nil ⟨fun _ _ => (by first | exact Sx.tl H 1 rfl | exact Sx.tl H 2 rfl), ?_⟩
    refine r_w rfl rfl (fun w => q_build (cs := [I ((rInt bs maxI (rInts bs (S16 bs) i).2).1 : Int)]) rfl sp_36 rfl) ?_
    refine r_do rfl ?_
    refine b_buildSlice (cs := [I ((rInt bs maxI (rInts bs (S16 bs) i).2).1 : Int)]) rfl el_24 ze_36 rfl rfl rfl H (fun b46 w H => ?_)
    refine l_nil ⟨fun _ _ => (by first | exact Sx.tl H 1 rfl | exact Sx.tl H 2 rfl), ?_⟩
    refine r_do rfl ?_
    have hcl := headG_len bs i
    refine b_append rfl el_24 ze_36 rfl rfl rfl H 3 rfl (Rd.mk (H.cells0 0 rfl)) rfl (fun u hu => by obtain rfl := List.mem_singleton.1 hu; rfl) ⟨by omega, by simp only [maxLen]; omega⟩ (fun a47 c47 w H => ?_)
    have H := H.drop1
    refine l_nil ⟨(fun h => nomatch h), ?_⟩
    refine r_w rfl rfl (fun w => q_fieldAddr rfl fo26_1 rfl) ?_
    refine r_do rfl ?_
    have e1 : (headG bs (i + 1)).cls.length = (headG bs i).cls.length + 1 := by rw [headG_len, headG_len]
    refine b_store (cs' := (headG bs (i + 1)).cells a47 c47) rfl sz_24 rfl rfl rfl rfl rfl H 1 rfl rfl (by unfold Stp.cells; rw [e1]; rfl) (fun w H => ?_)
    have H : St W w (refL rb a c bs (rInts bs (S16 bs) (i + 1)).2 (blk b5 ((headG bs (i + 1)).cells a47 c47) 26 :: row 36 1 a47 (headG bs (i + 1)).cls.length c47 (intsV (headG bs (i + 1)).cls) :: blk b2 (stp0.cells none 0) 26 :: F)) := by
      rw [e1, headG_succ]
      unfold intsV at H ⊢
      rw [List.map_append]
      exact H
    refine l_nil ⟨(fun h => nomatch h), ?_⟩
    refine r_nil ?_
    refine w_region ?_
    refine l_pint rfl rfl ?_
    first | refine l_v rfl (q_add rfl rfl rfl (by simp only [inK]; omega)) ?_ | refine l_pint rfl rfl ?_
    refine l_pint rfl rfl ?_
    refine l_nil ?_
    refine ⟨by repeat' first | exact aM | exact aR | refine aI rfl ?_ | refine aU rfl ?_ | refine aL rfl ?_, ?_⟩
    exact ⟨m - 1, (i + 1, a47, c47), by omega, ⟨by exact congrArg (Value.int IntKind.i64) (Int.natCast_succ i).symm, trivial⟩, by omega, H⟩
  try simp only [sH] at c1
  obtain rfl : i = N16 bs := by omega
  refine w_exit ?_
  refine w_seq ?_
  refine w_drawP [] [0, 13, 18, 22] (.alt [(0, 1), (1, 0), (2, 2), (3, 0), (4, 0), (5, 0), (6, 0), (7, 0), (8, 0), (9, 0), (10, 0), (11, 0), (12, 0), (13, 1), (14, 2), (15, 0), (16, 0), (17, 0), (18, 1), (21, 0), (22, 1), (19, 2)] (.leaf [(20, 2), (23, 0), (24, 0), (25, 2), (26, 0)]) (.leaf [(25, 2), (20, 2), (23, 0), (24, 0), (26, 0)])) mixed (by kernel_rfl) (fun _ _ _ h => fin_panic h) (H.erase 3) (fun _ => ?_)
  have H := H.drew
  refine rp_alt ?_
  refine r_v rfl rfl (fun w hS => q_loadN (vs := (headG bs (N16 bs)).cells la lc) rfl ag_26 rfl rfl (hS.cells 1 rfl)) ?_
  refine r_pptr rfl rfl rfl ?_
  refine r_do rfl ?_
  refine b_call rfl cb_103 rfl (rEnd_ok H (hr.up 3 rfl) hcp (rInts_ok2 (s16ok bs) (N16 bs)) (by omega)) (fun v w hv => ?_)
  obtain ⟨rfl, H⟩ := hv
  refine l_nil ⟨fun _ _ => (by first | exact H.erase 3 | exact H.drop1.erase 3 | exact H.drop1.drop1 | exact H.drop1.drop1.drop1), ?_⟩
  refine r_pbool rfl rfl rfl ?_
  refine r_pbool rfl rfl rfl ?_
  refine r_split 53 rfl (fun h53 => ?_) (fun h53 => ?_)
  · try simp only [sH] at h53
    refine r_pint rfl rfl rfl ?_
    refine r_pbool rfl rfl rfl ?_
    refine r_pickT (v := .bool _) rfl rfl rfl rfl ?_
    refine r_pbool rfl rfl rfl ?_
    refine r_split 57 rfl (fun h57 => ?_) (fun h57 => ?_)
    · try simp only [sH] at h57
      refine r_pint rfl rfl rfl ?_
      refine r_pbool rfl rfl rfl ?_
      refine r_pickT (v := .bool _) rfl rfl rfl rfl ?_
      refine r_pbool rfl rfl rfl ?_
      refine r_split 61 rfl (fun h61 => ?_) (fun h61 => ?_)
      · try simp only [sH] at h61
        refine r_v rfl rfl (fun w hS => q_loadN (vs := (headG bs (N16 bs)).cells la lc) rfl ag_26 rfl rfl (hS.cells 1 rfl)) ?_
        refine r_do rfl ?_
        refine b_call rfl cb_7 rfl (Setup_r H (headG bs (N16 bs)) (RdIn.row 2 rfl)) (fun v w hv => ?_)
        obtain ⟨rfl, H⟩ := hv
        refine l_nil ⟨fun _ _ => (by first | exact H.erase 3 | exact H.drop1.erase 3 | exact H.drop1.drop1 | exact H.drop1.drop1.drop1), ?_⟩
        refine r_pbool rfl rfl rfl ?_
        refine r_pickT (v := .bool _) rfl rfl rfl rfl ?_
        refine r_pbool rfl rfl rfl ?_
        refine r_split 66 rfl (fun h66 => ?_) (fun h66 => ?_)
        · try simp only [sH] at h66
          refine r_v rfl rfl (fun w hS => q_loadN (vs := (headG bs (N16 bs)).cells la lc) rfl ag_26 rfl rfl (hS.cells 1 rfl)) ?_
          refine r_pslice rfl rfl rfl ?_
          refine r_v rfl rfl (fun w hS => q_bytesStr (bs := bs) rfl by_50 st_9 rfl (hr.use hS 3 rfl) rfl) ?_
          refine r_do rfl ?_
          refine b_call rfl cb_42 rfl (head_r H (headG bs (N16 bs)) (headG_stp bs (N16 bs)) (by omega) (RdIn.row 2 rfl)) (fun v w hv => ?_)
          obtain ⟨ka, kc, rfl, H⟩ := hv
          refine l_nil ⟨fun _ _ => (by first | exact H.erase 3 | exact H.drop1.erase 3 | exact H.drop1.drop1 | exact H.drop1.drop1.drop1), ?_⟩
          refine rp_two ?_ ?_
          · refine rp_leaf ?_
            refine r_do rfl ?_
            refine l_v rfl (q_bytesStr (bs := headB (headG bs (N16 bs))) rfl by_50 st_9 rfl ((H.rowInv (i := 0) rfl).2.2.2.2) rfl) ?_
            refine l_nil ⟨fun _ _ => (by first | exact H.erase 3 | exact H.drop1.erase 3 | exact H.drop1.drop1 | exact H.drop1.drop1.drop1), ?_⟩
            refine r_w rfl rfl (fun w => q_pure (s_eql rfl rfl)) ?_
            refine r_pickT (v := .bool _) rfl rfl rfl rfl ?_
            refine r_do rfl ?_
            first
              | refine b_store rfl sz_26 rfl rfl rfl rfl rfl H 4 rfl rfl (putL_all rfl) (fun w H => ?_)
              | refine b_store rfl sz_26 rfl rfl rfl rfl rfl H 3 rfl rfl (putL_all rfl) (fun w H => ?_)
            refine l_nil ⟨fun _ _ => (by first | exact H.erase 3 | exact H.drop1.erase 3 | exact H.drop1.drop1 | exact H.drop1.drop1.drop1), ?_⟩
            refine r_pbool rfl rfl rfl ?_
            refine r_nil ?_
            refine w_ret ?_
            refine finc2 rfl ag_26 rfl (by first | exact H.cells 0 rfl | exact H.cells 1 rfl | exact H.cells 2 rfl | exact H.cells 3 rfl | exact H.cells 4 rfl) rfl ?_
            have HH := (H.drop1.drop1.drop1).erase 1
            refine ⟨headG bs (N16 bs), la, lc, congrArg (fun z => Value.tuple #[_, .bool z]) ?_, fun h => (headG_inv h).2.2.2.1, HH⟩
            by_cases hb : headB (headG bs (N16 bs)) = bs
            · rw [headG_fwd (by omega) hb]; exact decide_eq_true hb
            rw [Bool.eq_false_iff.2 (fun h : (headR bs).2 = true => hb (headG_inv h).2.2.2.2.2.symm)]; exact decide_eq_false hb
          refine rp_leaf ?_
          refine r_do rfl ?_
          first
            | refine b_store rfl sz_26 rfl rfl rfl rfl rfl H 4 rfl rfl (putL_all rfl) (fun w H => ?_)
            | refine b_store rfl sz_26 rfl rfl rfl rfl rfl H 3 rfl rfl (putL_all rfl) (fun w H => ?_)
          refine l_nil ⟨fun _ _ => (by first | exact H.erase 3 | exact H.drop1.erase 3 | exact H.drop1.drop1 | exact H.drop1.drop1.drop1), ?_⟩
          refine r_do rfl ?_
          refine l_v rfl (q_bytesStr (bs := headB (headG bs (N16 bs))) rfl by_50 st_9 rfl ((H.rowInv (i := 0) rfl).2.2.2.2) rfl) ?_
          refine l_nil ⟨fun _ _ => (by first | exact H.erase 3 | exact H.drop1.erase 3 | exact H.drop1.drop1 | exact H.drop1.drop1.drop1), ?_⟩
          refine r_w rfl rfl (fun w => q_pure (s_eql rfl rfl)) ?_
          refine r_pickT (v := .bool _) rfl rfl rfl rfl ?_
          refine r_pbool rfl rfl rfl ?_
          refine r_nil ?_
          refine w_ret ?_
          refine finc2 rfl ag_26 rfl (by first | exact H.cells 0 rfl | exact H.cells 1 rfl | exact H.cells 2 rfl | exact H.cells 3 rfl | exact H.cells 4 rfl) rfl ?_
          have HH := (H.drop1.drop1.drop1).erase 1
          refine ⟨headG bs (N16 bs), la, lc, congrArg (fun z => Value.tuple #[_, .bool z]) ?_, fun h => (headG_inv h).2.2.2.1, HH⟩
          by_cases hb : headB (headG bs (N16 bs)) = bs
          · rw [headG_fwd (by omega) hb]; exact decide_eq_true hb
          rw [Bool.eq_false_iff.2 (fun h : (headR bs).2 = true => hb (headG_inv h).2.2.2.2.2.symm)]; exact decide_eq_false hb
        try simp only [sH] at h66
        refine r_no1 rfl rfl ?_
        refine r_no rfl rfl ?_
        refine r_no1 rfl rfl ?_
        refine r_do rfl (l_no rfl (l_nil ⟨fun _ _ => (by first | exact H.erase 3 | exact H.drop1.erase 3 | exact H.drop1.drop1), ?_⟩))
        refine rp_two ?_ ?_
        · refine rp_leaf ?_
          refine r_do rfl (l_no rfl (l_nil ⟨fun _ _ => (by first | exact H.erase 3 | exact H.drop1.erase 3 | exact H.drop1.drop1), ?_⟩))
          refine r_no rfl rfl ?_
          refine r_pickF (v := .bool _) rfl rfl rfl rfl ?_
          refine r_do rfl ?_
          first
            | refine b_store rfl sz_26 rfl rfl rfl rfl rfl H 4 rfl rfl (putL_all rfl) (fun w H => ?_)
            | refine b_store rfl sz_26 rfl rfl rfl rfl rfl H 3 rfl rfl (putL_all rfl) (fun w H => ?_)
          refine l_nil ⟨fun _ _ => (by first | exact H.erase 3 | exact H.drop1.erase 3 | exact H.drop1.drop1 | exact H.drop1.drop1.drop1), ?_⟩
          refine r_pbool rfl rfl rfl ?_
          refine r_nil ?_
          refine w_ret ?_
          refine finc2 rfl ag_26 rfl (by first | exact H.cells 0 rfl | exact H.cells 1 rfl | exact H.cells 2 rfl | exact H.cells 3 rfl | exact H.cells 4 rfl) rfl ?_
          have HH := (H.drop1.drop1).erase 1
          refine ⟨headG bs (N16 bs), la, lc, congrArg (fun z => Value.tuple #[_, .bool z]) ?_, fun h => (headG_inv h).2.2.2.1, HH⟩
          exact (Bool.eq_false_iff.2 (fun h => absurd (headG_inv h) (fun ⟨x1, x2, x3, x4, x5, x6⟩ => by omega))).symm
        refine rp_leaf ?_
        refine r_do rfl ?_
        first
          | refine b_store rfl sz_26 rfl rfl rfl rfl rfl H 4 rfl rfl (putL_all rfl) (fun w H => ?_)
          | refine b_store rfl sz_26 rfl rfl rfl rfl rfl H 3 rfl rfl (putL_all rfl) (fun w H => ?_)
        refine l_nil ⟨fun _ _ => (by first | exact H.erase 3 | exact H.drop1.erase 3 | exact H.drop1.drop1 | exact H.drop1.drop1.drop1), ?_⟩
        refine r_do rfl (l_no rfl (l_nil ⟨fun _ _ => (by first | exact H.erase 3 | exact H.drop1.erase 3 | exact H.drop1.drop1), ?_⟩))
        refine r_no rfl rfl ?_
        refine r_pickF (v := .bool _) rfl rfl rfl rfl ?_
        refine r_pbool rfl rfl rfl ?_
        refine r_nil ?_
        refine w_ret ?_
        refine finc2 rfl ag_26 rfl (by first | exact H.cells 0 rfl | exact H.cells 1 rfl | exact H.cells 2 rfl | exact H.cells 3 rfl | exact H.cells 4 rfl) rfl ?_
        have HH := (H.drop1.drop1).erase 1
        refine ⟨headG bs (N16 bs), la, lc, congrArg (fun z => Value.tuple #[_, .bool z]) ?_, fun h => (headG_inv h).2.2.2.1, HH⟩
        exact (Bool.eq_false_iff.2 (fun h => absurd (headG_inv h) (fun ⟨x1, x2, x3, x4, x5, x6⟩ => by omega))).symm
      try simp only [sH] at h61
      refine r_no1 rfl rfl ?_
      refine r_do rfl (l_no rfl (l_nil ⟨fun _ _ => (by first | exact H.erase 3 | exact H.drop1.erase 3 | exact H.drop1.drop1), ?_⟩))
      refine r_no rfl rfl ?_
      refine r_pickF (v := .bool _) rfl rfl rfl rfl ?_
      refine r_pbool rfl rfl rfl ?_
      refine r_no1 rfl rfl ?_
      refine r_no rfl rfl ?_
      refine r_no1 rfl rfl ?_
      refine r_do rfl (l_no rfl (l_nil ⟨fun _ _ => (by first | exact H.erase 3 | exact H.drop1.erase 3 | exact H.drop1.drop1), ?_⟩))
      refine rp_two ?_ ?_
      · refine rp_leaf ?_
        refine r_do rfl (l_no rfl (l_nil ⟨fun _ _ => (by first | exact H.erase 3 | exact H.drop1.erase 3 | exact H.drop1.drop1), ?_⟩))
        refine r_no rfl rfl ?_
        refine r_pickF (v := .bool _) rfl rfl rfl rfl ?_
        refine r_do rfl ?_
        first
          | refine b_store rfl sz_26 rfl rfl rfl rfl rfl H 4 rfl rfl (putL_all rfl) (fun w H => ?_)
          | refine b_store rfl sz_26 rfl rfl rfl rfl rfl H 3 rfl rfl (putL_all rfl) (fun w H => ?_)
        refine l_nil ⟨fun _ _ => (by first | exact H.erase 3 | exact H.drop1.erase 3 | exact H.drop1.drop1 | exact H.drop1.drop1.drop1), ?_⟩
        refine r_pbool rfl rfl rfl ?_
        refine r_nil ?_
        refine w_ret ?_
        refine finc2 rfl ag_26 rfl (by first | exact H.cells 0 rfl | exact H.cells 1 rfl | exact H.cells 2 rfl | exact H.cells 3 rfl | exact H.cells 4 rfl) rfl ?_
        have HH := (H.drop1.drop1).erase 1
        refine ⟨headG bs (N16 bs), la, lc, congrArg (fun z => Value.tuple #[_, .bool z]) ?_, fun h => (headG_inv h).2.2.2.1, HH⟩
        exact (Bool.eq_false_iff.2 (fun h => absurd (headG_inv h) (fun ⟨x1, x2, x3, x4, x5, x6⟩ => by omega))).symm
      refine rp_leaf ?_
      refine r_do rfl ?_
      first
        | refine b_store rfl sz_26 rfl rfl rfl rfl rfl H 4 rfl rfl (putL_all rfl) (fun w H => ?_)
        | refine b_store rfl sz_26 rfl rfl rfl rfl rfl H 3 rfl rfl (putL_all rfl) (fun w H => ?_)
      refine l_nil ⟨fun _ _ => (by first | exact H.erase 3 | exact H.drop1.erase 3 | exact H.drop1.drop1 | exact H.drop1.drop1.drop1), ?_⟩
      refine r_do rfl (l_no rfl (l_nil ⟨fun _ _ => (by first | exact H.erase 3 | exact H.drop1.erase 3 | exact H.drop1.drop1), ?_⟩))
      refine r_no rfl rfl ?_
      refine r_pickF (v := .bool _) rfl rfl rfl rfl ?_
      refine r_pbool rfl rfl rfl ?_
      refine r_nil ?_
      refine w_ret ?_
      refine finc2 rfl ag_26 rfl (by first | exact H.cells 0 rfl | exact H.cells 1 rfl | exact H.cells 2 rfl | exact H.cells 3 rfl | exact H.cells 4 rfl) rfl ?_
      have HH := (H.drop1.drop1).erase 1
      refine ⟨headG bs (N16 bs), la, lc, congrArg (fun z => Value.tuple #[_, .bool z]) ?_, fun h => (headG_inv h).2.2.2.1, HH⟩
      exact (Bool.eq_false_iff.2 (fun h => absurd (headG_inv h) (fun ⟨x1, x2, x3, x4, x5, x6⟩ => by omega))).symm
    try simp only [sH] at h57
    refine r_no rfl rfl ?_
    refine r_no rfl rfl ?_
    refine r_pickF (v := .bool _) rfl rfl rfl rfl ?_
    refine r_pbool rfl rfl rfl ?_
    refine r_no1 rfl rfl ?_
    refine r_do rfl (l_no rfl (l_nil ⟨fun _ _ => (by first | exact H.erase 3 | exact H.drop1.erase 3 | exact H.drop1.drop1), ?_⟩))
    refine r_no rfl rfl ?_
    refine r_pickF (v := .bool _) rfl rfl rfl rfl ?_
    refine r_pbool rfl rfl rfl ?_
    refine r_no1 rfl rfl ?_
    refine r_no rfl rfl ?_
    refine r_no1 rfl rfl ?_
    refine r_do rfl (l_no rfl (l_nil ⟨fun _ _ => (by first | exact H.erase 3 | exact H.drop1.erase 3 | exact H.drop1.drop1), ?_⟩))
    refine rp_two ?_ ?_
    · refine rp_leaf ?_
      refine r_do rfl (l_no rfl (l_nil ⟨fun _ _ => (by first | exact H.erase 3 | exact H.drop1.erase 3 | exact H.drop1.drop1), ?_⟩))
      refine r_no rfl rfl ?_
      refine r_pickF (v := .bool _) rfl rfl rfl rfl ?_
      refine r_do rfl ?_
      first
        | refine b_store rfl sz_26 rfl rfl rfl rfl rfl H 4 rfl rfl (putL_all rfl) (fun w H => ?_)
        | refine b_store rfl sz_26 rfl rfl rfl rfl rfl H 3 rfl rfl (putL_all rfl) (fun w H => ?_)
      refine l_nil ⟨fun _ _ => (by first | exact H.erase 3 | exact H.drop1.erase 3 | exact H.drop1.drop1 | exact H.drop1.drop1.drop1), ?_⟩
      refine r_pbool rfl rfl rfl ?_
      refine r_nil ?_
      refine w_ret ?_
      refine finc2 rfl ag_26 rfl (by first | exact H.cells 0 rfl | exact H.cells 1 rfl | exact H.cells 2 rfl | exact H.cells 3 rfl | exact H.cells 4 rfl) rfl ?_
      have HH := (H.drop1.drop1).erase 1
      refine ⟨headG bs (N16 bs), la, lc, congrArg (fun z => Value.tuple #[_, .bool z]) ?_, fun h => (headG_inv h).2.2.2.1, HH⟩
      exact (Bool.eq_false_iff.2 (fun h => absurd (headG_inv h) (fun ⟨x1, x2, x3, x4, x5, x6⟩ => by omega))).symm
    refine rp_leaf ?_
    refine r_do rfl ?_
    first
      | refine b_store rfl sz_26 rfl rfl rfl rfl rfl H 4 rfl rfl (putL_all rfl) (fun w H => ?_)
      | refine b_store rfl sz_26 rfl rfl rfl rfl rfl H 3 rfl rfl (putL_all rfl) (fun w H => ?_)
    refine l_nil ⟨fun _ _ => (by first | exact H.erase 3 | exact H.drop1.erase 3 | exact H.drop1.drop1 | exact H.drop1.drop1.drop1), ?_⟩
    refine r_do rfl (l_no rfl (l_nil ⟨fun _ _ => (by first | exact H.erase 3 | exact H.drop1.erase 3 | exact H.drop1.drop1), ?_⟩))
    refine r_no rfl rfl ?_
    refine r_pickF (v := .bool _) rfl rfl rfl rfl ?_
    refine r_pbool rfl rfl rfl ?_
    refine r_nil ?_
    refine w_ret ?_
    refine finc2 rfl ag_26 rfl (by first | exact H.cells 0 rfl | exact H.cells 1 rfl | exact H.cells 2 rfl | exact H.cells 3 rfl | exact H.cells 4 rfl) rfl ?_
    have HH := (H.drop1.drop1).erase 1
    refine ⟨headG bs (N16 bs), la, lc, congrArg (fun z => Value.tuple #[_, .bool z]) ?_, fun h => (headG_inv h).2.2.2.1, HH⟩
    exact (Bool.eq_false_iff.2 (fun h => absurd (headG_inv h) (fun ⟨x1, x2, x3, x4, x5, x6⟩ => by omega))).symm
  try simp only [sH] at h53
  refine r_no rfl rfl ?_
  refine r_no rfl rfl ?_
  refine r_pickF (v := .bool _) rfl rfl rfl rfl ?_
  refine r_pbool rfl rfl rfl ?_
  refine r_no rfl rfl ?_
  refine r_no rfl rfl ?_
  refine r_pickF (v := .bool _) rfl rfl rfl rfl ?_
  refine r_pbool rfl rfl rfl ?_
  refine r_no1 rfl rfl ?_
  refine r_do rfl (l_no rfl (l_nil ⟨fun _ _ => (by first | exact H.erase 3 | exact H.drop1.erase 3 | exact H.drop1.drop1), ?_⟩))
  refine r_no rfl rfl ?_
  refine r_pickF (v := .bool _) rfl rfl rfl rfl ?_
  refine r_pbool rfl rfl rfl ?_
  refine r_no1 rfl rfl ?_
  refine r_no rfl rfl ?_
  refine r_no1 rfl rfl ?_
  refine r_do rfl (l_no rfl (l_nil ⟨fun _ _ => (by first | exact H.erase 3 | exact H.drop1.erase 3 | exact H.drop1.drop1), ?_⟩))
  refine rp_two ?_ ?_
  · refine rp_leaf ?_
    refine r_do rfl (l_no rfl (l_nil ⟨fun _ _ => (by first | exact H.erase 3 | exact H.drop1.erase 3 | exact H.drop1.drop1), ?_⟩))
    refine r_no rfl rfl ?_
    refine r_pickF (v := .bool _) rfl rfl rfl rfl ?_
    refine r_do rfl ?_
    first
      | refine b_store rfl sz_26 rfl rfl rfl rfl rfl H 4 rfl rfl (putL_all rfl) (fun w H => ?_)
      | refine b_store rfl sz_26 rfl rfl rfl rfl rfl H 3 rfl rfl (putL_all rfl) (fun w H => ?_)
    refine l_nil ⟨fun _ _ => (by first | exact H.erase 3 | exact H.drop1.erase 3 | exact H.drop1.drop1 | exact H.drop1.drop1.drop1), ?_⟩
    refine r_pbool rfl rfl rfl ?_
    refine r_nil ?_
    refine w_ret ?_
    refine finc2 rfl ag_26 rfl (by first | exact H.cells 0 rfl | exact H.cells 1 rfl | exact H.cells 2 rfl | exact H.cells 3 rfl | exact H.cells 4 rfl) rfl ?_
    have HH := (H.drop1.drop1).erase 1
    refine ⟨headG bs (N16 bs), la, lc, congrArg (fun z => Value.tuple #[_, .bool z]) ?_, fun h => (headG_inv h).2.2.2.1, HH⟩
    exact (Bool.eq_false_iff.2 (fun h => absurd (headG_inv h) (fun ⟨x1, x2, x3, x4, x5, x6⟩ => by omega))).symm
  refine rp_leaf ?_
  refine r_do rfl ?_
  first
    | refine b_store rfl sz_26 rfl rfl rfl rfl rfl H 4 rfl rfl (putL_all rfl) (fun w H => ?_)
    | refine b_store rfl sz_26 rfl rfl rfl rfl rfl H 3 rfl rfl (putL_all rfl) (fun w H => ?_)
  refine l_nil ⟨fun _ _ => (by first | exact H.erase 3 | exact H.drop1.erase 3 | exact H.drop1.drop1 | exact H.drop1.drop1.drop1), ?_⟩
  refine r_do rfl (l_no rfl (l_nil ⟨fun _ _ => (by first | exact H.erase 3 | exact H.drop1.erase 3 | exact H.drop1.drop1), ?_⟩))
  refine r_no rfl rfl ?_
  refine r_pickF (v := .bool _) rfl rfl rfl rfl ?_
  refine r_pbool rfl rfl rfl ?_
  refine r_nil ?_
  refine w_ret ?_
  refine finc2 rfl ag_26 rfl (by first | exact H.cells 0 rfl | exact H.cells 1 rfl | exact H.cells 2 rfl | exact H.cells 3 rfl | exact H.cells 4 rfl) rfl ?_
  have HH := (H.drop1.drop1).erase 1
  refine ⟨headG bs (N16 bs), la, lc, congrArg (fun z => Value.tuple #[_, .bool z]) ?_, fun h => (headG_inv h).2.2.2.1, HH⟩
  exact (Bool.eq_false_iff.2 (fun h => absurd (headG_inv h) (fun ⟨x1, x2, x3, x4, x5, x6⟩ => by omega))).symm
end Go.Proofs.YtfpmnhmdphaceaaGreatDoor
namespace Go.Proofs.YtfpmnhmdphaceaaGreatDoor
open Go.EW
attribute [local irreducible] EW.W EW.L EW.fin block8 outB shaL
set_option linter.unusedVariables false
set_option linter.unusedSimpArgs false
attribute [local irreducible] crcN crcB crcL sealL openR sealR
theorem fits_r {W w : World} {F : List Seg} (H : St W w F) {k m pc tc : Nat} {pa ta : Option Addr} {txs : List Tx} (hr : RdIn W F ta (txs.map Tx.v)) (hl : txs.length = k) (htx : TxsOk W F txs) (hts : txs.length ≤ 10000) {p : Nat} (hp : p = m) {xa : Option Addr} {xn xc : Nat} {xs : List UInt8} (hx : RdIn W F xa (xs.map B)) (hxn : xs.length = xn) (hxl : xs.length ≤ 100000) :
    Ok Tryz.prog 83 [.slice ta k tc, .slice pa m pc, .slice xa xn xc].toArray w (fun r w' => r = .bool (((chsOf (txs.map Tx.bs ++ [xs])).length : Int) == (m : Int)) ∧ St W w' F) := by
  subst hl; subst hp; subst hxn
  have hone : ∀ u ∈ txs.map Tx.v, u.oneCell' = true := fun u hu => by obtain ⟨t, _, rfl⟩ := List.mem_map.1 hu; rfl
  refine enter (n := 20) (rs := #[.tmp 6]) Tryz.func83 rfl rfl rfl rfl ?_
  refine w_seq ?_
  refine w_region ?_
  refine l_pbool rfl rfl ?_
  refine l_nil ?_
  refine w_seq ?_
  refine w_region ?_
  refine l_pslice rfl rfl ?_
  refine l_nil ?_
  refine w_seq ?_
  refine w_region ?_
  refine l_pslice rfl rfl ?_
  refine l_pslice rfl rfl ?_
  have H := St.newRow (T := 50) (sz := 1) H
  refine b_append rfl el_37 ze_50 rfl rfl rfl H 0 rfl (hr.use H 1 rfl) (by rw [List.length_map, Nat.mul_one]) hone ⟨by omega, by simp only [maxLen]; omega⟩ (fun a10 c10 w H => ?_)
  rw [Nat.zero_add]
  rw [Nat.zero_add] at H
  have H : St W w (row 50 1 a10 txs.length c10 (txs.map Tx.v) :: F) := H
  refine l_pslice rfl rfl ?_
  refine l_nil ?_
  refine w_seq ?_
  refine w_region ?_
  refine l_pslice rfl rfl ?_
  refine l_pslice rfl rfl ?_
  refine b_buildSlice (cs := [.slice xa xs.length xc]) rfl el_37 ze_50 rfl rfl rfl H (fun b13 w H => ?_)
  refine b_append rfl el_37 ze_50 rfl rfl rfl H 1 rfl (Rd.mk (H.cells0 0 rfl)) rfl (fun u hu => by obtain rfl := List.mem_singleton.1 hu; rfl) ⟨by omega, by simp only [maxLen]; omega⟩ (fun a14 c14 w H => ?_)
  have H := H.drop1
  have e1 : (txs ++ [(⟨xa, xc, xs⟩ : Tx)]).length = txs.length + 1 := by rw [List.length_append]; rfl
  have H : St W w (row 50 1 a14 (txs.length + 1) c14 ((txs ++ [(⟨xa, xc, xs⟩ : Tx)]).map Tx.v) :: F) := by rw [List.map_append]; exact H
  have hkc := (H.rowInv (i := 0) rfl).2.1
  refine b_call rfl cb_43 rfl (Chunks_r H (RdIn.row 0 rfl) e1 (by omega) (fun t ht => by
    rcases List.mem_append.1 ht with ht | ht
    · exact ⟨((htx t ht).1).up 1 rfl, (htx t ht).2⟩
    obtain rfl := List.mem_singleton.1 ht; exact ⟨hx.up 1 rfl, hxl⟩) (by omega)) (fun v w hv => ?_)
  obtain ⟨la, lc, rfl, H⟩ := hv
  refine l_v rfl (q_lenSlice rfl el_58 rfl) ?_
  refine l_pslice rfl rfl ?_
  refine l_v rfl (q_lenSlice rfl el_58 rfl) ?_
  refine l_pbool rfl rfl ?_
  refine l_pbool rfl rfl ?_
  refine l_nil ?_
  refine w_ret ?_
  refine fin1 (v := .bool _) rfl ?_
  refine ⟨?_, H.drop1.drop1⟩
  rw [List.map_append]; rfl
theorem tx_at {w : World} {a : Option Addr} {l : List Tx} {i : Nat} (h : Rd w a (l.map Tx.v)) (hi : i < l.length) : ∃ b o, a = some ⟨b, o, none⟩ ∧ w.cell? ⟨b, o + i * 1, none⟩ = some l[i].v :=
  rd_cell h (by rw [List.getElem?_map, List.getElem?_eq_getElem hi]; rfl)
set_option maxRecDepth 8000 in
set_option maxHeartbeats 1000000 in
theorem events_r {W w : World} {F : List Seg} (H : St W w F) {k tc : Nat} {ta : Option Addr} {txs : List Tx} (hr : RdIn W F ta (txs.map Tx.v)) (hl : txs.length = k) (htx : ∀ t ∈ txs, RdIn W F t.a (t.bs.map B) ∧ t.bs.length ≤ 100000 ∧ t.bs.length ≤ t.c) (hts : txs.length ≤ 10000) :
    Ok Tryz.prog 51 [.slice ta k tc].toArray w (fun r w' => ∃ ea ec, ∃ es : List EvM, es.map EvM.e = txs.map (fun t => (getEv t.bs).1) ∧ r = .slice ea es.length ec ∧ St W w' (row 52 13 ea es.length ec (evsV es) :: Segs (es.map EvM.seg) :: F)) := by
  subst hl
  refine enter (n := 26) (rs := #[.tmp 2]) Tryz.func51 rfl rfl rfl rfl ?_
  refine w_seq ?_
  refine w_region ?_
  refine l_pslice rfl rfl ?_
  refine l_nil ?_
  refine w_seq ?_
  refine w_region ?_
  refine l_pslice rfl rfl ?_
  refine l_nil ?_
  refine w_seq ?_
  refine w_seq ?_
  refine w_region ?_
  refine l_pint rfl rfl ?_
  refine l_nil ?_
  refine w_block ?_
  refine w_loopG (G := Nat × Option Addr × Nat × List EvM) [3, 4, 5, 6, 7, 8, 9, 10, 11, 12, 13, 14, 15, 16, 17, 18, 19, 20, 21, 22, 23, 24] (fun ⟨i, ea, ec, es⟩ => [(3, .slice ea es.length ec), (4, I ((i : Nat) : Int))]) (fun m ⟨i, ea, ec, es⟩ w => m + i = txs.length ∧ es.length = i ∧ es.map EvM.e = (txs.take i).map (fun t => (getEv t.bs).1) ∧ St W w (row 52 13 ea es.length ec (evsV es) :: Segs (es.map EvM.seg) :: F)) (fun _ => rfl) ?_ ?_
  · exact ⟨txs.length, (0, none, 0, []), ⟨rfl, rfl, trivial⟩, rfl, rfl, rfl, St.pick [1, 0] (pre := [_, _]) rfl (St.nilseg.2 (St.newRow (T := 52) (sz := 13) H)) rfl⟩
  rintro m ⟨i, ea, ec, es⟩ ρ1 w ⟨hmi, hel, hee, H⟩
  refine w_seq ?_
  refine w_seq ?_
  refine w_region ?_
  refine l_pint rfl rfl ?_
  refine l_pslice rfl rfl ?_
  refine l_v rfl (q_lenSlice rfl el_37 rfl) ?_
  refine l_pbool rfl rfl ?_
  refine l_nil ?_
  refine w_cond rfl (fun c1 => ?_) (fun c1 => ?_)
  · try simp only [sH] at c1
    have hi : i < txs.length := by omega
    have htk := htx txs[i] (List.getElem_mem hi)
    obtain ⟨cb, co, hca, hcc⟩ := tx_at (hr.use H 2 rfl) hi
    refine w_skip ?_
    refine w_seq ?_
    refine w_block ?_
    refine w_seq ?_
    refine w_region ?_
    refine l_pslice rfl rfl ?_
    refine l_pint rfl rfl ?_
    refine l_v rfl (q_indexSliceE i rfl el_37 rfl hca rfl rfl hi) ?_
    refine l_v rfl (q_load1 (v := txs[i].v) rfl c1_50 rfl (by rw [Nat.mul_one] at hcc ⊢; exact hcc)) ?_
    refine b_call rfl cb_84 rfl (rGetEvent_ok H (htk.1.up 2 rfl) rfl htk.2.2 (by have := htk.2.1; omega)) (fun v w hv => ?_)
    obtain ⟨xa, xc, rfl, H⟩ := hv
    refine l_ptup rfl rfl ?_
    refine l_pagg rfl rfl ?_
    refine l_pint rfl rfl ?_
    refine b_alloc (cs := evt0.cells none 0) rfl ze_52 rfl H (fun b5 w H => ?_)
    refine b_store (cs' := (getEv txs[i].bs).1.cells xa xc) rfl sz_52 rfl rfl rfl rfl rfl H 0 rfl rfl (putL_all rfl) (fun w H => ?_)
    refine l_pint rfl rfl ?_
    refine l_nil ?_
    refine w_region ?_
    refine l_pslice rfl rfl ?_
    refine l_v rfl (q_loadN (vs := (getEv txs[i].bs).1.cells xa xc) rfl ag_52 rfl rfl (H.cells 0 rfl)) ?_
    refine b_buildSlice (cs := (getEv txs[i].bs).1.cells xa xc) rfl el_27 ze_52 rfl rfl (fill_evt _ _ _) H (fun b23 w H => ?_)
    refine b_append rfl el_27 ze_52 rfl rfl rfl H 3 rfl (ys := (getEv txs[i].bs).1.cells xa xc) (Rd.mk (H.cells0 0 rfl)) rfl (fun u hu => oneEv [⟨(getEv txs[i].bs).1, xa, xc⟩] u (by rw [evsV_one]; exact hu)) ⟨by omega, by simp only [maxLen]; omega⟩ (fun a24 c24 w H => ?_)
    have H := H.drop1
    refine l_pslice rfl rfl ?_
    refine l_nil ?_
    refine w_region ?_
    refine l_pint rfl rfl ?_
    first | refine l_v rfl (q_add rfl rfl rfl (by simp only [inK]; omega)) ?_ | refine l_pint rfl rfl ?_
    refine l_pint rfl rfl ?_
    refine l_nil ?_
    refine ⟨by repeat' first | exact aM | exact aR | refine aI rfl ?_ | refine aU rfl ?_ | refine aL rfl ?_, ?_⟩
    have e1 : (es ++ [(⟨(getEv txs[i].bs).1, xa, xc⟩ : EvM)]).length = es.length + 1 := by rw [List.length_append]; rfl
    refine ⟨m - 1, (i + 1, a24, c24, es ++ [⟨(getEv txs[i].bs).1, xa, xc⟩]), by omega, ⟨by rw [e1]; rfl, by exact congrArg (Value.int IntKind.i64) (Int.natCast_succ i).symm, trivial⟩, by omega, by rw [e1, hel], ?_, ?_⟩
    · rw [List.map_append, hee, List.take_succ_eq_append_getElem hi, List.map_append]; rfl
    rw [evsV_app, evsV_one, List.map_append, e1]
    exact St.pick [1, 0] (pre := [_, _]) rfl (St.snocseg.1 (St.pick [3, 1, 2] (pre := [_, _, _, _]) rfl H rfl)) rfl
  try simp only [sH] at c1
  obtain rfl : i = txs.length := by omega
  rw [List.take_length] at hee
  refine w_exit ?_
  refine w_seq ?_
  refine w_region ?_
  refine l_pslice rfl rfl ?_
  refine l_pslice rfl rfl ?_
  refine l_nil ?_
  refine w_ret ?_
  refine fin1 (v := .slice _ _ _) rfl ?_
  exact ⟨ea, ec, es, hee, rfl, H⟩
end Go.Proofs.YtfpmnhmdphaceaaGreatDoor
namespace Go.Proofs.YtfpmnhmdphaceaaGreatDoor
open Go.EW
attribute [local irreducible] EW.W EW.L EW.fin block8 outB shaL
set_option linter.unusedVariables false
set_option linter.unusedSimpArgs false
attribute [local irreducible] crcN crcB crcL sealL openR sealR
/-- from a place, by frames that are right, to another -/
inductive Ch (bs : List UInt8) : Nat → Nat → Prop
  | nil (p : Nat) : Ch bs p p
  | cons {p q : Nat} (h : (bodyR bs p).2.2 = 0) (t : Ch bs (p + (bodyR bs p).2.1) q) : Ch bs p q
theorem Ch.snoc {bs : List UInt8} {p q : Nat} (h : Ch bs p q) (h0 : (bodyR bs q).2.2 = 0) : Ch bs p (q + (bodyR bs q).2.1) := by
  induction h with
  | nil p => exact .cons h0 (.nil _)
  | cons h t ih => exact .cons h (ih h0)
theorem Ch.le {bs : List UInt8} {p q : Nat} (h : Ch bs p q) (hp : p ≤ bs.length) : p ≤ q ∧ q ≤ bs.length := by
  induction h with
  | nil p => exact ⟨Nat.le_refl _, hp⟩
  | @cons p q h t ih =>
    have h1 := (bodyR_le bs p).2 h hp
    have := ih (by omega)
    exact ⟨by omega, this.2⟩
theorem Ch.ok {bs : List UInt8} {p q : Nat} (h : Ch bs p q) (h0 : (bodyR bs q).2.2 = 0) : (bodyR bs p).2.2 = 0 := by
  cases h with
  | nil => exact h0
  | cons h t => exact h
theorem Ch.next {bs : List UInt8} {p q : Nat} (h : Ch bs p q) (hp : p ≤ bs.length) (h0 : (bodyR bs q).2.2 = 0) : p = q ∨ p + (bodyR bs p).2.1 < q + (bodyR bs q).2.1 ∧ Ch bs (p + (bodyR bs p).2.1) q := by
  cases h with
  | nil => exact .inl rfl
  | cons h t =>
    have h1 := (bodyR_le bs p).2 h hp
    have h2 := t.le (by omega)
    have h3 := (bodyR_le bs q).2 h0 h2.2
    exact .inr ⟨by omega, t⟩
/-- the frame that ends at a place -/
structure LastF (bs : List UInt8) (e m : Nat) : Prop where
  ex : ∃ q, Ch bs 0 q ∧ (bodyR bs q).2.2 = 0 ∧ e = q + (bodyR bs q).2.1 ∧ m = (bodyR bs q).2.1
theorem lastFrame_r {W w : World} {F : List Seg} (H : St W w F) {a : Option Addr} {n c e m : Nat} {bs : List UInt8} (hr : RdIn W F a (bs.map B)) (hl : bs.length = n) (hcp : bs.length ≤ c) (hn : n ≤ 140737488351232) (he : LastF bs e m) :
    Ok Tryz.prog 106 [.slice a n c, I (e : Int)].toArray w (fun r w' => r = I (m : Int) ∧ St W w' F) := by
  subst hl
  obtain ⟨q, hch, hq0, rfl, rfl⟩ := he.ex
  have hql := hch.le (Nat.zero_le _)
  have hqe := (bodyR_le bs q).2 hq0 hql.2
  refine enter (n := 23) (rs := #[.tmp 4]) Tryz.func106 rfl rfl rfl rfl ?_
  refine w_seq ?_
  refine w_region ?_
  refine l_pint rfl rfl ?_
  refine l_nil ?_
  refine w_seq ?_
  refine w_region ?_
  refine l_pint rfl rfl ?_
  refine l_nil ?_
  refine w_block ?_
  refine w_loopG (G := Nat) [4, 5, 6, 7, 8, 9, 10, 11, 12, 13, 14, 15, 16, 17, 18, 19, 20, 21, 22] (fun p => [(5, I ((p : Nat) : Int))]) (fun m p w => m + p = bs.length ∧ Ch bs p q ∧ St W w F) (fun _ => rfl) ?_ ?_
  · exact ⟨bs.length, 0, ⟨rfl, trivial⟩, rfl, hch, H⟩
  rintro m p ρ1 w ⟨hmi, hcp', H⟩
  refine w_block ?_
  refine w_seq ?_
  refine w_region ?_
  refine l_pslice rfl rfl ?_
  refine l_pint rfl rfl ?_
  refine b_call rfl cb_77 rfl (frame_r H hr rfl hcp (by omega) (by omega)) (fun v w hv => ?_)
  obtain ⟨fa, fc, rfl, H⟩ := hv
  have hp0 := hcp'.ok hq0
  have hpe := (bodyR_le bs p).2 hp0 (by omega)
  rw [if_pos hp0]
  refine l_ptup rfl rfl ?_
  refine l_pslice rfl rfl ?_
  refine l_pint rfl rfl ?_
  refine l_pint rfl rfl ?_
  refine l_pslice rfl rfl ?_
  refine l_pint rfl rfl ?_
  refine l_pint rfl rfl ?_
  refine l_nil ?_
  refine w_seq ?_
  refine w_seq ?_
  refine w_region ?_
  refine l_pint rfl rfl ?_
  refine l_pint rfl rfl ?_
  refine l_pbool rfl rfl ?_
  refine l_nil ?_
  refine w_cond rfl (fun c1 => ?_) (fun c1 => ?_)
  · try simp only [sH] at c1
    refine w_seq ?_
    refine w_region ?_
    refine l_pint rfl rfl ?_
    refine l_pint rfl rfl ?_
    first | refine l_v rfl (q_sub rfl rfl rfl (by simp only [inK]; omega)) ?_ | refine l_pint rfl rfl ?_
    refine l_pint rfl rfl ?_
    refine l_nil ?_
    refine w_ret ?_
    refine fin1 (v := .int _ _) rfl ?_
    rcases hcp'.next (by omega) hq0 with rfl | ⟨h3, h4⟩
    · exact ⟨congrArg (Value.int .i64) (by omega), H.drop1⟩
    exact absurd c1 (by omega)
  try simp only [sH] at c1
  refine w_skip ?_
  refine w_region ?_
  refine l_pint rfl rfl ?_
  refine l_pint rfl rfl ?_
  refine l_nil ?_
  refine ⟨by repeat' first | exact aM | exact aR | refine aI rfl ?_ | refine aU rfl ?_ | refine aL rfl ?_, ?_⟩
  rcases hcp'.next (by omega) hq0 with rfl | ⟨h3, h4⟩
  · exact absurd rfl (by omega)
  have h5 := h4.le (by omega)
  refine ⟨bs.length - (p + (bodyR bs p).2.1), p + (bodyR bs p).2.1, by omega, ⟨rfl, trivial⟩, by omega, h4, H.drop1⟩
theorem sealL_inj {x y : List UInt8} (h : sealL x = sealL y) : x = y := by
  have hl : x.length = y.length := by
    have := congrArg List.length h
    rw [seal_len, seal_len] at this; omega
  have h2 : frmL x = frmL y := by
    have h3 := congrArg (List.take (frmL x).length) h
    unfold sealL at h3
    rw [List.take_append_of_le_length (Nat.le_refl _), List.take_length, List.take_append_of_le_length (by rw [frm_len, frm_len]; omega), List.take_of_length_le (by rw [frm_len, frm_len]; omega)] at h3
    exact h3
  unfold frmL at h2
  exact (List.append_inj' h2 hl).2
theorem footC_eq {n : Nat} {pl : List Nat} {ah b : List UInt8} (hb : b.length ≤ 32756) : footC n pl ah = sealL b ↔ footB n pl ah = b := by
  unfold footC sealR
  split
  · rename_i h
    refine ⟨fun h2 => ?_, fun h2 => by rw [h2] at h; omega⟩
    have := congrArg List.length h2
    rw [seal_len] at this
    simp at this
  exact ⟨fun h2 => sealL_inj h2, fun h2 => congrArg sealL h2⟩
section
variable {bs fb : List UInt8} {s : SS} {q m : Nat}
theorem tl1 (h : (footR fb).2.2 = false) : tailR bs s q fb m = (220, q, s) := if_pos h
theorem tl2 (hg : (bs.drop q).take m = sealL fb) (hf : fb.length ≤ 32756) (h : (footR fb).2.2 = true) (h2 : footB s.evs.length s.places (bs.take q) ≠ fb) : tailR bs s q fb m = (221, q, s) := by
  unfold tailR
  rw [if_neg (by rw [h]; decide), hg, if_pos (fun h3 => h2 ((footC_eq hf).1 h3))]
theorem tl3 (hg : (bs.drop q).take m = sealL fb) (hf : fb.length ≤ 32756) (h : (footR fb).2.2 = true) (h2 : footB s.evs.length s.places (bs.take q) = fb) (h3 : bs.length - (q + m) < 4) : tailR bs s q fb m = (222, q + m, { s with right := q + m }) := by
  unfold tailR
  rw [if_neg (by rw [h]; decide), hg, if_neg (fun h4 => h4 ((footC_eq hf).2 h2)), if_pos h3]
theorem be4_eq (hm : m ≤ 32768) (h3 : ¬ bs.length - (q + m) < 4) : (bs.drop (q + m)).take 4 = be4 m ↔ numB ((bs.drop (q + m)).take 4) = m := by
  refine ⟨fun h => by rw [h]; exact num_be4 (by omega), fun h => ?_⟩
  have := be4_num (l := (bs.drop (q + m)).take 4) (by rw [List.length_take, List.length_drop]; omega)
  rw [h] at this; exact this.symm
theorem tl4 (hg : (bs.drop q).take m = sealL fb) (hf : fb.length ≤ 32756) (hm : m ≤ 32768) (h : (footR fb).2.2 = true) (h2 : footB s.evs.length s.places (bs.take q) = fb) (h3 : ¬ bs.length - (q + m) < 4) (h4 : numB ((bs.drop (q + m)).take 4) ≠ m) : tailR bs s q fb m = (221, q + m, { s with right := q + m }) := by
  unfold tailR
  rw [if_neg (by rw [h]; decide), hg, if_neg (fun h4 => h4 ((footC_eq hf).2 h2)), if_neg h3, if_pos (fun h5 => h4 ((be4_eq hm h3).1 h5))]
theorem tl5 (hg : (bs.drop q).take m = sealL fb) (hf : fb.length ≤ 32756) (hm : m ≤ 32768) (h : (footR fb).2.2 = true) (h2 : footB s.evs.length s.places (bs.take q) = fb) (h3 : ¬ bs.length - (q + m) < 4) (h4 : numB ((bs.drop (q + m)).take 4) = m) (h5 : q + m + 4 < bs.length) : tailR bs s q fb m = (220, q + m + 4, { s with right := q + m + 4 }) := by
  unfold tailR
  rw [if_neg (by rw [h]; decide), hg, if_neg (fun h4 => h4 ((footC_eq hf).2 h2)), if_neg h3, if_neg (fun h5 => h5 ((be4_eq hm h3).2 h4)), if_pos h5]
theorem tl6 (hg : (bs.drop q).take m = sealL fb) (hf : fb.length ≤ 32756) (hm : m ≤ 32768) (h : (footR fb).2.2 = true) (h2 : footB s.evs.length s.places (bs.take q) = fb) (h3 : ¬ bs.length - (q + m) < 4) (h4 : numB ((bs.drop (q + m)).take 4) = m) (h5 : ¬ q + m + 4 < bs.length) : tailR bs s q fb m = (0, q + m + 4, { s with right := q + m + 4 }) := by
  unfold tailR
  rw [if_neg (by rw [h]; decide), hg, if_neg (fun h4 => h4 ((footC_eq hf).2 h2)), if_neg h3, if_neg (fun h5 => h5 ((be4_eq hm h3).2 h4)), if_neg h5]
end
theorem right_r {W w : World} {F : List Seg} (H : St W w F) {a : Option Addr} {n c e m : Nat} {bs : List UInt8} (hr : RdIn W F a (bs.map B)) (hl : bs.length = n) (hcp : bs.length ≤ c) (hn : n ≤ 140737488351232) (he : LastF bs e m) :
    Ok Tryz.prog 81 [.slice a n c, I (e : Int)].toArray w (fun r w' => r = I ((if e + 4 ≤ bs.length ∧ numB ((bs.drop e).take 4) = m then e + 4 else e : Nat) : Int) ∧ St W w' F) := by
  subst hl
  have hel : e + m ≤ 140737488351232 + 32768 ∧ e ≤ bs.length := by
    obtain ⟨q, hch, hq0, rfl, rfl⟩ := he.ex
    have hql := hch.le (Nat.zero_le _)
    have hqe := (bodyR_le bs q).2 hq0 hql.2
    omega
  refine enter (n := 22) (rs := #[.tmp 4]) Tryz.func81 rfl rfl rfl rfl ?_
  refine w_seq ?_
  refine w_region ?_
  refine l_pint rfl rfl ?_
  refine l_nil ?_
  refine w_seq ?_
  refine w_seq ?_
  refine w_region ?_
  refine l_pslice rfl rfl ?_
  refine l_v rfl (q_lenSlice rfl el_50 rfl) ?_
  refine l_pint rfl rfl ?_
  first | refine l_v rfl (q_add rfl rfl rfl (by simp only [inK]; omega)) ?_ | refine l_pint rfl rfl ?_
  refine l_pbool rfl rfl ?_
  refine l_pbool rfl rfl ?_
  refine l_split 10 rfl (fun h10 => ?_) (fun h10 => ?_)
  · try simp only [sH] at h10
    refine l_pslice rfl rfl ?_
    refine l_pint rfl rfl ?_
    refine b_call rfl cb_105 rfl (tailLen_ok (p := e) H hr rfl (by omega) (by omega) rfl) (fun v w hv => ?_)
    obtain ⟨rfl, H⟩ := hv
    refine l_pslice rfl rfl ?_
    refine l_pint rfl rfl ?_
    refine b_call rfl cb_106 rfl (lastFrame_r H hr rfl hcp (by omega) he) (fun v w hv => ?_)
    obtain ⟨rfl, H⟩ := hv
    refine l_pbool rfl rfl ?_
    refine l_pickT (v := .bool _) rfl rfl rfl ?_
    refine l_nil ?_
    refine w_cond rfl (fun c1 => ?_) (fun c1 => ?_)
    · try simp only [sH] at c1
      refine w_seq ?_
      refine w_region ?_
      refine l_pint rfl rfl ?_
      first | refine l_v rfl (q_add rfl rfl rfl (by simp only [inK]; omega)) ?_ | refine l_pint rfl rfl ?_
      refine l_pint rfl rfl ?_
      refine l_nil ?_
      refine w_ret ?_
      refine fin1 (v := .int _ _) rfl ?_
      exact ⟨by rw [if_pos ⟨by omega, by omega⟩]; rfl, H⟩
    try simp only [sH] at c1
    refine w_skip ?_
    refine w_seq ?_
    refine w_region ?_
    refine l_pint rfl rfl ?_
    refine l_pint rfl rfl ?_
    refine l_nil ?_
    refine w_ret ?_
    refine fin1 (v := .int _ _) rfl ?_
    exact ⟨by rw [if_neg (fun h => by omega)], H⟩
  try simp only [sH] at h10
  refine l_no rfl ?_
  refine l_no rfl ?_
  refine l_no rfl ?_
  refine l_no rfl ?_
  refine l_no rfl ?_
  refine l_no rfl ?_
  refine l_no rfl ?_
  refine l_pickF (v := .bool _) rfl rfl rfl ?_
  refine l_nil ?_
  refine w_cond_f rfl ?_
  refine w_skip ?_
  refine w_seq ?_
  refine w_region ?_
  refine l_pint rfl rfl ?_
  refine l_pint rfl rfl ?_
  refine l_nil ?_
  refine w_ret ?_
  refine fin1 (v := .int _ _) rfl ?_
  exact ⟨by rw [if_neg (fun h => by omega)], H⟩
set_option maxRecDepth 8000 in
set_option maxHeartbeats 1000000 in
theorem tail_r {W w : World} {F : List Seg} (H : St W w F) {a : Option Addr} {n c q m : Nat} {bs fb : List UInt8} (hr : RdIn W F a (bs.map B)) (hl : bs.length = n) (hcp : bs.length ≤ c) (hn : n ≤ 140737488351232) (hg : (bs.drop q).take m = sealL fb) (hm : m = fb.length + 12) (hf : fb.length ≤ 32756) (hql : q ≤ bs.length) (hnum : numberR fb = 3) {ba : Option Addr} {fn bc : Nat} (hbr : RdIn W F ba (fb.map B)) (hfn : fb.length = fn) (hbcp : fb.length ≤ bc) {pa : Option Addr} {pc k ev : Nat} {s : SS} (hpr : RdIn W F pa (natsV s.places)) (hk : s.places.length = k) (hev : s.evs.length = ev) (hevl : s.evs.length ≤ 4096) (hpl : s.places.length ≤ 4096) (hpm : ∀ x ∈ s.places, x ≤ 9223372036854775807) :
    Ok Tryz.prog 80 [.slice a n c, I (q : Int), I ((q + m : Nat) : Int), .slice ba fn bc, I (ev : Int), .slice pa k pc].toArray w (fun r w' => r = .tuple #[I ((tailR bs s q fb m).1 : Int), I ((if (tailR bs s q fb m).1 = 0 then 0 else (tailR bs s q fb m).2.1 : Nat) : Int)] ∧ St W w' F) := by
  subst hl; subst hfn; subst hk; subst hev
  have hmx : maxI = 9223372036854775807 := rfl
  have hqm : q + m ≤ bs.length := by
    have := congrArg List.length hg
    rw [seal_len, List.length_take, List.length_drop] at this; omega
  refine enter (n := 84) (rs := #[.tmp 12, .tmp 13]) Tryz.func80 rfl rfl rfl rfl ?_
  refine w_seq ?_
  refine w_region ?_
  refine l_pint rfl rfl ?_
  refine l_pint rfl rfl ?_
  refine l_nil ?_
  refine w_seq ?_
  refine w_region ?_
  refine l_pslice rfl rfl ?_
  refine l_v rfl (q_build (cs := [.slice ba fb.length bc, .int .i64 0, .int .i64 0]) rfl sp_189 rfl) ?_
  refine b_box (cs := [.slice ba fb.length bc, .int .i64 0, .int .i64 0]) rfl rfl rfl H (fun rb w H => ?_)
  have H : St W w (refL rb ba bc fb ⟨0, 0⟩ F) := H
  refine l_pptr rfl rfl ?_
  refine l_nil ?_
  refine w_seq ?_
  refine w_region ?_
  refine l_pptr rfl rfl ?_
  refine b_call rfl cb_102 rfl (rInt_ok (mo := maxI) H hbr hbcp (rs0 fb) (by omega) (by decide)) (fun v w hv => ?_)
  obtain ⟨rfl, H⟩ := hv
  refine l_nil ?_
  refine w_seq ?_
  refine w_region ?_
  refine l_pptr rfl rfl ?_
  refine b_call rfl cb_102 rfl (rInt_ok (mo := maxI) H hbr hbcp (rInt_ok2 (rs0 fb)) (by omega) (by decide)) (fun v w hv => ?_)
  obtain ⟨rfl, H⟩ := hv
  refine l_nil ?_
  refine w_seq ?_
  refine w_region ?_
  refine l_pptr rfl rfl ?_
  refine b_call rfl cb_102 rfl (rInt_ok (mo := maxI) H hbr hbcp (rInt_ok2 (rInt_ok2 (rs0 fb))) (by omega) (by decide)) (fun v w hv => ?_)
  obtain ⟨rfl, H⟩ := hv
  have H : St W w (refL rb ba bc fb (rInts fb ⟨0, 0⟩ 3).2 F) := H
  have eN2 : ((rInts fb ⟨0, 0⟩ 3).1.getD 2 0) = (rInt fb maxI (rInt fb maxI (rInt fb maxI ⟨0, 0⟩).2).2).1 := rfl
  refine l_pint rfl rfl ?_
  refine l_nil ?_
  refine w_cutG (G := Nat) [16, 27, 28, 29, 30, 31, 32, 33, 34, 35, 36, 37, 38, 39, 40] (fun i => []) (fun i w => i ≤ ((rInts fb ⟨0, 0⟩ 3).1.getD 2 0) ∧ (i = ((rInts fb ⟨0, 0⟩ 3).1.getD 2 0) ∨ (rInts fb (rInts fb ⟨0, 0⟩ 3).2 i).2.err ≠ 0) ∧ St W w (refL rb ba bc fb (rInts fb (rInts fb ⟨0, 0⟩ 3).2 i).2 F)) (fun _ => rfl) ?_ ?_
  · refine w_seq ?_
    refine w_region ?_
    refine l_pint rfl rfl ?_
    refine l_nil ?_
    refine w_block ?_
    refine w_loopG (G := Nat) [16, 27, 28, 29, 30, 31, 32, 33, 34, 35, 36, 37, 38, 39, 40] (fun i => [(16, I ((i : Nat) : Int))]) (fun m' i w => m' + i = ((rInts fb ⟨0, 0⟩ 3).1.getD 2 0) ∧ i ≤ 40000 ∧ St W w (refL rb ba bc fb (rInts fb (rInts fb ⟨0, 0⟩ 3).2 i).2 F)) (fun _ => rfl) ?_ ?_
    · exact ⟨((rInts fb ⟨0, 0⟩ 3).1.getD 2 0), 0, ⟨rfl, trivial⟩, rfl, Nat.zero_le _, H⟩
    rintro m' i ρ1 w ⟨hmi, hi4, H⟩
    refine w_seq ?_
    refine w_seq ?_
    refine w_region ?_
    refine l_pint rfl rfl ?_
    refine l_pint rfl rfl ?_
    refine l_pbool rfl rfl ?_
    refine l_pbool rfl rfl ?_
    refine l_split 30 rfl (fun h30 => ?_) (fun h30 => ?_)
    · try simp only [sH] at h30
      refine l_pptr rfl rfl ?_
      refine l_pptr rfl rfl ?_
      refine l_v rfl (q_fieldAddr rfl fo189_2 rfl) ?_
      refine l_v rfl (q_load1 rfl c1_3 rfl (by first | exact H.cell 0 rfl rfl | exact H.cell 1 rfl rfl)) ?_
      refine l_pbool rfl rfl ?_
      refine l_pickT (v := .bool _) rfl rfl rfl ?_
      refine l_nil ?_
      refine w_cond rfl (fun c1 => ?_) (fun c1 => ?_)
      · try simp only [sH] at c1
        refine w_skip ?_
        refine w_seq ?_
        refine w_block ?_
        refine w_region ?_
        refine l_pptr rfl rfl ?_
        refine b_call rfl cb_102 rfl (rInt_ok (mo := maxI) H hbr hbcp (rInts_ok2 (rInts_ok2 (rs0 _) 3) i) (by omega) (by decide)) (fun v w hv => ?_)
        obtain ⟨rfl, H⟩ := hv
        refine l_nil ?_
        refine w_region ?_
        refine l_pint rfl rfl ?_
        first | refine l_v rfl (q_add rfl rfl rfl (by simp only [inK]; omega)) ?_ | refine l_pint rfl rfl ?_
        refine l_pint rfl rfl ?_
        refine l_nil ?_
        refine ⟨by repeat' first | exact aM | exact aR | refine aI rfl ?_ | refine aU rfl ?_ | refine aL rfl ?_, ?_⟩
        refine ⟨m' - 1, i + 1, by omega, ⟨by exact congrArg (Value.int IntKind.i64) (Int.natCast_succ i).symm, trivial⟩, by omega, ?_, H⟩
        have := (rInts_ok2 (b := fb) (rInts_ok2 (b := fb) (s := ⟨0, 0⟩) (rs0 _) 3) i).1
        have := rInts_at (b := fb) (s := (rInts fb ⟨0, 0⟩ 3).2) i (by omega)
        omega
      try simp only [sH] at c1
      refine w_exit ?_
      refine ⟨by repeat' first | exact aM | exact aR | refine aI rfl ?_ | refine aU rfl ?_ | refine aL rfl ?_, ?_⟩
      exact ⟨i, trivial, by omega, by omega, H⟩
    try simp only [sH] at h30
    refine l_no rfl ?_
    refine l_no rfl ?_
    refine l_no rfl ?_
    refine l_no rfl ?_
    refine l_no rfl ?_
    refine l_pickF (v := .bool _) rfl rfl rfl ?_
    refine l_nil ?_
    refine w_cond_f rfl ?_
    refine w_exit ?_
    refine ⟨by repeat' first | exact aM | exact aR | refine aI rfl ?_ | refine aU rfl ?_ | refine aL rfl ?_, ?_⟩
    exact ⟨i, trivial, by omega, by omega, H⟩
  rintro i ρ1 w ⟨hi1, hi2, H⟩
  have hfe := footR_eq hi1 hi2
  have hfst : (rInt fb maxI ⟨0, 0⟩).1 = 3 := by
    unfold numberR at hnum
    split at hnum
    · cases hnum
    omega
  refine w_seq ?_
  refine w_region ?_
  refine l_pptr rfl rfl ?_
  refine b_call rfl cb_104 rfl (rText_ok (mo := 32) H hbr hbcp (rInts_ok2 (rInts_ok2 (rs0 _) 3) i) (by omega) (by decide)) (fun v w hv => ?_)
  obtain ⟨rfl, H⟩ := hv
  refine l_pstr rfl rfl ?_
  refine l_nil ?_
  refine w_seq ?_
  refine w_seq ?_
  refine w_region ?_
  refine l_pptr rfl rfl ?_
  refine b_call rfl cb_103 rfl (rEnd_ok H hbr hbcp (rText_ok2 (rInts_ok2 (rInts_ok2 (rs0 _) 3) i)) (by omega)) (fun v w hv => ?_)
  obtain ⟨rfl, H⟩ := hv
  refine l_pbool rfl rfl ?_
  refine l_pbool rfl rfl ?_
  refine l_split 46 rfl (fun h46 => ?_) (fun h46 => ?_)
  · try simp only [sH] at h46
    refine l_no rfl ?_
    refine l_no rfl ?_
    refine l_no rfl ?_
    refine l_pickT (v := .bool _) rfl rfl rfl ?_
    refine l_nil ?_
    refine w_cond_t rfl ?_
    refine w_seq ?_
    refine w_region ?_
    refine l_pint rfl rfl ?_
    refine l_pint rfl rfl ?_
    refine l_pint rfl rfl ?_
    refine l_nil ?_
    refine w_ret ?_
    refine fin2 rfl rfl ?_
    rw [tl1 (hfe.1 (by omega))]
    exact ⟨rfl, H.drop1⟩
  try simp only [sH] at h46
  refine l_pstr rfl rfl ?_
  refine l_v rfl (q_lenStr rfl st_9 rfl) ?_
  refine l_pbool rfl rfl ?_
  refine l_pickF (v := .bool _) rfl rfl rfl ?_
  refine l_nil ?_
  refine w_cond rfl (fun c2 => ?_) (fun c2 => ?_)
  · try simp only [sH] at c2
    refine w_seq ?_
    refine w_region ?_
    refine l_pint rfl rfl ?_
    refine l_pint rfl rfl ?_
    refine l_pint rfl rfl ?_
    refine l_nil ?_
    refine w_ret ?_
    refine fin2 rfl rfl ?_
    rw [tl1 (hfe.2.2.1 (by show ¬ (⟨(rText fb 32 (rInts fb (rInts fb ⟨0, 0⟩ 3).2 i).2).1.toArray⟩ : ByteArray).size = 32; omega))]
    exact ⟨rfl, H.drop1⟩
  try simp only [sH] at c2
  have hft : (footR fb).2.2 = true := by rw [hfe.2.2.2 (by omega) hfst (by show (⟨(rText fb 32 (rInts fb (rInts fb ⟨0, 0⟩ 3).2 i).2).1.toArray⟩ : ByteArray).size = 32; omega)]
  refine w_skip ?_
  refine w_seq ?_
  refine w_seq ?_
  refine w_drawT [] [8] [(0, 0), (1, 0), (2, 0), (3, 0), (4, 0), (7, 0), (8, 1), (5, 2), (6, 2), (9, 0)] mixed (by kernel_rfl) (fun _ _ _ h => fin_panic h) H (fun H => ?_)
  refine r_pint rfl rfl rfl ?_
  refine r_pslice rfl rfl rfl ?_
  refine r_pslice rfl rfl rfl ?_
  refine r_pint rfl rfl rfl ?_
  refine r_w rfl rfl (fun w => q_slice (l := 0) (h := q) (m := c) rfl el_50 rfl Bnd.none (Bnd.nat (by omega)) Bnd.none (by simp)) ?_
  refine r_pslice rfl rfl rfl ?_
  refine r_v rfl rfl (fun w hS => q_bytesStr (bs := fb) rfl by_50 st_9 rfl (hbr.use hS 1 rfl) rfl) ?_
  refine r_do rfl ?_
  refine b_call rfl cb_45 rfl (foot_r (fs := bs.take q) H (hpr.up 1 rfl) rfl (by have h := hr.subA (sz := 1) (l := 0) (m := c) (j := q) (fun e => by omega); rw [Nat.mul_one, ← List.map_drop, ← List.map_take] at h; exact h.up 1 rfl) (by rw [List.length_take]; omega) (by rw [List.length_take]; omega) (by omega) (by omega) hpm) (fun v w hv => ?_)
  obtain ⟨ka, kc, rfl, H⟩ := hv
  refine l_nil ⟨fun _ _ => (by first | exact H | exact H.drop1 | exact H.drop1.drop1 | exact H.drop1.drop1.drop1), ?_⟩
  refine r_do rfl ?_
  refine l_v rfl (q_bytesStr (bs := footB s.evs.length s.places (bs.take q)) rfl by_50 st_9 rfl ((H.rowInv (i := 0) rfl).2.2.2.2) rfl) ?_
  refine l_nil ⟨fun _ _ => (by first | exact H | exact H.drop1 | exact H.drop1.drop1 | exact H.drop1.drop1.drop1), ?_⟩
  refine r_w rfl rfl (fun w => q_pure (s_neq rfl rfl)) ?_
  refine r_nil ?_
  refine w_cond rfl (fun c3 => ?_) (fun c3 => ?_)
  · try simp only [sH] at c3
    refine w_seq ?_
    refine w_region ?_
    refine l_pint rfl rfl ?_
    refine l_pint rfl rfl ?_
    refine l_pint rfl rfl ?_
    refine l_nil ?_
    refine w_ret ?_
    refine fin2 rfl rfl ?_
    rw [tl2 hg hf hft c3]
    exact ⟨rfl, H.drop1.drop1⟩
  try simp only [sH] at c3
  refine w_skip ?_
  refine w_seq ?_
  refine w_seq ?_
  refine w_region ?_
  refine l_pslice rfl rfl ?_
  refine l_v rfl (q_lenSlice rfl el_50 rfl) ?_
  refine l_pint rfl rfl ?_
  first | refine l_v rfl (q_sub rfl rfl rfl (by simp only [inK]; omega)) ?_ | refine l_pint rfl rfl ?_
  refine l_pbool rfl rfl ?_
  refine l_nil ?_
  refine w_cond rfl (fun c4 => ?_) (fun c4 => ?_)
  · try simp only [sH] at c4
    refine w_seq ?_
    refine w_region ?_
    refine l_pint rfl rfl ?_
    refine l_pint rfl rfl ?_
    refine l_pint rfl rfl ?_
    refine l_nil ?_
    refine w_ret ?_
    refine fin2 rfl rfl ?_
    rw [tl3 hg hf hft c3 (by omega)]
    exact ⟨rfl, H.drop1.drop1⟩
  try simp only [sH] at c4
  refine w_skip ?_
  refine w_seq ?_
  refine w_seq ?_
  refine w_region ?_
  refine l_pslice rfl rfl ?_
  refine l_pint rfl rfl ?_
  refine b_call rfl cb_105 rfl (tailLen_ok (p := q + m) H (hr.up 2 rfl) rfl (by omega) (by omega) rfl) (fun v w hv => ?_)
  obtain ⟨rfl, H⟩ := hv
  refine l_pint rfl rfl ?_
  refine l_pint rfl rfl ?_
  first | refine l_v rfl (q_sub rfl rfl rfl (by simp only [inK]; omega)) ?_ | refine l_pint rfl rfl ?_
  refine l_pbool rfl rfl ?_
  refine l_nil ?_
  refine w_cond rfl (fun c5 => ?_) (fun c5 => ?_)
  · try simp only [sH] at c5
    refine w_seq ?_
    refine w_region ?_
    refine l_pint rfl rfl ?_
    refine l_pint rfl rfl ?_
    refine l_pint rfl rfl ?_
    refine l_nil ?_
    refine w_ret ?_
    refine fin2 rfl rfl ?_
    rw [tl4 hg hf (by omega) hft c3 (by omega) (by omega)]
    exact ⟨rfl, H.drop1.drop1⟩
  try simp only [sH] at c5
  refine w_skip ?_
  refine w_seq ?_
  refine w_seq ?_
  refine w_region ?_
  refine l_pslice rfl rfl ?_
  refine l_v rfl (q_lenSlice rfl el_50 rfl) ?_
  refine l_pint rfl rfl ?_
  first | refine l_v rfl (q_add rfl rfl rfl (by simp only [inK]; omega)) ?_ | refine l_pint rfl rfl ?_
  refine l_pbool rfl rfl ?_
  refine l_nil ?_
  refine w_cond rfl (fun c6 => ?_) (fun c6 => ?_)
  · try simp only [sH] at c6
    refine w_seq ?_
    refine w_region ?_
    refine l_pint rfl rfl ?_
    first | refine l_v rfl (q_add rfl rfl rfl (by simp only [inK]; omega)) ?_ | refine l_pint rfl rfl ?_
    refine l_pint rfl rfl ?_
    refine l_pint rfl rfl ?_
    refine l_nil ?_
    refine w_ret ?_
    refine fin2 rfl rfl ?_
    rw [tl5 hg hf (by omega) hft c3 (by omega) (by omega) (by omega)]
    exact ⟨rfl, H.drop1.drop1⟩
  try simp only [sH] at c6
  refine w_skip ?_
  refine w_seq ?_
  refine w_region ?_
  refine l_pint rfl rfl ?_
  refine l_pint rfl rfl ?_
  refine l_nil ?_
  refine w_ret ?_
  refine fin2 rfl rfl ?_
  rw [tl6 hg hf (by omega) hft c3 (by omega) (by omega) (by omega)]
  exact ⟨rfl, H.drop1.drop1⟩
end Go.Proofs.YtfpmnhmdphaceaaGreatDoor
namespace Go.Proofs.YtfpmnhmdphaceaaGreatDoor
open Go.EW
attribute [local irreducible] EW.W EW.L EW.fin block8 outB shaL
set_option linter.unusedVariables false
set_option linter.unusedSimpArgs false
attribute [local irreducible] crcN crcB crcL sealL openR sealR
/-- a chunk that may be, behind full chunks, is a chunk of the greedy cut -/
theorem cs_add {c : CS} {f : Nat} {ts : List Txt} (hfc : cnt (allC c) = f) (h32 : ts.length ≤ 32) (hlen : (chunkB f ts).length ≤ 32756) (h0 : c.cur.length = 0 → c.cs = []) (hf : c.cur.length > 0 → fitC c (ts.headD []) = false) :
    ∀ j, 1 ≤ j → j ≤ ts.length → (ts.take j).foldl addC c = ⟨allC c, ts.take j⟩
  | 0, h1, _ => absurd h1 (by decide)
  | 1, _, hj => by
    match ts, hj with
    | x :: r, _ =>
      rw [List.take_succ_cons, List.take_zero, List.foldl_cons, List.foldl_nil]
      unfold addC allC
      by_cases hp : c.cur.length > 0
      · rw [if_pos ⟨hp, hf hp⟩, if_pos hp]
      rw [if_neg (fun h => hp h.1), if_neg hp, List.length_eq_zero_iff.1 (show c.cur.length = 0 by omega)]; rfl
  | j + 2, _, hj => by
    have ih := cs_add hfc h32 hlen h0 hf (j + 1) (by omega) (by omega)
    have hlt : j + 1 < ts.length := by omega
    rw [List.take_succ_eq_append_getElem hlt, List.foldl_append, ih, List.foldl_cons, List.foldl_nil]
    have hl : (ts.take (j + 1)).length = j + 1 := by rw [List.length_take]; omega
    have hfit : fitC ⟨allC c, ts.take (j + 1)⟩ ts[j + 1] = true := by
      unfold fitC fitsN
      simp only [hl, hfc]
      rw [chunkB_len] at hlen
      have hs := sizeT_take ts (j + 2)
      rw [List.take_succ_eq_append_getElem hlt, sizeT_snoc] at hs
      have e1 : szN (j + 1 + 1) = 2 := by unfold szN; rw [klen_small _ (by omega) (by omega)]
      have e2 : szN ts.length = 2 := by unfold szN; rw [klen_small _ (by omega) (by omega)]
      rw [e1]
      rw [e2] at hlen
      rw [decide_eq_true (show j + 1 < 32 by omega), Bool.true_and, decide_eq_true_iff]
      omega
    unfold addC
    rw [if_neg (fun h => by rw [hfit] at h; exact absurd h.2 (by decide))]
/-- what a reading knows of the chunks so far -/
structure LI (us : List Txt) (s : SS) : Prop where
  emp : us = [] → s.places = [] ∧ s.last = []
  one : us ≠ [] → ∃ A, csOf us = ⟨A, s.last⟩ ∧ A.length + 1 = s.places.length ∧ cnt A = s.first ∧ s.last ≠ []
theorem LI.zero (st : Stp) : LI [] { ss0 with stp := st } := ⟨fun _ => ⟨rfl, rfl⟩, fun h => absurd rfl h⟩
theorem LI.setR {us : List Txt} {s : SS} (h : LI us s) (r : Nat) : LI us { s with right := r } := ⟨h.emp, h.one⟩
theorem LI.fits {us : List Txt} {s : SS} (h : LI us s) (hu : us ≠ []) (x : Txt) : (((chsOf (us ++ [x])).length : Int) == (s.places.length : Int)) = fitsN s.first s.last.length (sizeT s.last) x.length := by
  obtain ⟨A, h1, h2, h3, h4⟩ := h.one hu
  unfold chsOf
  rw [csOf_snoc, h1]
  have hp : s.last.length > 0 := List.length_pos_iff.2 h4
  have hfc : fitC ⟨A, s.last⟩ x = fitsN s.first s.last.length (sizeT s.last) x.length := by unfold fitC; simp only [h3]
  rw [← hfc]
  unfold addC
  by_cases hc : fitC ⟨A, s.last⟩ x = false
  · rw [if_pos ⟨hp, hc⟩, hc]
    unfold allC
    rw [if_pos (show [x].length > 0 from Nat.one_pos)]
    simp only [List.length_append, List.length_singleton]
    exact beq_eq_false_iff_ne.2 (by omega)
  rw [if_neg (fun h => hc h.2), show fitC ⟨A, s.last⟩ x = true by simpa using hc]
  unfold allC
  rw [if_pos (show (s.last ++ [x]).length > 0 by simp)]
  simp only [List.length_append, List.length_singleton]
  exact beq_iff_eq.2 (by omega)
theorem LI.last0 {us : List Txt} {s : SS} (h : LI us s) : s.last.length > 0 ↔ us ≠ [] := by
  refine ⟨fun h1 h2 => by rw [(h.emp h2).2] at h1; exact absurd h1 (by simp), fun h1 => ?_⟩
  obtain ⟨A, _, _, _, h4⟩ := h.one h1
  exact List.length_pos_iff.2 h4
/-- a chunk that is taken -/
theorem LI.next {us : List Txt} {s : SS} {b : List UInt8} {q : Nat} (h : LI us s) (hu : us.length = s.evs.length) (hb : b.length ≤ 32756) (hc : (chunkR s b q).1 = true) : LI (us ++ (eventsR b).2.2.1) (chunkR s b q).2 := by
  unfold chunkR at hc ⊢
  split at hc
  · cases hc
  rename_i hk
  rw [if_neg hk]
  have hev : (eventsR b).2.2.2 = true := by
    cases h2 : (eventsR b).2.2.2 with
    | true => rfl
    | false => exact absurd (.inl h2) hk
  have hfst : (eventsR b).1 = s.evs.length := Classical.byContradiction fun h2 => hk (.inr (.inl h2))
  have hg := eventsR_good hev
  have hl := eventsR_len b
  have h1 := hl.2.2.2 hev
  have hne : (eventsR b).2.2.1 ≠ [] := fun h2 => by
    have := congrArg List.length h2
    rw [hl.2.1] at this; simp at this; simp [this] at h1
  refine ⟨fun h2 => absurd (List.append_eq_nil_iff.1 h2).2 hne, fun _ => ⟨chsOf us, ?_, ?_, ?_, hne⟩⟩
  · have hcs := cs_add (c := csOf us) (f := s.evs.length) (ts := (eventsR b).2.2.1) (by rw [← hu]; exact cnt_all us) (by omega) (by rw [← hfst, ← hg.1]; exact hb) (fun h0 => by
        by_cases hu0 : us = []
        · rw [hu0]; rfl
        · obtain ⟨A, e1, _, _, e4⟩ := h.one hu0
          rw [e1] at h0; exact absurd (List.length_eq_zero_iff.1 h0) e4) (fun h0 => by
        have hu0 : us ≠ [] := fun h2 => by rw [h2] at h0; exact absurd h0 (by decide)
        obtain ⟨A, e1, e2, e3, e4⟩ := h.one hu0
        rw [e1]
        unfold fitC
        simp only [e3]
        cases h5 : fitsN s.first s.last.length (sizeT s.last) ((eventsR b).2.2.1.headD []).length with
        | false => rfl
        | true => exact absurd (.inr (.inr (.inr ⟨List.length_pos_iff.2 e4, h5⟩))) hk) (eventsR b).2.2.1.length (by omega) (Nat.le_refl _)
    rw [List.take_length] at hcs
    show csOf (us ++ _) = _
    unfold csOf at hcs ⊢
    rw [List.foldl_append, hcs]; rfl
  · show (chsOf us).length + 1 = (s.places ++ [q]).length
    rw [List.length_append, List.length_singleton]
    by_cases hu0 : us = []
    · rw [hu0, (h.emp hu0).1]; rfl
    obtain ⟨A, e1, e2, e3, e4⟩ := h.one hu0
    unfold chsOf
    rw [e1]
    unfold allC
    rw [if_pos (List.length_pos_iff.2 e4), List.length_append, List.length_singleton]; simp only []; omega
  show cnt (chsOf us) = (eventsR b).1
  rw [cnt_all, hu, hfst]
/-- what is refused -/
theorem chunkR_no {us : List Txt} {s : SS} {b : List UInt8} {q : Nat} (h : (eventsR b).2.2.2 = false ∨ (eventsR b).1 ≠ s.evs.length ∨ 4096 < s.evs.length + (eventsR b).2.1.length ∨ (s.last.length > 0 ∧ fitsN s.first s.last.length (sizeT s.last) ((eventsR b).2.2.1.headD []).length = true)) : chunkR s b q = (false, s) := if_pos h
theorem chunkR_yes {s : SS} {b : List UInt8} {q : Nat} (h : ¬ ((eventsR b).2.2.2 = false ∨ (eventsR b).1 ≠ s.evs.length ∨ 4096 < s.evs.length + (eventsR b).2.1.length ∨ (s.last.length > 0 ∧ fitsN s.first s.last.length (sizeT s.last) ((eventsR b).2.2.1.headD []).length = true))) : chunkR s b q = (true, { s with first := (eventsR b).1, last := (eventsR b).2.2.1, evs := s.evs ++ (eventsR b).2.1, places := s.places ++ [q] }) := if_neg h
section
variable {bs fb : List UInt8} {s : SS} {q m : Nat}
theorem tail_sum (hg : (bs.drop q).take m = sealL fb) (hf : fb.length ≤ 32756) (hm : m ≤ 32768) (hm1 : 1 ≤ m) (hqm : q + m ≤ bs.length) :
    (tailR bs { s with right := q } q fb m).2.2.stp = s.stp ∧ (tailR bs { s with right := q } q fb m).2.2.evs = s.evs ∧
    (((tailR bs { s with right := q } q fb m).2.1 = q ∧ (tailR bs { s with right := q } q fb m).2.2.right = q ∧ ((tailR bs { s with right := q } q fb m).1 = 220 ∨ (tailR bs { s with right := q } q fb m).1 = 221)) ∨
     (q < (tailR bs { s with right := q } q fb m).2.1 ∧ (tailR bs { s with right := q } q fb m).1 ≠ 0 ∧ (tailR bs { s with right := q } q fb m).2.2.right = (if q + m + 4 ≤ bs.length ∧ numB ((bs.drop (q + m)).take 4) = m then q + m + 4 else q + m)) ∨
     ((tailR bs { s with right := q } q fb m).1 = 0 ∧ (tailR bs { s with right := q } q fb m).2.2.right = bs.length)) := by
  cases h : (footR fb).2.2 with
  | false => rw [tl1 h]; exact ⟨rfl, rfl, .inl ⟨rfl, rfl, .inl rfl⟩⟩
  | true =>
    by_cases h2 : footB s.evs.length s.places (bs.take q) = fb
    · by_cases h3 : bs.length - (q + m) < 4
      · rw [tl3 (s := { s with right := q }) hg hf h h2 h3]
        exact ⟨rfl, rfl, .inr (.inl ⟨by simp only []; omega, by simp only []; omega, by rw [if_neg (fun h => by omega)]⟩)⟩
      by_cases h4 : numB ((bs.drop (q + m)).take 4) = m
      · by_cases h5 : q + m + 4 < bs.length
        · rw [tl5 (s := { s with right := q }) hg hf hm h h2 h3 h4 h5]
          exact ⟨rfl, rfl, .inr (.inl ⟨by simp only []; omega, by simp only []; omega, by rw [if_pos ⟨by omega, h4⟩]⟩)⟩
        rw [tl6 (s := { s with right := q }) hg hf hm h h2 h3 h4 h5]
        exact ⟨rfl, rfl, .inr (.inr ⟨rfl, by simp only []; omega⟩)⟩
      rw [tl4 (s := { s with right := q }) hg hf hm h h2 h3 h4]
      exact ⟨rfl, rfl, .inr (.inl ⟨by simp only []; omega, by simp only []; omega, by rw [if_neg (fun h => h4 h.2)]⟩)⟩
    rw [tl2 (s := { s with right := q }) hg hf h h2]; exact ⟨rfl, rfl, .inl ⟨rfl, rfl, .inr rfl⟩⟩
end
end Go.Proofs.YtfpmnhmdphaceaaGreatDoor
