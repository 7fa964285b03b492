/- A part of this claim: laws of the tape's functions and of plain lists; no conditions beyond those that the theorems name. -/
import Derived.Test.YtfpmnhmdphaceaaGreatDoorZap45
import Derived.Test.YtfpmnhmdphaceaaGreatDoorZapP13
namespace Go.Proofs.YtfpmnhmdphaceaaGreatDoor
open Go.EW
attribute [local irreducible] EW.W EW.L EW.fin block8 outB shaL
set_option linter.unusedVariables false
set_option linter.unusedSimpArgs false
attribute [local irreducible] crcN crcB crcL sealL openR sealR
set_option maxRecDepth 8000 in
set_option maxHeartbeats 1000000 in
theorem head_r {W w : World} {F : List Seg} (H : St W w F) (s : Stp) (hso : StpOk s) (hc : chkS s = 0) {a : Option Addr} {c : Nat} (hr : RdIn W F a (intsV s.cls)) :
    Ok Tryz.prog 42 [.agg (s.cells a c).toArray].toArray w (fun r w' => ∃ a' c', r = .slice a' (headB s).length c' ∧ St W w' (row 5 1 a' (headB s).length c' ((headB s).map B) :: F)) := by
  obtain ⟨hcf, hcl, hcn⟩ := chk_inv hc
  unfold cfgOk at hcf
  have hz := fun v => formL_len v
  have hsz := fun i => numsB_len (s.cls.take i)
  have hhv : (numsB (hv s)).length ≤ 63 := by have := numsB_len (hv s); have : (hv s).length = 7 := rfl; omega
  refine enter (n := 48) (rs := #[.tmp 2]) Tryz.func42 rfl rfl rfl rfl ?_
  refine w_seq ?_
  refine w_region ?_
  refine b_box (cs := s.cells a c) rfl rfl rfl H (fun b1 w H => ?_)
  refine l_pslice rfl rfl ?_
  refine l_nil ?_
  refine w_seq ?_
  refine w_region ?_
  refine b_call rfl cb_34 rfl (rputZ_ok (x := 1) (bs := []) (St.newRow (T := 5) (sz := 1) H) ⟨by decide, by decide⟩ (by simp)) (fun v w hv => ?_)
  obtain ⟨a5, c5, rfl, H⟩ := hv
  refine b_call rfl cb_34 rfl (rputZ_ok (x := 1) H ⟨by omega, by omega⟩ (by have h1 := formL_len 1; have h2 := formL_len s.f.toNat; have h3 := formL_len s.room.toNat; have h4 := formL_len s.pat.toNat; have h5 := formL_len 0; simp only [List.length_append, List.nil_append, List.length_nil, show Int.toNat 1 = 1 from rfl, show Int.toNat 0 = 0 from rfl]; omega)) (fun v w hv => ?_)
  obtain ⟨a6, c6, rfl, H⟩ := hv
  refine l_pslice rfl rfl ?_
  refine l_nil ?_
  refine w_seq ?_
  refine w_drawX [12] [3, 7, 11] 1 [(0, 0), (1, 0), (2, 0), (3, 1), (5, 0), (6, 0), (7, 1), (9, 0), (10, 0), (11, 1), (4, 2), (8, 2), (12, 2), (13, 0)] mixed (by kernel_rfl) (fun _ _ _ h => fin_panic h) H (fun H => ?_)
  refine r_pslice rfl rfl rfl ?_
  refine r_w rfl rfl (fun w => q_fieldAddr rfl fo26_0 rfl) ?_
  refine r_w rfl rfl (fun w => q_fieldAddr rfl fo23_0 rfl) ?_
  refine r_v rfl rfl (fun w hS => q_load1 rfl c1_3 rfl (hS.cell 0 rfl rfl)) ?_
  refine r_w rfl rfl (fun w => q_fieldAddr rfl fo26_0 rfl) ?_
  refine r_w rfl rfl (fun w => q_fieldAddr rfl fo23_1 rfl) ?_
  refine r_v rfl rfl (fun w hS => q_load1 rfl c1_3 rfl (hS.cell 0 rfl rfl)) ?_
  refine r_w rfl rfl (fun w => q_fieldAddr rfl fo26_0 rfl) ?_
  refine r_w rfl rfl (fun w => q_fieldAddr rfl fo23_2 rfl) ?_
  refine r_v rfl rfl (fun w hS => q_load1 rfl c1_3 rfl (hS.cell 0 rfl rfl)) ?_
  refine r_do rfl ?_
  refine b_call rfl cb_34 rfl (rputZ_ok (x := s.f) H ⟨by omega, by omega⟩ (by have h1 := formL_len 1; have h2 := formL_len s.f.toNat; have h3 := formL_len s.room.toNat; have h4 := formL_len s.pat.toNat; have h5 := formL_len 0; simp only [List.length_append, List.nil_append, List.length_nil, show Int.toNat 1 = 1 from rfl, show Int.toNat 0 = 0 from rfl]; omega)) (fun v w hv => ?_)
  obtain ⟨a11, c11, rfl, H⟩ := hv
  refine l_nil ⟨fun _ _ => Sx.tl H 1 rfl, ?_⟩
  refine r_do rfl ?_
  refine b_call rfl cb_34 rfl (rputZ_ok (x := s.room) H ⟨by omega, by omega⟩ (by have h1 := formL_len 1; have h2 := formL_len s.f.toNat; have h3 := formL_len s.room.toNat; have h4 := formL_len s.pat.toNat; have h5 := formL_len 0; simp only [List.length_append, List.nil_append, List.length_nil, show Int.toNat 1 = 1 from rfl, show Int.toNat 0 = 0 from rfl]; omega)) (fun v w hv => ?_)
  obtain ⟨a15, c15, rfl, H⟩ := hv
  refine l_nil ⟨fun _ _ => Sx.tl H 1 rfl, ?_⟩
  refine r_do rfl ?_
  refine b_call rfl cb_34 rfl (rputZ_ok (x := s.pat) H ⟨by omega, by omega⟩ (by have h1 := formL_len 1; have h2 := formL_len s.f.toNat; have h3 := formL_len s.room.toNat; have h4 := formL_len s.pat.toNat; have h5 := formL_len 0; simp only [List.length_append, List.nil_append, List.length_nil, show Int.toNat 1 = 1 from rfl, show Int.toNat 0 = 0 from rfl]; omega)) (fun v w hv => ?_)
  obtain ⟨a19, c19, rfl, H⟩ := hv
  refine l_nil ⟨(fun h => nomatch h), ?_⟩
  refine r_pslice rfl rfl rfl ?_
  refine r_nil ?_
  refine w_cutG (G := Option Addr × Nat) [3, 20, 21, 22, 23, 24, 25, 26] (fun ⟨xa, xc⟩ => [(3, .slice xa (formL (Int.toNat 1) ++ formL (Int.toNat 1) ++ formL s.f.toNat ++ formL s.room.toNat ++ formL s.pat.toNat ++ formL (plainN s).toNat).length xc)]) (fun ⟨xa, xc⟩ w => St W w (row 5 1 xa (formL (Int.toNat 1) ++ formL (Int.toNat 1) ++ formL s.f.toNat ++ formL s.room.toNat ++ formL s.pat.toNat ++ formL (plainN s).toNat).length xc ((formL (Int.toNat 1) ++ formL (Int.toNat 1) ++ formL s.f.toNat ++ formL s.room.toNat ++ formL s.pat.toNat ++ formL (plainN s).toNat).map B) :: blk b1 (s.cells a c) 26 :: F)) (fun _ => rfl) ?_ ?_
  · refine w_seq ?_
    refine w_region ?_
    refine l_v rfl (q_fieldAddr rfl fo26_0 rfl) ?_
    refine l_v rfl (q_fieldAddr rfl fo23_3 rfl) ?_
    refine l_v rfl (q_load1 rfl c1_4 rfl (H.cell 1 rfl rfl)) ?_
    refine l_nil ?_
    refine w_cond rfl (fun c1 => ?_) (fun c1 => ?_)
    · try simp only [sH] at c1
      refine w_region ?_
      refine l_pslice rfl rfl ?_
      refine b_call rfl cb_34 rfl (rputZ_ok (x := 1) H ⟨by omega, by omega⟩ (by have h1 := formL_len 1; have h2 := formL_len s.f.toNat; have h3 := formL_len s.room.toNat; have h4 := formL_len s.pat.toNat; have h5 := formL_len 0; simp only [List.length_append, List.nil_append, List.length_nil, show Int.toNat 1 = 1 from rfl, show Int.toNat 0 = 0 from rfl]; omega)) (fun v w hv => ?_)
      obtain ⟨a24, c24, rfl, H⟩ := hv
      refine l_pslice rfl rfl ?_
      refine l_nil ?_
      refine ⟨by repeat' first | exact aM | exact aR | refine aI rfl ?_ | refine aU rfl ?_ | refine aL rfl ?_, ?_⟩
      have e : plainN s = 1 := by unfold plainN; rw [if_pos c1]
      rw [List.nil_append] at H
      exact ⟨(a24, c24), ⟨by rw [e, List.nil_append]; rfl, trivial⟩, by rw [e]; exact H⟩
    try simp only [sH] at c1
    refine w_region ?_
    refine l_pslice rfl rfl ?_
    refine b_call rfl cb_34 rfl (rputZ_ok (x := 0) H ⟨by omega, by omega⟩ (by have h1 := formL_len 1; have h2 := formL_len s.f.toNat; have h3 := formL_len s.room.toNat; have h4 := formL_len s.pat.toNat; have h5 := formL_len 0; simp only [List.length_append, List.nil_append, List.length_nil, show Int.toNat 1 = 1 from rfl, show Int.toNat 0 = 0 from rfl]; omega)) (fun v w hv => ?_)
    obtain ⟨a26, c26, rfl, H⟩ := hv
    refine l_pslice rfl rfl ?_
    refine l_nil ?_
    refine ⟨by repeat' first | exact aM | exact aR | refine aI rfl ?_ | refine aU rfl ?_ | refine aL rfl ?_, ?_⟩
    have e : plainN s = 0 := by unfold plainN; rw [if_neg (by rw [c1]; decide)]
    rw [List.nil_append] at H
    exact ⟨(a26, c26), ⟨by rw [e, List.nil_append]; rfl, trivial⟩, by rw [e]; exact H⟩
  rintro ⟨xa, xc⟩ ρ1 w H
  have hhd : formL (Int.toNat 1) ++ formL (Int.toNat 1) ++ formL s.f.toNat ++ formL s.room.toNat ++ formL s.pat.toNat ++ formL (plainN s).toNat ++ formL s.cls.length = numsB (hv s) := by
    unfold numsB hv
    simp only [List.flatMap_cons, List.flatMap_nil, List.append_nil, Int.toNat_natCast, List.append_assoc]
  refine w_seq ?_
  refine w_region ?_
  refine l_pslice rfl rfl ?_
  refine l_v rfl (q_fieldAddr rfl fo26_1 rfl) ?_
  refine l_v rfl (q_load1 rfl c1_24 rfl (H.cell 1 rfl rfl)) ?_
  refine l_v rfl (q_lenSlice rfl el_24 rfl) ?_
  refine b_call rfl cb_34 rfl (rput_ok (n := s.cls.length) H (by omega) (by have h1 := formL_len 1; have h2 := formL_len s.f.toNat; have h3 := formL_len s.room.toNat; have h4 := formL_len s.pat.toNat; have h5 := formL_len (plainN s).toNat; simp only [List.length_append, List.nil_append, List.length_nil, show Int.toNat 1 = 1 from rfl]; omega)) (fun v w hv => ?_)
  obtain ⟨a31, c31, rfl, H⟩ := hv
  rw [hhd] at H ⊢
  refine l_pslice rfl rfl ?_
  refine l_nil ?_
  refine w_seq ?_
  refine w_seq ?_
  refine w_region ?_
  refine l_pint rfl rfl ?_
  refine l_nil ?_
  refine w_block ?_
  refine w_loopG (G := Nat × Option Addr × Nat) [3, 4, 32, 33, 34, 35, 36, 37, 38, 39, 40, 41, 42, 43, 44, 45, 46] (fun ⟨i, xa, xc⟩ => [(3, .slice xa (numsB (hv s) ++ numsB (s.cls.take i)).length xc), (4, I (i : Int))]) (fun m ⟨i, xa, xc⟩ w => m + i = s.cls.length ∧ St W w (row 5 1 xa (numsB (hv s) ++ numsB (s.cls.take i)).length xc ((numsB (hv s) ++ numsB (s.cls.take i)).map B) :: blk b1 (s.cells a c) 26 :: F)) (fun _ => rfl) ?_ ?_
  · refine ⟨s.cls.length, (0, a31, c31), ⟨?_, rfl, trivial⟩, rfl, ?_⟩
    · rw [List.take_zero, show numsB [] = [] from rfl, List.append_nil]; rfl
    rw [List.take_zero, show numsB [] = [] from rfl, List.append_nil]; exact H
  rintro m ⟨i, xa, xc⟩ ρ1 w ⟨hmi, H⟩
  refine w_seq ?_
  refine w_seq ?_
  refine w_region ?_
  refine l_pint rfl rfl ?_
  refine l_v rfl (q_fieldAddr rfl fo26_1 rfl) ?_
  refine l_v rfl (q_load1 rfl c1_24 rfl (H.cell 1 rfl rfl)) ?_
  refine l_v rfl (q_lenSlice rfl el_24 rfl) ?_
  refine l_pbool rfl rfl ?_
  refine l_nil ?_
  refine w_cond rfl (fun c2 => ?_) (fun c2 => ?_)
  · try simp only [sH] at c2
    have hi : i < s.cls.length := by omega
    obtain ⟨pb, po, hpa, hpc⟩ := int_at (hr.use H 2 rfl) hi
    refine w_skip ?_
    refine w_seq ?_
    refine w_block ?_
    refine w_region ?_
    refine l_pslice rfl rfl ?_
    refine l_v rfl (q_fieldAddr rfl fo26_1 rfl) ?_
    refine l_v rfl (q_load1 rfl c1_24 rfl (H.cell 1 rfl rfl)) ?_
    refine l_pint rfl rfl ?_
    refine l_v rfl (q_indexSliceE i rfl el_24 rfl hpa rfl rfl hi) ?_
    refine l_v rfl (q_fieldAddr rfl fo36_0 rfl) ?_
    refine l_v rfl (q_load1 rfl c1_3 rfl hpc) ?_
    refine b_call rfl cb_34 rfl (rputZ_ok (x := s.cls[i]) H ⟨any_no hcn hi, hso _ (List.getElem_mem hi)⟩ (by have := hsz i; rw [List.length_take] at this; simp only [List.length_append]; omega)) (fun v w hv => ?_)
    obtain ⟨a46, c46, rfl, H⟩ := hv
    refine l_pslice rfl rfl ?_
    refine l_nil ?_
    refine w_region ?_
    refine l_pint rfl rfl ?_
    first | refine l_v rfl (q_add rfl rfl rfl (by simp only [inK]; omega)) ?_ | refine l_pint rfl rfl ?_
    refine l_pint rfl rfl ?_
    refine l_nil ?_
    refine ⟨by repeat' first | exact aM | exact aR | refine aI rfl ?_ | refine aU rfl ?_ | refine aL rfl ?_, ?_⟩
    have hct : numsB (hv s) ++ numsB (s.cls.take (i + 1)) = numsB (hv s) ++ numsB (s.cls.take i) ++ formL s.cls[i].toNat := by rw [numsB_take hi, ← List.append_assoc]
    refine ⟨m - 1, (i + 1, a46, c46), by omega, ⟨by show _ = Value.slice a46 (numsB (hv s) ++ numsB (s.cls.take (i + 1))).length c46; rw [hct]; rfl, by exact congrArg (Value.int IntKind.i64) (Int.natCast_succ i).symm, trivial⟩, by omega, ?_⟩
    rw [hct]
    exact H
  try simp only [sH] at c2
  obtain rfl : i = s.cls.length := by omega
  refine w_exit ?_
  refine w_seq ?_
  refine w_region ?_
  refine l_pslice rfl rfl ?_
  refine l_pslice rfl rfl ?_
  refine l_nil ?_
  refine w_ret ?_
  refine fin1 (v := .slice _ _ _) rfl ?_
  have e : numsB (hv s) ++ numsB (s.cls.take s.cls.length) = headB s := by unfold headB; rw [List.take_length]
  rw [e] at H ⊢
  exact ⟨xa, xc, rfl, H.erase 1⟩
end Go.Proofs.YtfpmnhmdphaceaaGreatDoor
