/- Walks through the tape's functions. -/
import Derived.Test.YtfpmnhmdphaceaaDoorTap5
import Derived.Test.YtfpmnhmdphaceaaDoorTap4
namespace Go.Proofs.YtfpmnhmdphaceaaDoor
open Go.EW
attribute [local irreducible] EW.W EW.L EW.fin block8 outB shaL
set_option linter.unusedVariables false
set_option linter.unusedSimpArgs false
theorem RIntM_ok {W w : World} {F : List Seg} {rb : Nat} {a : Option Addr} {cap : Nat} {bs : List UInt8} {s : Rs} (H : St W w (readerL rb a cap bs s F)) (hs : RsOk2 bs s) (hb : bs.length ≤ 140737488355328) :
    Ok Tryd.prog 51 [.pointer (some ⟨rb, 0, none⟩), I 9223372036854775807].toArray w (fun r w' => r = I ((rInt bs maxI s).1 : Int) ∧ St W w' (readerL rb a cap bs (rInt bs maxI s).2 F)) := RInt_ok (mo := maxI) H hs hb (by decide)
theorem evt_put1 (e : Evt) (a : Option Addr) (c : Nat) {i : Nat} (hi : i < 6) (x : Int) : putL (e.cells a c) (i + 1) [I x] = (e.put i x).cells a c := by
  have h := evt_put e a c hi x
  rwa [Nat.zero_add] at h
theorem put_bs (e : Evt) (i : Nat) (x : Int) : (e.put i x).bs = e.bs := by
  unfold Evt.put
  split <;> rfl
theorem ggo_bs {b : List UInt8} {u : Nat} {st : Evt × Rs} : ∀ i, (ggo b u st i).1.bs = st.1.bs
  | 0 => rfl
  | i + 1 => by
    rw [ggo, gnum]
    split
    · rw [put_bs]; exact ggo_bs i
    exact ggo_bs i
theorem rs0 (b : List UInt8) : RsOk2 b ⟨0, 0⟩ := ⟨Nat.zero_le _, Nat.zero_le _⟩
/-- an event that is being read -/
def gevL (rb b5 b2 : Nat) (ra : Option Addr) (rc : Nat) (bs : List UInt8) (e : Evt) (s : Rs) (a : Option Addr) (c : Nat) (F : List Seg) : List Seg :=
  readerL rb ra rc bs s (rowF 5 1 a e.bs.length c (e.bs.map B) :: blk b5 (e.cells a c) 30 :: blk b2 (evt0.cells none 0) 30 :: F)
set_option maxRecDepth 8000 in
set_option maxHeartbeats 1000000 in
theorem GetEvent_ok {W w : World} {F : List Seg} (H : St W w F) {aa : Option Addr} {n cc : Nat} {bs : List UInt8} (hr : RdIn W F aa (bs.map B)) (hl : bs.length = n) (hn : n ≤ 140737488355328) :
    Ok Tryd.prog 14 [.slice aa n cc].toArray w (fun r w' => ∃ a' c', r = .tuple #[.agg ((getEv bs).1.cells a' c').toArray, .int .i64 ((getEv bs).2 : Int)] ∧ St W w' (rowF 5 1 a' (getEv bs).1.bs.length c' ((getEv bs).1.bs.map B) :: F)) := by
  have hs0 := rInt_ok2 (m := maxI) (rs0 bs)
  have hb : bs.length ≤ 140737488355328 := by omega
  have hul := uses_lt (gkind bs)
  refine enter (n := 90) (rs := #[.cell 2 30, .tmp 3]) Tryd.func14 rfl rfl rfl rfl ?_
  refine w_seq ?_
  refine w_region ?_
  refine b_alloc (cs := evt0.cells none 0) rfl ze_30 rfl H (fun b2 w H => ?_)
  refine l_pint rfl rfl ?_
  refine l_nil ?_
  refine w_seq ?_
  refine w_region ?_
  refine l_pslice rfl rfl ?_
  refine b_call rfl cb_50 rfl (NewReader_ok H (hr.up 1 rfl) hl hn) (fun v w hv => ?_)
  obtain ⟨rb, ra, rc, rfl, H⟩ := hv
  refine l_pptr rfl rfl ?_
  refine l_nil ?_
  refine w_seq ?_
  refine w_region ?_
  refine b_alloc (cs := evt0.cells none 0) rfl ze_30 rfl H (fun b5 w H => ?_)
  have H : St W w (gevL rb b5 b2 ra rc bs (evt0) (⟨0, 0⟩) (none) 0 F) := St.pick [2, 3, 0, 1] (pre := [_, _, _, _]) rfl (St.newF (T := 5) (sz := 1) H) rfl
  refine l_nil ?_
  refine w_seq ?_
  refine w_region ?_
  refine l_pptr rfl rfl ?_
  refine b_call rfl cb_51 rfl (RIntM_ok H (rs0 bs) hb) (fun v w hv => ?_)
  obtain ⟨rfl, H⟩ := hv
  refine l_pint rfl rfl ?_
  refine l_nil ?_
  refine w_seq ?_
  refine w_seq ?_
  refine w_region ?_
  refine l_pptr rfl rfl ?_
  refine b_call rfl cb_52 rfl (RAt_ok H) (fun v w hv => ?_)
  obtain ⟨rfl, H⟩ := hv
  refine l_pbool rfl rfl ?_
  refine l_nil ?_
  refine w_cond rfl (fun c1 => ?_) (fun c1 => ?_)
  · try simp only [sH] at c1
    refine w_seq ?_
    refine w_region ?_
    refine l_v rfl (q_build (cs := evt0.cells none 0) rfl sp_30 rfl) ?_
    refine l_pptr rfl rfl ?_
    refine b_call rfl cb_53 rfl (REnd_ok H) (fun v w hv => ?_)
    obtain ⟨rfl, H⟩ := hv
    refine b_store rfl sz_30 rfl rfl rfl rfl rfl H 4 rfl rfl (putL_all rfl) (fun w H => ?_)
    refine l_pint rfl rfl ?_
    refine l_nil ?_
    refine w_ret ?_
    refine finc2 rfl ag_30 rfl (by first | exact H.cells 0 rfl | exact H.cells 1 rfl | exact H.cells 2 rfl | exact H.cells 3 rfl | exact H.cells 4 rfl) rfl ?_
    have hp : getEv bs = (evt0, rEnd bs (rInt bs maxI ⟨0, 0⟩).2) := if_pos (by omega)
    rw [hp]
    exact ⟨none, 0, rfl, St.newF (T := 5) (sz := 1) (H.drop1.drop1.drop1.drop1.drop1)⟩
  try simp only [sH] at c1
  refine w_skip ?_
  refine w_cutG (G := Unit) [21, 22, 23, 24, 25, 26, 27, 28] (fun ⟨⟩ => []) (fun ⟨⟩ w => St W w (gevL rb b5 b2 ra rc bs ({ evt0 with k := gkind bs }) ((rInt bs maxI ⟨0, 0⟩).2) (none) 0 F)) (fun _ => rfl) ?_ ?_
  · refine w_seq ?_
    refine w_region ?_
    refine l_pint rfl rfl ?_
    refine l_pbool rfl rfl ?_
    refine l_pbool rfl rfl ?_
    refine l_split 23 rfl (fun h23 => ?_) (fun h23 => ?_)
    · try simp only [sH] at h23
      refine l_pint rfl rfl ?_
      refine l_pbool rfl rfl ?_
      refine l_pickT (v := .bool _) rfl rfl rfl ?_
      refine l_nil ?_
      refine w_cond rfl (fun c2 => ?_) (fun c2 => ?_)
      · try simp only [sH] at c2
        refine w_region ?_
        refine l_pint rfl rfl ?_
        refine l_v rfl (q_fieldAddr rfl fo30_0 rfl) ?_
        refine b_store (cs' := ({ evt0 with k := (rInt bs maxI ⟨0, 0⟩).1 } : Evt).cells none 0) rfl sz_22 rfl rfl rfl rfl rfl H 3 rfl rfl rfl (fun w H => ?_)
        refine l_nil ?_
        refine ⟨by repeat' first | exact aM | exact aR | refine aI rfl ?_ | refine aU rfl ?_ | refine aL rfl ?_, ?_⟩
        refine ⟨⟨⟩, trivial, ?_⟩
        first
          | (have hk : gkind bs = (((rInt bs maxI ⟨0, 0⟩).1 : Nat) : Int) := if_pos ⟨by omega, by omega⟩
             rw [hk]; exact H)
          | (have hk : gkind bs = 0 := if_neg (by omega)
             rw [hk]; exact H)
      try simp only [sH] at c2
      refine w_skip ?_
      refine ⟨by repeat' first | exact aM | exact aR | refine aI rfl ?_ | refine aU rfl ?_ | refine aL rfl ?_, ?_⟩
      refine ⟨⟨⟩, trivial, ?_⟩
      first
        | (have hk : gkind bs = (((rInt bs maxI ⟨0, 0⟩).1 : Nat) : Int) := if_pos ⟨by omega, by omega⟩
           rw [hk]; exact H)
        | (have hk : gkind bs = 0 := if_neg (by omega)
           rw [hk]; exact H)
    try simp only [sH] at h23
    refine l_no rfl ?_
    refine l_no rfl ?_
    refine l_pickF (v := .bool _) rfl rfl rfl ?_
    refine l_nil ?_
    refine w_cond_f rfl ?_
    refine w_skip ?_
    refine ⟨by repeat' first | exact aM | exact aR | refine aI rfl ?_ | refine aU rfl ?_ | refine aL rfl ?_, ?_⟩
    refine ⟨⟨⟩, trivial, ?_⟩
    first
      | (have hk : gkind bs = (((rInt bs maxI ⟨0, 0⟩).1 : Nat) : Int) := if_pos ⟨by omega, by omega⟩
         rw [hk]; exact H)
      | (have hk : gkind bs = 0 := if_neg (by omega)
         rw [hk]; exact H)
  rintro ⟨⟩ ρ1 w H
  refine w_seq ?_
  refine w_region ?_
  refine l_v rfl (q_fieldAddr rfl fo30_0 rfl) ?_
  refine l_v rfl (q_load1 rfl c1_22 rfl (by first | exact H.cell 0 rfl rfl | exact H.cell 1 rfl rfl | exact H.cell 2 rfl rfl | exact H.cell 3 rfl rfl | exact H.cell 4 rfl rfl)) ?_
  refine b_call rfl cb_41 rfl (uses_ok H (gkind bs)) (fun v w hv => ?_)
  obtain ⟨rfl, H⟩ := hv
  refine l_pint rfl rfl ?_
  refine l_nil ?_
  refine w_seq ?_
  refine w_seq ?_
  refine w_region ?_
  refine l_pint rfl rfl ?_
  refine l_pbool rfl rfl ?_
  refine l_nil ?_
  refine w_cond rfl (fun c3 => ?_) (fun c3 => ?_)
  · try simp only [sH] at c3
    refine w_seq ?_
    refine w_region ?_
    refine l_v rfl (q_build (cs := evt0.cells none 0) rfl sp_30 rfl) ?_
    refine b_store rfl sz_30 rfl rfl rfl rfl rfl H 4 rfl rfl (putL_all rfl) (fun w H => ?_)
    refine l_pint rfl rfl ?_
    refine l_nil ?_
    refine w_ret ?_
    refine finc2 rfl ag_30 rfl (by first | exact H.cells 0 rfl | exact H.cells 1 rfl | exact H.cells 2 rfl | exact H.cells 3 rfl | exact H.cells 4 rfl) rfl ?_
    have hp : getEv bs = (evt0, 150) := by unfold getEv; rw [if_neg (by omega), if_pos (by omega)]
    rw [hp]
    exact ⟨none, 0, rfl, St.newF (T := 5) (sz := 1) (H.drop1.drop1.drop1.drop1.drop1)⟩
  try simp only [sH] at c3
  refine w_skip ?_
  refine w_seq ?_
  refine w_seq ?_
  refine w_region ?_
  refine b_call rfl cb_42 rfl (ints_ok H b5) (fun v w hv => ?_)
  obtain ⟨rfl, H⟩ := hv
  refine l_pint rfl rfl ?_
  refine l_nil ?_
  refine w_block ?_
  refine w_loopG (G := Nat × Evt × Rs) [8, 9, 36, 37, 38, 39, 40, 41, 42, 43, 44, 45, 46, 47, 48, 49] (fun ⟨i, e, s⟩ => [(36, .int .i64 ((i : Nat) : Int))]) (fun m ⟨i, e, s⟩ w => m + i = 6 ∧ (e, s) = ggo bs (usesN (gkind bs)) ({ evt0 with k := gkind bs }, (rInt bs maxI ⟨0, 0⟩).2) i ∧ RsOk2 bs s ∧ St W w (gevL rb b5 b2 ra rc bs (e) (s) (none) 0 F)) (fun _ => rfl) ?_ ?_
  · exact ⟨6, (0, { evt0 with k := gkind bs }, (rInt bs maxI ⟨0, 0⟩).2), ⟨rfl, trivial⟩, rfl, rfl, hs0, H⟩
  rintro m ⟨i, e, s⟩ ρ1 w ⟨hmi, hes, hso, H⟩
  refine w_seq ?_
  refine w_region ?_
  refine l_pbool rfl rfl ?_
  refine l_nil ?_
  refine w_seq ?_
  refine w_cond rfl (fun c4 => ?_) (fun c4 => ?_)
  · try simp only [sH] at c4
    have hi6 : i < 6 := by omega
    refine w_skip ?_
    refine w_seq ?_
    refine w_block ?_
    refine w_seq ?_
    refine w_region ?_
    refine l_pint rfl rfl ?_
    refine l_v rfl (q_indexAgg1 (v := .pointer (some ⟨b5, i + 1, none⟩)) rfl ar_111 c1_110 rfl rfl ⟨by omega, by omega⟩ (ptrs_at b5 (i := i) hi6)) ?_
    refine l_pint rfl rfl ?_
    refine l_pptr rfl rfl ?_
    refine l_nil ?_
    refine w_seq ?_
    refine w_region ?_
    refine l_pint rfl rfl ?_
    refine l_pint rfl rfl ?_
    refine l_v rfl (q_pure (i64_shr rfl rfl (by omega))) ?_
    refine l_v rfl (q_pure (i64_bit rfl rfl (Nat.lt_of_le_of_lt (Nat.div_le_self _ _) (by omega)))) ?_
    refine l_pbool rfl rfl ?_
    refine l_nil ?_
    refine w_cond rfl (fun c5 => ?_) (fun c5 => ?_)
    · try simp only [sH] at c5
      have hb1 := bit_one.1 c5
      refine w_region ?_
      refine l_pptr rfl rfl ?_
      refine l_pptr rfl rfl ?_
      refine b_call rfl cb_51 rfl (RIntM_ok H hso hb) (fun v w hv => ?_)
      obtain ⟨rfl, H⟩ := hv
      refine l_pptr rfl rfl ?_
      refine b_store (vs := [I ((rInt bs maxI s).1 : Int)]) (cs' := (e.put i ((rInt bs maxI s).1 : Int)).cells none 0) rfl sz_3 rfl rfl rfl rfl rfl H 3 rfl (Nat.ble_eq_true_of_le (by simp [Evt.cells]; omega)) (evt_put1 e none 0 hi6 _) (fun w H => ?_)
      refine l_nil ?_
      refine w_region ?_
      first | refine l_v rfl (q_add rfl rfl rfl (by simp only [inK]; omega)) ?_ | refine l_pint rfl rfl ?_
      refine l_pint rfl rfl ?_
      refine l_nil ?_
      refine ⟨by repeat' first | exact aM | exact aR | refine aI rfl ?_ | refine aU rfl ?_ | refine aL rfl ?_, ?_⟩
      first
        | refine ⟨m - 1, (i + 1, e.put i (rInt bs maxI s).1, (rInt bs maxI s).2), by omega, ⟨by exact congrArg (Value.int IntKind.i64) (Int.natCast_succ i).symm, trivial⟩, by omega, by rw [ggo, ← hes, gnum, if_pos hb1], rInt_ok2 hso, ?_⟩
          unfold gevL
          rw [put_bs]
          exact H
        | exact ⟨m - 1, (i + 1, e, s), by omega, ⟨by exact congrArg (Value.int IntKind.i64) (Int.natCast_succ i).symm, trivial⟩, by omega, by rw [ggo, ← hes, gnum, hb0, if_neg (by decide)], hso, H⟩
    try simp only [sH] at c5
    have hb0 := bit_not c5
    refine w_skip ?_
    refine w_region ?_
    first | refine l_v rfl (q_add rfl rfl rfl (by simp only [inK]; omega)) ?_ | refine l_pint rfl rfl ?_
    refine l_pint rfl rfl ?_
    refine l_nil ?_
    refine ⟨by repeat' first | exact aM | exact aR | refine aI rfl ?_ | refine aU rfl ?_ | refine aL rfl ?_, ?_⟩
    first
      | refine ⟨m - 1, (i + 1, e.put i (rInt bs maxI s).1, (rInt bs maxI s).2), by omega, ⟨by exact congrArg (Value.int IntKind.i64) (Int.natCast_succ i).symm, trivial⟩, by omega, by rw [ggo, ← hes, gnum, if_pos hb1], rInt_ok2 hso, ?_⟩
        unfold gevL
        rw [put_bs]
        exact H
      | exact ⟨m - 1, (i + 1, e, s), by omega, ⟨by exact congrArg (Value.int IntKind.i64) (Int.natCast_succ i).symm, trivial⟩, by omega, by rw [ggo, ← hes, gnum, hb0, if_neg (by decide)], hso, H⟩
  try simp only [sH] at c4
  obtain rfl : i = 6 := by omega
  have heb : e.bs = [] := by have := congrArg (fun z : Evt × Rs => z.1.bs) hes; exact this.trans (ggo_bs 6)
  refine w_exit ?_
  refine w_cutG (G := Evt × Rs) [50, 51, 52, 53, 54, 55, 56, 57, 58, 59, 60] (fun ⟨e, s⟩ => []) (fun ⟨e, s⟩ w => (e, s) = gdr bs (usesN (gkind bs)) (ggo bs (usesN (gkind bs)) ({ evt0 with k := gkind bs }, (rInt bs maxI ⟨0, 0⟩).2) 6) ∧ e.bs = [] ∧ RsOk2 bs s ∧ St W w (gevL rb b5 b2 ra rc bs (e) (s) (none) 0 F)) (fun _ => rfl) ?_ ?_
  · refine w_seq ?_
    refine w_region ?_
    refine l_pint rfl rfl ?_
    refine l_v rfl (q_pure (and_64 rfl rfl)) ?_
    refine l_pbool rfl rfl ?_
    refine l_nil ?_
    refine w_cond rfl (fun c6 => ?_) (fun c6 => ?_)
    · try simp only [sH] at c6
      have hb6 := ifb_ne c6
      refine w_seq ?_
      refine w_region ?_
      refine l_pptr rfl rfl ?_
      refine b_call rfl cb_54 rfl (RNumber_ok H hso hb) (fun v w hv => ?_)
      obtain ⟨rfl, H⟩ := hv
      refine l_v rfl (q_fieldAddr rfl fo30_7 rfl) ?_
      refine l_v rfl (q_fieldAddr rfl fo25_0 rfl) ?_
      refine b_store (cs' := ({ e with hi := (rNum bs s).1 } : Evt).cells none 0) rfl sz_23 rfl rfl rfl rfl rfl H 3 rfl rfl rfl (fun w H => ?_)
      refine l_nil ?_
      refine w_region ?_
      refine l_pptr rfl rfl ?_
      refine b_call rfl cb_54 rfl (RNumber_ok H (rNum_ok2 hso) hb) (fun v w hv => ?_)
      obtain ⟨rfl, H⟩ := hv
      refine l_v rfl (q_fieldAddr rfl fo30_7 rfl) ?_
      refine l_v rfl (q_fieldAddr rfl fo25_1 rfl) ?_
      refine b_store (cs' := ({ e with hi := (rNum bs s).1, lo := (rNum bs (rNum bs s).2).1 } : Evt).cells none 0) rfl sz_23 rfl rfl rfl rfl rfl H 3 rfl rfl rfl (fun w H => ?_)
      refine l_nil ?_
      refine ⟨by repeat' first | exact aM | exact aR | refine aI rfl ?_ | refine aU rfl ?_ | refine aL rfl ?_, ?_⟩
      exact ⟨({ e with hi := (rNum bs s).1, lo := (rNum bs (rNum bs s).2).1 }, _), trivial, by rw [← hes, gdr, if_pos hb6], heb, rNum_ok2 (rNum_ok2 hso), H⟩
    try simp only [sH] at c6
    have hb6 := ifb_eq (by decide) c6
    refine w_skip ?_
    refine ⟨by repeat' first | exact aM | exact aR | refine aI rfl ?_ | refine aU rfl ?_ | refine aL rfl ?_, ?_⟩
    exact ⟨(e, s), trivial, by rw [← hes, gdr, hb6, if_neg (by decide)], heb, hso, H⟩
  rintro ⟨e, s⟩ ρ1 w ⟨hes, heb, hso, H⟩
  refine w_cutG (G := Evt × Rs) [61, 62, 63, 64, 65, 66, 67, 68, 69, 70, 71, 72, 73, 74, 75] (fun ⟨e, s⟩ => []) (fun ⟨e, s⟩ w => (e, s) = gop bs (usesN (gkind bs)) (gdr bs (usesN (gkind bs)) (ggo bs (usesN (gkind bs)) ({ evt0 with k := gkind bs }, (rInt bs maxI ⟨0, 0⟩).2) 6)) ∧ e.bs = [] ∧ RsOk2 bs s ∧ St W w (gevL rb b5 b2 ra rc bs (e) (s) (none) 0 F)) (fun _ => rfl) ?_ ?_
  · refine w_seq ?_
    refine w_region ?_
    refine l_pint rfl rfl ?_
    refine l_v rfl (q_pure (and_128 rfl rfl)) ?_
    refine l_pbool rfl rfl ?_
    refine l_nil ?_
    refine w_cond rfl (fun c7 => ?_) (fun c7 => ?_)
    · try simp only [sH] at c7
      have hb7 := ifb_ne c7
      refine w_seq ?_
      refine w_region ?_
      refine l_pptr rfl rfl ?_
      refine b_call rfl cb_51 rfl (RIntM_ok H hso hb) (fun v w hv => ?_)
      obtain ⟨rfl, H⟩ := hv
      refine l_v rfl (q_fieldAddr rfl fo30_8 rfl) ?_
      refine l_v rfl (q_fieldAddr rfl fo27_0 rfl) ?_
      refine b_store (cs' := ({ e with ok := (rInt bs maxI s).1 } : Evt).cells none 0) rfl sz_3 rfl rfl rfl rfl rfl H 3 rfl rfl rfl (fun w H => ?_)
      refine l_nil ?_
      refine w_seq ?_
      refine w_region ?_
      refine l_pptr rfl rfl ?_
      refine b_call rfl cb_51 rfl (RIntM_ok H (rInt_ok2 hso) hb) (fun v w hv => ?_)
      obtain ⟨rfl, H⟩ := hv
      refine l_v rfl (q_fieldAddr rfl fo30_8 rfl) ?_
      refine l_v rfl (q_fieldAddr rfl fo27_1 rfl) ?_
      refine b_store (cs' := ({ e with ok := (rInt bs maxI s).1, os := (rInt bs maxI (rInt bs maxI s).2).1 } : Evt).cells none 0) rfl sz_3 rfl rfl rfl rfl rfl H 3 rfl rfl rfl (fun w H => ?_)
      refine l_nil ?_
      refine w_region ?_
      refine l_pptr rfl rfl ?_
      refine b_call rfl cb_55 rfl (RText_ok (mo := 64) H (rInt_ok2 (rInt_ok2 hso)) hb (by decide)) (fun v w hv => ?_)
      obtain ⟨rfl, H⟩ := hv
      refine l_v rfl (q_fieldAddr rfl fo30_8 rfl) ?_
      refine l_v rfl (q_fieldAddr rfl fo27_2 rfl) ?_
      refine b_store (cs' := ({ e with ok := (rInt bs maxI s).1, os := (rInt bs maxI (rInt bs maxI s).2).1, ov := ⟨(rText bs 64 (rInt bs maxI (rInt bs maxI s).2).2).1.toArray⟩ } : Evt).cells none 0) rfl sz_9 rfl rfl rfl rfl rfl H 3 rfl rfl rfl (fun w H => ?_)
      refine l_nil ?_
      refine ⟨by repeat' first | exact aM | exact aR | refine aI rfl ?_ | refine aU rfl ?_ | refine aL rfl ?_, ?_⟩
      exact ⟨({ e with ok := (rInt bs maxI s).1, os := (rInt bs maxI (rInt bs maxI s).2).1, ov := ⟨(rText bs 64 (rInt bs maxI (rInt bs maxI s).2).2).1.toArray⟩ }, _), trivial, by rw [← hes, gop, if_pos hb7], heb, rText_ok2 (rInt_ok2 (rInt_ok2 hso)), H⟩
    try simp only [sH] at c7
    have hb7 := ifb_eq (by decide) c7
    refine w_skip ?_
    refine ⟨by repeat' first | exact aM | exact aR | refine aI rfl ?_ | refine aU rfl ?_ | refine aL rfl ?_, ?_⟩
    exact ⟨(e, s), trivial, by rw [← hes, gop, hb7, if_neg (by decide)], heb, hso, H⟩
  rintro ⟨e, s⟩ ρ1 w ⟨hes, heb, hso, H⟩
  refine w_cutG (G := Evt × Rs × Option Addr × Nat) [76, 77, 78, 79, 80, 81, 82] (fun ⟨e, s, a, c⟩ => []) (fun ⟨e, s, a, c⟩ w => (e, s) = gall bs ∧ RsOk2 bs s ∧ St W w (gevL rb b5 b2 ra rc bs (e) (s) (a) c F)) (fun _ => rfl) ?_ ?_
  · refine w_seq ?_
    refine w_region ?_
    refine l_pint rfl rfl ?_
    refine l_v rfl (q_pure (and_256 rfl rfl)) ?_
    refine l_pbool rfl rfl ?_
    refine l_nil ?_
    refine w_cond rfl (fun c8 => ?_) (fun c8 => ?_)
    · try simp only [sH] at c8
      have hb8 := ifb_ne c8
      have htl : (⟨(rText bs 16384 s).1.toArray⟩ : ByteArray).size ≤ maxLen := by have := (rText_len (b := bs) (m := 16384) (s := s)).1; show (rText bs 16384 s).1.length ≤ _; simp only [maxLen]; omega
      refine w_region ?_
      refine l_pptr rfl rfl ?_
      refine b_call rfl cb_55 rfl (RText_ok (mo := 16384) H hso hb (by decide)) (fun v w hv => ?_)
      obtain ⟨rfl, H⟩ := hv
      refine b_strBytesF rfl st_9 by_28 el_28 rfl htl H (fun b81 c81 w H => ?_)
      refine l_v rfl (q_fieldAddr rfl fo30_9 rfl) ?_
      refine b_store (cs' := ({ e with bs := (rText bs 16384 s).1 } : Evt).cells (some ⟨b81, 0, none⟩) c81) rfl sz_28 rfl rfl rfl rfl rfl H 4 rfl rfl rfl (fun w H => ?_)
      refine l_nil ?_
      refine ⟨by repeat' first | exact aM | exact aR | refine aI rfl ?_ | refine aU rfl ?_ | refine aL rfl ?_, ?_⟩
      exact ⟨({ e with bs := (rText bs 16384 s).1 }, _, some ⟨b81, 0, none⟩, c81), trivial, by rw [gall, ← hes, gby, if_pos hb8], rText_ok2 hso, St.pick [1, 2, 0, 4, 5] (pre := [_, _, _, _, _, _]) rfl H rfl⟩
    try simp only [sH] at c8
    have hb8 := ifb_eq (by decide) c8
    refine w_skip ?_
    refine ⟨by repeat' first | exact aM | exact aR | refine aI rfl ?_ | refine aU rfl ?_ | refine aL rfl ?_, ?_⟩
    exact ⟨(e, s, none, 0), trivial, by rw [gall, ← hes, gby, hb8, if_neg (by decide)], hso, by unfold gevL at H ⊢; rw [heb] at H ⊢; exact H⟩
  rintro ⟨e, s, a, c⟩ ρ1 w ⟨hes, hso, H⟩
  refine w_seq ?_
  refine w_seq ?_
  refine w_region ?_
  refine l_pptr rfl rfl ?_
  refine b_call rfl cb_53 rfl (REnd_ok H) (fun v w hv => ?_)
  obtain ⟨rfl, H⟩ := hv
  refine l_pint rfl rfl ?_
  refine l_nil ?_
  refine w_seq ?_
  refine w_region ?_
  refine l_pint rfl rfl ?_
  refine l_pbool rfl rfl ?_
  refine l_nil ?_
  refine w_cond rfl (fun c9 => ?_) (fun c9 => ?_)
  · try simp only [sH] at c9
    refine w_seq ?_
    refine w_region ?_
    refine l_v rfl (q_build (cs := evt0.cells none 0) rfl sp_30 rfl) ?_
    refine l_pint rfl rfl ?_
    refine b_store rfl sz_30 rfl rfl rfl rfl rfl H 4 rfl rfl (putL_all rfl) (fun w H => ?_)
    refine l_pint rfl rfl ?_
    refine l_nil ?_
    refine w_ret ?_
    refine finc2 rfl ag_30 rfl (by first | exact H.cells 0 rfl | exact H.cells 1 rfl | exact H.cells 2 rfl | exact H.cells 3 rfl | exact H.cells 4 rfl) rfl ?_
    have h2 : (gall bs).2 = s := by rw [← hes]
    have hp : getEv bs = (evt0, rEnd bs s) := by unfold getEv; rw [if_neg (by omega), if_neg (by omega), h2, if_pos (by omega)]
    rw [hp]
    exact ⟨none, 0, rfl, St.newF (T := 5) (sz := 1) (H.drop1.drop1.drop1.drop1.drop1)⟩
  try simp only [sH] at c9
  refine w_skip ?_
  refine w_seq ?_
  refine w_region ?_
  refine l_v rfl (q_loadN (vs := e.cells a c) rfl ag_30 rfl rfl (H.cells 3 rfl)) ?_
  refine b_store rfl sz_30 rfl rfl rfl rfl rfl H 4 rfl rfl (putL_all rfl) (fun w H => ?_)
  refine l_pint rfl rfl ?_
  refine l_nil ?_
  refine w_ret ?_
  refine finc2 rfl ag_30 rfl (by first | exact H.cells 0 rfl | exact H.cells 1 rfl | exact H.cells 2 rfl | exact H.cells 3 rfl | exact H.cells 4 rfl) rfl ?_
  have h2 : (gall bs).2 = s := by rw [← hes]
  have h1 : (gall bs).1 = e := by rw [← hes]
  have hp : getEv bs = (e, 0) := by unfold getEv; rw [if_neg (by omega), if_neg (by omega), h2, h1, if_neg (by omega)]
  rw [hp]
  exact ⟨a, c, rfl, (H.drop1.drop1.erase 1).erase 1⟩
end Go.Proofs.YtfpmnhmdphaceaaDoor
