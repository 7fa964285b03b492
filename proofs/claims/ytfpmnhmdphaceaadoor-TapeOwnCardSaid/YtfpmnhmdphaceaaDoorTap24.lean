/- Walks through the tape's functions. -/
import Derived.Test.YtfpmnhmdphaceaaDoorTapMAll
namespace Go.Proofs.YtfpmnhmdphaceaaDoor
open Go.EW
attribute [local irreducible] EW.W EW.L EW.fin block8 outB shaL
set_option linter.unusedVariables false
set_option linter.unusedSimpArgs false
attribute [local irreducible] crcN crcB crcL sealL openR sealR
def VV (b : List UInt8) (j : Nat) : Nat := (rInts b ⟨0, 0⟩ 7).1.getD j 0
def headS (b : List UInt8) : Stp := ⟨(VV b 2 : Int), (VV b 3 : Int), (VV b 4 : Int), ((VV b 5 : Int) == 1), []⟩
def castL (l : List Nat) : List Int := l.map fun x : Nat => (x : Int)
def headC (b : List UInt8) (i : Nat) : Stp := { headS b with cls := castL (rInts b (rInts b ⟨0, 0⟩ 7).2 i).1 }
/-- the setup of a head's body; is it one? -/
def headR (b : List UInt8) : Stp × Bool :=
  if VV b 0 ≠ 1 ∨ VV b 1 ≠ 1 ∨ 1 < VV b 5 ∨ 16 < VV b 6 then (headS b, false)
  else (headC b (VV b 6), decide (rEnd b (rInts b (rInts b ⟨0, 0⟩ 7).2 (VV b 6)).2 = 0) && decide (chkS (headC b (VV b 6)) = 0))
def arrV (l : List Nat) : List Value := natsV l ++ List.replicate (7 - l.length) (I 0)
theorem arrV_len {l : List Nat} (h : l.length ≤ 7) : (arrV l).length = 7 := by
  unfold arrV natsV
  rw [List.length_append, List.length_map, List.length_replicate]; omega
theorem arrV_put {l : List Nat} {i x : Nat} (hl : l.length = i) (hi : i < 7) : putL (arrV l) (0 + i * 1) [I (x : Int)] = arrV (l ++ [x]) := by
  subst hl
  rw [Nat.zero_add, Nat.mul_one]
  show (arrV l).set l.length (I (x : Int)) = _
  unfold arrV natsV
  rw [List.set_append_right _ _ (by rw [List.length_map]; exact Nat.le_refl _), List.length_map, Nat.sub_self, List.map_append, List.length_append, List.length_singleton]
  obtain ⟨k, hk⟩ : ∃ k, 7 - l.length = k + 1 := ⟨6 - l.length, by omega⟩
  rw [hk, show 7 - (l.length + 1) = k by omega, List.replicate_succ, List.set_cons_zero, List.append_assoc]; rfl
theorem arrV_get (b : List UInt8) {j : Nat} (hj : j < 7) : (arrV (rInts b ⟨0, 0⟩ 7).1)[j]? = some (I (VV b j : Int)) := by
  have hl := rInts_len b ⟨0, 0⟩ 7
  unfold arrV natsV VV
  rw [List.getElem?_append_left (by rw [List.length_map]; omega), List.getElem?_map, List.getD_eq_getElem?_getD, List.getElem?_eq_getElem (by omega)]; rfl
theorem headC_zero (b : List UInt8) : headC b 0 = headS b := rfl
theorem rInts_zero (b : List UInt8) (s : Rs) : rInts b s 0 = ([], s) := rfl
theorem headC_len (b : List UInt8) (i : Nat) : (headC b i).cls.length = i := by
  unfold headC castL
  rw [List.length_map, rInts_len]
theorem headC_succ (b : List UInt8) (i : Nat) : (headC b (i + 1)).cls = (headC b i).cls ++ [((rInt b maxI (rInts b (rInts b ⟨0, 0⟩ 7).2 i).2).1 : Int)] := by
  unfold headC castL
  rw [rInts, List.map_append]; rfl
/-- an event that is held -/
structure EvM where
  e : Evt
  a : Option Addr
  c : Nat
def EvM.cells (x : EvM) : List Value := x.e.cells x.a x.c
def EvM.seg (x : EvM) : Seg := rowF 5 1 x.a x.e.bs.length x.c (x.e.bs.map B)
def evsV (l : List EvM) : List Value := l.flatMap EvM.cells
theorem evsV_len : ∀ l : List EvM, (evsV l).length = 13 * l.length
  | [] => rfl
  | x :: l => by
    have h := evsV_len l
    unfold evsV at *
    rw [List.flatMap_cons, List.length_append, h, List.length_cons]
    show 13 + _ = _
    omega
theorem evsV_app (x y : List EvM) : evsV (x ++ y) = evsV x ++ evsV y := List.flatMap_append
theorem evsV_one (x : EvM) : evsV [x] = x.cells := by simp [evsV]
theorem oneEv (l : List EvM) : ∀ v ∈ evsV l, v.oneCell' = true := by
  intro v hv
  obtain ⟨x, _, hx⟩ := List.mem_flatMap.1 hv
  simp only [EvM.cells, Evt.cells, List.mem_cons, List.not_mem_nil, or_false] at hx
  rcases hx with rfl | rfl | rfl | rfl | rfl | rfl | rfl | rfl | rfl | rfl | rfl | rfl | rfl <;> rfl
theorem fill_evt (e : Evt) (a : Option Addr) (c : Nat) : fillL (fun i => some (i * 13, 13)) (repL 1 (evt0.cells none 0)) [(0, Value.agg (e.cells a c).toArray)] = some (e.cells a c) := rfl
def ego (b : List UInt8) (s : Rs) : Nat → Option (List Evt × List (List UInt8) × Rs)
  | 0 => some ([], [], s)
  | i + 1 =>
    match ego b s i with
    | none => none
    | some (l, ts, s') => if (getEv (rText b 32768 s').1).2 ≠ 0 then none else some (l ++ [(getEv (rText b 32768 s').1).1], ts ++ [(rText b 32768 s').1], (rText b 32768 s').2)
theorem ego_none {b : List UInt8} {s : Rs} {i : Nat} (h : ego b s i = none) : ∀ j, i ≤ j → ego b s j = none
  | 0, hj => by obtain rfl : i = 0 := by omega
                exact h
  | j + 1, hj => by
    rcases Nat.lt_or_ge j i with hl | hl
    · obtain rfl : i = j + 1 := by omega
      exact h
    rw [ego, ego_none h j hl]
/-- an event chunk's body: the first one's number, the events, their texts; is it one? -/
def eventsR (b : List UInt8) : Nat × List Evt × List (List UInt8) × Bool :=
  if (rInts b ⟨0, 0⟩ 3).1.getD 0 0 ≠ 2 ∨ (rInts b ⟨0, 0⟩ 3).1.getD 2 0 < 1 ∨ 32 < (rInts b ⟨0, 0⟩ 3).1.getD 2 0 then (0, [], [], false)
  else
    match ego b (rInts b ⟨0, 0⟩ 3).2 ((rInts b ⟨0, 0⟩ 3).1.getD 2 0) with
    | none => (0, [], [], false)
    | some (l, ts, s) => ((rInts b ⟨0, 0⟩ 3).1.getD 1 0, l, ts, decide (rEnd b s = 0))
attribute [local irreducible] VV
set_option maxRecDepth 8000 in
set_option maxHeartbeats 1000000 in
theorem head_ok {W w : World} {F : List Seg} (H : St W w F) {a : Option Addr} {n c : Nat} {bs : List UInt8} (hr : RdIn W F a (bs.map B)) (hl : bs.length = n) (hn : n ≤ 100000) :
    Ok Tryd.prog 105 [.slice a n c].toArray w (fun r w' => ∃ a' c', r = .tuple #[.agg ((headR bs).1.cells a' c').toArray, .bool (headR bs).2] ∧ St W w' (row 150 1 a' (headR bs).1.cls.length c' (intsV (headR bs).1.cls) :: F)) := by
  subst hl
  refine enter (n := 70) (rs := #[.cell 2 56, .tmp 3]) Tryd.func105 rfl rfl rfl rfl ?_
  refine w_seq ?_
  refine w_region ?_
  refine b_alloc (cs := stp0.cells none 0) rfl ze_56 rfl H (fun b2 w H => ?_)
  refine l_pbool rfl rfl ?_
  refine l_nil ?_
  refine w_seq ?_
  refine w_region ?_
  refine l_pslice rfl rfl ?_
  refine b_call rfl cb_50 rfl (NewReader_ok H (hr.up 1 rfl) rfl (by omega)) (fun v w hv => ?_)
  obtain ⟨rb, ra, rc, rfl, H⟩ := hv
  refine l_pptr rfl rfl ?_
  refine l_nil ?_
  refine w_seq ?_
  refine w_region ?_
  refine b_alloc (cs := arrV []) rfl ze_155 rfl H (fun b5 w H => ?_)
  refine l_nil ?_
  refine w_seq ?_
  refine w_seq ?_
  refine w_region ?_
  refine l_pint rfl rfl ?_
  refine l_nil ?_
  refine w_block ?_
  refine w_loopG (G := Nat) [6, 10, 11, 12, 13, 14, 15, 16, 17] (fun i => [(10, .int .i64 ((i : Nat) : Int))]) (fun m i w => m + i = 7 ∧ St W w (readerL rb ra rc bs (rInts bs ⟨0, 0⟩ i).2 (blk b5 (arrV (rInts bs ⟨0, 0⟩ i).1) 155 :: blk b2 (stp0.cells none 0) 56 :: F))) (fun _ => rfl) ?_ ?_
  · exact ⟨7, 0, ⟨rfl, trivial⟩, rfl, St.pick [1, 2, 0, 3] (pre := [_, _, _, _]) rfl H rfl⟩
  rintro m i ρ1 w ⟨hmi, H⟩
  refine w_seq ?_
  refine w_region ?_
  refine l_pbool rfl rfl ?_
  refine l_nil ?_
  refine w_seq ?_
  refine w_cond rfl (fun c1 => ?_) (fun c1 => ?_)
  · try simp only [sH] at c1
    have hi7 : i < 7 := by omega
    refine w_skip ?_
    refine w_seq ?_
    refine w_block ?_
    refine w_seq ?_
    refine w_region ?_
    refine l_pint rfl rfl ?_
    refine l_pint rfl rfl ?_
    refine l_nil ?_
    refine w_region ?_
    refine l_pint rfl rfl ?_
    refine l_pptr rfl rfl ?_
    refine b_call rfl cb_51 rfl (RIntM_ok H (rInts_ok2 (rs0 bs) i) (by omega)) (fun v w hv => ?_)
    obtain ⟨rfl, H⟩ := hv
    refine l_v rfl (q_indexArrN rfl ar_155 rfl rfl hi7) ?_
    refine b_store (vs := [I ((rInt bs maxI (rInts bs ⟨0, 0⟩ i).2).1 : Int)]) (cs' := arrV (rInts bs ⟨0, 0⟩ (i + 1)).1) rfl sz_3 rfl rfl rfl rfl rfl H 2 rfl (Nat.ble_eq_true_of_le (by rw [arrV_len (by rw [rInts_len]; omega)]; show 0 + i * 1 + 1 ≤ 7; omega)) (arrV_put (rInts_len _ _ _) hi7) (fun w H => ?_)
    refine l_nil ?_
    refine w_region ?_
    first | refine l_v rfl (q_add rfl rfl rfl (by simp only [inK]; omega)) ?_ | refine l_pint rfl rfl ?_
    refine l_pint rfl rfl ?_
    refine l_nil ?_
    refine ⟨by repeat' first | exact aM | exact aR | refine aI rfl ?_ | refine aU rfl ?_ | refine aL rfl ?_, ?_⟩
    exact ⟨m - 1, i + 1, by omega, ⟨by exact congrArg (Value.int IntKind.i64) (Int.natCast_succ i).symm, trivial⟩, by omega, H⟩
  try simp only [sH] at c1
  obtain rfl : i = 7 := by omega
  refine w_exit ?_
  refine w_seq ?_
  refine w_region ?_
  first | refine l_v rfl (q_indexArrN rfl ar_155 rfl rfl (by omega)) ?_ | refine l_v rfl (q_indexArr rfl ar_155 rfl rfl ⟨by omega, by omega⟩) ?_
  refine l_v rfl (q_load1 (v := I (VV bs 2 : Int)) rfl c1_3 rfl (H.cell 2 rfl (arrV_get bs (j := 2) (by decide)))) ?_
  first | refine l_v rfl (q_indexArrN rfl ar_155 rfl rfl (by omega)) ?_ | refine l_v rfl (q_indexArr rfl ar_155 rfl rfl ⟨by omega, by omega⟩) ?_
  refine l_v rfl (q_load1 (v := I (VV bs 3 : Int)) rfl c1_3 rfl (H.cell 2 rfl (arrV_get bs (j := 3) (by decide)))) ?_
  first | refine l_v rfl (q_indexArrN rfl ar_155 rfl rfl (by omega)) ?_ | refine l_v rfl (q_indexArr rfl ar_155 rfl rfl ⟨by omega, by omega⟩) ?_
  refine l_v rfl (q_load1 (v := I (VV bs 4 : Int)) rfl c1_3 rfl (H.cell 2 rfl (arrV_get bs (j := 4) (by decide)))) ?_
  first | refine l_v rfl (q_indexArrN rfl ar_155 rfl rfl (by omega)) ?_ | refine l_v rfl (q_indexArr rfl ar_155 rfl rfl ⟨by omega, by omega⟩) ?_
  refine l_v rfl (q_load1 (v := I (VV bs 5 : Int)) rfl c1_3 rfl (H.cell 2 rfl (arrV_get bs (j := 5) (by decide)))) ?_
  refine l_pbool rfl rfl ?_
  refine l_v rfl (q_build (cs := [I (VV bs 2 : Int), I (VV bs 3 : Int), I (VV bs 4 : Int), .bool ((VV bs 5 : Int) == 1)]) rfl sp_53 rfl) ?_
  refine l_v rfl (q_build (cs := (headS bs).cells none 0) rfl sp_56 rfl) ?_
  refine b_alloc (cs := stp0.cells none 0) rfl ze_56 rfl H (fun b7 w H => ?_)
  refine b_store (cs' := (headS bs).cells none 0) rfl sz_56 rfl rfl rfl rfl rfl H 0 rfl rfl (putL_all rfl) (fun w H => ?_)
  refine l_nil ?_
  refine w_seq ?_
  refine w_seq ?_
  refine w_region ?_
  first | refine l_v rfl (q_indexArrN rfl ar_155 rfl rfl (by omega)) ?_ | refine l_v rfl (q_indexArr rfl ar_155 rfl rfl ⟨by omega, by omega⟩) ?_
  refine l_v rfl (q_load1 (v := I (VV bs 0 : Int)) rfl c1_3 rfl (H.cell 3 rfl (arrV_get bs (j := 0) (by decide)))) ?_
  refine l_pbool rfl rfl ?_
  refine l_pbool rfl rfl ?_
  refine l_split 32 rfl (fun h32 => ?_) (fun h32 => ?_)
  · try simp only [sH] at h32
    refine l_no rfl ?_
    refine l_no rfl ?_
    refine l_no rfl ?_
    refine l_pickT (v := .bool _) rfl rfl rfl ?_
    refine l_pbool rfl rfl ?_
    refine l_no rfl ?_
    refine l_no rfl ?_
    refine l_no rfl ?_
    refine l_pickT (v := .bool _) rfl rfl rfl ?_
    refine l_pbool rfl rfl ?_
    refine l_no rfl ?_
    refine l_no rfl ?_
    refine l_no rfl ?_
    refine l_pickT (v := .bool _) rfl rfl rfl ?_
    refine l_nil ?_
    refine w_cond_t rfl ?_
    refine w_seq ?_
    refine w_region ?_
    refine l_v rfl (q_loadN (vs := (headS bs).cells none 0) rfl ag_56 rfl rfl (H.cells 0 rfl)) ?_
    first
      | refine b_store rfl sz_56 rfl rfl rfl rfl rfl H 5 rfl rfl (putL_all rfl) (fun w H => ?_)
      | refine b_store rfl sz_56 rfl rfl rfl rfl rfl H 4 rfl rfl (putL_all rfl) (fun w H => ?_)
    refine l_pbool rfl rfl ?_
    refine l_nil ?_
    refine w_ret ?_
    refine finc2 rfl ag_56 rfl (by first | exact H.cells 0 rfl | exact H.cells 1 rfl | exact H.cells 2 rfl | exact H.cells 3 rfl | exact H.cells 4 rfl | exact H.cells 5 rfl) rfl ?_
    have e : headR bs = (headS bs, false) := if_pos (by omega)
    rw [e]
    exact ⟨none, 0, rfl, St.newRow (H.drop1.drop1.drop1.drop1.drop1)⟩
  try simp only [sH] at h32
  first | refine l_v rfl (q_indexArrN rfl ar_155 rfl rfl (by omega)) ?_ | refine l_v rfl (q_indexArr rfl ar_155 rfl rfl ⟨by omega, by omega⟩) ?_
  refine l_v rfl (q_load1 (v := I (VV bs 1 : Int)) rfl c1_3 rfl (H.cell 3 rfl (arrV_get bs (j := 1) (by decide)))) ?_
  refine l_pbool rfl rfl ?_
  refine l_pickF (v := .bool _) rfl rfl rfl ?_
  refine l_pbool rfl rfl ?_
  refine l_split 37 rfl (fun h37 => ?_) (fun h37 => ?_)
  · try simp only [sH] at h37
    refine l_no rfl ?_
    refine l_no rfl ?_
    refine l_no rfl ?_
    refine l_pickT (v := .bool _) rfl rfl rfl ?_
    refine l_pbool rfl rfl ?_
    refine l_no rfl ?_
    refine l_no rfl ?_
    refine l_no rfl ?_
    refine l_pickT (v := .bool _) rfl rfl rfl ?_
    refine l_nil ?_
    refine w_cond_t rfl ?_
    refine w_seq ?_
    refine w_region ?_
    refine l_v rfl (q_loadN (vs := (headS bs).cells none 0) rfl ag_56 rfl rfl (H.cells 0 rfl)) ?_
    first
      | refine b_store rfl sz_56 rfl rfl rfl rfl rfl H 5 rfl rfl (putL_all rfl) (fun w H => ?_)
      | refine b_store rfl sz_56 rfl rfl rfl rfl rfl H 4 rfl rfl (putL_all rfl) (fun w H => ?_)
    refine l_pbool rfl rfl ?_
    refine l_nil ?_
    refine w_ret ?_
    refine finc2 rfl ag_56 rfl (by first | exact H.cells 0 rfl | exact H.cells 1 rfl | exact H.cells 2 rfl | exact H.cells 3 rfl | exact H.cells 4 rfl | exact H.cells 5 rfl) rfl ?_
    have e : headR bs = (headS bs, false) := if_pos (by omega)
    rw [e]
    exact ⟨none, 0, rfl, St.newRow (H.drop1.drop1.drop1.drop1.drop1)⟩
  try simp only [sH] at h37
  first | refine l_v rfl (q_indexArrN rfl ar_155 rfl rfl (by omega)) ?_ | refine l_v rfl (q_indexArr rfl ar_155 rfl rfl ⟨by omega, by omega⟩) ?_
  refine l_v rfl (q_load1 (v := I (VV bs 5 : Int)) rfl c1_3 rfl (H.cell 3 rfl (arrV_get bs (j := 5) (by decide)))) ?_
  refine l_pbool rfl rfl ?_
  refine l_pickF (v := .bool _) rfl rfl rfl ?_
  refine l_pbool rfl rfl ?_
  refine l_split 42 rfl (fun h42 => ?_) (fun h42 => ?_)
  · try simp only [sH] at h42
    refine l_no rfl ?_
    refine l_no rfl ?_
    refine l_no rfl ?_
    refine l_pickT (v := .bool _) rfl rfl rfl ?_
    refine l_nil ?_
    refine w_cond_t rfl ?_
    refine w_seq ?_
    refine w_region ?_
    refine l_v rfl (q_loadN (vs := (headS bs).cells none 0) rfl ag_56 rfl rfl (H.cells 0 rfl)) ?_
    first
      | refine b_store rfl sz_56 rfl rfl rfl rfl rfl H 5 rfl rfl (putL_all rfl) (fun w H => ?_)
      | refine b_store rfl sz_56 rfl rfl rfl rfl rfl H 4 rfl rfl (putL_all rfl) (fun w H => ?_)
    refine l_pbool rfl rfl ?_
    refine l_nil ?_
    refine w_ret ?_
    refine finc2 rfl ag_56 rfl (by first | exact H.cells 0 rfl | exact H.cells 1 rfl | exact H.cells 2 rfl | exact H.cells 3 rfl | exact H.cells 4 rfl | exact H.cells 5 rfl) rfl ?_
    have e : headR bs = (headS bs, false) := if_pos (by omega)
    rw [e]
    exact ⟨none, 0, rfl, St.newRow (H.drop1.drop1.drop1.drop1.drop1)⟩
  try simp only [sH] at h42
  first | refine l_v rfl (q_indexArrN rfl ar_155 rfl rfl (by omega)) ?_ | refine l_v rfl (q_indexArr rfl ar_155 rfl rfl ⟨by omega, by omega⟩) ?_
  refine l_v rfl (q_load1 (v := I (VV bs 6 : Int)) rfl c1_3 rfl (H.cell 3 rfl (arrV_get bs (j := 6) (by decide)))) ?_
  refine l_pbool rfl rfl ?_
  refine l_pickF (v := .bool _) rfl rfl rfl ?_
  refine l_nil ?_
  refine w_cond rfl (fun c2 => ?_) (fun c2 => ?_)
  · try simp only [sH] at c2
    refine w_seq ?_
    refine w_region ?_
    refine l_v rfl (q_loadN (vs := (headS bs).cells none 0) rfl ag_56 rfl rfl (H.cells 0 rfl)) ?_
    first
      | refine b_store rfl sz_56 rfl rfl rfl rfl rfl H 5 rfl rfl (putL_all rfl) (fun w H => ?_)
      | refine b_store rfl sz_56 rfl rfl rfl rfl rfl H 4 rfl rfl (putL_all rfl) (fun w H => ?_)
    refine l_pbool rfl rfl ?_
    refine l_nil ?_
    refine w_ret ?_
    refine finc2 rfl ag_56 rfl (by first | exact H.cells 0 rfl | exact H.cells 1 rfl | exact H.cells 2 rfl | exact H.cells 3 rfl | exact H.cells 4 rfl | exact H.cells 5 rfl) rfl ?_
    have e : headR bs = (headS bs, false) := if_pos (by omega)
    rw [e]
    exact ⟨none, 0, rfl, St.newRow (H.drop1.drop1.drop1.drop1.drop1)⟩
  try simp only [sH] at c2
  have hv0 : ¬ (VV bs 0 ≠ 1 ∨ VV bs 1 ≠ 1 ∨ 1 < VV bs 5 ∨ 16 < VV bs 6) := by omega
  have H2 := St.newRow (T := 150) (sz := 1) H
  refine w_skip ?_
  refine w_seq ?_
  refine w_seq ?_
  refine w_region ?_
  first | refine l_v rfl (q_indexArrN rfl ar_155 rfl rfl (by omega)) ?_ | refine l_v rfl (q_indexArr rfl ar_155 rfl rfl ⟨by omega, by omega⟩) ?_
  refine l_v rfl (q_load1 (v := I (VV bs 6 : Int)) rfl c1_3 rfl (H.cell 3 rfl (arrV_get bs (j := 6) (by decide)))) ?_
  refine l_pint rfl rfl ?_
  refine l_nil ?_
  refine w_block ?_
  refine w_loopG (G := Nat × Option Addr × Nat) [50, 51, 52, 53, 54, 55, 56, 57, 58, 59, 60] (fun ⟨i, la, lc⟩ => [(50, .int .i64 ((i : Nat) : Int))]) (fun m ⟨i, la, lc⟩ w => m + i = VV bs 6 ∧ St W w (readerL rb ra rc bs (rInts bs (rInts bs ⟨0, 0⟩ 7).2 i).2 (blk b7 ((headC bs i).cells la lc) 56 :: row 150 1 la (headC bs i).cls.length lc (intsV (headC bs i).cls) :: blk b5 (arrV (rInts bs ⟨0, 0⟩ 7).1) 155 :: blk b2 (stp0.cells none 0) 56 :: F))) (fun _ => rfl) ?_ ?_
  · exact ⟨VV bs 6, (0, none, 0), ⟨rfl, trivial⟩, rfl, by rw [headC_zero, rInts_zero]; generalize rInts bs ⟨0, 0⟩ 7 = s7 at H2 ⊢; exact St.pick [2, 3, 1, 0, 4, 5] (pre := [_, _, _, _, _, _]) rfl H2 rfl⟩
  rintro m ⟨i, la, lc⟩ ρ1 w ⟨hmi, H⟩
  refine w_seq ?_
  refine w_region ?_
  refine l_pbool rfl rfl ?_
  refine l_nil ?_
  refine w_seq ?_
  refine w_cond rfl (fun c3 => ?_) (fun c3 => ?_)
  · try simp only [sH] at c3
    refine w_skip ?_
    refine w_seq ?_
    refine w_block ?_
    refine w_drawX [6, 8] [1] 2 [(0, 0), (1, 1), (2, 0), (3, 2), (4, 0), (5, 2), (6, 2), (7, 0), (8, 2)] mixed (by kernel_rfl) (fun _ _ _ h => fin_panic h) H (fun H => ?_)
    refine r_w rfl rfl (fun w => q_fieldAddr rfl fo56_1 rfl) ?_
    refine r_v rfl rfl (fun w hS => q_load1 rfl c1_54 rfl (hS.cell 0 rfl rfl)) ?_
    refine r_pptr rfl rfl rfl ?_
    refine r_do rfl ?_
    refine b_call rfl cb_51 rfl (RIntM_ok H (rInts_ok2 (rInts_ok2 (rs0 bs) 7) i) (by omega)) (fun v w hv => ?_)
    obtain ⟨rfl, H⟩ := hv
    refine l_nil ⟨fun _ _ => (by first | exact Sx.tl H 2 rfl | exact Sx.tl H 3 rfl), ?_⟩
    refine r_w rfl rfl (fun w => q_build (cs := [I ((rInt bs maxI (rInts bs (rInts bs ⟨0, 0⟩ 7).2 i).2).1 : Int)]) rfl sp_150 rfl) ?_
    refine r_do rfl ?_
    refine b_buildSlice (cs := [I ((rInt bs maxI (rInts bs (rInts bs ⟨0, 0⟩ 7).2 i).2).1 : Int)]) rfl el_54 ze_150 rfl rfl rfl H (fun b57 w H => ?_)
    refine l_nil ⟨fun _ _ => (by first | exact Sx.tl H 2 rfl | exact Sx.tl H 3 rfl), ?_⟩
    refine r_do rfl ?_
    have hcl := headC_len bs i
    refine b_append rfl el_54 ze_150 rfl rfl rfl H 4 rfl (Rd.mk (H.cells0 0 rfl)) rfl (fun u hu => by obtain rfl := List.mem_singleton.1 hu; rfl) ⟨by omega, by simp only [maxLen]; omega⟩ (fun a58 c58 w H => ?_)
    have H := H.drop1
    refine l_nil ⟨(fun h => nomatch h), ?_⟩
    refine r_w rfl rfl (fun w => q_fieldAddr rfl fo56_1 rfl) ?_
    refine r_do rfl ?_
    have e1 : (headC bs (i + 1)).cls.length = (headC bs i).cls.length + 1 := by rw [headC_len, headC_len]
    refine b_store (cs' := (headC bs (i + 1)).cells a58 c58) rfl sz_54 rfl rfl rfl rfl rfl H 2 rfl rfl (by unfold Stp.cells; rw [e1]; rfl) (fun w H => ?_)
    have H : St W w (readerL rb ra rc bs (rInts bs (rInts bs ⟨0, 0⟩ 7).2 (i + 1)).2 (blk b7 ((headC bs (i + 1)).cells a58 c58) 56 :: row 150 1 a58 (headC bs (i + 1)).cls.length c58 (intsV (headC bs (i + 1)).cls) :: blk b5 (arrV (rInts bs ⟨0, 0⟩ 7).1) 155 :: blk b2 (stp0.cells none 0) 56 :: F)) := by
      rw [e1, headC_succ]
      unfold intsV at H ⊢
      rw [List.map_append]
      exact H
    refine l_nil ⟨(fun h => nomatch h), ?_⟩
    refine r_nil ?_
    refine w_region ?_
    first | refine l_v rfl (q_add rfl rfl rfl (by simp only [inK]; omega)) ?_ | refine l_pint rfl rfl ?_
    refine l_pint rfl rfl ?_
    refine l_nil ?_
    refine ⟨by repeat' first | exact aM | exact aR | refine aI rfl ?_ | refine aU rfl ?_ | refine aL rfl ?_, ?_⟩
    refine ⟨m - 1, (i + 1, a58, c58), by omega, ⟨by exact congrArg (Value.int IntKind.i64) (Int.natCast_succ i).symm, trivial⟩, by omega, ?_⟩
    exact H
  try simp only [sH] at c3
  obtain rfl : i = VV bs 6 := by omega
  refine w_exit ?_
  refine w_seq ?_
  refine w_drawT [9] [0, 5] [(0, 1), (1, 0), (2, 2), (3, 0), (4, 0), (5, 1), (6, 2), (7, 0), (8, 0), (9, 2), (10, 0)] mixed (by kernel_rfl) (fun _ _ _ h => fin_panic h) H (fun H => ?_)
  refine r_v rfl rfl (fun w hS => q_loadN (vs := (headC bs (VV bs 6)).cells la lc) rfl ag_56 rfl rfl (hS.cells 2 rfl)) ?_
  refine r_pptr rfl rfl rfl ?_
  refine r_do rfl ?_
  refine b_call rfl cb_53 rfl (REnd_ok H) (fun v w hv => ?_)
  obtain ⟨rfl, H⟩ := hv
  refine l_nil ⟨fun _ _ => (by first | exact H | exact H.drop1 | exact H.drop1.drop1 | exact H.drop1.drop1.drop1), ?_⟩
  refine r_pbool rfl rfl rfl ?_
  refine r_pbool rfl rfl rfl ?_
  refine r_split 65 rfl (fun h65 => ?_) (fun h65 => ?_)
  · try simp only [sH] at h65
    refine r_v rfl rfl (fun w hS => q_loadN (vs := (headC bs (VV bs 6)).cells la lc) rfl ag_56 rfl rfl (hS.cells 2 rfl)) ?_
    refine r_do rfl ?_
    refine b_call rfl cb_71 rfl (checked_ok H (headC bs (VV bs 6)) (RdIn.row 3 rfl)) (fun v w hv => ?_)
    obtain ⟨rfl, H⟩ := hv
    refine l_nil ⟨fun _ _ => (by first | exact H | exact H.drop1 | exact H.drop1.drop1 | exact H.drop1.drop1.drop1), ?_⟩
    refine r_pbool rfl rfl rfl ?_
    refine r_pickT (v := .bool _) rfl rfl rfl rfl ?_
    refine r_do rfl ?_
    first
      | refine b_store rfl sz_56 rfl rfl rfl rfl rfl H 5 rfl rfl (putL_all rfl) (fun w H => ?_)
      | refine b_store rfl sz_56 rfl rfl rfl rfl rfl H 4 rfl rfl (putL_all rfl) (fun w H => ?_)
    refine l_nil ⟨(fun h => nomatch h), ?_⟩
    refine r_pbool rfl rfl rfl ?_
    refine r_nil ?_
    refine w_ret ?_
    refine finc2 rfl ag_56 rfl (by first | exact H.cells 0 rfl | exact H.cells 1 rfl | exact H.cells 2 rfl | exact H.cells 3 rfl | exact H.cells 4 rfl | exact H.cells 5 rfl) rfl ?_
    have e : headR bs = ((headC bs (VV bs 6)), decide (rEnd bs (rInts bs (rInts bs ⟨0, 0⟩ 7).2 (VV bs 6)).2 = 0) && decide (chkS (headC bs (VV bs 6)) = 0)) := if_neg hv0
    rw [e]
    refine ⟨la, lc, ?_, ((H.drop1.drop1.drop1).erase 1).erase 1⟩
    refine congrArg (fun z => Value.tuple #[_, .bool z]) ?_
    rw [decide_eq_true (show rEnd bs (rInts bs (rInts bs ⟨0, 0⟩ 7).2 (VV bs 6)).2 = 0 by omega), Bool.true_and, Bool.eq_iff_iff, beq_iff_eq, decide_eq_true_iff]; omega
  try simp only [sH] at h65
  refine r_no1 rfl rfl ?_
  refine r_do rfl (l_no rfl (l_nil ⟨fun _ _ => (by first | exact H | exact H.drop1 | exact H.drop1.drop1), ?_⟩))
  refine r_no rfl rfl ?_
  refine r_pickF (v := .bool _) rfl rfl rfl rfl ?_
  refine r_do rfl ?_
  first
    | refine b_store rfl sz_56 rfl rfl rfl rfl rfl H 5 rfl rfl (putL_all rfl) (fun w H => ?_)
    | refine b_store rfl sz_56 rfl rfl rfl rfl rfl H 4 rfl rfl (putL_all rfl) (fun w H => ?_)
  refine l_nil ⟨(fun h => nomatch h), ?_⟩
  refine r_pbool rfl rfl rfl ?_
  refine r_nil ?_
  refine w_ret ?_
  refine finc2 rfl ag_56 rfl (by first | exact H.cells 0 rfl | exact H.cells 1 rfl | exact H.cells 2 rfl | exact H.cells 3 rfl | exact H.cells 4 rfl | exact H.cells 5 rfl) rfl ?_
  have e : headR bs = ((headC bs (VV bs 6)), decide (rEnd bs (rInts bs (rInts bs ⟨0, 0⟩ 7).2 (VV bs 6)).2 = 0) && decide (chkS (headC bs (VV bs 6)) = 0)) := if_neg hv0
  rw [e]
  refine ⟨la, lc, ?_, ((H.drop1.drop1.drop1).erase 1).erase 1⟩
  refine congrArg (fun z => Value.tuple #[_, .bool z]) ?_
  rw [decide_eq_false (show ¬ rEnd bs (rInts bs (rInts bs ⟨0, 0⟩ 7).2 (VV bs 6)).2 = 0 by omega), Bool.false_and]
end Go.Proofs.YtfpmnhmdphaceaaDoor
