/- The tape's index and Index do what the plain function indexR says, of any bytes in memory. -/
import Derived.Test.YtfpmnhmdphaceaaDoorTapP3
import Derived.Test.YtfpmnhmdphaceaaDoorTap29
namespace Go.Proofs.YtfpmnhmdphaceaaDoor
open Go.EW
attribute [local irreducible] EW.W EW.L EW.fin block8 outB shaL
set_option linter.unusedVariables false
set_option linter.unusedSimpArgs false
attribute [local irreducible] crcN crcB crcL sealL openR sealR
/-- are places in order, from 1 on and below a bound? the first i of them -/
def plGo (l : List Nat) (m : Nat) : Nat → Bool
  | 0 => true
  | i + 1 => plGo l m i && (decide (1 ≤ l.getD i 0) && decide (l.getD i 0 < m) && (decide (i = 0) || decide (l.getD (i - 1) 0 < l.getD i 0)))
theorem plGo_false {l : List Nat} {m i : Nat} (h : plGo l m i = false) : ∀ j, i ≤ j → plGo l m j = false
  | 0, hj => by obtain rfl : i = 0 := by omega
                exact h
  | j + 1, hj => by
    rcases Nat.lt_or_ge j i with hl | hl
    · obtain rfl : i = j + 1 := by omega
      exact h
    rw [plGo, plGo_false h j hl, Bool.false_and]
theorem plGo_bad {l : List Nat} {m i : Nat} (hi : i < l.length) (h : l[i] < 1 ∨ m ≤ l[i] ∨ (0 < i ∧ l[i] ≤ l.getD (i - 1) 0)) : plGo l m l.length = false := by
  refine plGo_false (i := i + 1) ?_ _ hi
  have e : l.getD i 0 = l[i] := by simp [List.getD, hi]
  rw [plGo, e]
  rcases h with h | h | ⟨h0, h⟩
  · rw [decide_eq_false (by omega : ¬ 1 ≤ l[i])]; simp
  · rw [decide_eq_false (by omega : ¬ l[i] < m)]; simp
  rw [decide_eq_false (by omega : ¬ i = 0), decide_eq_false (by omega : ¬ l.getD (i - 1) 0 < l[i])]; simp
theorem plGo_step {l : List Nat} {m i : Nat} (hi : i < l.length) (hp : plGo l m i = true) (h1 : ¬ l[i] < 1) (h2 : ¬ m ≤ l[i]) (h3 : 0 < i → ¬ l[i] ≤ l.getD (i - 1) 0) : plGo l m (i + 1) = true := by
  have e : l.getD i 0 = l[i] := by simp [List.getD, hi]
  rw [plGo, e, hp, decide_eq_true (by omega : 1 ≤ l[i]), decide_eq_true (by omega : l[i] < m)]
  rcases Nat.eq_zero_or_pos i with h0 | h0
  · rw [decide_eq_true h0]; rfl
  have := h3 h0
  rw [decide_eq_true (by omega : l.getD (i - 1) 0 < l[i])]; simp
/-- the foot's length, its frame -/
def idxN (bs : List UInt8) : Nat := numB (bs.drop (bs.length - 4))
def idxT (bs : List UInt8) : List UInt8 := (bs.drop (bs.length - 4 - idxN bs)).take (idxN bs)
def footBad (f : Nat × List Nat × Bool) (m : Nat) : Prop := f.2.2 = false ∨ ¬ (f.1 = 0 ↔ f.2.1.length = 0) ∨ plGo f.2.1 m f.2.1.length = false
instance (f : Nat × List Nat × Bool) (m : Nat) : Decidable (footBad f m) := by unfold footBad; infer_instance
/-- how many events a file's foot tells, their chunks' places; the error -/
def indexR (bs : List UInt8) : Nat × List Nat × Nat :=
  if bs.length < 4 ∨ bs.length - 4 < idxN bs then (0, [], 222) else if (openR (idxT bs)).2 ≠ 0 ∨ footBad (footR (openR (idxT bs)).1) (bs.length - 4 - idxN bs) then (0, [], 221)
  else ((footR (openR (idxT bs)).1).1, (footR (openR (idxT bs)).1).2.1, 0)
theorem index_short {bs : List UInt8} (h : bs.length < 4) : indexR bs = (0, [], 222) := by unfold indexR; rw [if_pos (.inl h)]
theorem index_far {bs : List UInt8} (h : bs.length - 4 < idxN bs) : indexR bs = (0, [], 222) := by unfold indexR; rw [if_pos (.inr h)]
theorem index_bad {bs : List UInt8} (h1 : ¬ bs.length < 4) (h2 : ¬ bs.length - 4 < idxN bs) (h : (openR (idxT bs)).2 ≠ 0 ∨ footBad (footR (openR (idxT bs)).1) (bs.length - 4 - idxN bs)) : indexR bs = (0, [], 221) := by
  unfold indexR; rw [if_neg (fun x => x.elim h1 h2), if_pos h]
theorem index_good {bs : List UInt8} (h1 : ¬ bs.length < 4) (h2 : ¬ bs.length - 4 < idxN bs) (h3 : (openR (idxT bs)).2 = 0) (h4 : ¬ footBad (footR (openR (idxT bs)).1) (bs.length - 4 - idxN bs)) :
    indexR bs = ((footR (openR (idxT bs)).1).1, (footR (openR (idxT bs)).1).2.1, 0) := by
  unfold indexR; rw [if_neg (fun x => x.elim h1 h2), if_neg (fun x => x.elim (fun y => y h3) h4)]
theorem neq_zero {a b : Nat} : ((((a : Int) == 0) == ((b : Int) == 0)) = true) ↔ (a = 0 ↔ b = 0) := by rw [beq_iff_eq, Bool.eq_iff_iff, beq_iff_eq, beq_iff_eq]; omega
theorem footR_len (b : List UInt8) : (footR b).2.1.length ≤ b.length := by
  unfold footR
  simp only []
  split
  · exact Nat.zero_le _
  rw [rInts_len]; omega
theorem footR_le (b : List UInt8) : (footR b).1 ≤ maxI ∧ ∀ x ∈ (footR b).2.1, x ≤ maxI := by
  unfold footR
  simp only []
  split
  · exact ⟨Nat.zero_le _, fun x hx => absurd hx (by simp)⟩
  refine ⟨?_, fun x hx => rInts_le _ x hx⟩
  have h := rInts_le (b := b) (s := ⟨0, 0⟩) 3
  have hl := rInts_len b ⟨0, 0⟩ 3
  simp only [List.getD]
  cases hg : (rInts b ⟨0, 0⟩ 3).1[1]? with
  | none => exact Nat.zero_le _
  | some x => exact h x (List.mem_of_getElem? hg)
set_option maxRecDepth 8000 in
set_option maxHeartbeats 1000000 in
theorem index_ok {W w : World} {F : List Seg} (hN : NibOk W) (H : St W w F) {a : Option Addr} {n c : Nat} {bs : List UInt8} (hr : RdIn W F a (bs.map B)) (hl : bs.length = n) (hcp : bs.length ≤ c) (hn : n ≤ 140737488351232) :
    Ok Tryd.prog 79 [.slice a n c].toArray w (fun r w' => ∃ a' c', r = .tuple #[I ((indexR bs).1 : Int), .slice a' (indexR bs).2.1.length c', I ((indexR bs).2.2 : Int)] ∧ St W w' (row 3 1 a' (indexR bs).2.1.length c' (natsV (indexR bs).2.1) :: F)) := by
  subst hl
  refine enter (n := 100) (rs := #[.tmp 2, .tmp 3, .tmp 4]) Tryd.func79 rfl rfl rfl rfl ?_
  refine w_seq ?_
  refine w_region ?_
  refine l_pint rfl rfl ?_
  refine l_pslice rfl rfl ?_
  refine l_pint rfl rfl ?_
  refine l_nil ?_
  refine w_seq ?_
  refine w_seq ?_
  refine w_region ?_
  refine l_pslice rfl rfl ?_
  refine l_v rfl (q_lenSlice rfl el_28 rfl) ?_
  refine l_pbool rfl rfl ?_
  refine l_nil ?_
  refine w_cond rfl (fun c1 => ?_) (fun c1 => ?_)
  · try simp only [sH] at c1
    refine w_seq ?_
    refine w_region ?_
    refine l_pint rfl rfl ?_
    refine l_pslice rfl rfl ?_
    refine l_pint rfl rfl ?_
    refine l_nil ?_
    refine w_ret ?_
    refine fin3 rfl rfl rfl ?_
    rw [index_short (by omega)]
    exact ⟨none, 0, rfl, St.newRow H⟩
  try simp only [sH] at c1
  have hq4 : (bs.drop (bs.length - 4)).length = 4 := by rw [List.length_drop]; omega
  refine w_skip ?_
  refine w_seq ?_
  refine w_region ?_
  refine l_pslice rfl rfl ?_
  refine l_v rfl (q_lenSlice rfl el_28 rfl) ?_
  first | refine l_v rfl (q_sub rfl rfl rfl (by simp only [inK]; omega)) ?_ | refine l_pint rfl rfl ?_
  refine l_pint rfl rfl ?_
  refine l_nil ?_
  refine w_seq ?_
  refine w_region ?_
  refine l_pint rfl rfl ?_
  refine l_nil ?_
  refine w_seq ?_
  refine w_seq ?_
  refine w_region ?_
  refine l_pslice rfl rfl ?_
  refine l_pint rfl rfl ?_
  refine l_v rfl (q_slice (l := (bs.length - 4)) (h := bs.length) (m := c) rfl el_28 rfl Bnd.none Bnd.none (by have h := @Bnd.mk .i64 (((bs.length : Int) - 4)) 0 bs.length ⟨by omega, by omega⟩; rwa [show (((bs.length : Int) - 4)).toNat = (bs.length - 4) by omega] at h) (by simp)) ?_
  refine l_v rfl (q_lenSlice rfl el_28 rfl) ?_
  refine l_pint rfl rfl ?_
  refine l_nil ?_
  refine w_block ?_
  refine w_loopG (G := Nat) [6, 8, 26, 27, 28, 29, 30, 31, 32, 33, 34, 35] (fun i => [(6, .int .i64 ((numB ((bs.drop (bs.length - 4)).take i) : Nat) : Int)), (26, .int .i64 ((i : Nat) : Int))]) (fun m i w => m + i = 4 ∧ St W w F) (fun _ => rfl) ?_ ?_
  · exact ⟨4, 0, ⟨rfl, rfl, trivial⟩, rfl, H⟩
  rintro m i ρ1 w ⟨hmi, H⟩
  refine w_seq ?_
  refine w_region ?_
  refine l_pbool rfl rfl ?_
  refine l_nil ?_
  refine w_seq ?_
  refine w_cond rfl (fun c2 => ?_) (fun c2 => ?_)
  · try simp only [sH] at c2
    have hqr := rd_drop (p := (bs.length - 4)) (hr.use H 0 rfl) hcp (by omega)
    obtain ⟨qb, qo, hqa, _⟩ := by_cell hqr (j := i) (by omega)
    have hk8 := numB_4 (l := (bs.drop (bs.length - 4)).take i) (by rw [List.length_take]; omega)
    have hx := ((bs.drop (bs.length - 4))[i]'(by omega)).toNat_lt
    refine w_skip ?_
    refine w_seq ?_
    refine w_block ?_
    refine w_seq ?_
    refine w_region ?_
    refine l_v rfl (q_indexSliceE i rfl el_28 rfl hqa rfl rfl (by omega)) ?_
    refine l_v rfl (q_load1 rfl c1_5 rfl (by_at hqa hqr (by omega))) ?_
    first | refine l_p (v := B _) rfl rfl ?_ | refine l_pint rfl rfl ?_
    refine l_nil ?_
    refine w_region ?_
    refine l_pint rfl rfl ?_
    refine l_v rfl (q_pure (i64_shl8 rfl rfl (by omega))) ?_
    first | refine l_p (v := B _) rfl rfl ?_ | refine l_pint rfl rfl ?_
    refine l_v rfl (q_convIntIn rfl (by kernel_rfl) in_3 rfl (by simp only [inK]; omega)) ?_
    refine l_v rfl (q_pure (i64_orb rfl rfl hx (by omega))) ?_
    refine l_pint rfl rfl ?_
    refine l_nil ?_
    refine w_region ?_
    first | refine l_v rfl (q_add rfl rfl rfl (by simp only [inK]; omega)) ?_ | refine l_pint rfl rfl ?_
    refine l_pint rfl rfl ?_
    refine l_nil ?_
    refine ⟨by repeat' first | exact aM | exact aR | refine aI rfl ?_ | refine aU rfl ?_ | refine aL rfl ?_, ?_⟩
    refine ⟨m - 1, i + 1, by omega, ⟨congrArg (fun z : Nat => Value.int .i64 (z : Int)) (numB_take (by omega)).symm, by exact congrArg (Value.int IntKind.i64) (Int.natCast_succ i).symm, trivial⟩, by omega, H⟩
  try simp only [sH] at c2
  obtain rfl : i = 4 := by omega
  have hqt : (bs.drop (bs.length - 4)).take 4 = (bs.drop (bs.length - 4)) := List.take_of_length_le (by omega)
  rw [hqt]
  have hn4 := numB_4 (l := (bs.drop (bs.length - 4))) (by omega)
  rw [show numB (bs.drop (bs.length - 4)) = idxN bs from rfl] at hn4 ⊢
  refine w_exit ?_
  refine w_seq ?_
  refine w_seq ?_
  refine w_region ?_
  refine l_pint rfl rfl ?_
  refine l_pint rfl rfl ?_
  refine l_pbool rfl rfl ?_
  refine l_nil ?_
  refine w_cond rfl (fun c3 => ?_) (fun c3 => ?_)
  · try simp only [sH] at c3
    refine w_seq ?_
    refine w_region ?_
    refine l_pint rfl rfl ?_
    refine l_pslice rfl rfl ?_
    refine l_pint rfl rfl ?_
    refine l_nil ?_
    refine w_ret ?_
    refine fin3 rfl rfl rfl ?_
    rw [index_far (by omega)]
    exact ⟨none, 0, rfl, St.newRow H⟩
  try simp only [sH] at c3
  have hop := hr.subA (sz := 1) (l := (bs.length - 4) - (idxN bs)) (m := (bs.length - 4)) (j := (idxN bs)) (fun e => by omega)
  rw [Nat.mul_one, ← List.map_drop, ← List.map_take] at hop
  refine w_skip ?_
  refine w_seq ?_
  refine w_region ?_
  refine l_pslice rfl rfl ?_
  refine l_pint rfl rfl ?_
  refine l_pint rfl rfl ?_
  first | refine l_v rfl (q_sub rfl rfl rfl (by simp only [inK]; omega)) ?_ | refine l_pint rfl rfl ?_
  refine l_pint rfl rfl ?_
  refine l_pint rfl rfl ?_
  refine l_v rfl (q_slice (l := (bs.length - 4) - (idxN bs)) (h := (bs.length - 4)) (m := (bs.length - 4)) rfl el_28 rfl (by have h := @Bnd.mk .i64 (((bs.length : Int) - 4)) c c ⟨by omega, by omega⟩; rwa [show (((bs.length : Int) - 4)).toNat = (bs.length - 4) by omega] at h) (by have h := @Bnd.mk .i64 (((bs.length : Int) - 4)) bs.length (bs.length - 4) ⟨by omega, by omega⟩; rwa [show (((bs.length : Int) - 4)).toNat = (bs.length - 4) by omega] at h) (by have h := @Bnd.mk .i64 ((((bs.length : Int) - 4) - ((idxN bs) : Int))) 0 (bs.length - 4) ⟨by omega, by omega⟩; rwa [show ((((bs.length : Int) - 4) - ((idxN bs) : Int))).toNat = (bs.length - 4) - (idxN bs) by omega] at h) (by simp)) ?_
  refine b_call rfl cb_116 rfl (Open_ok (bs := idxT bs) hN H hop (by unfold idxT; rw [List.length_take, List.length_drop]; omega) (by unfold idxT; rw [List.length_take, List.length_drop]; omega) (by omega)) (fun v w hv => ?_)
  obtain ⟨oa, oc, rfl, H⟩ := hv
  refine l_ptup rfl rfl ?_
  refine l_pslice rfl rfl ?_
  refine l_pint rfl rfl ?_
  refine l_pslice rfl rfl ?_
  refine l_pint rfl rfl ?_
  refine l_nil ?_
  refine w_seq ?_
  refine w_seq ?_
  refine w_region ?_
  refine l_pint rfl rfl ?_
  refine l_pbool rfl rfl ?_
  refine l_nil ?_
  refine w_cond rfl (fun c4 => ?_) (fun c4 => ?_)
  · try simp only [sH] at c4
    refine w_seq ?_
    refine w_region ?_
    refine l_pint rfl rfl ?_
    refine l_pslice rfl rfl ?_
    refine l_pint rfl rfl ?_
    refine l_nil ?_
    refine w_ret ?_
    refine fin3 rfl rfl rfl ?_
    rw [index_bad (bs := bs) (by omega) (by omega) (.inl (by omega))]
    exact ⟨none, 0, rfl, St.newRow H.drop1⟩
  try simp only [sH] at c4
  refine w_skip ?_
  refine w_seq ?_
  refine w_region ?_
  refine l_pslice rfl rfl ?_
  refine b_call rfl cb_108 rfl (footOf_ok H (RdIn.row 0 rfl) rfl (by have := openR_good (f := idxT bs) (by omega); omega)) (fun v w hv => ?_)
  obtain ⟨fa, fc, rfl, H⟩ := hv
  have H := H.erase 1
  have hfo := footR_le (openR (idxT bs)).1
  have hfl := footR_len (openR (idxT bs)).1
  have hog := openR_good (f := idxT bs) (by omega)
  have hibad := fun h => index_bad (bs := bs) (by omega) (by omega) (.inr h)
  have higood := index_good (bs := bs) (by omega) (by omega) (by omega)
  generalize footR (openR (idxT bs)).1 = fo at *
  have hmx : maxI = 9223372036854775807 := rfl
  refine l_ptup rfl rfl ?_
  refine l_pint rfl rfl ?_
  refine l_pslice rfl rfl ?_
  refine l_pbool rfl rfl ?_
  refine l_pint rfl rfl ?_
  refine l_pslice rfl rfl ?_
  refine l_pbool rfl rfl ?_
  refine l_nil ?_
  refine w_seq ?_
  refine w_seq ?_
  refine w_region ?_
  refine l_pbool rfl rfl ?_
  refine l_pbool rfl rfl ?_
  refine l_pbool rfl rfl ?_
  refine l_split 60 rfl (fun h60 => ?_) (fun h60 => ?_)
  · try simp only [sH] at h60
    refine l_no rfl ?_
    refine l_no rfl ?_
    refine l_no rfl ?_
    refine l_no rfl ?_
    refine l_no rfl ?_
    refine l_no rfl ?_
    refine l_pickT (v := .bool _) rfl rfl rfl ?_
    refine l_nil ?_
    refine w_cond_t rfl ?_
    refine w_seq ?_
    refine w_region ?_
    refine l_pint rfl rfl ?_
    refine l_pslice rfl rfl ?_
    refine l_pint rfl rfl ?_
    refine l_nil ?_
    refine w_ret ?_
    refine fin3 rfl rfl rfl ?_
    rw [hibad (.inl (by simpa using h60))]
    exact ⟨none, 0, rfl, St.newRow H.drop1⟩
  try simp only [sH] at h60
  refine l_pint rfl rfl ?_
  refine l_pbool rfl rfl ?_
  refine l_pslice rfl rfl ?_
  refine l_v rfl (q_lenSlice rfl el_66 rfl) ?_
  refine l_pbool rfl rfl ?_
  refine l_v rfl (q_neqBool rfl bo_4 rfl rfl) ?_
  refine l_pickF (v := .bool _) rfl rfl rfl ?_
  refine l_nil ?_
  refine w_cond rfl (fun c5 => ?_) (fun c5 => ?_)
  · try simp only [sH] at c5
    refine w_seq ?_
    refine w_region ?_
    refine l_pint rfl rfl ?_
    refine l_pslice rfl rfl ?_
    refine l_pint rfl rfl ?_
    refine l_nil ?_
    refine w_ret ?_
    refine fin3 rfl rfl rfl ?_
    rw [hibad (.inr (.inl fun h => by rw [neq_zero.2 h] at c5; cases c5))]
    exact ⟨none, 0, rfl, St.newRow H.drop1⟩
  try simp only [sH] at c5
  refine w_skip ?_
  refine w_seq ?_
  refine w_seq ?_
  refine w_region ?_
  refine l_pslice rfl rfl ?_
  refine l_v rfl (q_lenSlice rfl el_66 rfl) ?_
  refine l_pint rfl rfl ?_
  refine l_nil ?_
  refine w_block ?_
  refine w_loopG (G := Nat) [2, 3, 4, 14, 15, 70, 71, 72, 73, 74, 75, 76, 77, 78, 79, 80, 81, 82, 83, 84, 85, 86, 87, 88, 89, 90, 91, 92, 93, 94, 95, 96, 97] (fun i => [(70, .int .i64 ((i : Nat) : Int))]) (fun m i w => m + i = fo.2.1.length ∧ plGo fo.2.1 ((bs.length - 4) - (idxN bs)) i = true ∧ St W w (row 3 1 fa fo.2.1.length fc (natsV fo.2.1) :: F)) (fun _ => rfl) ?_ ?_
  · exact ⟨fo.2.1.length, 0, ⟨rfl, trivial⟩, rfl, rfl, H⟩
  rintro m i ρ1 w ⟨hmi, hpg, H⟩
  refine w_seq ?_
  refine w_region ?_
  refine l_pbool rfl rfl ?_
  refine l_nil ?_
  refine w_seq ?_
  refine w_cond rfl (fun c6 => ?_) (fun c6 => ?_)
  · try simp only [sH] at c6
    have hi : i < fo.2.1.length := by omega
    obtain ⟨pb, po, hpa, hpc⟩ := nat_at ((RdIn.row (W := W) 0 rfl).use H 0 rfl) hi
    have hfx := hfo.2 _ (List.getElem_mem hi)
    refine w_skip ?_
    refine w_seq ?_
    refine w_block ?_
    refine w_seq ?_
    refine w_region ?_
    refine l_pint rfl rfl ?_
    refine l_v rfl (q_indexSliceE i rfl el_66 rfl hpa rfl rfl hi) ?_
    refine l_v rfl (q_load1 rfl c1_3 rfl hpc) ?_
    refine l_pint rfl rfl ?_
    refine l_pint rfl rfl ?_
    refine l_nil ?_
    refine w_seq ?_
    refine w_region ?_
    refine l_pint rfl rfl ?_
    refine l_pbool rfl rfl ?_
    refine l_pbool rfl rfl ?_
    refine l_split 77 rfl (fun h77 => ?_) (fun h77 => ?_)
    · try simp only [sH] at h77
      refine l_no rfl ?_
      refine l_no rfl ?_
      refine l_no rfl ?_
      refine l_no rfl ?_
      refine l_no rfl ?_
      refine l_pickT (v := .bool _) rfl rfl rfl ?_
      refine l_pbool rfl rfl ?_
      refine l_no rfl ?_
      refine l_no rfl ?_
      refine l_no rfl ?_
      refine l_no rfl ?_
      refine l_no rfl ?_
      refine l_no rfl ?_
      refine l_no rfl ?_
      refine l_no rfl ?_
      refine l_no rfl ?_
      refine l_no rfl ?_
      refine l_no rfl ?_
      refine l_pickT (v := .bool _) rfl rfl rfl ?_
      refine l_nil ?_
      refine w_cond_t rfl ?_
      refine w_seq ?_
      refine w_region ?_
      refine l_pint rfl rfl ?_
      refine l_pslice rfl rfl ?_
      refine l_pint rfl rfl ?_
      refine l_nil ?_
      refine w_ret ?_
      refine fin3 rfl rfl rfl ?_
      rw [hibad (.inr (.inr (plGo_bad hi (.inl (by omega)))))]
      exact ⟨none, 0, rfl, St.newRow H.drop1⟩
    try simp only [sH] at h77
    refine l_pint rfl rfl ?_
    refine l_pint rfl rfl ?_
    refine l_pint rfl rfl ?_
    first | refine l_v rfl (q_sub rfl rfl rfl (by simp only [inK]; omega)) ?_ | refine l_pint rfl rfl ?_
    refine l_pbool rfl rfl ?_
    refine l_pickF (v := .bool _) rfl rfl rfl ?_
    refine l_pbool rfl rfl ?_
    refine l_split 84 rfl (fun h84 => ?_) (fun h84 => ?_)
    · try simp only [sH] at h84
      refine l_no rfl ?_
      refine l_no rfl ?_
      refine l_no rfl ?_
      refine l_no rfl ?_
      refine l_no rfl ?_
      refine l_no rfl ?_
      refine l_no rfl ?_
      refine l_no rfl ?_
      refine l_no rfl ?_
      refine l_no rfl ?_
      refine l_no rfl ?_
      refine l_pickT (v := .bool _) rfl rfl rfl ?_
      refine l_nil ?_
      refine w_cond_t rfl ?_
      refine w_seq ?_
      refine w_region ?_
      refine l_pint rfl rfl ?_
      refine l_pslice rfl rfl ?_
      refine l_pint rfl rfl ?_
      refine l_nil ?_
      refine w_ret ?_
      refine fin3 rfl rfl rfl ?_
      rw [hibad (.inr (.inr (plGo_bad hi (.inr (.inl (by omega))))))]
      exact ⟨none, 0, rfl, St.newRow H.drop1⟩
    try simp only [sH] at h84
    refine l_pint rfl rfl ?_
    refine l_pbool rfl rfl ?_
    refine l_pbool rfl rfl ?_
    refine l_split 87 rfl (fun h87 => ?_) (fun h87 => ?_)
    · try simp only [sH] at h87
      have hi2 : i - 1 < fo.2.1.length := by omega
      obtain ⟨pb2, po2, hpa2, hpc2⟩ := nat_at ((RdIn.row (W := W) 0 rfl).use H 0 rfl) hi2
      have hgd : fo.2.1.getD (i - 1) 0 = fo.2.1[i - 1] := by simp [List.getD, hi2]
      refine l_pint rfl rfl ?_
      refine l_pslice rfl rfl ?_
      refine l_pint rfl rfl ?_
      first | refine l_v rfl (q_sub rfl rfl rfl (by simp only [inK]; omega)) ?_ | refine l_pint rfl rfl ?_
      refine l_v rfl (q_indexSliceE (i - 1) rfl el_66 rfl hpa2 rfl (by omega) (by omega)) ?_
      refine l_v rfl (q_load1 rfl c1_3 rfl hpc2) ?_
      refine l_pbool rfl rfl ?_
      refine l_pickT (v := .bool _) rfl rfl rfl ?_
      refine l_pickF (v := .bool _) rfl rfl rfl ?_
      refine l_nil ?_
      refine w_cond rfl (fun c7 => ?_) (fun c7 => ?_)
      · try simp only [sH] at c7
        refine w_seq ?_
        refine w_region ?_
        refine l_pint rfl rfl ?_
        refine l_pslice rfl rfl ?_
        refine l_pint rfl rfl ?_
        refine l_nil ?_
        refine w_ret ?_
        refine fin3 rfl rfl rfl ?_
        rw [hibad (.inr (.inr (plGo_bad hi (.inr (.inr ⟨by omega, by omega⟩)))))]
        exact ⟨none, 0, rfl, St.newRow H.drop1⟩
      try simp only [sH] at c7
      refine w_skip ?_
      refine w_region ?_
      first | refine l_v rfl (q_add rfl rfl rfl (by simp only [inK]; omega)) ?_ | refine l_pint rfl rfl ?_
      refine l_pint rfl rfl ?_
      refine l_nil ?_
      refine ⟨by repeat' first | exact aM | exact aR | refine aI rfl ?_ | refine aU rfl ?_ | refine aL rfl ?_, ?_⟩
      refine ⟨m - 1, i + 1, by omega, ⟨by exact congrArg (Value.int IntKind.i64) (Int.natCast_succ i).symm, trivial⟩, by omega, plGo_step hi hpg (by omega) (by omega) (fun h => by omega), H⟩
    try simp only [sH] at h87
    refine l_no rfl ?_
    refine l_no rfl ?_
    refine l_no rfl ?_
    refine l_no rfl ?_
    refine l_no rfl ?_
    refine l_no rfl ?_
    refine l_no rfl ?_
    refine l_pickF (v := .bool _) rfl rfl rfl ?_
    refine l_pickF (v := .bool _) rfl rfl rfl ?_
    refine l_nil ?_
    refine w_cond_f rfl ?_
    refine w_skip ?_
    refine w_region ?_
    first | refine l_v rfl (q_add rfl rfl rfl (by simp only [inK]; omega)) ?_ | refine l_pint rfl rfl ?_
    refine l_pint rfl rfl ?_
    refine l_nil ?_
    refine ⟨by repeat' first | exact aM | exact aR | refine aI rfl ?_ | refine aU rfl ?_ | refine aL rfl ?_, ?_⟩
    refine ⟨m - 1, i + 1, by omega, ⟨by exact congrArg (Value.int IntKind.i64) (Int.natCast_succ i).symm, trivial⟩, by omega, plGo_step hi hpg (by omega) (by omega) (fun h => absurd h (by omega)), H⟩
  try simp only [sH] at c6
  obtain rfl : i = fo.2.1.length := by omega
  refine w_exit ?_
  refine w_seq ?_
  refine w_region ?_
  refine l_pint rfl rfl ?_
  refine l_pslice rfl rfl ?_
  refine l_pint rfl rfl ?_
  refine l_pslice rfl rfl ?_
  refine l_pint rfl rfl ?_
  refine l_nil ?_
  refine w_ret ?_
  refine fin3 rfl rfl rfl ?_
  rw [higood (by
    rintro (h | h | h)
    · rw [h] at h60; exact absurd h60 (by simp)
    · exact h (neq_zero.1 c5)
    rw [hpg] at h; cases h)]
  exact ⟨fa, fc, rfl, H⟩
theorem Index_ok {W w : World} {F : List Seg} (hN : NibOk W) (H : St W w F) {a : Option Addr} {n c : Nat} {bs : List UInt8} (hr : RdIn W F a (bs.map B)) (hl : bs.length = n) (hcp : bs.length ≤ c) (hn : n ≤ 140737488351232) :
    Ok Tryd.prog 32 [.slice a n c].toArray w (fun r w' => ∃ a' c', r = .tuple #[.slice a' (indexR bs).2.1.length c', I ((indexR bs).2.2 : Int)] ∧ St W w' (row 3 1 a' (indexR bs).2.1.length c' (natsV (indexR bs).2.1) :: F)) := by
  refine enter (n := 15) (rs := #[.tmp 2, .tmp 3]) Tryd.func32 rfl rfl rfl rfl ?_
  refine w_seq ?_
  refine w_region ?_
  refine l_pslice rfl rfl ?_
  refine l_pint rfl rfl ?_
  refine l_nil ?_
  refine w_seq ?_
  refine w_region ?_
  refine l_pslice rfl rfl ?_
  refine b_call rfl cb_79 rfl (index_ok hN H hr hl hcp hn) (fun v w hv => ?_)
  obtain ⟨a', c', rfl, H⟩ := hv
  refine l_ptup rfl rfl ?_
  refine l_pint rfl rfl ?_
  refine l_pslice rfl rfl ?_
  refine l_pint rfl rfl ?_
  refine l_pint rfl rfl ?_
  refine l_pslice rfl rfl ?_
  refine l_pint rfl rfl ?_
  refine l_nil ?_
  refine w_seq ?_
  refine w_region ?_
  refine l_pslice rfl rfl ?_
  refine l_pint rfl rfl ?_
  refine l_pslice rfl rfl ?_
  refine l_pint rfl rfl ?_
  refine l_nil ?_
  refine w_ret ?_
  refine fin2 rfl rfl ?_
  exact ⟨a', c', rfl, H⟩
end Go.Proofs.YtfpmnhmdphaceaaDoor
