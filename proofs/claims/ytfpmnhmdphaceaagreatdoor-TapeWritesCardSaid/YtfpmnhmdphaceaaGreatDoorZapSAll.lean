/- The reference's Config, Setup, getHead, first, fits, events, lastFrame, right and tail do what the plain functions say; the law of a reading's chunks. -/
import Derived.Test.YtfpmnhmdphaceaaGreatDoorZap46
import Derived.Test.YtfpmnhmdphaceaaGreatDoorZap28
namespace Go.Proofs.YtfpmnhmdphaceaaGreatDoor
open Go.EW
attribute [local irreducible] EW.W EW.L EW.fin block8 outB shaL
set_option linter.unusedVariables false
set_option linter.unusedSimpArgs false
attribute [local irreducible] crcN crcB crcL sealL openR sealR
theorem cfgr_no {s : Stp} (h : ¬ cfgOk s) : false = decide (cfgOk s) := (decide_eq_false h).symm
theorem cfgr_eq {s : Stp} {p : Prop} [Decidable p] (h : p ↔ cfgOk s) : decide p = decide (cfgOk s) := decide_eq_decide.2 h
theorem Config_r {W w : World} {F : List Seg} (H : St W w F) (s : Stp) :
    Ok Tryz.prog 26 [.agg #[I s.f, I s.room, I s.pat, .bool s.ung]].toArray w (fun r w' => r = .bool (decide (cfgOk s)) ∧ St W w' F) := by
  refine enter (n := 31) (rs := #[.tmp 2]) Tryz.func26 rfl rfl rfl rfl ?_
  refine w_seq ?_
  refine w_region ?_
  refine b_box (cs := [I s.f, I s.room, I s.pat, .bool s.ung]) rfl rfl rfl H (fun b1 w H => ?_)
  refine l_pbool rfl rfl ?_
  refine l_nil ?_
  refine w_seq ?_
  refine w_region ?_
  refine l_v rfl (q_fieldAddr rfl fo23_0 rfl) ?_
  refine l_v rfl (q_load1 rfl c1_3 rfl (by first | exact H.cell 0 rfl rfl)) ?_
  refine l_pbool rfl rfl ?_
  refine l_pbool rfl rfl ?_
  refine l_split 6 rfl (fun h6 => ?_) (fun h6 => ?_)
  · try simp only [sH] at h6
    refine l_v rfl (q_fieldAddr rfl fo23_0 rfl) ?_
    refine l_v rfl (q_load1 rfl c1_3 rfl (by first | exact H.cell 0 rfl rfl)) ?_
    refine l_pbool rfl rfl ?_
    refine l_pickT (v := .bool _) rfl rfl rfl ?_
    refine l_pbool rfl rfl ?_
    refine l_split 11 rfl (fun h11 => ?_) (fun h11 => ?_)
    · try simp only [sH] at h11
      refine l_v rfl (q_fieldAddr rfl fo23_1 rfl) ?_
      refine l_v rfl (q_load1 rfl c1_3 rfl (by first | exact H.cell 0 rfl rfl)) ?_
      refine l_pbool rfl rfl ?_
      refine l_pickT (v := .bool _) rfl rfl rfl ?_
      refine l_pbool rfl rfl ?_
      refine l_split 16 rfl (fun h16 => ?_) (fun h16 => ?_)
      · try simp only [sH] at h16
        refine l_v rfl (q_fieldAddr rfl fo23_1 rfl) ?_
        refine l_v rfl (q_load1 rfl c1_3 rfl (by first | exact H.cell 0 rfl rfl)) ?_
        refine l_pbool rfl rfl ?_
        refine l_pickT (v := .bool _) rfl rfl rfl ?_
        refine l_pbool rfl rfl ?_
        refine l_split 21 rfl (fun h21 => ?_) (fun h21 => ?_)
        · try simp only [sH] at h21
          refine l_v rfl (q_fieldAddr rfl fo23_2 rfl) ?_
          refine l_v rfl (q_load1 rfl c1_3 rfl (by first | exact H.cell 0 rfl rfl)) ?_
          refine l_pbool rfl rfl ?_
          refine l_pickT (v := .bool _) rfl rfl rfl ?_
          refine l_pbool rfl rfl ?_
          refine l_split 26 rfl (fun h26 => ?_) (fun h26 => ?_)
          · try simp only [sH] at h26
            refine l_v rfl (q_fieldAddr rfl fo23_2 rfl) ?_
            refine l_v rfl (q_load1 rfl c1_3 rfl (by first | exact H.cell 0 rfl rfl)) ?_
            refine l_pbool rfl rfl ?_
            refine l_pickT (v := .bool _) rfl rfl rfl ?_
            refine l_pbool rfl rfl ?_
            refine l_nil ?_
            refine w_ret ?_
            refine fin1 (v := .bool _) rfl ?_
            refine ⟨congrArg Value.bool ?_, H.drop1⟩
            first
              | exact cfgr_no (by unfold cfgOk; omega)
              | exact cfgr_eq (by unfold cfgOk; omega)
          try simp only [sH] at h26
          refine l_no rfl ?_
          refine l_no rfl ?_
          refine l_no rfl ?_
          refine l_pickF (v := .bool _) rfl rfl rfl ?_
          refine l_pbool rfl rfl ?_
          refine l_nil ?_
          refine w_ret ?_
          refine fin1 (v := .bool _) rfl ?_
          refine ⟨congrArg Value.bool ?_, H.drop1⟩
          first
            | exact cfgr_no (by unfold cfgOk; omega)
            | exact cfgr_eq (by unfold cfgOk; omega)
        try simp only [sH] at h21
        refine l_no rfl ?_
        refine l_no rfl ?_
        refine l_no rfl ?_
        refine l_pickF (v := .bool _) rfl rfl rfl ?_
        refine l_pbool rfl rfl ?_
        refine l_no rfl ?_
        refine l_no rfl ?_
        refine l_no rfl ?_
        refine l_pickF (v := .bool _) rfl rfl rfl ?_
        refine l_pbool rfl rfl ?_
        refine l_nil ?_
        refine w_ret ?_
        refine fin1 (v := .bool _) rfl ?_
        refine ⟨congrArg Value.bool ?_, H.drop1⟩
        first
          | exact cfgr_no (by unfold cfgOk; omega)
          | exact cfgr_eq (by unfold cfgOk; omega)
      try simp only [sH] at h16
      refine l_no rfl ?_
      refine l_no rfl ?_
      refine l_no rfl ?_
      refine l_pickF (v := .bool _) rfl rfl rfl ?_
      refine l_pbool rfl rfl ?_
      refine l_no rfl ?_
      refine l_no rfl ?_
      refine l_no rfl ?_
      refine l_pickF (v := .bool _) rfl rfl rfl ?_
      refine l_pbool rfl rfl ?_
      refine l_no rfl ?_
      refine l_no rfl ?_
      refine l_no rfl ?_
      refine l_pickF (v := .bool _) rfl rfl rfl ?_
      refine l_pbool rfl rfl ?_
      refine l_nil ?_
      refine w_ret ?_
      refine fin1 (v := .bool _) rfl ?_
      refine ⟨congrArg Value.bool ?_, H.drop1⟩
      first
        | exact cfgr_no (by unfold cfgOk; omega)
        | exact cfgr_eq (by unfold cfgOk; omega)
    try simp only [sH] at h11
    refine l_no rfl ?_
    refine l_no rfl ?_
    refine l_no rfl ?_
    refine l_pickF (v := .bool _) rfl rfl rfl ?_
    refine l_pbool rfl rfl ?_
    refine l_no rfl ?_
    refine l_no rfl ?_
    refine l_no rfl ?_
    refine l_pickF (v := .bool _) rfl rfl rfl ?_
    refine l_pbool rfl rfl ?_
    refine l_no rfl ?_
    refine l_no rfl ?_
    refine l_no rfl ?_
    refine l_pickF (v := .bool _) rfl rfl rfl ?_
    refine l_pbool rfl rfl ?_
    refine l_no rfl ?_
    refine l_no rfl ?_
    refine l_no rfl ?_
    refine l_pickF (v := .bool _) rfl rfl rfl ?_
    refine l_pbool rfl rfl ?_
    refine l_nil ?_
    refine w_ret ?_
    refine fin1 (v := .bool _) rfl ?_
    refine ⟨congrArg Value.bool ?_, H.drop1⟩
    first
      | exact cfgr_no (by unfold cfgOk; omega)
      | exact cfgr_eq (by unfold cfgOk; omega)
  try simp only [sH] at h6
  refine l_no rfl ?_
  refine l_no rfl ?_
  refine l_no rfl ?_
  refine l_pickF (v := .bool _) rfl rfl rfl ?_
  refine l_pbool rfl rfl ?_
  refine l_no rfl ?_
  refine l_no rfl ?_
  refine l_no rfl ?_
  refine l_pickF (v := .bool _) rfl rfl rfl ?_
  refine l_pbool rfl rfl ?_
  refine l_no rfl ?_
  refine l_no rfl ?_
  refine l_no rfl ?_
  refine l_pickF (v := .bool _) rfl rfl rfl ?_
  refine l_pbool rfl rfl ?_
  refine l_no rfl ?_
  refine l_no rfl ?_
  refine l_no rfl ?_
  refine l_pickF (v := .bool _) rfl rfl rfl ?_
  refine l_pbool rfl rfl ?_
  refine l_no rfl ?_
  refine l_no rfl ?_
  refine l_no rfl ?_
  refine l_pickF (v := .bool _) rfl rfl rfl ?_
  refine l_pbool rfl rfl ?_
  refine l_nil ?_
  refine w_ret ?_
  refine fin1 (v := .bool _) rfl ?_
  refine ⟨congrArg Value.bool ?_, H.drop1⟩
  first
    | exact cfgr_no (by unfold cfgOk; omega)
    | exact cfgr_eq (by unfold cfgOk; omega)
theorem Setup_r {W w : World} {F : List Seg} (H : St W w F) (s : Stp) {a : Option Addr} {c : Nat} (hr : RdIn W F a (intsV s.cls)) :
    Ok Tryz.prog 7 [.agg (s.cells a c).toArray].toArray w (fun r w' => r = I (chkS s : Int) ∧ St W w' F) := by
  refine enter (n := 26) (rs := #[.tmp 2]) Tryz.func7 rfl rfl rfl rfl ?_
  refine w_seq ?_
  refine w_region ?_
  refine b_box (cs := s.cells a c) rfl rfl rfl H (fun b1 w H => ?_)
  refine l_pint rfl rfl ?_
  refine l_nil ?_
  refine w_seq ?_
  refine w_seq ?_
  refine w_region ?_
  refine l_v rfl (q_fieldAddr rfl fo26_0 rfl) ?_
  refine l_v rfl (q_loadN (vs := [I s.f, I s.room, I s.pat, .bool s.ung]) rfl ag_23 rfl rfl ((H.cells 0 rfl).sub 0 4)) ?_
  refine b_call rfl cb_26 rfl (Config_r H s) (fun v w hv => ?_)
  obtain ⟨rfl, H⟩ := hv
  refine l_pbool rfl rfl ?_
  refine l_nil ?_
  refine w_cond rfl (fun c1 => ?_) (fun c1 => ?_)
  · try simp only [sH] at c1
    have hcf : ¬ cfgOk s := by simpa using c1
    refine w_seq ?_
    refine w_region ?_
    refine l_pint rfl rfl ?_
    refine l_nil ?_
    refine w_ret ?_
    refine fin1 (v := .int _ _) rfl ?_
    refine ⟨?_, H.drop1⟩
    rw [chk_cfg hcf]; rfl
  try simp only [sH] at c1
  have hcf : cfgOk s := by simpa using c1
  refine w_skip ?_
  refine w_seq ?_
  refine w_seq ?_
  refine w_region ?_
  refine l_v rfl (q_fieldAddr rfl fo26_1 rfl) ?_
  refine l_v rfl (q_load1 rfl c1_24 rfl (by first | exact H.cell 0 rfl rfl | exact H.cell 1 rfl rfl)) ?_
  refine l_v rfl (q_lenSlice rfl el_24 rfl) ?_
  refine l_pbool rfl rfl ?_
  refine l_nil ?_
  refine w_cond rfl (fun c2 => ?_) (fun c2 => ?_)
  · try simp only [sH] at c2
    refine w_seq ?_
    refine w_region ?_
    refine l_pint rfl rfl ?_
    refine l_nil ?_
    refine w_ret ?_
    refine fin1 (v := .int _ _) rfl ?_
    refine ⟨?_, H.drop1⟩
    rw [chk_long hcf (by omega)]; rfl
  try simp only [sH] at c2
  refine w_skip ?_
  refine w_seq ?_
  refine w_seq ?_
  refine w_region ?_
  refine l_pint rfl rfl ?_
  refine l_nil ?_
  refine w_block ?_
  refine w_loopG (G := Nat) [2, 3, 12, 13, 14, 15, 16, 17, 18, 19, 20, 21, 22, 23, 24, 25] (fun i => [(3, .int .i64 ((i : Nat) : Int))]) (fun m i w => m + i = s.cls.length ∧ (s.cls.take i).any (fun x => decide (x < 0)) = false ∧ St W w (blk b1 (s.cells a c) 26 :: F)) (fun _ => rfl) ?_ ?_
  · exact ⟨s.cls.length, 0, ⟨rfl, trivial⟩, rfl, rfl, H⟩
  rintro m i ρ1 w ⟨hmi, han, H⟩
  refine w_seq ?_
  refine w_seq ?_
  refine w_region ?_
  refine l_pint rfl rfl ?_
  refine l_v rfl (q_fieldAddr rfl fo26_1 rfl) ?_
  refine l_v rfl (q_load1 rfl c1_24 rfl (by first | exact H.cell 0 rfl rfl | exact H.cell 1 rfl rfl)) ?_
  refine l_v rfl (q_lenSlice rfl el_24 rfl) ?_
  refine l_pbool rfl rfl ?_
  refine l_nil ?_
  refine w_cond rfl (fun c3 => ?_) (fun c3 => ?_)
  · try simp only [sH] at c3
    have hi : i < s.cls.length := by omega
    obtain ⟨cb, co, hca, hcc⟩ := int_at (hr.use H 1 rfl) hi
    refine w_skip ?_
    refine w_seq ?_
    refine w_block ?_
    refine w_seq ?_
    refine w_region ?_
    refine l_v rfl (q_fieldAddr rfl fo26_1 rfl) ?_
    refine l_v rfl (q_load1 rfl c1_24 rfl (by first | exact H.cell 0 rfl rfl | exact H.cell 1 rfl rfl)) ?_
    refine l_pint rfl rfl ?_
    refine l_v rfl (q_indexSliceE i rfl el_24 rfl hca rfl rfl hi) ?_
    refine l_v rfl (q_fieldAddr rfl fo36_0 rfl) ?_
    refine l_v rfl (q_load1 rfl c1_3 rfl hcc) ?_
    refine l_pbool rfl rfl ?_
    refine l_nil ?_
    refine w_cond rfl (fun c4 => ?_) (fun c4 => ?_)
    · try simp only [sH] at c4
      refine w_seq ?_
      refine w_region ?_
      refine l_pint rfl rfl ?_
      refine l_nil ?_
      refine w_ret ?_
      refine fin1 (v := .int _ _) rfl ?_
      refine ⟨?_, H.drop1⟩
      rw [chk_neg hcf (by omega) (any_hit hi (by omega))]; rfl
    try simp only [sH] at c4
    refine w_skip ?_
    refine w_region ?_
    refine l_pint rfl rfl ?_
    first | refine l_v rfl (q_add rfl rfl rfl (by simp only [inK]; omega)) ?_ | refine l_pint rfl rfl ?_
    refine l_pint rfl rfl ?_
    refine l_nil ?_
    refine ⟨by repeat' first | exact aM | exact aR | refine aI rfl ?_ | refine aU rfl ?_ | refine aL rfl ?_, ?_⟩
    exact ⟨m - 1, i + 1, by omega, ⟨by exact congrArg (Value.int IntKind.i64) (Int.natCast_succ i).symm, trivial⟩, by omega, any_step hi han (by omega), H⟩
  try simp only [sH] at c3
  obtain rfl : i = s.cls.length := by omega
  rw [List.take_length] at han
  refine w_exit ?_
  refine w_seq ?_
  refine w_region ?_
  refine l_pint rfl rfl ?_
  refine l_nil ?_
  refine w_ret ?_
  refine fin1 (v := .int _ _) rfl ?_
  refine ⟨?_, H.drop1⟩
  rw [chk_ok hcf (by omega) han]; rfl
end Go.Proofs.YtfpmnhmdphaceaaGreatDoor
namespace Go.Proofs.YtfpmnhmdphaceaaGreatDoor
open Go.EW
attribute [local irreducible] EW.W EW.L EW.fin block8 outB shaL
set_option linter.unusedVariables false
set_option linter.unusedSimpArgs false
attribute [local irreducible] crcN crcB crcL sealL openR sealR
def S16 (b : List UInt8) : Rs := (rInt b 16 (rInts b ⟨0, 0⟩ 6).2).2
def N16 (b : List UInt8) : Nat := (rInt b 16 (rInts b ⟨0, 0⟩ 6).2).1
attribute [local irreducible] VV N16 S16
end Go.Proofs.YtfpmnhmdphaceaaGreatDoor
namespace Go.Proofs.YtfpmnhmdphaceaaGreatDoor
open Go.EW
attribute [local irreducible] EW.W EW.L EW.fin block8 outB shaL
set_option linter.unusedVariables false
set_option linter.unusedSimpArgs false
attribute [local irreducible] crcN crcB crcL sealL openR sealR
end Go.Proofs.YtfpmnhmdphaceaaGreatDoor
namespace Go.Proofs.YtfpmnhmdphaceaaGreatDoor
open Go.EW
attribute [local irreducible] EW.W EW.L EW.fin block8 outB shaL
set_option linter.unusedVariables false
set_option linter.unusedSimpArgs false
attribute [local irreducible] crcN crcB crcL sealL openR sealR
/-- from a place, by frames that are right, to another -/
inductive Ch (bs : List UInt8) : Nat → Nat → Prop
  | nil (p : Nat) : Ch bs p p
  | cons {p q : Nat} (h : (bodyR bs p).2.2 = 0) (t : Ch bs (p + (bodyR bs p).2.1) q) : Ch bs p q
theorem Ch.snoc {bs : List UInt8} {p q : Nat} (h : Ch bs p q) (h0 : (bodyR bs q).2.2 = 0) : Ch bs p (q + (bodyR bs q).2.1) := by
  induction h with
  | nil p => exact .cons h0 (.nil _)
  | cons h t ih => exact .cons h (ih h0)
theorem Ch.le {bs : List UInt8} {p q : Nat} (h : Ch bs p q) (hp : p ≤ bs.length) : p ≤ q ∧ q ≤ bs.length := by
  induction h with
  | nil p => exact ⟨Nat.le_refl _, hp⟩
  | @cons p q h t ih =>
    have h1 := (bodyR_le bs p).2 h hp
    have := ih (by omega)
    exact ⟨by omega, this.2⟩
theorem Ch.ok {bs : List UInt8} {p q : Nat} (h : Ch bs p q) (h0 : (bodyR bs q).2.2 = 0) : (bodyR bs p).2.2 = 0 := by
  cases h with
  | nil => exact h0
  | cons h t => exact h
theorem Ch.next {bs : List UInt8} {p q : Nat} (h : Ch bs p q) (hp : p ≤ bs.length) (h0 : (bodyR bs q).2.2 = 0) : p = q ∨ p + (bodyR bs p).2.1 < q + (bodyR bs q).2.1 ∧ Ch bs (p + (bodyR bs p).2.1) q := by
  cases h with
  | nil => exact .inl rfl
  | cons h t =>
    have h1 := (bodyR_le bs p).2 h hp
    have h2 := t.le (by omega)
    have h3 := (bodyR_le bs q).2 h0 h2.2
    exact .inr ⟨by omega, t⟩
/-- the frame that ends at a place -/
structure LastF (bs : List UInt8) (e m : Nat) : Prop where
  ex : ∃ q, Ch bs 0 q ∧ (bodyR bs q).2.2 = 0 ∧ e = q + (bodyR bs q).2.1 ∧ m = (bodyR bs q).2.1
section
variable {bs fb : List UInt8} {s : SS} {q m : Nat}
end
end Go.Proofs.YtfpmnhmdphaceaaGreatDoor
namespace Go.Proofs.YtfpmnhmdphaceaaGreatDoor
open Go.EW
attribute [local irreducible] EW.W EW.L EW.fin block8 outB shaL
set_option linter.unusedVariables false
set_option linter.unusedSimpArgs false
attribute [local irreducible] crcN crcB crcL sealL openR sealR
/-- a chunk that may be, behind full chunks, is a chunk of the greedy cut -/
theorem cs_add {c : CS} {f : Nat} {ts : List Txt} (hfc : cnt (allC c) = f) (h32 : ts.length ≤ 32) (hlen : (chunkB f ts).length ≤ 32756) (h0 : c.cur.length = 0 → c.cs = []) (hf : c.cur.length > 0 → fitC c (ts.headD []) = false) :
    ∀ j, 1 ≤ j → j ≤ ts.length → (ts.take j).foldl addC c = ⟨allC c, ts.take j⟩
  | 0, h1, _ => absurd h1 (by decide)
  | 1, _, hj => by
    match ts, hj with
    | x :: r, _ =>
      rw [List.take_succ_cons, List.take_zero, List.foldl_cons, List.foldl_nil]
      unfold addC allC
      by_cases hp : c.cur.length > 0
      · rw [if_pos ⟨hp, hf hp⟩, if_pos hp]
      rw [if_neg (fun h => hp h.1), if_neg hp, List.length_eq_zero_iff.1 (show c.cur.length = 0 by omega)]; rfl
  | j + 2, _, hj => by
    have ih := cs_add hfc h32 hlen h0 hf (j + 1) (by omega) (by omega)
    have hlt : j + 1 < ts.length := by omega
    rw [List.take_succ_eq_append_getElem hlt, List.foldl_append, ih, List.foldl_cons, List.foldl_nil]
    have hl : (ts.take (j + 1)).length = j + 1 := by rw [List.length_take]; omega
    have hfit : fitC ⟨allC c, ts.take (j + 1)⟩ ts[j + 1] = true := by
      unfold fitC fitsN
      simp only [hl, hfc]
      rw [chunkB_len] at hlen
      have hs := sizeT_take ts (j + 2)
      rw [List.take_succ_eq_append_getElem hlt, sizeT_snoc] at hs
      have e1 : szN (j + 1 + 1) = 2 := by unfold szN; rw [klen_small _ (by omega) (by omega)]
      have e2 : szN ts.length = 2 := by unfold szN; rw [klen_small _ (by omega) (by omega)]
      rw [e1]
      rw [e2] at hlen
      rw [decide_eq_true (show j + 1 < 32 by omega), Bool.true_and, decide_eq_true_iff]
      omega
    unfold addC
    rw [if_neg (fun h => by rw [hfit] at h; exact absurd h.2 (by decide))]
/-- what a reading knows of the chunks so far -/
structure LI (us : List Txt) (s : SS) : Prop where
  emp : us = [] → s.places = [] ∧ s.last = []
  one : us ≠ [] → ∃ A, csOf us = ⟨A, s.last⟩ ∧ A.length + 1 = s.places.length ∧ cnt A = s.first ∧ s.last ≠ []
theorem LI.zero (st : Stp) : LI [] { ss0 with stp := st } := ⟨fun _ => ⟨rfl, rfl⟩, fun h => absurd rfl h⟩
theorem LI.setR {us : List Txt} {s : SS} (h : LI us s) (r : Nat) : LI us { s with right := r } := ⟨h.emp, h.one⟩
theorem LI.fits {us : List Txt} {s : SS} (h : LI us s) (hu : us ≠ []) (x : Txt) : (((chsOf (us ++ [x])).length : Int) == (s.places.length : Int)) = fitsN s.first s.last.length (sizeT s.last) x.length := by
  obtain ⟨A, h1, h2, h3, h4⟩ := h.one hu
  unfold chsOf
  rw [csOf_snoc, h1]
  have hp : s.last.length > 0 := List.length_pos_iff.2 h4
  have hfc : fitC ⟨A, s.last⟩ x = fitsN s.first s.last.length (sizeT s.last) x.length := by unfold fitC; simp only [h3]
  rw [← hfc]
  unfold addC
  by_cases hc : fitC ⟨A, s.last⟩ x = false
  · rw [if_pos ⟨hp, hc⟩, hc]
    unfold allC
    rw [if_pos (show [x].length > 0 from Nat.one_pos)]
    simp only [List.length_append, List.length_singleton]
    exact beq_eq_false_iff_ne.2 (by omega)
  rw [if_neg (fun h => hc h.2), show fitC ⟨A, s.last⟩ x = true by simpa using hc]
  unfold allC
  rw [if_pos (show (s.last ++ [x]).length > 0 by simp)]
  simp only [List.length_append, List.length_singleton]
  exact beq_iff_eq.2 (by omega)
/-- a chunk that is taken -/
theorem LI.next {us : List Txt} {s : SS} {b : List UInt8} {q : Nat} (h : LI us s) (hu : us.length = s.evs.length) (hb : b.length ≤ 32756) (hc : (chunkR s b q).1 = true) : LI (us ++ (eventsR b).2.2.1) (chunkR s b q).2 := by
  unfold chunkR at hc ⊢
  split at hc
  · cases hc
  rename_i hk
  rw [if_neg hk]
  have hev : (eventsR b).2.2.2 = true := by
    cases h2 : (eventsR b).2.2.2 with
    | true => rfl
    | false => exact absurd (.inl h2) hk
  have hfst : (eventsR b).1 = s.evs.length := Classical.byContradiction fun h2 => hk (.inr (.inl h2))
  have hg := eventsR_good hev
  have hl := eventsR_len b
  have h1 := hl.2.2.2 hev
  have hne : (eventsR b).2.2.1 ≠ [] := fun h2 => by
    have := congrArg List.length h2
    rw [hl.2.1] at this; simp at this; simp [this] at h1
  refine ⟨fun h2 => absurd (List.append_eq_nil_iff.1 h2).2 hne, fun _ => ⟨chsOf us, ?_, ?_, ?_, hne⟩⟩
  · have hcs := cs_add (c := csOf us) (f := s.evs.length) (ts := (eventsR b).2.2.1) (by rw [← hu]; exact cnt_all us) (by omega) (by rw [← hfst, ← hg.1]; exact hb) (fun h0 => by
        by_cases hu0 : us = []
        · rw [hu0]; rfl
        · obtain ⟨A, e1, _, _, e4⟩ := h.one hu0
          rw [e1] at h0; exact absurd (List.length_eq_zero_iff.1 h0) e4) (fun h0 => by
        have hu0 : us ≠ [] := fun h2 => by rw [h2] at h0; exact absurd h0 (by decide)
        obtain ⟨A, e1, e2, e3, e4⟩ := h.one hu0
        rw [e1]
        unfold fitC
        simp only [e3]
        cases h5 : fitsN s.first s.last.length (sizeT s.last) ((eventsR b).2.2.1.headD []).length with
        | false => rfl
        | true => exact absurd (.inr (.inr (.inr ⟨List.length_pos_iff.2 e4, h5⟩))) hk) (eventsR b).2.2.1.length (by omega) (Nat.le_refl _)
    rw [List.take_length] at hcs
    show csOf (us ++ _) = _
    unfold csOf at hcs ⊢
    rw [List.foldl_append, hcs]; rfl
  · show (chsOf us).length + 1 = (s.places ++ [q]).length
    rw [List.length_append, List.length_singleton]
    by_cases hu0 : us = []
    · rw [hu0, (h.emp hu0).1]; rfl
    obtain ⟨A, e1, e2, e3, e4⟩ := h.one hu0
    unfold chsOf
    rw [e1]
    unfold allC
    rw [if_pos (List.length_pos_iff.2 e4), List.length_append, List.length_singleton]; simp only []; omega
  show cnt (chsOf us) = (eventsR b).1
  rw [cnt_all, hu, hfst]
section
variable {bs fb : List UInt8} {s : SS} {q m : Nat}
end
end Go.Proofs.YtfpmnhmdphaceaaGreatDoor
