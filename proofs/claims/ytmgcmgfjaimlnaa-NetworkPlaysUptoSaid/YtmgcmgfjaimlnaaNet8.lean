/- The law's helper works answers true. -/
import Derived.Test.YtmgcmgfjaimlnaaNet7
import Derived.Test.YtmgcmgfjaimlnaaBaseAll
namespace Go.Proofs.Ytmgcmgfjaimlnaa
open Go.EW
attribute [local irreducible] EW.W EW.L EW.fin
set_option linter.unusedVariables false
set_option linter.unusedSimpArgs false
theorem sinkX {W w : World} {b : Nat} {st : NetS} {F : List Seg} (X : List Seg) (H : St W w (X ++ netL b st F)) : St W w (netL b st (X ++ F)) :=
  H.perm (show (X ++ ([_, _, _, _, _, _, _] ++ F)).Perm ([_, _, _, _, _, _, _] ++ (X ++ F)) from List.perm_append_comm_assoc _ _ _)
theorem works_ok {W w : World} {F : List Seg} (H : St W w F) :
    Ok Try.prog 11 [].toArray w (fun v w' => v = .bool true ∧ St W w' F) := by
  refine enter (n := 63) (rs := #[.tmp 0]) Try.func11 rfl rfl rfl rfl ?_
  refine w_seq ?_
  refine w_region ?_
  refine l_pbool rfl rfl ?_
  refine l_nil ?_
  refine w_seq ?_
  refine w_region ?_
  refine b_call rfl cb_34 rfl (New_ok H 2 1) (fun v w hv => ?_)
  obtain ⟨b, pm, cm, rfl, H⟩ := (hv.resolve_left (fun h => h.1 (by omega))).2
  refine l_ptup rfl rfl ?_
  refine l_pptr rfl rfl ?_
  refine l_pint rfl rfl ?_
  refine l_pptr rfl rfl ?_
  refine l_pint rfl rfl ?_
  refine l_nil ?_
  refine w_seq ?_
  refine w_region ?_
  refine b_buildSlice (cs := [_]) rfl el_29 ze_5 rfl rfl rfl H (fun b10 w H => ?_)
  first | refine b_markBytes rfl by_29 rfl H 0 rfl (fun w H => ?_) | refine b_markBytes rfl by_29 rfl H 1 rfl (fun w H => ?_) | refine b_markBytes rfl by_29 rfl H 2 rfl (fun w H => ?_) | refine b_markBytes rfl by_29 rfl H 3 rfl (fun w H => ?_) | refine b_markBytes rfl by_29 rfl H 4 rfl (fun w H => ?_) | refine b_markBytes rfl by_29 rfl H 5 rfl (fun w H => ?_) | refine b_markBytes rfl by_29 rfl H 6 rfl (fun w H => ?_) | refine b_markBytes rfl by_29 rfl H 7 rfl (fun w H => ?_) | refine b_markBytes rfl by_29 rfl H 8 rfl (fun w H => ?_) | refine b_markBytes rfl by_29 rfl H 9 rfl (fun w H => ?_) | refine b_markBytes rfl by_29 rfl H 10 rfl (fun w H => ?_) | refine b_markBytes rfl by_29 rfl H 11 rfl (fun w H => ?_) | refine b_markBytes rfl by_29 rfl H 12 rfl (fun w H => ?_) | refine b_markBytes rfl by_29 rfl H 13 rfl (fun w H => ?_)
  refine l_v rfl (q_build (cs := [.int _ _, .int _ _, .slice _ _ _]) rfl sp_31 rfl) ?_
  refine b_alloc rfl ze_31 rfl H (fun b3 w H => ?_)
  first | refine b_store (cs' := [_, _, _]) rfl sz_31 rfl rfl rfl rfl rfl H 0 rfl rfl rfl (fun w H => ?_) | refine b_store (cs' := [_, _, _]) rfl sz_31 rfl rfl rfl rfl rfl H 1 rfl rfl rfl (fun w H => ?_) | refine b_store (cs' := [_, _, _]) rfl sz_31 rfl rfl rfl rfl rfl H 2 rfl rfl rfl (fun w H => ?_) | refine b_store (cs' := [_, _, _]) rfl sz_31 rfl rfl rfl rfl rfl H 3 rfl rfl rfl (fun w H => ?_) | refine b_store (cs' := [_, _, _]) rfl sz_31 rfl rfl rfl rfl rfl H 4 rfl rfl rfl (fun w H => ?_) | refine b_store (cs' := [_, _, _]) rfl sz_31 rfl rfl rfl rfl rfl H 5 rfl rfl rfl (fun w H => ?_) | refine b_store (cs' := [_, _, _]) rfl sz_31 rfl rfl rfl rfl rfl H 6 rfl rfl rfl (fun w H => ?_) | refine b_store (cs' := [_, _, _]) rfl sz_31 rfl rfl rfl rfl rfl H 7 rfl rfl rfl (fun w H => ?_) | refine b_store (cs' := [_, _, _]) rfl sz_31 rfl rfl rfl rfl rfl H 8 rfl rfl rfl (fun w H => ?_) | refine b_store (cs' := [_, _, _]) rfl sz_31 rfl rfl rfl rfl rfl H 9 rfl rfl rfl (fun w H => ?_) | refine b_store (cs' := [_, _, _]) rfl sz_31 rfl rfl rfl rfl rfl H 10 rfl rfl rfl (fun w H => ?_) | refine b_store (cs' := [_, _, _]) rfl sz_31 rfl rfl rfl rfl rfl H 11 rfl rfl rfl (fun w H => ?_) | refine b_store (cs' := [_, _, _]) rfl sz_31 rfl rfl rfl rfl rfl H 12 rfl rfl rfl (fun w H => ?_) | refine b_store (cs' := [_, _, _]) rfl sz_31 rfl rfl rfl rfl rfl H 13 rfl rfl rfl (fun w H => ?_)
  refine l_nil ?_
  refine w_seq ?_
  refine w_seq ?_
  refine w_region ?_
  refine l_pptr rfl rfl ?_
  refine l_v rfl (q_eqlNilF rfl pt_24 rfl rfl) ?_
  refine l_pbool rfl rfl ?_
  refine l_pint rfl rfl ?_
  refine l_pbool rfl rfl ?_
  refine l_pickF (v := .bool _) rfl rfl rfl ?_
  refine l_pbool rfl rfl ?_
  refine l_split 19 rfl (fun h19 => absurd h19 (by decide)) (fun h19 => ?_)
  try simp only [decide_eq_true_eq, decide_eq_false_iff_not, Bool.not_eq_true', Bool.not_eq_false', beq_iff_eq, beq_eq_false_iff_ne, bne_iff_ne, bne_eq_false_iff_eq, ne_eq, Int.not_lt, Int.not_le] at h19
  refine l_pptr rfl rfl ?_
  refine l_v rfl (q_loadN (vs := [_, _, _]) rfl ag_31 rfl rfl (by first | exact H.cells 0 rfl | exact H.cells 1 rfl | exact H.cells 2 rfl | exact H.cells 3 rfl | exact H.cells 4 rfl | exact H.cells 5 rfl | exact H.cells 6 rfl | exact H.cells 7 rfl | exact H.cells 8 rfl | exact H.cells 9 rfl | exact H.cells 10 rfl | exact H.cells 11 rfl | exact H.cells 12 rfl | exact H.cells 13 rfl)) ?_
  refine b_call rfl cb_19 rfl (Send_ok (sinkX [_, _] H) (T := 0) ⟨by simp [newS], by simp [newS], by simp [newS]⟩ (by simp [newS, NetS.few]) (by omega) 0 1 (bs := [97]) (RdIn.mem (cs := [B 97]) 1 rfl 0 1) rfl (by simp [newS]) (by simp [newS])) (fun v w hv => ?_)
  obtain ⟨rfl, hv⟩ := hv
  have he : layE (newS 2 1 pm cm) 0 1 1 true = 0 := layE_0 (fun h => h.2 (by unfold NetS.addr; simp [newS])) (by unfold NetS.addr; simp [newS]) (by omega)
  rw [he]
  obtain ⟨_, a', pa, pcap, a'', ra, rcap, H⟩ := hv.resolve_left (fun h => h.1 he)
  obtain ⟨st1, e1⟩ : ∃ s, s = sendS (newS 2 1 pm cm) 0 1 1 [97] a' pa pcap a'' ra rcap := ⟨_, rfl⟩
  have hpool : st1.pool = [⟨0, 1, a', 1, 1, [97]⟩] := by rw [e1]; rfl
  have hrec : st1.record = [⟨0, 1, a'', 1, 1, [97]⟩] := by rw [e1]; rfl
  have hcame : st1.came = [((0, 1, [97]), 1)] := by rw [e1]; rfl
  have hcl : st1.clients = 1 := by rw [e1]; rfl
  have hnd : st1.nodes = 2 := by rw [e1]; rfl
  rw [show sendS (newS 2 1 pm cm) 0 1 1 _ a' pa pcap a'' ra rcap = st1 from e1.symm] at H
  refine l_pbool rfl rfl ?_
  refine l_pickF (v := .bool _) rfl rfl rfl ?_
  refine l_pbool rfl rfl ?_
  refine l_split 25 rfl (fun h25 => absurd h25 (by decide)) (fun h25 => ?_)
  try simp only [decide_eq_true_eq, decide_eq_false_iff_not, Bool.not_eq_true', Bool.not_eq_false', beq_iff_eq, beq_eq_false_iff_ne, bne_iff_ne, bne_eq_false_iff_eq, ne_eq, Int.not_lt, Int.not_le] at h25
  refine l_pptr rfl rfl ?_
  refine b_call rfl cb_16 rfl (Len_ok (i := 0) H rfl rfl) (fun v w hv => ?_)
  obtain ⟨rfl, rfl⟩ := hv
  refine l_pbool rfl rfl ?_
  refine l_pickF (v := .bool _) rfl rfl rfl ?_
  refine l_pbool rfl rfl ?_
  refine l_split 30 rfl (fun h30 => absurd h30 (by simp [hpool])) (fun h30 => ?_)
  try simp only [decide_eq_true_eq, decide_eq_false_iff_not, Bool.not_eq_true', Bool.not_eq_false', beq_iff_eq, beq_eq_false_iff_ne, bne_iff_ne, bne_eq_false_iff_eq, ne_eq, Int.not_lt, Int.not_le] at h30
  refine l_pptr rfl rfl ?_
  refine l_v rfl (q_build (cs := [.int _ _, .int _ _, .slice _ _ _]) rfl sp_31 rfl) ?_
  refine b_call rfl cb_19 rfl (Send_ok H (T := 1) ⟨by rw [hcl]; omega, by simp [hpool], by simp [hrec]⟩ (by simp [hcame, NetS.few]) (by omega) 0 2 (bs := []) RdIn.nil rfl (by simp [hpool]) (by simp [hrec])) (fun v w hv => ?_)
  obtain ⟨rfl, hv⟩ := hv
  have he : layE st1 0 2 ([] : List UInt8).length true = 140 := layE_140 (.inr (by unfold NetS.addr; rw [hnd, hcl]; omega))
  have H := (hv.resolve_right (fun h => by have h1 := h.1; rw [show layE st1 0 2 0 true = 140 from he] at h1; omega)).2
  rw [show layE st1 0 2 0 true = 140 from he]
  refine l_pbool rfl rfl ?_
  refine l_pickF (v := .bool _) rfl rfl rfl ?_
  refine l_nil ?_
  refine w_cond rfl (fun c1 => ?_) (fun c1 => ?_)
  · try simp only [decide_eq_true_eq, decide_eq_false_iff_not, Bool.not_eq_true', Bool.not_eq_false', beq_iff_eq, beq_eq_false_iff_ne, bne_iff_ne, bne_eq_false_iff_eq, ne_eq, Int.not_lt, Int.not_le] at c1
    refine w_seq ?_
    refine w_region ?_
    refine l_pbool rfl rfl ?_
    refine l_nil ?_
    refine w_ret ?_
    refine fin1 (v := .bool _) rfl ?_
    exact absurd c1 (by simp)
  try simp only [decide_eq_true_eq, decide_eq_false_iff_not, Bool.not_eq_true', Bool.not_eq_false', beq_iff_eq, beq_eq_false_iff_ne, bne_iff_ne, bne_eq_false_iff_eq, ne_eq, Int.not_lt, Int.not_le] at c1
  refine w_skip ?_
  refine w_seq ?_
  refine w_region ?_
  refine l_pptr rfl rfl ?_
  refine b_call rfl cb_14 rfl (Take_ok H ⟨by rw [hcl]; omega, by simp [hpool], by simp [hrec]⟩ 0) (fun v w hv => ?_)
  obtain ⟨q, e, rfl, hat, H⟩ := hv
  obtain ⟨rfl, p, hp, hq⟩ := AtR.hit (i := 0) hat (by simp [hpool])
  obtain rfl : (⟨0, 1, a', 1, 1, [97]⟩ : Pk) = p := by simpa [hpool] using hp
  have hql := (H.rowInv (i := 0) rfl).1
  have hst2 : takeS st1 0 = { st1 with pool := [] } := by unfold takeS; rw [hpool]; rfl
  rw [hst2] at H
  have H := sinkX [_] H
  refine l_ptup rfl rfl ?_
  refine l_pagg rfl rfl ?_
  refine l_pint rfl rfl ?_
  refine b_alloc rfl ze_31 rfl H (fun b4 w H => ?_)
  first | refine b_store (cs' := [_, _, _]) rfl sz_31 rfl rfl rfl rfl rfl H 0 rfl rfl rfl (fun w H => ?_) | refine b_store (cs' := [_, _, _]) rfl sz_31 rfl rfl rfl rfl rfl H 1 rfl rfl rfl (fun w H => ?_) | refine b_store (cs' := [_, _, _]) rfl sz_31 rfl rfl rfl rfl rfl H 2 rfl rfl rfl (fun w H => ?_) | refine b_store (cs' := [_, _, _]) rfl sz_31 rfl rfl rfl rfl rfl H 3 rfl rfl rfl (fun w H => ?_) | refine b_store (cs' := [_, _, _]) rfl sz_31 rfl rfl rfl rfl rfl H 4 rfl rfl rfl (fun w H => ?_) | refine b_store (cs' := [_, _, _]) rfl sz_31 rfl rfl rfl rfl rfl H 5 rfl rfl rfl (fun w H => ?_) | refine b_store (cs' := [_, _, _]) rfl sz_31 rfl rfl rfl rfl rfl H 6 rfl rfl rfl (fun w H => ?_) | refine b_store (cs' := [_, _, _]) rfl sz_31 rfl rfl rfl rfl rfl H 7 rfl rfl rfl (fun w H => ?_) | refine b_store (cs' := [_, _, _]) rfl sz_31 rfl rfl rfl rfl rfl H 8 rfl rfl rfl (fun w H => ?_) | refine b_store (cs' := [_, _, _]) rfl sz_31 rfl rfl rfl rfl rfl H 9 rfl rfl rfl (fun w H => ?_) | refine b_store (cs' := [_, _, _]) rfl sz_31 rfl rfl rfl rfl rfl H 10 rfl rfl rfl (fun w H => ?_) | refine b_store (cs' := [_, _, _]) rfl sz_31 rfl rfl rfl rfl rfl H 11 rfl rfl rfl (fun w H => ?_) | refine b_store (cs' := [_, _, _]) rfl sz_31 rfl rfl rfl rfl rfl H 12 rfl rfl rfl (fun w H => ?_) | refine b_store (cs' := [_, _, _]) rfl sz_31 rfl rfl rfl rfl rfl H 13 rfl rfl rfl (fun w H => ?_)
  refine l_pint rfl rfl ?_
  refine l_nil ?_
  refine w_seq ?_
  refine w_region ?_
  refine l_pint rfl rfl ?_
  refine l_pbool rfl rfl ?_
  refine l_pbool rfl rfl ?_
  refine l_split 43 rfl (fun h43 => ?_) (fun h43 => absurd h43 (by decide))
  try simp only [decide_eq_true_eq, decide_eq_false_iff_not, Bool.not_eq_true', Bool.not_eq_false', beq_iff_eq, beq_eq_false_iff_ne, bne_iff_ne, bne_eq_false_iff_eq, ne_eq, Int.not_lt, Int.not_le] at h43
  refine l_v rfl (q_loadN (vs := [_, _, _]) rfl ag_31 rfl rfl (by first | exact H.cells 0 rfl | exact H.cells 1 rfl | exact H.cells 2 rfl | exact H.cells 3 rfl | exact H.cells 4 rfl | exact H.cells 5 rfl | exact H.cells 6 rfl | exact H.cells 7 rfl | exact H.cells 8 rfl | exact H.cells 9 rfl | exact H.cells 10 rfl | exact H.cells 11 rfl | exact H.cells 12 rfl | exact H.cells 13 rfl)) ?_
  refine l_v rfl (q_loadN (vs := [_, _, _]) rfl ag_31 rfl rfl (by first | exact H.cells 0 rfl | exact H.cells 1 rfl | exact H.cells 2 rfl | exact H.cells 3 rfl | exact H.cells 4 rfl | exact H.cells 5 rfl | exact H.cells 6 rfl | exact H.cells 7 rfl | exact H.cells 8 rfl | exact H.cells 9 rfl | exact H.cells 10 rfl | exact H.cells 11 rfl | exact H.cells 12 rfl | exact H.cells 13 rfl)) ?_
  refine b_call rfl cb_15 rfl (Same_ok (p := ⟨0, 1, some ⟨b10, 0, none⟩, 1, 1, [97]⟩) (q := q) (sinkX [_] H) (RdIn.mem (cs := [B 97]) 10 rfl 0 1) rfl (RdIn.row 8 rfl) (by simpa using hql)) (fun v w hv => ?_)
  obtain ⟨rfl, H⟩ := hv
  have hsame : sameB ⟨0, 1, some ⟨b10, 0, none⟩, 1, 1, [97]⟩ q = true := by rw [hq]; simp [sameB]
  rw [hsame]
  refine l_pickT (v := .bool _) rfl rfl rfl ?_
  refine l_pbool rfl rfl ?_
  refine l_split 48 rfl (fun h48 => ?_) (fun h48 => absurd h48 (by decide))
  try simp only [decide_eq_true_eq, decide_eq_false_iff_not, Bool.not_eq_true', Bool.not_eq_false', beq_iff_eq, beq_eq_false_iff_ne, bne_iff_ne, bne_eq_false_iff_eq, ne_eq, Int.not_lt, Int.not_le] at h48
  refine l_pptr rfl rfl ?_
  refine b_call rfl cb_16 rfl (Len_ok (i := 0) H rfl rfl) (fun v w hv => ?_)
  obtain ⟨rfl, rfl⟩ := hv
  refine l_pbool rfl rfl ?_
  refine l_pickT (v := .bool _) rfl rfl rfl ?_
  refine l_pbool rfl rfl ?_
  refine l_split 53 rfl (fun h53 => ?_) (fun h53 => absurd h53 (by simp))
  try simp only [decide_eq_true_eq, decide_eq_false_iff_not, Bool.not_eq_true', Bool.not_eq_false', beq_iff_eq, beq_eq_false_iff_ne, bne_iff_ne, bne_eq_false_iff_eq, ne_eq, Int.not_lt, Int.not_le] at h53
  refine l_pptr rfl rfl ?_
  refine l_v rfl (q_loadN (vs := [_, _, _]) rfl ag_31 rfl rfl (by first | exact H.cells 0 rfl | exact H.cells 1 rfl | exact H.cells 2 rfl | exact H.cells 3 rfl | exact H.cells 4 rfl | exact H.cells 5 rfl | exact H.cells 6 rfl | exact H.cells 7 rfl | exact H.cells 8 rfl | exact H.cells 9 rfl | exact H.cells 10 rfl | exact H.cells 11 rfl | exact H.cells 12 rfl | exact H.cells 13 rfl)) ?_
  refine b_call rfl cb_30 rfl (Genuine_ok H q.fr q.to (RdIn.row 1 rfl) (by simpa using hql)) (fun v w hv => ?_)
  obtain ⟨rfl, H⟩ := hv
  have hgen : decide ((kget (0, q.to, q.bs) st1.came).getD 0 > 0) = true := by
    rw [hq, hcame]
    show decide ((kget (0, 1, [97]) [((0, 1, [97]), 1)]).getD 0 > 0) = true
    decide
  rw [show decide ((kget (0, q.to, q.bs) ({ st1 with pool := [] } : NetS).came).getD 0 > 0) = true from hgen]
  refine l_pickT (v := .bool _) rfl rfl rfl ?_
  refine l_pbool rfl rfl ?_
  refine l_split 58 rfl (fun h58 => ?_) (fun h58 => absurd h58 (by decide))
  try simp only [decide_eq_true_eq, decide_eq_false_iff_not, Bool.not_eq_true', Bool.not_eq_false', beq_iff_eq, beq_eq_false_iff_ne, bne_iff_ne, bne_eq_false_iff_eq, ne_eq, Int.not_lt, Int.not_le] at h58
  refine l_pptr rfl rfl ?_
  refine b_call rfl cb_18 rfl (Sent_ok (i := 0) H rfl rfl) (fun v w hv => ?_)
  obtain ⟨rfl, rfl⟩ := hv
  refine l_pbool rfl rfl ?_
  refine l_pickT (v := .bool _) rfl rfl rfl ?_
  refine l_pbool rfl rfl ?_
  refine l_nil ?_
  refine w_ret ?_
  refine fin1 (v := .bool _) rfl ?_
  refine ⟨by simp [hrec], ?_⟩
  exact H.dropN 11
end Go.Proofs.Ytmgcmgfjaimlnaa
