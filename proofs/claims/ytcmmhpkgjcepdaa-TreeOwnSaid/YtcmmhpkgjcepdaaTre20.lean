/- The reference's Extends answers as the tree's own does. -/
import Derived.Test.YtcmmhpkgjcepdaaTre19
namespace Go.Proofs.Ytcmmhpkgjcepdaa
open Go.EW
attribute [local irreducible] EW.W EW.L EW.fin block8 outB shaL
set_option linter.unusedVariables false
set_option linter.unusedSimpArgs false
attribute [local irreducible] swp headH leafH nodeH inclN sidesN bothN lenN splitN upN
set_option maxRecDepth 8000 in
set_option maxHeartbeats 1000000 in
theorem rExtends_ok {W w : World} {F : List Seg} (H : St W w F) {old hd : List UInt8} (hold : old.length = 32) (hhd : hd.length = 32) (x y : Int) {pa : Option Addr} {pc : Nat} {path : List (List UInt8)} (hpo : PathOk path) (hpr : RdIn W F pa (pathV path)) (hpc : path.length ≤ pc) (hpl : path.length ≤ 140737488355328) (hyb : y ≤ 9223372036854775807) :
    Ok Try.prog 28 [.agg (old.map B).toArray, .int .i64 x, .agg (hd.map B).toArray, .int .i64 y, .slice pa path.length pc].toArray w (fun r w' => r = .int .i64 (extR old x hd y path) ∧ St W w' F) := by
  refine enter (n := 75) (rs := #[.tmp 10]) Try.func28 rfl rfl rfl rfl ?_
  refine w_seq ?_
  refine w_region ?_
  refine b_box rfl rfl rfl H (fun b5 w H => ?_)
  refine b_box rfl rfl rfl H (fun b7 w H => ?_)
  refine l_pint rfl rfl ?_
  refine l_nil ?_
  refine w_seq ?_
  refine w_seq ?_
  refine w_region ?_
  refine l_pint rfl rfl ?_
  refine l_pbool rfl rfl ?_
  refine l_pbool rfl rfl ?_
  refine l_split 17 rfl (fun h17 => ?_) (fun h17 => ?_)
  · try simp only [decide_eq_true_eq, decide_eq_false_iff_not, Bool.not_eq_true', Bool.not_eq_false', beq_iff_eq, beq_eq_false_iff_ne, bne_iff_ne, bne_eq_false_iff_eq, ne_eq, Int.not_lt, Int.not_le] at h17
    refine l_no rfl ?_
    refine l_no rfl ?_
    refine l_no rfl ?_
    refine l_pickT (v := .bool _) rfl rfl rfl ?_
    refine l_nil ?_
    refine w_cond_t rfl ?_
    refine w_seq ?_
    refine w_region ?_
    refine l_pint rfl rfl ?_
    refine l_nil ?_
    refine w_ret ?_
    refine fin1 (v := .int _ _) rfl ?_
    refine ⟨?_, (H.erase 0).erase 0⟩
    unfold extR; rw [if_pos (by omega)]
  · try simp only [decide_eq_true_eq, decide_eq_false_iff_not, Bool.not_eq_true', Bool.not_eq_false', beq_iff_eq, beq_eq_false_iff_ne, bne_iff_ne, bne_eq_false_iff_eq, ne_eq, Int.not_lt, Int.not_le] at h17
    refine l_pint rfl rfl ?_
    refine l_pint rfl rfl ?_
    refine l_pbool rfl rfl ?_
    refine l_pickF (v := .bool _) rfl rfl rfl ?_
    refine l_nil ?_
    refine w_cond rfl (fun c1 => ?_) (fun c1 => ?_)
    · try simp only [decide_eq_true_eq, decide_eq_false_iff_not, Bool.not_eq_true', Bool.not_eq_false', beq_iff_eq, beq_eq_false_iff_ne, bne_iff_ne, bne_eq_false_iff_eq, ne_eq, Int.not_lt, Int.not_le] at c1
      refine w_seq ?_
      refine w_region ?_
      refine l_pint rfl rfl ?_
      refine l_nil ?_
      refine w_ret ?_
      refine fin1 (v := .int _ _) rfl ?_
      refine ⟨?_, (H.erase 0).erase 0⟩
      unfold extR; rw [if_pos (by omega)]
    · try simp only [decide_eq_true_eq, decide_eq_false_iff_not, Bool.not_eq_true', Bool.not_eq_false', beq_iff_eq, beq_eq_false_iff_ne, bne_iff_ne, bne_eq_false_iff_eq, ne_eq, Int.not_lt, Int.not_le] at c1
      obtain ⟨mm, rfl⟩ := Int.eq_ofNat_of_zero_le (by omega : 0 ≤ x)
      obtain ⟨nn, rfl⟩ := Int.eq_ofNat_of_zero_le (by omega : 0 ≤ y)
      obtain ⟨want, hw⟩ : ∃ k, k = if 0 < (mm : Int) ∧ (mm : Int) < nn then lenN mm nn true else 0 := ⟨_, rfl⟩
      have hR : extR old mm hd nn path = if path.length ≠ want then 201 else if ((mm : Int) = 0 ∧ old ≠ shaL []) ∨ ((mm : Int) = nn ∧ old ≠ hd) then 202 else if 0 < (mm : Int) ∧ (mm : Int) < nn then (if (bothN mm nn true old path).1 ≠ old ∨ (bothN mm nn true old path).2 ≠ hd then 202 else 0) else 0 := by unfold extR; rw [if_neg (by omega), Int.toNat_natCast, Int.toNat_natCast, ← hw]
      refine w_skip ?_
      refine w_seq ?_
      refine w_region ?_
      refine l_pint rfl rfl ?_
      refine l_nil ?_
      refine w_cutG (G := Unit) [11, 22, 23, 24, 25, 26, 27, 28, 29, 30, 31] (fun _ => [(11, .int .i64 (want : Int))]) (fun _ w => St W w (blk b7 (hd.map B) 24 :: blk b5 (old.map B) 24 :: F)) (fun _ => rfl) ?_ ?_
      · refine w_seq ?_
        refine w_region ?_
        refine l_pint rfl rfl ?_
        refine l_pbool rfl rfl ?_
        refine l_pbool rfl rfl ?_
        refine l_split 24 rfl (fun h24 => ?_) (fun h24 => ?_)
        · try simp only [decide_eq_true_eq, decide_eq_false_iff_not, Bool.not_eq_true', Bool.not_eq_false', beq_iff_eq, beq_eq_false_iff_ne, bne_iff_ne, bne_eq_false_iff_eq, ne_eq, Int.not_lt, Int.not_le] at h24
          refine l_pint rfl rfl ?_
          refine l_pint rfl rfl ?_
          refine l_pbool rfl rfl ?_
          refine l_pickT (v := .bool _) rfl rfl rfl ?_
          refine l_nil ?_
          refine w_cond rfl (fun c2 => ?_) (fun c2 => ?_)
          · try simp only [decide_eq_true_eq, decide_eq_false_iff_not, Bool.not_eq_true', Bool.not_eq_false', beq_iff_eq, beq_eq_false_iff_ne, bne_iff_ne, bne_eq_false_iff_eq, ne_eq, Int.not_lt, Int.not_le] at c2
            refine w_region ?_
            refine l_pint rfl rfl ?_
            refine l_pint rfl rfl ?_
            refine b_call rfl cb_70 rfl (far_ok nn (m := mm) (n := nn) (wh := true) (by omega) (by omega) rfl (by omega)) (fun v w hv => ?_)
            obtain ⟨rfl, rfl⟩ := hv
            refine l_pint rfl rfl ?_
            refine l_nil ?_
            refine ⟨by repeat' first | exact Agr.mix _ _ _ | exact Agr.refl _ _ | refine Agr.inner rfl ?_ | refine Agr.upd rfl ?_ | refine Agr.updL' rfl ?_, ?_⟩
            exact ⟨(), ⟨congrArg (Value.int .i64) (by rw [hw, if_pos (by omega)]), trivial⟩, H⟩
          · try simp only [decide_eq_true_eq, decide_eq_false_iff_not, Bool.not_eq_true', Bool.not_eq_false', beq_iff_eq, beq_eq_false_iff_ne, bne_iff_ne, bne_eq_false_iff_eq, ne_eq, Int.not_lt, Int.not_le] at c2
            refine w_skip ?_
            refine ⟨by repeat' first | exact Agr.mix _ _ _ | exact Agr.refl _ _ | refine Agr.inner rfl ?_ | refine Agr.upd rfl ?_ | refine Agr.updL' rfl ?_, ?_⟩
            exact ⟨(), ⟨congrArg (Value.int .i64) (by rw [hw, if_neg (by omega)]; rfl), trivial⟩, H⟩
        · try simp only [decide_eq_true_eq, decide_eq_false_iff_not, Bool.not_eq_true', Bool.not_eq_false', beq_iff_eq, beq_eq_false_iff_ne, bne_iff_ne, bne_eq_false_iff_eq, ne_eq, Int.not_lt, Int.not_le] at h24
          refine l_no rfl ?_
          refine l_no rfl ?_
          refine l_no rfl ?_
          refine l_pickF (v := .bool _) rfl rfl rfl ?_
          refine l_nil ?_
          refine w_cond_f rfl ?_
          refine w_skip ?_
          refine ⟨by repeat' first | exact Agr.mix _ _ _ | exact Agr.refl _ _ | refine Agr.inner rfl ?_ | refine Agr.upd rfl ?_ | refine Agr.updL' rfl ?_, ?_⟩
          exact ⟨(), ⟨congrArg (Value.int .i64) (by rw [hw, if_neg (by omega)]; rfl), trivial⟩, H⟩
      · rintro _ ρ1 w H
        refine w_seq ?_
        refine w_seq ?_
        refine w_region ?_
        refine l_pslice rfl rfl ?_
        refine l_v rfl (q_lenSlice rfl el_42 rfl) ?_
        refine l_pint rfl rfl ?_
        refine l_pbool rfl rfl ?_
        refine l_nil ?_
        refine w_cond rfl (fun c3 => ?_) (fun c3 => ?_)
        · try simp only [decide_eq_true_eq, decide_eq_false_iff_not, Bool.not_eq_true', Bool.not_eq_false', beq_iff_eq, beq_eq_false_iff_ne, bne_iff_ne, bne_eq_false_iff_eq, ne_eq, Int.not_lt, Int.not_le] at c3
          refine w_seq ?_
          refine w_region ?_
          refine l_pint rfl rfl ?_
          refine l_nil ?_
          refine w_ret ?_
          refine fin1 (v := .int _ _) rfl ?_
          refine ⟨?_, (H.erase 0).erase 0⟩
          rw [hR, if_pos (by omega)]
        · try simp only [decide_eq_true_eq, decide_eq_false_iff_not, Bool.not_eq_true', Bool.not_eq_false', beq_iff_eq, beq_eq_false_iff_ne, bne_iff_ne, bne_eq_false_iff_eq, ne_eq, Int.not_lt, Int.not_le] at c3
          refine w_skip ?_
          refine w_seq ?_
          refine w_region ?_
          refine b_call rfl cb_53 rfl (rSum_ok H (bs := []) RdIn.nil rfl (by decide)) (fun v w hv => ?_)
          obtain ⟨rfl, H⟩ := hv
          refine b_alloc rfl ze_24 rfl H (fun b12 w H => ?_)
          refine b_store (vs := (shaL []).map B) rfl sz_24 rfl rfl rfl (by simp [sha_nil_len]) (all1 _) H 0 rfl (by simp [sha_nil_len]) (putL_all (by simp [sha_nil_len])) (fun w H => ?_)
          refine l_nil ?_
          refine w_seq ?_
          refine w_block ?_
          refine w_seq ?_
          refine w_region ?_
          refine l_pint rfl rfl ?_
          refine l_pbool rfl rfl ?_
          refine l_pbool rfl rfl ?_
          refine l_nil ?_
          refine w_cond rfl (fun c4 => ?_) (fun c4 => ?_)
          · try simp only [decide_eq_true_eq, decide_eq_false_iff_not, Bool.not_eq_true', Bool.not_eq_false', beq_iff_eq, beq_eq_false_iff_ne, bne_iff_ne, bne_eq_false_iff_eq, ne_eq, Int.not_lt, Int.not_le] at c4
            refine w_seq ?_
            refine w_seq ?_
            refine w_region ?_
            refine l_v rfl (q_loadN (vs := (old).map B) rfl ag_24 rfl (by simp [hold]) (H.cells 2 rfl)) ?_
            refine l_v rfl (q_loadN (vs := (shaL []).map B) rfl ag_24 rfl (by simp [sha_nil_len]) (H.cells 0 rfl)) ?_
            refine l_v rfl (q_neqHash rfl rfl rfl hold sha_nil_len) ?_
            refine l_pbool rfl rfl ?_
            refine l_split 43 rfl (fun h43 => ?_) (fun h43 => ?_)
            · try simp only [decide_eq_true_eq, decide_eq_false_iff_not, Bool.not_eq_true', Bool.not_eq_false', beq_iff_eq, beq_eq_false_iff_ne, bne_iff_ne, bne_eq_false_iff_eq, ne_eq, Int.not_lt, Int.not_le] at h43
              refine l_no rfl ?_
              refine l_no rfl ?_
              refine l_no rfl ?_
              refine l_no rfl ?_
              refine l_no rfl ?_
              refine l_no rfl ?_
              refine l_no rfl ?_
              refine l_pickT (v := .bool _) rfl rfl rfl ?_
              refine l_nil ?_
              refine w_cond_t rfl ?_
              refine w_seq ?_
              refine w_region ?_
              refine l_pint rfl rfl ?_
              refine l_nil ?_
              refine w_ret ?_
              refine fin1 (v := .int _ _) rfl ?_
              refine ⟨?_, ((H.erase 0).erase 0).erase 0⟩
              rw [hR, if_neg (by omega), if_pos (.inl ⟨by omega, by simpa using h43⟩)]
            · try simp only [decide_eq_true_eq, decide_eq_false_iff_not, Bool.not_eq_true', Bool.not_eq_false', beq_iff_eq, beq_eq_false_iff_ne, bne_iff_ne, bne_eq_false_iff_eq, ne_eq, Int.not_lt, Int.not_le] at h43
              refine l_pint rfl rfl ?_
              refine l_pbool rfl rfl ?_
              refine l_pbool rfl rfl ?_
              refine l_split 46 rfl (fun h46 => ?_) (fun h46 => ?_)
              · try simp only [decide_eq_true_eq, decide_eq_false_iff_not, Bool.not_eq_true', Bool.not_eq_false', beq_iff_eq, beq_eq_false_iff_ne, bne_iff_ne, bne_eq_false_iff_eq, ne_eq, Int.not_lt, Int.not_le] at h46
                refine l_v rfl (q_loadN (vs := (hd).map B) rfl ag_24 rfl (by simp [hhd]) (H.cells 1 rfl)) ?_
                refine l_v rfl (q_loadN (vs := (shaL []).map B) rfl ag_24 rfl (by simp [sha_nil_len]) (H.cells 0 rfl)) ?_
                refine l_v rfl (q_neqHash rfl rfl rfl hhd sha_nil_len) ?_
                refine l_pickT (v := .bool _) rfl rfl rfl ?_
                refine l_pickF (v := .bool _) rfl rfl rfl ?_
                refine l_nil ?_
                refine w_cond rfl (fun c5 => ?_) (fun c5 => ?_)
                · try simp only [decide_eq_true_eq, decide_eq_false_iff_not, Bool.not_eq_true', Bool.not_eq_false', beq_iff_eq, beq_eq_false_iff_ne, bne_iff_ne, bne_eq_false_iff_eq, ne_eq, Int.not_lt, Int.not_le] at c5
                  refine w_seq ?_
                  refine w_region ?_
                  refine l_pint rfl rfl ?_
                  refine l_nil ?_
                  refine w_ret ?_
                  refine fin1 (v := .int _ _) rfl ?_
                  refine ⟨?_, ((H.erase 0).erase 0).erase 0⟩
                  have e43 : old = shaL [] := by simpa using h43
                  have e5 : hd ≠ shaL [] := by simpa using c5
                  rw [hR, if_neg (by omega), if_pos (.inr ⟨by omega, fun e => e5 (e ▸ e43)⟩)]
                · try simp only [decide_eq_true_eq, decide_eq_false_iff_not, Bool.not_eq_true', Bool.not_eq_false', beq_iff_eq, beq_eq_false_iff_ne, bne_iff_ne, bne_eq_false_iff_eq, ne_eq, Int.not_lt, Int.not_le] at c5
                  refine w_skip ?_
                  refine w_seq ?_
                  refine w_region ?_
                  refine l_pint rfl rfl ?_
                  refine l_nil ?_
                  refine w_ret ?_
                  refine fin1 (v := .int _ _) rfl ?_
                  refine ⟨?_, ((H.erase 0).erase 0).erase 0⟩
                  have e43 : old = shaL [] := by simpa using h43
                  have e5 : hd = shaL [] := by simpa using c5
                  rw [hR, if_neg (by omega), if_neg (by rintro (⟨_, h⟩ | ⟨_, h⟩); exact h e43; exact h (e43.trans e5.symm)), if_neg (by omega)]
              · try simp only [decide_eq_true_eq, decide_eq_false_iff_not, Bool.not_eq_true', Bool.not_eq_false', beq_iff_eq, beq_eq_false_iff_ne, bne_iff_ne, bne_eq_false_iff_eq, ne_eq, Int.not_lt, Int.not_le] at h46
                refine l_no rfl ?_
                refine l_no rfl ?_
                refine l_no rfl ?_
                refine l_pickF (v := .bool _) rfl rfl rfl ?_
                refine l_pickF (v := .bool _) rfl rfl rfl ?_
                refine l_nil ?_
                refine w_cond_f rfl ?_
                refine w_skip ?_
                refine w_seq ?_
                refine w_region ?_
                refine l_pint rfl rfl ?_
                refine l_nil ?_
                refine w_ret ?_
                refine fin1 (v := .int _ _) rfl ?_
                refine ⟨?_, ((H.erase 0).erase 0).erase 0⟩
                have e43 : old = shaL [] := by simpa using h43
                rw [hR, if_neg (by omega), if_neg (by rintro (⟨_, h⟩ | ⟨h1, _⟩); exact h e43; exact absurd h1 (by omega)), if_neg (by omega)]
          · try simp only [decide_eq_true_eq, decide_eq_false_iff_not, Bool.not_eq_true', Bool.not_eq_false', beq_iff_eq, beq_eq_false_iff_ne, bne_iff_ne, bne_eq_false_iff_eq, ne_eq, Int.not_lt, Int.not_le] at c4
            refine w_seq ?_
            refine w_region ?_
            refine l_pint rfl rfl ?_
            refine l_pint rfl rfl ?_
            refine l_pbool rfl rfl ?_
            refine l_pbool rfl rfl ?_
            refine l_nil ?_
            refine w_cond rfl (fun c6 => ?_) (fun c6 => ?_)
            · try simp only [decide_eq_true_eq, decide_eq_false_iff_not, Bool.not_eq_true', Bool.not_eq_false', beq_iff_eq, beq_eq_false_iff_ne, bne_iff_ne, bne_eq_false_iff_eq, ne_eq, Int.not_lt, Int.not_le] at c6
              refine w_seq ?_
              refine w_seq ?_
              refine w_region ?_
              refine l_v rfl (q_loadN (vs := (old).map B) rfl ag_24 rfl (by simp [hold]) (H.cells 2 rfl)) ?_
              refine l_v rfl (q_loadN (vs := (hd).map B) rfl ag_24 rfl (by simp [hhd]) (H.cells 1 rfl)) ?_
              refine l_v rfl (q_neqHash rfl rfl rfl hold hhd) ?_
              refine l_nil ?_
              refine w_cond rfl (fun c7 => ?_) (fun c7 => ?_)
              · try simp only [decide_eq_true_eq, decide_eq_false_iff_not, Bool.not_eq_true', Bool.not_eq_false', beq_iff_eq, beq_eq_false_iff_ne, bne_iff_ne, bne_eq_false_iff_eq, ne_eq, Int.not_lt, Int.not_le] at c7
                refine w_seq ?_
                refine w_region ?_
                refine l_pint rfl rfl ?_
                refine l_nil ?_
                refine w_ret ?_
                refine fin1 (v := .int _ _) rfl ?_
                refine ⟨?_, ((H.erase 0).erase 0).erase 0⟩
                rw [hR, if_neg (by omega), if_pos (.inr ⟨by omega, by simpa using c7⟩)]
              · try simp only [decide_eq_true_eq, decide_eq_false_iff_not, Bool.not_eq_true', Bool.not_eq_false', beq_iff_eq, beq_eq_false_iff_ne, bne_iff_ne, bne_eq_false_iff_eq, ne_eq, Int.not_lt, Int.not_le] at c7
                refine w_skip ?_
                refine w_seq ?_
                refine w_region ?_
                refine l_pint rfl rfl ?_
                refine l_nil ?_
                refine w_ret ?_
                refine fin1 (v := .int _ _) rfl ?_
                refine ⟨?_, ((H.erase 0).erase 0).erase 0⟩
                have e7 : old = hd := by simpa using c7
                rw [hR, if_neg (by omega), if_neg (by rintro (⟨h1, _⟩ | ⟨_, h⟩); exact absurd h1 (by omega); exact h e7), if_neg (by omega)]
            · try simp only [decide_eq_true_eq, decide_eq_false_iff_not, Bool.not_eq_true', Bool.not_eq_false', beq_iff_eq, beq_eq_false_iff_ne, bne_iff_ne, bne_eq_false_iff_eq, ne_eq, Int.not_lt, Int.not_le] at c6
              have hpl2 : path.length = lenN mm nn true := by rw [if_pos (by omega)] at hw; omega
              have hbl := bothN_len nn (wh := true) (old := old) (Nat.le_refl _) (by omega) (by omega) hold hpo hpl2
              refine w_skip ?_
              refine w_seq ?_
              refine w_region ?_
              refine l_pint rfl rfl ?_
              refine l_pint rfl rfl ?_
              refine l_v rfl (q_loadN (vs := (old).map B) rfl ag_24 rfl (by simp [hold]) (H.cells 2 rfl)) ?_
              refine l_pslice rfl rfl ?_
              refine b_call rfl cb_71 rfl (rboth_ok nn (m := mm) (n := nn) (wh := true) H hold hpo (hpr.up 3 rfl) hpl2 rfl hpc (by omega) (by omega) rfl (by omega)) (fun v w hv => ?_)
              obtain ⟨rfl, H⟩ := hv
              refine l_ptup rfl rfl ?_
              refine l_pagg rfl rfl ?_
              refine l_pagg rfl rfl ?_
              refine b_alloc rfl ze_24 rfl H (fun b13 w H => ?_)
              refine b_alloc rfl ze_24 rfl H (fun b14 w H => ?_)
              refine b_store (vs := ((bothN mm nn true old path).1).map B) rfl sz_24 rfl rfl rfl (by simp [hbl.1]) (all1 _) H 1 rfl (by simp [hbl.1]) (putL_all (by simp [hbl.1])) (fun w H => ?_)
              refine b_store (vs := ((bothN mm nn true old path).2).map B) rfl sz_24 rfl rfl rfl (by simp [hbl.2]) (all1 _) H 0 rfl (by simp [hbl.2]) (putL_all (by simp [hbl.2])) (fun w H => ?_)
              refine l_nil ?_
              refine w_seq ?_
              refine w_seq ?_
              refine w_region ?_
              refine l_v rfl (q_loadN (vs := ((bothN mm nn true old path).1).map B) rfl ag_24 rfl (by simp [hbl.1]) (H.cells 1 rfl)) ?_
              refine l_v rfl (q_loadN (vs := (old).map B) rfl ag_24 rfl (by simp [hold]) (H.cells 4 rfl)) ?_
              refine l_v rfl (q_neqHash rfl rfl rfl hbl.1 hold) ?_
              refine l_pbool rfl rfl ?_
              refine l_split 70 rfl (fun h70 => ?_) (fun h70 => ?_)
              · try simp only [decide_eq_true_eq, decide_eq_false_iff_not, Bool.not_eq_true', Bool.not_eq_false', beq_iff_eq, beq_eq_false_iff_ne, bne_iff_ne, bne_eq_false_iff_eq, ne_eq, Int.not_lt, Int.not_le] at h70
                refine l_no rfl ?_
                refine l_no rfl ?_
                refine l_no rfl ?_
                refine l_pickT (v := .bool _) rfl rfl rfl ?_
                refine l_nil ?_
                refine w_cond_t rfl ?_
                refine w_seq ?_
                refine w_region ?_
                refine l_pint rfl rfl ?_
                refine l_nil ?_
                refine w_ret ?_
                refine fin1 (v := .int _ _) rfl ?_
                refine ⟨?_, (((((H.erase 0).erase 0).erase 0).erase 0).erase 0)⟩
                rw [hR, if_neg (by omega), if_neg (by rintro (⟨h1, _⟩ | ⟨h1, _⟩) <;> exact absurd h1 (by omega)), if_pos ⟨by omega, by omega⟩, if_pos (.inl (by simpa using h70))]
              · try simp only [decide_eq_true_eq, decide_eq_false_iff_not, Bool.not_eq_true', Bool.not_eq_false', beq_iff_eq, beq_eq_false_iff_ne, bne_iff_ne, bne_eq_false_iff_eq, ne_eq, Int.not_lt, Int.not_le] at h70
                refine l_v rfl (q_loadN (vs := ((bothN mm nn true old path).2).map B) rfl ag_24 rfl (by simp [hbl.2]) (H.cells 0 rfl)) ?_
                refine l_v rfl (q_loadN (vs := (hd).map B) rfl ag_24 rfl (by simp [hhd]) (H.cells 3 rfl)) ?_
                refine l_v rfl (q_neqHash rfl rfl rfl hbl.2 hhd) ?_
                refine l_pickF (v := .bool _) rfl rfl rfl ?_
                refine l_nil ?_
                refine w_cond rfl (fun c8 => ?_) (fun c8 => ?_)
                · try simp only [decide_eq_true_eq, decide_eq_false_iff_not, Bool.not_eq_true', Bool.not_eq_false', beq_iff_eq, beq_eq_false_iff_ne, bne_iff_ne, bne_eq_false_iff_eq, ne_eq, Int.not_lt, Int.not_le] at c8
                  refine w_seq ?_
                  refine w_region ?_
                  refine l_pint rfl rfl ?_
                  refine l_nil ?_
                  refine w_ret ?_
                  refine fin1 (v := .int _ _) rfl ?_
                  refine ⟨?_, (((((H.erase 0).erase 0).erase 0).erase 0).erase 0)⟩
                  rw [hR, if_neg (by omega), if_neg (by rintro (⟨h1, _⟩ | ⟨h1, _⟩) <;> exact absurd h1 (by omega)), if_pos ⟨by omega, by omega⟩, if_pos (.inr (by simpa using c8))]
                · try simp only [decide_eq_true_eq, decide_eq_false_iff_not, Bool.not_eq_true', Bool.not_eq_false', beq_iff_eq, beq_eq_false_iff_ne, bne_iff_ne, bne_eq_false_iff_eq, ne_eq, Int.not_lt, Int.not_le] at c8
                  refine w_skip ?_
                  refine w_seq ?_
                  refine w_region ?_
                  refine l_pint rfl rfl ?_
                  refine l_nil ?_
                  refine w_ret ?_
                  refine fin1 (v := .int _ _) rfl ?_
                  refine ⟨?_, (((((H.erase 0).erase 0).erase 0).erase 0).erase 0)⟩
                  rw [hR, if_neg (by omega), if_neg (by rintro (⟨h1, _⟩ | ⟨h1, _⟩) <;> exact absurd h1 (by omega)), if_pos ⟨by omega, by omega⟩, if_neg (by rintro (h | h); exact h (by simpa using h70); exact h (by simpa using c8))]

end Go.Proofs.Ytcmmhpkgjcepdaa
