/- The tree's Consistency, and the laws' helpers within and binary, do what their contracts say. -/
import Derived.Test.YtcmmhpkgjcepdaaTre13
namespace Go.Proofs.Ytcmmhpkgjcepdaa
open Go.EW
attribute [local irreducible] EW.W EW.L EW.fin block8 outB shaL
set_option linter.unusedVariables false
set_option linter.unusedSimpArgs false
attribute [local irreducible] swp headH leafH nodeH inclN sidesN bothN lenN incR incdR extR unlikeN consN conR
theorem consistency_ok (k : Nat) : ∀ {W w : World} {F : List Seg} {a : Option Addr} {n c m : Nat} {wh : Bool} {es : List Ent}, St W w F → RdIn W F a (entsV es) → es.length = n → n ≤ c → EntsOk es → n = k → 1 ≤ m → m ≤ n → n ≤ 4398046511000 →
    Ok Try.prog 76 [.int .i64 (m : Int), .slice a n c, .bool wh].toArray w (fun r w' => ∃ a' c', r = .slice a' (consN m es wh).length c' ∧ St W w' (row 24 32 a' (consN m es wh).length c' (pathV (consN m es wh)) :: F)) := by
  induction k using Nat.strongRecOn with
  | _ k ih =>
    intro W w F a n c m wh es H hr hl hnc hok hnk hm1 hmn hnb
    subst hnk
    refine enter (n := 47) (rs := #[.tmp 6]) Try.func76 rfl rfl rfl rfl ?_
    refine w_seq ?_
    refine w_region ?_
    refine l_pslice rfl rfl ?_
    refine l_nil ?_
    refine w_seq ?_
    refine w_seq ?_
    refine w_region ?_
    refine l_pint rfl rfl ?_
    refine l_pslice rfl rfl ?_
    refine l_v rfl (q_lenSlice rfl el_22 rfl) ?_
    refine l_pbool rfl rfl ?_
    refine l_nil ?_
    refine w_cond rfl (fun c1 => ?_) (fun c1 => ?_)
    · try simp only [decide_eq_true_eq, decide_eq_false_iff_not, Bool.not_eq_true', Bool.not_eq_false', beq_iff_eq, beq_eq_false_iff_ne, bne_iff_ne, bne_eq_false_iff_eq, ne_eq, Int.not_lt, Int.not_le] at c1
      have e : m = n := by omega
      subst e
      have hce := consN_eq (es := es) (wh := wh) hm1 hl.symm
      refine w_seq ?_
      refine w_seq ?_
      refine w_region ?_
      refine l_pbool rfl rfl ?_
      refine l_nil ?_
      refine w_cond rfl (fun c2 => ?_) (fun c2 => ?_)
      · try simp only [decide_eq_true_eq, decide_eq_false_iff_not, Bool.not_eq_true', Bool.not_eq_false', beq_iff_eq, beq_eq_false_iff_ne, bne_iff_ne, bne_eq_false_iff_eq, ne_eq, Int.not_lt, Int.not_le] at c2
        obtain rfl : wh = true := c2
        refine w_seq ?_
        refine w_region ?_
        refine l_pslice rfl rfl ?_
        refine l_nil ?_
        refine w_ret ?_
        refine fin1 (v := .slice _ _ _) rfl ?_
        exact ⟨none, 0, by rw [hce]; rfl, by rw [hce]; exact St.newRow H⟩
      · try simp only [decide_eq_true_eq, decide_eq_false_iff_not, Bool.not_eq_true', Bool.not_eq_false', beq_iff_eq, beq_eq_false_iff_ne, bne_iff_ne, bne_eq_false_iff_eq, ne_eq, Int.not_lt, Int.not_le] at c2
        obtain rfl : wh = false := c2
        refine w_skip ?_
        refine w_seq ?_
        refine w_region ?_
        refine l_pslice rfl rfl ?_
        refine b_call rfl cb_14 rfl (Head_ok m H hr hl hnc hok rfl (by omega)) (fun v w hv => ?_)
        obtain ⟨rfl, H⟩ := hv
        refine b_buildSlice (cs := (headH es).map B) rfl el_42 ze_24 rfl rfl (fill_hash (headH_len _)) H (fun b15 w H => ?_)
        refine l_pslice rfl rfl ?_
        refine l_nil ?_
        refine w_ret ?_
        refine fin1 (v := .slice _ _ _) rfl ?_
        refine ⟨some ⟨b15, 0, none⟩, 1, by rw [hce]; rfl, ?_⟩
        rw [hce]
        show St W w (row 24 32 _ 1 1 (pathV [headH es]) :: F)
        rw [pathV_one]
        exact H.imp fun _ h => row_of_blk0 h (by simp [headH_len]) (List.take_length) (by simp [headH_len]) (Nat.le_refl _) (by decide)
    · try simp only [decide_eq_true_eq, decide_eq_false_iff_not, Bool.not_eq_true', Bool.not_eq_false', beq_iff_eq, beq_eq_false_iff_ne, bne_iff_ne, bne_eq_false_iff_eq, ne_eq, Int.not_lt, Int.not_le] at c1
      have h2 : 2 ≤ n := by omega
      have hsp := splitN_spec h2
      have hi2 := consN_ne (es := es) (wh := wh) hm1 (by omega)
      rw [hl] at hi2
      refine w_skip ?_
      refine w_seq ?_
      refine w_region ?_
      refine l_pslice rfl rfl ?_
      refine l_v rfl (q_lenSlice rfl el_22 rfl) ?_
      refine b_call rfl cb_51 rfl (split_ok (n := n) ⟨by omega, by omega⟩) (fun v w hv => ?_)
      obtain ⟨rfl, rfl⟩ := hv
      refine l_pint rfl rfl ?_
      refine l_nil ?_
      refine w_seq ?_
      refine w_seq ?_
      refine w_region ?_
      refine l_pint rfl rfl ?_
      refine l_pint rfl rfl ?_
      refine l_pbool rfl rfl ?_
      refine l_nil ?_
      refine w_cond rfl (fun c3 => ?_) (fun c3 => ?_)
      · try simp only [decide_eq_true_eq, decide_eq_false_iff_not, Bool.not_eq_true', Bool.not_eq_false', beq_iff_eq, beq_eq_false_iff_ne, bne_iff_ne, bne_eq_false_iff_eq, ne_eq, Int.not_lt, Int.not_le] at c3
        rw [if_pos (by omega)] at hi2
        have hio := consN_ok m (es.take (splitN n)) wh
        rw [List.length_take] at hio
        refine w_seq ?_
        refine w_drawT [5, 9, 10, 11] [] [(0, 0), (1, 0), (2, 0), (3, 0), (4, 0), (6, 0), (7, 0), (8, 0), (5, 2), (9, 2), (10, 2), (11, 2), (12, 0)] mixed (by kernel_rfl) (fun _ _ _ h => fin_panic h) H (fun H => ?_)
        refine r_pint rfl rfl rfl ?_
        refine r_pslice rfl rfl rfl ?_
        refine r_pint rfl rfl rfl ?_
        refine r_w rfl rfl (fun w => q_slice (h := splitN n) rfl el_22 rfl Bnd.none (Bnd.nat (by omega)) Bnd.none (by simp)) ?_
        refine r_pbool rfl rfl rfl ?_
        refine r_pslice rfl rfl rfl ?_
        refine r_pint rfl rfl rfl ?_
        refine r_w rfl rfl (fun w => q_slice (l := splitN n) rfl el_22 rfl Bnd.none Bnd.none (Bnd.nat (by omega)) (by simp)) ?_
        refine r_do rfl ?_
        refine b_call rfl cb_76 rfl (ih (splitN n) (by omega) (n := splitN n) (wh := wh) (es := es.take (splitN n)) H (rdin_take5 (hr) (splitN n) c) (by rw [List.length_take]; omega) (by omega) (hok.take _) rfl (by omega) (by omega) (by omega)) (fun v w hv => ?_)
        obtain ⟨a1, c1', rfl, H⟩ := hv
        refine l_nil ⟨(fun h => nomatch h), ?_⟩
        refine r_do rfl ?_
        refine b_call rfl cb_14 rfl (Head_ok (n - splitN n) (n := n - splitN n) (es := es.drop (splitN n)) H (rdin_drop5 (hr.up 1 rfl) (by omega)) (by rw [List.length_drop]; omega) (by omega) (hok.drop _) rfl (by omega)) (fun v w hv => ?_)
        obtain ⟨rfl, H⟩ := hv
        refine l_nil ⟨(fun h => nomatch h), ?_⟩
        refine r_do rfl ?_
        refine b_buildSlice (cs := (headH (es.drop (splitN n))).map B) rfl el_42 ze_24 rfl rfl (fill_hash (headH_len _)) H (fun b32 w H => ?_)
        refine l_nil ⟨(fun h => nomatch h), ?_⟩
        refine r_do rfl ?_
        refine b_append rfl el_42 ze_24 rfl rfl rfl H 1 rfl (ys := (headH (es.drop (splitN n))).map B) (Rd.mk (H.cells0 0 rfl)) (by simp [headH_len]) (EW.oneB _) ⟨by omega, by simp only [maxLen]; omega⟩ (fun a33 c33 w H => ?_)
        refine l_nil ⟨(fun h => nomatch h), ?_⟩
        refine r_pslice rfl rfl rfl ?_
        refine r_nil ?_
        refine w_ret ?_
        refine fin1 (v := .slice _ _ _) rfl ?_
        refine ⟨a33, c33, congrArg (fun x => Value.slice a33 x c33) (by rw [hi2]; simp), ?_⟩
        rw [hi2, List.length_append, pathV_append, pathV_one]
        exact H.drop1
      · try simp only [decide_eq_true_eq, decide_eq_false_iff_not, Bool.not_eq_true', Bool.not_eq_false', beq_iff_eq, beq_eq_false_iff_ne, bne_iff_ne, bne_eq_false_iff_eq, ne_eq, Int.not_lt, Int.not_le] at c3
        rw [if_neg (by omega)] at hi2
        have hio := consN_ok (m - splitN n) (es.drop (splitN n)) false
        rw [List.length_drop] at hio
        refine w_skip ?_
        refine w_seq ?_
        refine w_drawT [6, 10, 11, 12] [] [(0, 0), (1, 0), (2, 0), (3, 0), (4, 0), (5, 0), (7, 0), (8, 0), (9, 0), (6, 2), (10, 2), (11, 2), (12, 2), (13, 0)] mixed (by kernel_rfl) (fun _ _ _ h => fin_panic h) H (fun H => ?_)
        refine r_pint rfl rfl rfl ?_
        refine r_pint rfl rfl rfl ?_
        first | refine r_w rfl rfl (fun w => q_subN (a := m) (b := splitN n) rfl rfl rfl ⟨by omega, by omega⟩) ?_ | refine r_pint rfl rfl rfl ?_
        refine r_pslice rfl rfl rfl ?_
        refine r_pint rfl rfl rfl ?_
        refine r_w rfl rfl (fun w => q_slice (l := splitN n) rfl el_22 rfl Bnd.none Bnd.none (Bnd.nat (by omega)) (by simp)) ?_
        refine r_pslice rfl rfl rfl ?_
        refine r_pint rfl rfl rfl ?_
        refine r_w rfl rfl (fun w => q_slice (h := splitN n) rfl el_22 rfl Bnd.none (Bnd.nat (by omega)) Bnd.none (by simp)) ?_
        refine r_do rfl ?_
        refine b_call rfl cb_76 rfl (ih (n - splitN n) (by omega) (n := n - splitN n) (wh := false) (es := es.drop (splitN n)) H (rdin_drop5 (hr) (by omega)) (by rw [List.length_drop]; omega) (by omega) (hok.drop _) rfl (by omega) (by omega) (by omega)) (fun v w hv => ?_)
        obtain ⟨a1, c1', rfl, H⟩ := hv
        refine l_nil ⟨(fun h => nomatch h), ?_⟩
        refine r_do rfl ?_
        refine b_call rfl cb_14 rfl (Head_ok (splitN n) (n := splitN n) (es := es.take (splitN n)) H (rdin_take5 (hr.up 1 rfl) (splitN n) c) (by rw [List.length_take]; omega) (by omega) (hok.take _) rfl (by omega)) (fun v w hv => ?_)
        obtain ⟨rfl, H⟩ := hv
        refine l_nil ⟨(fun h => nomatch h), ?_⟩
        refine r_do rfl ?_
        refine b_buildSlice (cs := (headH (es.take (splitN n))).map B) rfl el_42 ze_24 rfl rfl (fill_hash (headH_len _)) H (fun b45 w H => ?_)
        refine l_nil ⟨(fun h => nomatch h), ?_⟩
        refine r_do rfl ?_
        refine b_append rfl el_42 ze_24 rfl rfl rfl H 1 rfl (ys := (headH (es.take (splitN n))).map B) (Rd.mk (H.cells0 0 rfl)) (by simp [headH_len]) (EW.oneB _) ⟨by omega, by simp only [maxLen]; omega⟩ (fun a46 c46 w H => ?_)
        refine l_nil ⟨(fun h => nomatch h), ?_⟩
        refine r_pslice rfl rfl rfl ?_
        refine r_nil ?_
        refine w_ret ?_
        refine fin1 (v := .slice _ _ _) rfl ?_
        refine ⟨a46, c46, congrArg (fun x => Value.slice a46 x c46) (by rw [hi2]; simp), ?_⟩
        rw [hi2, List.length_append, pathV_append, pathV_one]
        exact H.drop1


theorem Consistency_ok {W w : World} {F : List Seg} {a : Option Addr} {n c : Nat} {es : List Ent} (H : St W w F) (hr : RdIn W F a (entsV es)) (hl : es.length = n) (hnc : n ≤ c) (hok : EntsOk es) (hnb : n ≤ 4398046511000) (x : Int) :
    Ok Try.prog 37 [.slice a n c, .int .i64 x].toArray w (fun r w' => ∃ a' c', r = .tuple #[.slice a' (conR es x).1.length c', .int .i64 (conR es x).2] ∧ St W w' (row 24 32 a' (conR es x).1.length c' (pathV (conR es x).1) :: F)) := by
  refine enter (n := 25) (rs := #[.tmp 4, .tmp 5]) Try.func37 rfl rfl rfl rfl ?_
  refine w_seq ?_
  refine w_region ?_
  refine l_pslice rfl rfl ?_
  refine l_pint rfl rfl ?_
  refine l_nil ?_
  refine w_seq ?_
  refine w_seq ?_
  refine w_region ?_
  refine l_pint rfl rfl ?_
  refine l_pbool rfl rfl ?_
  refine l_pbool rfl rfl ?_
  refine l_split 8 rfl (fun h8 => ?_) (fun h8 => ?_)
  · try simp only [decide_eq_true_eq, decide_eq_false_iff_not, Bool.not_eq_true', Bool.not_eq_false', beq_iff_eq, beq_eq_false_iff_ne, bne_iff_ne, bne_eq_false_iff_eq, ne_eq, Int.not_lt, Int.not_le] at h8
    refine l_no rfl ?_
    refine l_no rfl ?_
    refine l_no rfl ?_
    refine l_no rfl ?_
    refine l_pickT (v := .bool _) rfl rfl rfl ?_
    refine l_nil ?_
    refine w_cond_t rfl ?_
    refine w_seq ?_
    refine w_region ?_
    refine l_pslice rfl rfl ?_
    refine l_pint rfl rfl ?_
    refine l_nil ?_
    refine w_ret ?_
    refine fin2 rfl rfl ?_
    have hR : conR es x = ([], 200) := by unfold conR; rw [if_pos (by omega)]
    refine ⟨none, 0, by rw [hR]; rfl, by rw [hR]; exact St.newRow H⟩
  · try simp only [decide_eq_true_eq, decide_eq_false_iff_not, Bool.not_eq_true', Bool.not_eq_false', beq_iff_eq, beq_eq_false_iff_ne, bne_iff_ne, bne_eq_false_iff_eq, ne_eq, Int.not_lt, Int.not_le] at h8
    refine l_pint rfl rfl ?_
    refine l_pslice rfl rfl ?_
    refine l_v rfl (q_lenSlice rfl el_22 rfl) ?_
    refine l_pbool rfl rfl ?_
    refine l_pickF (v := .bool _) rfl rfl rfl ?_
    refine l_nil ?_
    refine w_cond rfl (fun c1 => ?_) (fun c1 => ?_)
    · try simp only [decide_eq_true_eq, decide_eq_false_iff_not, Bool.not_eq_true', Bool.not_eq_false', beq_iff_eq, beq_eq_false_iff_ne, bne_iff_ne, bne_eq_false_iff_eq, ne_eq, Int.not_lt, Int.not_le] at c1
      refine w_seq ?_
      refine w_region ?_
      refine l_pslice rfl rfl ?_
      refine l_pint rfl rfl ?_
      refine l_nil ?_
      refine w_ret ?_
      refine fin2 rfl rfl ?_
      have hR : conR es x = ([], 200) := by unfold conR; rw [if_pos (by omega)]
      refine ⟨none, 0, by rw [hR]; rfl, by rw [hR]; exact St.newRow H⟩
    · try simp only [decide_eq_true_eq, decide_eq_false_iff_not, Bool.not_eq_true', Bool.not_eq_false', beq_iff_eq, beq_eq_false_iff_ne, bne_iff_ne, bne_eq_false_iff_eq, ne_eq, Int.not_lt, Int.not_le] at c1
      obtain ⟨p, rfl⟩ := Int.eq_ofNat_of_zero_le (by omega : 0 ≤ x)
      refine w_skip ?_
      refine w_seq ?_
      refine w_seq ?_
      refine w_region ?_
      refine l_pint rfl rfl ?_
      refine l_pbool rfl rfl ?_
      refine l_pbool rfl rfl ?_
      refine l_split 16 rfl (fun h16 => ?_) (fun h16 => ?_)
      · try simp only [decide_eq_true_eq, decide_eq_false_iff_not, Bool.not_eq_true', Bool.not_eq_false', beq_iff_eq, beq_eq_false_iff_ne, bne_iff_ne, bne_eq_false_iff_eq, ne_eq, Int.not_lt, Int.not_le] at h16
        refine l_no rfl ?_
        refine l_no rfl ?_
        refine l_no rfl ?_
        refine l_no rfl ?_
        refine l_pickT (v := .bool _) rfl rfl rfl ?_
        refine l_nil ?_
        refine w_cond_t rfl ?_
        refine w_seq ?_
        refine w_region ?_
        refine l_pslice rfl rfl ?_
        refine l_pint rfl rfl ?_
        refine l_nil ?_
        refine w_ret ?_
        refine fin2 rfl rfl ?_
        have hR : conR es (p : Int) = ([], 0) := by unfold conR; rw [if_neg (by omega), if_pos (by omega)]
        refine ⟨none, 0, by rw [hR]; rfl, by rw [hR]; exact St.newRow H⟩
      · try simp only [decide_eq_true_eq, decide_eq_false_iff_not, Bool.not_eq_true', Bool.not_eq_false', beq_iff_eq, beq_eq_false_iff_ne, bne_iff_ne, bne_eq_false_iff_eq, ne_eq, Int.not_lt, Int.not_le] at h16
        refine l_pint rfl rfl ?_
        refine l_pslice rfl rfl ?_
        refine l_v rfl (q_lenSlice rfl el_22 rfl) ?_
        refine l_pbool rfl rfl ?_
        refine l_pickF (v := .bool _) rfl rfl rfl ?_
        refine l_nil ?_
        refine w_cond rfl (fun c2 => ?_) (fun c2 => ?_)
        · try simp only [decide_eq_true_eq, decide_eq_false_iff_not, Bool.not_eq_true', Bool.not_eq_false', beq_iff_eq, beq_eq_false_iff_ne, bne_iff_ne, bne_eq_false_iff_eq, ne_eq, Int.not_lt, Int.not_le] at c2
          refine w_seq ?_
          refine w_region ?_
          refine l_pslice rfl rfl ?_
          refine l_pint rfl rfl ?_
          refine l_nil ?_
          refine w_ret ?_
          refine fin2 rfl rfl ?_
          have hR : conR es (p : Int) = ([], 0) := by unfold conR; rw [if_neg (by omega), if_pos (by omega)]
          refine ⟨none, 0, by rw [hR]; rfl, by rw [hR]; exact St.newRow H⟩
        · try simp only [decide_eq_true_eq, decide_eq_false_iff_not, Bool.not_eq_true', Bool.not_eq_false', beq_iff_eq, beq_eq_false_iff_ne, bne_iff_ne, bne_eq_false_iff_eq, ne_eq, Int.not_lt, Int.not_le] at c2
          have hR : conR es (p : Int) = (consN p es true, 0) := by unfold conR; rw [if_neg (by omega), if_neg (by omega), Int.toNat_natCast]
          refine w_skip ?_
          refine w_seq ?_
          refine w_region ?_
          refine l_pint rfl rfl ?_
          refine l_pslice rfl rfl ?_
          refine b_call rfl cb_76 rfl (consistency_ok n (n := n) (m := p) (wh := true) H hr hl hnc hok rfl (by omega) (by omega) hnb) (fun v w hv => ?_)
          obtain ⟨a1, c1', rfl, H⟩ := hv
          refine l_pslice rfl rfl ?_
          refine l_pint rfl rfl ?_
          refine l_nil ?_
          refine w_ret ?_
          refine fin2 rfl rfl ?_
          refine ⟨a1, c1', by rw [hR]; rfl, by rw [hR]; exact H⟩

theorem binary_ok {w : World} {n : Nat} (hn : n ≤ 4398046511000) :
    Ok Try.prog 39 [.int .i64 (n : Int)].toArray w (fun r w' => ∃ k : Nat, r = .int .i64 (k : Int) ∧ n < 2 ^ k ∧ k ≤ n ∧ w' = w) := by
  refine enter (n := 11) (rs := #[.tmp 2]) Try.func39 rfl rfl rfl rfl ?_
  refine w_seq ?_
  refine w_region ?_
  refine l_pint rfl rfl ?_
  refine l_nil ?_
  refine w_seq ?_
  refine w_region ?_
  refine l_pint rfl rfl ?_
  refine l_nil ?_
  refine w_seq ?_
  refine w_block ?_
  refine w_loopG (G := Nat × Nat) [0, 3, 4, 5, 6, 7, 8, 9] (fun ⟨n', k⟩ => [(0, .int .i64 ((n' : Nat) : Int)), (3, .int .i64 ((k : Nat) : Int))]) (fun m ⟨n', k⟩ w' => w' = w ∧ (m = n' ∧ k + n' ≤ n) ∧ n < (n' + 1) * 2 ^ k) (fun _ => rfl) ?_ ?_
  · exact ⟨n, (n, 0), ⟨rfl, rfl, trivial⟩, rfl, ⟨rfl, by omega⟩, by simp⟩
  · rintro m ⟨n', k⟩ ρ1 w' ⟨rfl, ⟨hmn, hkn⟩, hlt⟩
    refine w_seq ?_
    refine w_seq ?_
    refine w_region ?_
    refine l_pint rfl rfl ?_
    refine l_pbool rfl rfl ?_
    refine l_nil ?_
    refine w_cond rfl (fun c1 => ?_) (fun c1 => ?_)
    · try simp only [decide_eq_true_eq, decide_eq_false_iff_not, Bool.not_eq_true', Bool.not_eq_false', beq_iff_eq, beq_eq_false_iff_ne, bne_iff_ne, bne_eq_false_iff_eq, ne_eq, Int.not_lt, Int.not_le] at c1
      refine w_skip ?_
      refine w_block ?_
      refine w_seq ?_
      refine w_region ?_
      refine l_pint rfl rfl ?_
      refine l_v rfl (q_quo (k := .i64) (a := ((n' : Nat) : Int)) (b := 2) rfl rfl rfl (by omega) (by rw [show (2 : Int) = ((2 : Nat) : Int) from rfl, tdivN]; simp only [inK]; omega)) ?_
      refine l_pint rfl rfl ?_
      refine l_nil ?_
      refine w_region ?_
      refine l_pint rfl rfl ?_
      first | refine l_v rfl (q_add rfl rfl rfl (by simp only [inK]; omega)) ?_ | refine l_pint rfl rfl ?_
      refine l_pint rfl rfl ?_
      refine l_nil ?_
      refine ⟨by repeat' first | exact Agr.mix _ _ _ | exact Agr.refl _ _ | refine Agr.inner rfl ?_ | refine Agr.upd rfl ?_ | refine Agr.updL' rfl ?_, ?_⟩
      refine ⟨n' / 2, (n' / 2, k + 1), by omega, ⟨congrArg (Value.int .i64) (tdivN n' 2), by exact congrArg (Value.int IntKind.i64) (Int.natCast_succ k).symm, trivial⟩, rfl, ⟨rfl, by omega⟩, ?_⟩
      rw [Nat.pow_succ, ← Nat.mul_assoc]
      exact Nat.lt_of_lt_of_le hlt (by rw [Nat.mul_right_comm]; exact Nat.mul_le_mul_right _ (by omega))
    · try simp only [decide_eq_true_eq, decide_eq_false_iff_not, Bool.not_eq_true', Bool.not_eq_false', beq_iff_eq, beq_eq_false_iff_ne, bne_iff_ne, bne_eq_false_iff_eq, ne_eq, Int.not_lt, Int.not_le] at c1
      have e : n' = 0 := by omega
      subst e
      refine w_exit ?_
      refine w_seq ?_
      refine w_region ?_
      refine l_pint rfl rfl ?_
      refine l_pint rfl rfl ?_
      refine l_nil ?_
      refine w_ret ?_
      refine fin1 (v := .int _ _) rfl ?_
      exact ⟨k, rfl, by simpa using hlt, by omega, rfl⟩

theorem tmod_gt (x : Int) {b : Int} (hb : 0 < b) : -b < x.tmod b := by
  have h := Int.natAbs_tmod x b
  have h2 : x.natAbs % b.natAbs < b.natAbs := Nat.mod_lt _ (by omega)
  omega

theorem within_ok {w : World} (x : Int) {n : Nat} (hn : n ≤ 4398046511000) :
    Ok Try.prog 30 [.int .i64 x, .int .i64 (n : Int)].toArray w (fun r w' => ∃ k : Nat, k ≤ n ∧ r = .int .i64 (k : Int) ∧ w' = w) := by
  have hb1 := Int.tmod_lt_of_pos x (show 0 < (n : Int) + 1 by omega)
  have hb2 := tmod_gt x (show 0 < (n : Int) + 1 by omega)
  refine enter (n := 16) (rs := #[.tmp 4]) Try.func30 rfl rfl rfl rfl ?_
  refine w_seq ?_
  refine w_region ?_
  refine l_pint rfl rfl ?_
  refine l_nil ?_
  refine w_seq ?_
  refine w_region ?_
  refine l_pint rfl rfl ?_
  refine l_pint rfl rfl ?_
  first | refine l_v rfl (q_add rfl rfl rfl (by simp only [inK]; omega)) ?_ | refine l_pint rfl rfl ?_
  refine l_v rfl (q_rem (k := .i64) (a := x) (b := (n : Int) + 1) rfl rfl rfl (by omega)) ?_
  refine l_pint rfl rfl ?_
  refine l_nil ?_
  refine w_seq ?_
  refine w_seq ?_
  refine w_region ?_
  refine l_pint rfl rfl ?_
  refine l_pbool rfl rfl ?_
  refine l_nil ?_
  refine w_cond rfl (fun c1 => ?_) (fun c1 => ?_)
  · try simp only [decide_eq_true_eq, decide_eq_false_iff_not, Bool.not_eq_true', Bool.not_eq_false', beq_iff_eq, beq_eq_false_iff_ne, bne_iff_ne, bne_eq_false_iff_eq, ne_eq, Int.not_lt, Int.not_le] at c1
    refine w_region ?_
    refine l_pint rfl rfl ?_
    refine l_pint rfl rfl ?_
    first | refine l_v rfl (q_add rfl rfl rfl (by simp only [inK]; omega)) ?_ | refine l_pint rfl rfl ?_
    first | refine l_v rfl (q_add rfl rfl rfl (by simp only [inK]; omega)) ?_ | refine l_pint rfl rfl ?_
    refine l_pint rfl rfl ?_
    refine l_nil ?_
    refine w_seq ?_
    refine w_region ?_
    refine l_pint rfl rfl ?_
    refine l_pint rfl rfl ?_
    refine l_nil ?_
    refine w_ret ?_
    refine fin1 (v := .int _ _) rfl ?_
    exact ⟨(x.tmod ((n : Int) + 1) + n + 1).toNat, by omega, congrArg (Value.int .i64) (by omega), rfl⟩
  · try simp only [decide_eq_true_eq, decide_eq_false_iff_not, Bool.not_eq_true', Bool.not_eq_false', beq_iff_eq, beq_eq_false_iff_ne, bne_iff_ne, bne_eq_false_iff_eq, ne_eq, Int.not_lt, Int.not_le] at c1
    refine w_skip ?_
    refine w_seq ?_
    refine w_region ?_
    refine l_pint rfl rfl ?_
    refine l_pint rfl rfl ?_
    refine l_nil ?_
    refine w_ret ?_
    refine fin1 (v := .int _ _) rfl ?_
    exact ⟨(x.tmod ((n : Int) + 1)).toNat, by omega, congrArg (Value.int .i64) (by omega), rfl⟩

end Go.Proofs.Ytcmmhpkgjcepdaa
