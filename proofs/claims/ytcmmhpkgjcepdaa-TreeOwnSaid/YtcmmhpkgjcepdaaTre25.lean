/- The reference's Inclusion and Consistency answer as the plain functions do. -/
import Derived.Test.YtcmmhpkgjcepdaaTre24
namespace Go.Proofs.Ytcmmhpkgjcepdaa
open Go.EW
attribute [local irreducible] EW.W EW.L EW.fin block8 outB shaL
set_option linter.unusedVariables false
set_option linter.unusedSimpArgs false
attribute [local irreducible] swp headH leafH nodeH inclN sidesN bothN lenN splitN upN incdR extR consN incR conR
theorem sub_ok (k : Nat) : ∀ {W w : World} {F : List Seg} {a : Option Addr} {n c m : Nat} {wh : Bool} {es : List Ent}, St W w F → RdIn W F a (entsV es) → es.length = n → n ≤ c → EntsOk es → n = k → 1 ≤ m → m ≤ n → n ≤ 4398046511000 →
    Ok Try.prog 77 [.int .i64 (m : Int), .slice a n c, .bool wh].toArray w (fun r w' => ∃ a' c', r = .slice a' (consN m es wh).length c' ∧ St W w' (row 24 32 a' (consN m es wh).length c' (pathV (consN m es wh)) :: F)) := by
  induction k using Nat.strongRecOn with
  | _ k ih =>
    intro W w F a n c m wh es H hr hl hnc hok hnk hm1 hmn hnb
    subst hnk
    refine enter (n := 47) (rs := #[.tmp 6]) Try.func77 rfl rfl rfl rfl ?_
    refine w_seq ?_
    refine w_region ?_
    refine l_pslice rfl rfl ?_
    refine l_nil ?_
    refine w_seq ?_
    refine w_seq ?_
    refine w_region ?_
    refine l_pint rfl rfl ?_
    refine l_pslice rfl rfl ?_
    refine l_v rfl (q_lenSlice rfl el_22 rfl) ?_
    refine l_pbool rfl rfl ?_
    refine l_nil ?_
    refine w_cond rfl (fun c1 => ?_) (fun c1 => ?_)
    · try simp only [decide_eq_true_eq, decide_eq_false_iff_not, Bool.not_eq_true', Bool.not_eq_false', beq_iff_eq, beq_eq_false_iff_ne, bne_iff_ne, bne_eq_false_iff_eq, ne_eq, Int.not_lt, Int.not_le] at c1
      have e : m = n := by omega
      subst e
      have hce := consN_eq (es := es) (wh := wh) hm1 hl.symm
      refine w_seq ?_
      refine w_seq ?_
      refine w_region ?_
      refine l_pbool rfl rfl ?_
      refine l_nil ?_
      refine w_cond rfl (fun c2 => ?_) (fun c2 => ?_)
      · try simp only [decide_eq_true_eq, decide_eq_false_iff_not, Bool.not_eq_true', Bool.not_eq_false', beq_iff_eq, beq_eq_false_iff_ne, bne_iff_ne, bne_eq_false_iff_eq, ne_eq, Int.not_lt, Int.not_le] at c2
        obtain rfl : wh = true := c2
        refine w_seq ?_
        refine w_region ?_
        refine l_pslice rfl rfl ?_
        refine l_nil ?_
        refine w_ret ?_
        refine fin1 (v := .slice _ _ _) rfl ?_
        exact ⟨none, 0, by rw [hce]; rfl, by rw [hce]; exact St.newRow H⟩
      · try simp only [decide_eq_true_eq, decide_eq_false_iff_not, Bool.not_eq_true', Bool.not_eq_false', beq_iff_eq, beq_eq_false_iff_ne, bne_iff_ne, bne_eq_false_iff_eq, ne_eq, Int.not_lt, Int.not_le] at c2
        obtain rfl : wh = false := c2
        refine w_skip ?_
        refine w_seq ?_
        refine w_region ?_
        refine l_pslice rfl rfl ?_
        refine b_call rfl cb_16 rfl (rHead_ok m H hr hl hnc hok rfl (by omega)) (fun v w hv => ?_)
        obtain ⟨rfl, H⟩ := hv
        refine b_buildSlice (cs := (headH es).map B) rfl el_42 ze_24 rfl rfl (fill_hash (headH_len _)) H (fun b15 w H => ?_)
        refine l_pslice rfl rfl ?_
        refine l_nil ?_
        refine w_ret ?_
        refine fin1 (v := .slice _ _ _) rfl ?_
        refine ⟨some ⟨b15, 0, none⟩, 1, by rw [hce]; rfl, ?_⟩
        rw [hce]
        show St W w (row 24 32 _ 1 1 (pathV [headH es]) :: F)
        rw [pathV_one]
        exact H.imp fun _ h => row_of_blk0 h (by simp [headH_len]) (List.take_length) (by simp [headH_len]) (Nat.le_refl _) (by decide)
    · try simp only [decide_eq_true_eq, decide_eq_false_iff_not, Bool.not_eq_true', Bool.not_eq_false', beq_iff_eq, beq_eq_false_iff_ne, bne_iff_ne, bne_eq_false_iff_eq, ne_eq, Int.not_lt, Int.not_le] at c1
      have h2 : 2 ≤ n := by omega
      have hsp := splitN_spec h2
      have hi2 := consN_ne (es := es) (wh := wh) hm1 (by omega)
      rw [hl] at hi2
      refine w_skip ?_
      refine w_seq ?_
      refine w_region ?_
      refine l_pslice rfl rfl ?_
      refine l_v rfl (q_lenSlice rfl el_22 rfl) ?_
      refine b_call rfl cb_54 rfl (rSplit_ok (n := n) ⟨by omega, by omega⟩) (fun v w hv => ?_)
      obtain ⟨rfl, rfl⟩ := hv
      refine l_pint rfl rfl ?_
      refine l_nil ?_
      refine w_seq ?_
      refine w_seq ?_
      refine w_region ?_
      refine l_pint rfl rfl ?_
      refine l_pint rfl rfl ?_
      refine l_pbool rfl rfl ?_
      refine l_nil ?_
      refine w_cond rfl (fun c3 => ?_) (fun c3 => ?_)
      · try simp only [decide_eq_true_eq, decide_eq_false_iff_not, Bool.not_eq_true', Bool.not_eq_false', beq_iff_eq, beq_eq_false_iff_ne, bne_iff_ne, bne_eq_false_iff_eq, ne_eq, Int.not_lt, Int.not_le] at c3
        rw [if_pos (by omega)] at hi2
        have hio := consN_ok m (es.take (splitN n)) wh
        rw [List.length_take] at hio
        refine w_seq ?_
        refine w_drawT [5, 9, 10, 11] [] [(0, 0), (1, 0), (2, 0), (3, 0), (4, 0), (6, 0), (7, 0), (8, 0), (5, 2), (9, 2), (10, 2), (11, 2), (12, 0)] mixed (by kernel_rfl) (fun _ _ _ h => fin_panic h) H (fun H => ?_)
        refine r_pint rfl rfl rfl ?_
        refine r_pslice rfl rfl rfl ?_
        refine r_pint rfl rfl rfl ?_
        refine r_w rfl rfl (fun w => q_slice (h := splitN n) rfl el_22 rfl Bnd.none (Bnd.nat (by omega)) Bnd.none (by simp)) ?_
        refine r_pbool rfl rfl rfl ?_
        refine r_pslice rfl rfl rfl ?_
        refine r_pint rfl rfl rfl ?_
        refine r_w rfl rfl (fun w => q_slice (l := splitN n) rfl el_22 rfl Bnd.none Bnd.none (Bnd.nat (by omega)) (by simp)) ?_
        refine r_do rfl ?_
        refine b_call rfl cb_77 rfl (ih (splitN n) (by omega) (n := splitN n) (wh := wh) (es := es.take (splitN n)) H (rdin_take5 (hr) (splitN n) c) (by rw [List.length_take]; omega) (by omega) (hok.take _) rfl (by omega) (by omega) (by omega)) (fun v w hv => ?_)
        obtain ⟨a1, c1', rfl, H⟩ := hv
        refine l_nil ⟨(fun h => nomatch h), ?_⟩
        refine r_do rfl ?_
        refine b_call rfl cb_16 rfl (rHead_ok (n - splitN n) (n := n - splitN n) (es := es.drop (splitN n)) H (rdin_drop5 (hr.up 1 rfl) (by omega)) (by rw [List.length_drop]; omega) (by omega) (hok.drop _) rfl (by omega)) (fun v w hv => ?_)
        obtain ⟨rfl, H⟩ := hv
        refine l_nil ⟨(fun h => nomatch h), ?_⟩
        refine r_do rfl ?_
        refine b_buildSlice (cs := (headH (es.drop (splitN n))).map B) rfl el_42 ze_24 rfl rfl (fill_hash (headH_len _)) H (fun b32 w H => ?_)
        refine l_nil ⟨(fun h => nomatch h), ?_⟩
        refine r_do rfl ?_
        refine b_append rfl el_42 ze_24 rfl rfl rfl H 1 rfl (ys := (headH (es.drop (splitN n))).map B) (Rd.mk (H.cells0 0 rfl)) (by simp [headH_len]) (EW.oneB _) ⟨by omega, by simp only [maxLen]; omega⟩ (fun a33 c33 w H => ?_)
        refine l_nil ⟨(fun h => nomatch h), ?_⟩
        refine r_pslice rfl rfl rfl ?_
        refine r_nil ?_
        refine w_ret ?_
        refine fin1 (v := .slice _ _ _) rfl ?_
        refine ⟨a33, c33, congrArg (fun x => Value.slice a33 x c33) (by rw [hi2]; simp), ?_⟩
        rw [hi2, List.length_append, pathV_append, pathV_one]
        exact H.drop1
      · try simp only [decide_eq_true_eq, decide_eq_false_iff_not, Bool.not_eq_true', Bool.not_eq_false', beq_iff_eq, beq_eq_false_iff_ne, bne_iff_ne, bne_eq_false_iff_eq, ne_eq, Int.not_lt, Int.not_le] at c3
        rw [if_neg (by omega)] at hi2
        have hio := consN_ok (m - splitN n) (es.drop (splitN n)) false
        rw [List.length_drop] at hio
        refine w_skip ?_
        refine w_seq ?_
        refine w_drawT [6, 10, 11, 12] [] [(0, 0), (1, 0), (2, 0), (3, 0), (4, 0), (5, 0), (7, 0), (8, 0), (9, 0), (6, 2), (10, 2), (11, 2), (12, 2), (13, 0)] mixed (by kernel_rfl) (fun _ _ _ h => fin_panic h) H (fun H => ?_)
        refine r_pint rfl rfl rfl ?_
        refine r_pint rfl rfl rfl ?_
        first | refine r_w rfl rfl (fun w => q_subN (a := m) (b := splitN n) rfl rfl rfl ⟨by omega, by omega⟩) ?_ | refine r_pint rfl rfl rfl ?_
        refine r_pslice rfl rfl rfl ?_
        refine r_pint rfl rfl rfl ?_
        refine r_w rfl rfl (fun w => q_slice (l := splitN n) rfl el_22 rfl Bnd.none Bnd.none (Bnd.nat (by omega)) (by simp)) ?_
        refine r_pslice rfl rfl rfl ?_
        refine r_pint rfl rfl rfl ?_
        refine r_w rfl rfl (fun w => q_slice (h := splitN n) rfl el_22 rfl Bnd.none (Bnd.nat (by omega)) Bnd.none (by simp)) ?_
        refine r_do rfl ?_
        refine b_call rfl cb_77 rfl (ih (n - splitN n) (by omega) (n := n - splitN n) (wh := false) (es := es.drop (splitN n)) H (rdin_drop5 (hr) (by omega)) (by rw [List.length_drop]; omega) (by omega) (hok.drop _) rfl (by omega) (by omega) (by omega)) (fun v w hv => ?_)
        obtain ⟨a1, c1', rfl, H⟩ := hv
        refine l_nil ⟨(fun h => nomatch h), ?_⟩
        refine r_do rfl ?_
        refine b_call rfl cb_16 rfl (rHead_ok (splitN n) (n := splitN n) (es := es.take (splitN n)) H (rdin_take5 (hr.up 1 rfl) (splitN n) c) (by rw [List.length_take]; omega) (by omega) (hok.take _) rfl (by omega)) (fun v w hv => ?_)
        obtain ⟨rfl, H⟩ := hv
        refine l_nil ⟨(fun h => nomatch h), ?_⟩
        refine r_do rfl ?_
        refine b_buildSlice (cs := (headH (es.take (splitN n))).map B) rfl el_42 ze_24 rfl rfl (fill_hash (headH_len _)) H (fun b45 w H => ?_)
        refine l_nil ⟨(fun h => nomatch h), ?_⟩
        refine r_do rfl ?_
        refine b_append rfl el_42 ze_24 rfl rfl rfl H 1 rfl (ys := (headH (es.take (splitN n))).map B) (Rd.mk (H.cells0 0 rfl)) (by simp [headH_len]) (EW.oneB _) ⟨by omega, by simp only [maxLen]; omega⟩ (fun a46 c46 w H => ?_)
        refine l_nil ⟨(fun h => nomatch h), ?_⟩
        refine r_pslice rfl rfl rfl ?_
        refine r_nil ?_
        refine w_ret ?_
        refine fin1 (v := .slice _ _ _) rfl ?_
        refine ⟨a46, c46, congrArg (fun x => Value.slice a46 x c46) (by rw [hi2]; simp), ?_⟩
        rw [hi2, List.length_append, pathV_append, pathV_one]
        exact H.drop1


theorem rConsistency_ok {W w : World} {F : List Seg} {a : Option Addr} {n c : Nat} {es : List Ent} (H : St W w F) (hr : RdIn W F a (entsV es)) (hl : es.length = n) (hnc : n ≤ c) (hok : EntsOk es) (hnb : n ≤ 4398046511000) (x : Int) :
    Ok Try.prog 38 [.slice a n c, .int .i64 x].toArray w (fun r w' => ∃ a' c', r = .tuple #[.slice a' (conR es x).1.length c', .int .i64 (conR es x).2] ∧ St W w' (row 24 32 a' (conR es x).1.length c' (pathV (conR es x).1) :: F)) := by
  refine enter (n := 25) (rs := #[.tmp 4, .tmp 5]) Try.func38 rfl rfl rfl rfl ?_
  refine w_seq ?_
  refine w_region ?_
  refine l_pslice rfl rfl ?_
  refine l_pint rfl rfl ?_
  refine l_nil ?_
  refine w_seq ?_
  refine w_seq ?_
  refine w_region ?_
  refine l_pint rfl rfl ?_
  refine l_pbool rfl rfl ?_
  refine l_pbool rfl rfl ?_
  refine l_split 8 rfl (fun h8 => ?_) (fun h8 => ?_)
  · try simp only [decide_eq_true_eq, decide_eq_false_iff_not, Bool.not_eq_true', Bool.not_eq_false', beq_iff_eq, beq_eq_false_iff_ne, bne_iff_ne, bne_eq_false_iff_eq, ne_eq, Int.not_lt, Int.not_le] at h8
    refine l_no rfl ?_
    refine l_no rfl ?_
    refine l_no rfl ?_
    refine l_no rfl ?_
    refine l_pickT (v := .bool _) rfl rfl rfl ?_
    refine l_nil ?_
    refine w_cond_t rfl ?_
    refine w_seq ?_
    refine w_region ?_
    refine l_pslice rfl rfl ?_
    refine l_pint rfl rfl ?_
    refine l_nil ?_
    refine w_ret ?_
    refine fin2 rfl rfl ?_
    have hR : conR es x = ([], 200) := by unfold conR; rw [if_pos (by omega)]
    refine ⟨none, 0, by rw [hR]; rfl, by rw [hR]; exact St.newRow H⟩
  · try simp only [decide_eq_true_eq, decide_eq_false_iff_not, Bool.not_eq_true', Bool.not_eq_false', beq_iff_eq, beq_eq_false_iff_ne, bne_iff_ne, bne_eq_false_iff_eq, ne_eq, Int.not_lt, Int.not_le] at h8
    refine l_pint rfl rfl ?_
    refine l_pslice rfl rfl ?_
    refine l_v rfl (q_lenSlice rfl el_22 rfl) ?_
    refine l_pbool rfl rfl ?_
    refine l_pickF (v := .bool _) rfl rfl rfl ?_
    refine l_nil ?_
    refine w_cond rfl (fun c1 => ?_) (fun c1 => ?_)
    · try simp only [decide_eq_true_eq, decide_eq_false_iff_not, Bool.not_eq_true', Bool.not_eq_false', beq_iff_eq, beq_eq_false_iff_ne, bne_iff_ne, bne_eq_false_iff_eq, ne_eq, Int.not_lt, Int.not_le] at c1
      refine w_seq ?_
      refine w_region ?_
      refine l_pslice rfl rfl ?_
      refine l_pint rfl rfl ?_
      refine l_nil ?_
      refine w_ret ?_
      refine fin2 rfl rfl ?_
      have hR : conR es x = ([], 200) := by unfold conR; rw [if_pos (by omega)]
      refine ⟨none, 0, by rw [hR]; rfl, by rw [hR]; exact St.newRow H⟩
    · try simp only [decide_eq_true_eq, decide_eq_false_iff_not, Bool.not_eq_true', Bool.not_eq_false', beq_iff_eq, beq_eq_false_iff_ne, bne_iff_ne, bne_eq_false_iff_eq, ne_eq, Int.not_lt, Int.not_le] at c1
      obtain ⟨p, rfl⟩ := Int.eq_ofNat_of_zero_le (by omega : 0 ≤ x)
      refine w_skip ?_
      refine w_seq ?_
      refine w_seq ?_
      refine w_region ?_
      refine l_pint rfl rfl ?_
      refine l_pbool rfl rfl ?_
      refine l_pbool rfl rfl ?_
      refine l_split 16 rfl (fun h16 => ?_) (fun h16 => ?_)
      · try simp only [decide_eq_true_eq, decide_eq_false_iff_not, Bool.not_eq_true', Bool.not_eq_false', beq_iff_eq, beq_eq_false_iff_ne, bne_iff_ne, bne_eq_false_iff_eq, ne_eq, Int.not_lt, Int.not_le] at h16
        refine l_no rfl ?_
        refine l_no rfl ?_
        refine l_no rfl ?_
        refine l_no rfl ?_
        refine l_pickT (v := .bool _) rfl rfl rfl ?_
        refine l_nil ?_
        refine w_cond_t rfl ?_
        refine w_seq ?_
        refine w_region ?_
        refine l_pslice rfl rfl ?_
        refine l_pint rfl rfl ?_
        refine l_nil ?_
        refine w_ret ?_
        refine fin2 rfl rfl ?_
        have hR : conR es (p : Int) = ([], 0) := by unfold conR; rw [if_neg (by omega), if_pos (by omega)]
        refine ⟨none, 0, by rw [hR]; rfl, by rw [hR]; exact St.newRow H⟩
      · try simp only [decide_eq_true_eq, decide_eq_false_iff_not, Bool.not_eq_true', Bool.not_eq_false', beq_iff_eq, beq_eq_false_iff_ne, bne_iff_ne, bne_eq_false_iff_eq, ne_eq, Int.not_lt, Int.not_le] at h16
        refine l_pint rfl rfl ?_
        refine l_pslice rfl rfl ?_
        refine l_v rfl (q_lenSlice rfl el_22 rfl) ?_
        refine l_pbool rfl rfl ?_
        refine l_pickF (v := .bool _) rfl rfl rfl ?_
        refine l_nil ?_
        refine w_cond rfl (fun c2 => ?_) (fun c2 => ?_)
        · try simp only [decide_eq_true_eq, decide_eq_false_iff_not, Bool.not_eq_true', Bool.not_eq_false', beq_iff_eq, beq_eq_false_iff_ne, bne_iff_ne, bne_eq_false_iff_eq, ne_eq, Int.not_lt, Int.not_le] at c2
          refine w_seq ?_
          refine w_region ?_
          refine l_pslice rfl rfl ?_
          refine l_pint rfl rfl ?_
          refine l_nil ?_
          refine w_ret ?_
          refine fin2 rfl rfl ?_
          have hR : conR es (p : Int) = ([], 0) := by unfold conR; rw [if_neg (by omega), if_pos (by omega)]
          refine ⟨none, 0, by rw [hR]; rfl, by rw [hR]; exact St.newRow H⟩
        · try simp only [decide_eq_true_eq, decide_eq_false_iff_not, Bool.not_eq_true', Bool.not_eq_false', beq_iff_eq, beq_eq_false_iff_ne, bne_iff_ne, bne_eq_false_iff_eq, ne_eq, Int.not_lt, Int.not_le] at c2
          have hR : conR es (p : Int) = (consN p es true, 0) := by unfold conR; rw [if_neg (by omega), if_neg (by omega), Int.toNat_natCast]
          refine w_skip ?_
          refine w_seq ?_
          refine w_region ?_
          refine l_pint rfl rfl ?_
          refine l_pslice rfl rfl ?_
          refine b_call rfl cb_77 rfl (sub_ok n (n := n) (m := p) (wh := true) H hr hl hnc hok rfl (by omega) (by omega) hnb) (fun v w hv => ?_)
          obtain ⟨a1, c1', rfl, H⟩ := hv
          refine l_pslice rfl rfl ?_
          refine l_pint rfl rfl ?_
          refine l_nil ?_
          refine w_ret ?_
          refine fin2 rfl rfl ?_
          refine ⟨a1, c1', by rw [hR]; rfl, by rw [hR]; exact H⟩

theorem incl_in_of {W w : World} {F : List Seg} {es : List Ent} {p : Nat} {args : Array Value} (h1 : 1 ≤ p) (h2 : p ≤ es.length) (h : Ok Try.prog 36 args w (fun r w' => ∃ a' c', r = .tuple #[.slice a' (incR es p).1.length c', .int .i64 (incR es p).2] ∧ St W w' (row 24 32 a' (incR es p).1.length c' (pathV (incR es p).1) :: F))) :
    Ok Try.prog 36 args w (fun r w' => ∃ a' c', r = .tuple #[.slice a' (inclN es p).length c', .int .i64 0] ∧ St W w' (row 24 32 a' (inclN es p).length c' (pathV (inclN es p)) :: F)) := by
  rw [incR_in h1 h2] at h
  exact h

set_option maxRecDepth 8000 in
theorem rInclusion_ok (k : Nat) : ∀ {W w : World} {F : List Seg} {a : Option Addr} {n c : Nat} {es : List Ent}, St W w F → RdIn W F a (entsV es) → es.length = n → n ≤ c → EntsOk es → n = k → n ≤ 4398046511000 → ∀ (x : Int),
    Ok Try.prog 36 [.slice a n c, .int .i64 x].toArray w (fun r w' => ∃ a' c', r = .tuple #[.slice a' (incR es x).1.length c', .int .i64 (incR es x).2] ∧ St W w' (row 24 32 a' (incR es x).1.length c' (pathV (incR es x).1) :: F)) := by
  induction k using Nat.strongRecOn with
  | _ k ih =>
    intro W w F a n c es H hr hl hnc hok hnk hnb x
    subst hnk
    refine enter (n := 60) (rs := #[.tmp 4, .tmp 5]) Try.func36 rfl rfl rfl rfl ?_
    refine w_seq ?_
    refine w_region ?_
    refine l_pslice rfl rfl ?_
    refine l_pint rfl rfl ?_
    refine l_nil ?_
    refine w_seq ?_
    refine w_seq ?_
    refine w_region ?_
    refine l_pint rfl rfl ?_
    refine l_pbool rfl rfl ?_
    refine l_pbool rfl rfl ?_
    refine l_split 13 rfl (fun h13 => ?_) (fun h13 => ?_)
    · try simp only [decide_eq_true_eq, decide_eq_false_iff_not, Bool.not_eq_true', Bool.not_eq_false', beq_iff_eq, beq_eq_false_iff_ne, bne_iff_ne, bne_eq_false_iff_eq, ne_eq, Int.not_lt, Int.not_le] at h13
      refine l_no rfl ?_
      refine l_no rfl ?_
      refine l_no rfl ?_
      refine l_no rfl ?_
      refine l_pickT (v := .bool _) rfl rfl rfl ?_
      refine l_nil ?_
      refine w_cond_t rfl ?_
      refine w_seq ?_
      refine w_region ?_
      refine l_pslice rfl rfl ?_
      refine l_pint rfl rfl ?_
      refine l_nil ?_
      refine w_ret ?_
      refine fin2 rfl rfl ?_
      have hR : incR es x = ([], 61) := by unfold incR; rw [if_pos (by omega)]
      refine ⟨none, 0, by rw [hR]; rfl, by rw [hR]; exact St.newRow H⟩
    · try simp only [decide_eq_true_eq, decide_eq_false_iff_not, Bool.not_eq_true', Bool.not_eq_false', beq_iff_eq, beq_eq_false_iff_ne, bne_iff_ne, bne_eq_false_iff_eq, ne_eq, Int.not_lt, Int.not_le] at h13
      refine l_pint rfl rfl ?_
      refine l_pslice rfl rfl ?_
      refine l_v rfl (q_lenSlice rfl el_22 rfl) ?_
      refine l_pbool rfl rfl ?_
      refine l_pickF (v := .bool _) rfl rfl rfl ?_
      refine l_nil ?_
      refine w_cond rfl (fun c1 => ?_) (fun c1 => ?_)
      · try simp only [decide_eq_true_eq, decide_eq_false_iff_not, Bool.not_eq_true', Bool.not_eq_false', beq_iff_eq, beq_eq_false_iff_ne, bne_iff_ne, bne_eq_false_iff_eq, ne_eq, Int.not_lt, Int.not_le] at c1
        refine w_seq ?_
        refine w_region ?_
        refine l_pslice rfl rfl ?_
        refine l_pint rfl rfl ?_
        refine l_nil ?_
        refine w_ret ?_
        refine fin2 rfl rfl ?_
        have hR : incR es x = ([], 61) := by unfold incR; rw [if_pos (by omega)]
        refine ⟨none, 0, by rw [hR]; rfl, by rw [hR]; exact St.newRow H⟩
      · try simp only [decide_eq_true_eq, decide_eq_false_iff_not, Bool.not_eq_true', Bool.not_eq_false', beq_iff_eq, beq_eq_false_iff_ne, bne_iff_ne, bne_eq_false_iff_eq, ne_eq, Int.not_lt, Int.not_le] at c1
        obtain ⟨p, rfl⟩ := Int.eq_ofNat_of_zero_le (by omega : 0 ≤ x)
        have hR : incR es (p : Int) = (inclN es p, 0) := incR_in (by omega) (by omega)
        refine w_skip ?_
        refine w_seq ?_
        refine w_seq ?_
        refine w_region ?_
        refine l_pslice rfl rfl ?_
        refine l_v rfl (q_lenSlice rfl el_22 rfl) ?_
        refine l_pbool rfl rfl ?_
        refine l_nil ?_
        refine w_cond rfl (fun c2 => ?_) (fun c2 => ?_)
        · try simp only [decide_eq_true_eq, decide_eq_false_iff_not, Bool.not_eq_true', Bool.not_eq_false', beq_iff_eq, beq_eq_false_iff_ne, bne_iff_ne, bne_eq_false_iff_eq, ne_eq, Int.not_lt, Int.not_le] at c2
          refine w_seq ?_
          refine w_region ?_
          refine l_pslice rfl rfl ?_
          refine l_pint rfl rfl ?_
          refine l_nil ?_
          refine w_ret ?_
          refine fin2 rfl rfl ?_
          refine ⟨none, 0, by rw [hR, inclN_one (by omega)]; rfl, by rw [hR, inclN_one (by omega)]; exact St.newRow H⟩
        · try simp only [decide_eq_true_eq, decide_eq_false_iff_not, Bool.not_eq_true', Bool.not_eq_false', beq_iff_eq, beq_eq_false_iff_ne, bne_iff_ne, bne_eq_false_iff_eq, ne_eq, Int.not_lt, Int.not_le] at c2
          have h2 : 2 ≤ n := by omega
          have hsp := splitN_spec h2
          have hi2 := inclN_two (es := es) (p := p) (by omega)
          rw [hl] at hi2
          refine w_skip ?_
          refine w_seq ?_
          refine w_region ?_
          refine l_pslice rfl rfl ?_
          refine l_v rfl (q_lenSlice rfl el_22 rfl) ?_
          refine b_call rfl cb_54 rfl (rSplit_ok (n := n) ⟨by omega, by omega⟩) (fun v w hv => ?_)
          obtain ⟨rfl, rfl⟩ := hv
          refine l_pint rfl rfl ?_
          refine l_nil ?_
          refine w_seq ?_
          refine w_seq ?_
          refine w_region ?_
          refine l_pint rfl rfl ?_
          refine l_pint rfl rfl ?_
          refine l_pbool rfl rfl ?_
          refine l_nil ?_
          refine w_cond rfl (fun c3 => ?_) (fun c3 => ?_)
          · try simp only [decide_eq_true_eq, decide_eq_false_iff_not, Bool.not_eq_true', Bool.not_eq_false', beq_iff_eq, beq_eq_false_iff_ne, bne_iff_ne, bne_eq_false_iff_eq, ne_eq, Int.not_lt, Int.not_le] at c3
            rw [if_pos (by omega)] at hi2
            have hio := inclN_ok (es.take (splitN n)) p
            rw [List.length_take] at hio
            refine w_seq ?_
            refine w_region ?_
            refine l_pslice rfl rfl ?_
            refine l_pint rfl rfl ?_
            refine l_v rfl (q_slice (h := splitN n) rfl el_22 rfl Bnd.none (Bnd.nat (by omega)) Bnd.none (by simp)) ?_
            refine l_pint rfl rfl ?_
            refine b_call rfl cb_36 rfl (incl_in_of (by omega) (by rw [List.length_take]; omega) (ih (splitN n) (by omega) (n := splitN n) (es := es.take (splitN n)) H (rdin_take5 (hr) (splitN n) c) (by rw [List.length_take]; omega) (by omega) (hok.take _) rfl (by omega) (p : Int))) (fun v w hv => ?_)
            obtain ⟨a1, c1', rfl, H⟩ := hv
            refine l_ptup rfl rfl ?_
            refine l_pslice rfl rfl ?_
            refine l_pint rfl rfl ?_
            refine l_pslice rfl rfl ?_
            refine l_pint rfl rfl ?_
            refine l_nil ?_
            refine w_seq ?_
            refine w_region ?_
            refine l_pslice rfl rfl ?_
            refine l_pslice rfl rfl ?_
            refine l_pint rfl rfl ?_
            refine l_v rfl (q_slice (l := splitN n) rfl el_22 rfl Bnd.none Bnd.none (Bnd.nat (by omega)) (by simp)) ?_
            refine b_call rfl cb_16 rfl (rHead_ok (n - splitN n) (n := n - splitN n) (es := es.drop (splitN n)) H (rdin_drop5 (hr.up 1 rfl) (by omega)) (by rw [List.length_drop]; omega) (by omega) (hok.drop _) rfl (by omega)) (fun v w hv => ?_)
            obtain ⟨rfl, H⟩ := hv
            refine b_buildSlice (cs := (headH (es.drop (splitN n))).map B) rfl el_42 ze_24 rfl rfl (fill_hash (headH_len _)) H (fun b41 w H => ?_)
            refine b_append rfl el_42 ze_24 rfl rfl rfl H 1 rfl (ys := (headH (es.drop (splitN n))).map B) (Rd.mk (H.cells0 0 rfl)) (by simp [headH_len]) (EW.oneB _) ⟨by omega, by simp only [maxLen]; omega⟩ (fun a42 c42 w H => ?_)
            refine l_pslice rfl rfl ?_
            refine l_pint rfl rfl ?_
            refine l_nil ?_
            refine w_ret ?_
            refine fin2 rfl rfl ?_
            rw [hR]
            refine ⟨a42, c42, congrArg (fun x => Value.tuple #[Value.slice a42 x c42, .int .i64 0]) (by rw [hi2]; simp), ?_⟩
            rw [hi2, List.length_append, pathV_append, pathV_one]
            exact H.drop1
          · try simp only [decide_eq_true_eq, decide_eq_false_iff_not, Bool.not_eq_true', Bool.not_eq_false', beq_iff_eq, beq_eq_false_iff_ne, bne_iff_ne, bne_eq_false_iff_eq, ne_eq, Int.not_lt, Int.not_le] at c3
            rw [if_neg (by omega)] at hi2
            have hio := inclN_ok (es.drop (splitN n)) (p - splitN n)
            rw [List.length_drop] at hio
            refine w_skip ?_
            refine w_seq ?_
            refine w_region ?_
            refine l_pslice rfl rfl ?_
            refine l_pint rfl rfl ?_
            refine l_v rfl (q_slice (l := splitN n) rfl el_22 rfl Bnd.none Bnd.none (Bnd.nat (by omega)) (by simp)) ?_
            refine l_pint rfl rfl ?_
            refine l_pint rfl rfl ?_
            first | refine l_v rfl (q_subN (a := p) (b := splitN n) rfl rfl rfl ⟨by omega, by omega⟩) ?_ | refine l_pint rfl rfl ?_
            refine b_call rfl cb_36 rfl (incl_in_of (by omega) (by rw [List.length_drop]; omega) (ih (n - splitN n) (by omega) (n := n - splitN n) (es := es.drop (splitN n)) H (rdin_drop5 (hr) (by omega)) (by rw [List.length_drop]; omega) (by omega) (hok.drop _) rfl (by omega) ((p - splitN n : Nat) : Int))) (fun v w hv => ?_)
            obtain ⟨a1, c1', rfl, H⟩ := hv
            refine l_ptup rfl rfl ?_
            refine l_pslice rfl rfl ?_
            refine l_pint rfl rfl ?_
            refine l_pslice rfl rfl ?_
            refine l_pint rfl rfl ?_
            refine l_nil ?_
            refine w_seq ?_
            refine w_region ?_
            refine l_pslice rfl rfl ?_
            refine l_pslice rfl rfl ?_
            refine l_pint rfl rfl ?_
            refine l_v rfl (q_slice (h := splitN n) rfl el_22 rfl Bnd.none (Bnd.nat (by omega)) Bnd.none (by simp)) ?_
            refine b_call rfl cb_16 rfl (rHead_ok (splitN n) (n := splitN n) (es := es.take (splitN n)) H (rdin_take5 (hr.up 1 rfl) (splitN n) c) (by rw [List.length_take]; omega) (by omega) (hok.take _) rfl (by omega)) (fun v w hv => ?_)
            obtain ⟨rfl, H⟩ := hv
            refine b_buildSlice (cs := (headH (es.take (splitN n))).map B) rfl el_42 ze_24 rfl rfl (fill_hash (headH_len _)) H (fun b58 w H => ?_)
            refine b_append rfl el_42 ze_24 rfl rfl rfl H 1 rfl (ys := (headH (es.take (splitN n))).map B) (Rd.mk (H.cells0 0 rfl)) (by simp [headH_len]) (EW.oneB _) ⟨by omega, by simp only [maxLen]; omega⟩ (fun a59 c59 w H => ?_)
            refine l_pslice rfl rfl ?_
            refine l_pint rfl rfl ?_
            refine l_nil ?_
            refine w_ret ?_
            refine fin2 rfl rfl ?_
            rw [hR]
            refine ⟨a59, c59, congrArg (fun x => Value.tuple #[Value.slice a59 x c59, .int .i64 0]) (by rw [hi2]; simp), ?_⟩
            rw [hi2, List.length_append, pathV_append, pathV_one]
            exact H.drop1


end Go.Proofs.Ytcmmhpkgjcepdaa
