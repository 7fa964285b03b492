/- The law TreeJoins answers true, of every two logs and every path. -/
import Derived.Test.YtcmmhpkgjcepdaaTre30
namespace Go.Proofs.Ytcmmhpkgjcepdaa
open Go.EW
attribute [local irreducible] EW.W EW.L EW.fin block8 outB shaL
set_option linter.unusedVariables false
set_option linter.unusedSimpArgs false
attribute [local irreducible] swp headH leafH nodeH inclN sidesN bothN lenN splitN upN incdR extR pathV incR conR unlikeN oneB metB

theorem ext_zero {old hd : List UInt8} {m n : Nat} {p : List (List UInt8)} (h : extR old (m : Int) hd (n : Int) p = 0) : (m = n → old = hd) ∧ (0 < m → m < n → p.length = lenN m n true ∧ (bothN m n true old p).1 = old ∧ (bothN m n true old p).2 = hd) := by
  unfold extR at h
  rw [Int.toNat_natCast, Int.toNat_natCast] at h
  by_cases a1 : (m : Int) < 0 ∨ (n : Int) < m
  · rw [if_pos a1] at h; exact absurd h (by decide)
  rw [if_neg a1] at h
  by_cases a2 : p.length ≠ (if 0 < (m : Int) ∧ (m : Int) < n then lenN m n true else 0)
  · rw [if_pos a2] at h; exact absurd h (by decide)
  rw [if_neg a2] at h
  by_cases a3 : ((m : Int) = 0 ∧ old ≠ shaL []) ∨ ((m : Int) = n ∧ old ≠ hd)
  · rw [if_pos a3] at h; exact absurd h (by decide)
  rw [if_neg a3] at h
  refine ⟨fun he => Classical.byContradiction fun hc => a3 (Or.inr ⟨by omega, hc⟩), fun h0 hl => ?_⟩
  rw [if_pos ⟨by omega, by omega⟩] at h a2
  by_cases a4 : (bothN m n true old p).1 ≠ old ∨ (bothN m n true old p).2 ≠ hd
  · rw [if_pos a4] at h; exact absurd h (by decide)
  exact ⟨by omega, Classical.byContradiction fun hc => a4 (.inl hc), Classical.byContradiction fun hc => a4 (.inr hc)⟩

set_option maxRecDepth 8000 in
set_option maxHeartbeats 2000000 in
theorem TreeJoins_ok {W w : World} {F : List Seg} (H : St W w F) {q1 q2 : Option Addr} {m1 m2 cp1 cp2 : Nat} {e1 e2 : List Ent} (hr1 : RdIn W F q1 (entsV e1)) (hr2 : RdIn W F q2 (entsV e2)) (hl1 : e1.length = m1) (hl2 : e2.length = m2) (hc1 : m1 ≤ cp1) (hc2 : m2 ≤ cp2) (hb1 : m1 ≤ 140737488355328) (hb2 : m2 ≤ 140737488355328) (ho1 : EntsOk e1) (ho2 : EntsOk e2) {pa : Option Addr} {pc : Nat} {path : List (List UInt8)} (hpo : PathOk path) (hpr : RdIn W F pa (pathV path)) (hpc : path.length ≤ pc) (hpb : path.length ≤ 4398046511000) (mi : Bool) :
    Ok Try.prog 10 [.slice q1 m1 cp1, .slice q2 m2 cp2, .slice pa path.length pc, .bool mi].toArray w (fun r w' => r = .bool true ∧ ∃ S, St W w' S) := by
  refine enter (n := 85) (rs := #[.tmp 8]) Try.func10 rfl rfl rfl rfl ?_
  refine w_seq ?_
  refine w_region ?_
  refine l_pbool rfl rfl ?_
  refine l_nil ?_
  refine w_seq ?_
  refine w_region ?_
  refine l_pslice rfl rfl ?_
  refine b_call rfl cb_29 rfl (few_ok hr1 hl1 hc1 hb1) (fun v w hv => ?_)
  obtain ⟨n1, a1, rfl, hq1, hm1, hd1, h2001, _, rfl⟩ := hv
  obtain ⟨f1, hf1⟩ : ∃ f, f = e1.take 200 := ⟨_, rfl⟩
  rw [← hf1] at hq1 hm1
  have hok1 : EntsOk f1 := by rw [hf1]; exact ho1.take _
  refine l_pslice rfl rfl ?_
  refine l_nil ?_
  refine w_seq ?_
  refine w_region ?_
  refine l_pslice rfl rfl ?_
  refine b_call rfl cb_29 rfl (few_ok hr2 hl2 hc2 hb2) (fun v w hv => ?_)
  obtain ⟨n2, a2, rfl, hq2, hm2, hd2, h2002, _, rfl⟩ := hv
  obtain ⟨f2, hf2⟩ : ∃ f, f = e2.take 200 := ⟨_, rfl⟩
  rw [← hf2] at hq2 hm2
  have hok2 : EntsOk f2 := by rw [hf2]; exact ho2.take _
  refine l_pslice rfl rfl ?_
  refine l_nil ?_
  refine w_cutG (G := Option Addr × Option Addr × Nat × Nat × Nat × Nat × List Ent × List Ent) [0, 1, 18, 19, 20, 21, 22, 23, 24] (fun ⟨aa, ab, m, n, ca, cb, la, lb⟩ => [(0, .slice aa m ca), (1, .slice ab n cb)]) (fun ⟨aa, ab, m, n, ca, cb, la, lb⟩ w => ((la.length = m ∧ lb.length = n) ∧ (m ≤ n ∧ n ≤ 200 ∧ m ≤ ca ∧ n ≤ cb) ∧ (EntsOk la ∧ EntsOk lb) ∧ RdIn W F aa (entsV la) ∧ RdIn W F ab (entsV lb)) ∧ St W w F) (fun _ => rfl) ?_ ?_
  · refine w_seq ?_
    refine w_region ?_
    refine l_pslice rfl rfl ?_
    refine l_v rfl (q_lenSlice rfl el_22 rfl) ?_
    refine l_pslice rfl rfl ?_
    refine l_v rfl (q_lenSlice rfl el_22 rfl) ?_
    refine l_pbool rfl rfl ?_
    refine l_nil ?_
    refine w_cond rfl (fun c1 => ?_) (fun c1 => ?_)
    · try simp only [decide_eq_true_eq, decide_eq_false_iff_not, Bool.not_eq_true', Bool.not_eq_false', beq_iff_eq, beq_eq_false_iff_ne, bne_iff_ne, bne_eq_false_iff_eq, ne_eq, Int.not_lt, Int.not_le] at c1
      refine w_region ?_
      refine l_pslice rfl rfl ?_
      refine l_pslice rfl rfl ?_
      refine l_pslice rfl rfl ?_
      refine l_pslice rfl rfl ?_
      refine l_nil ?_
      refine ⟨by repeat' first | exact Agr.mix _ _ _ | exact Agr.refl _ _ | refine Agr.inner rfl ?_ | refine Agr.upd rfl ?_ | refine Agr.updL' rfl ?_, ?_⟩
      exact ⟨(a2, a1, n2, n1, cp2, cp1, f2, f1), ⟨rfl, rfl, trivial⟩, ⟨⟨hm2, hm1⟩, ⟨by omega, by omega, by omega, by omega⟩, ⟨hok2, hok1⟩, hq2, hq1⟩, H⟩
    · try simp only [decide_eq_true_eq, decide_eq_false_iff_not, Bool.not_eq_true', Bool.not_eq_false', beq_iff_eq, beq_eq_false_iff_ne, bne_iff_ne, bne_eq_false_iff_eq, ne_eq, Int.not_lt, Int.not_le] at c1
      refine w_skip ?_
      refine ⟨by repeat' first | exact Agr.mix _ _ _ | exact Agr.refl _ _ | refine Agr.inner rfl ?_ | refine Agr.upd rfl ?_ | refine Agr.updL' rfl ?_, ?_⟩
      exact ⟨(a1, a2, n1, n2, cp1, cp2, f1, f2), ⟨rfl, rfl, trivial⟩, ⟨⟨hm1, hm2⟩, ⟨by omega, by omega, by omega, by omega⟩, ⟨hok1, hok2⟩, hq1, hq2⟩, H⟩
  · rintro ⟨aa, ab, m, n, ca, cb, la, lb⟩ ρ1 w ⟨⟨⟨hla, hlb⟩, ⟨hmn, hn200, hca, hcb⟩, ⟨hoa, hob⟩, hra, hrb⟩, H⟩
    refine w_seq ?_
    refine w_seq ?_
    refine w_region ?_
    refine b_call rfl cb_22 rfl (works_ok H) (fun v w hv => ?_)
    obtain ⟨rfl, H⟩ := hv
    refine l_pbool rfl rfl ?_
    refine l_nil ?_
    refine w_cond_f rfl ?_
    refine w_skip ?_
    refine w_cutG (G := Option Addr × Nat × List (List UInt8) × List Seg) [2, 8, 9, 10, 27, 28, 29, 30, 31, 32, 33, 34, 35, 36, 37] (fun ⟨pa', pc', pth, S1⟩ => [(2, .slice pa' pth.length pc')]) (fun ⟨pa', pc', pth, S1⟩ w => ((PathOk pth ∧ pth.length ≤ pc' ∧ pth.length ≤ 4398046511000) ∧ (mi = true → pth = (conR lb (m : Int)).1) ∧ RdIn W S1 pa' (pathV pth) ∧ RdIn W S1 aa (entsV la) ∧ RdIn W S1 ab (entsV lb)) ∧ St W w S1) (fun _ => rfl) ?_ ?_
    · refine w_seq ?_
      refine w_region ?_
      refine l_pbool rfl rfl ?_
      refine l_nil ?_
      refine w_cond rfl (fun c2 => ?_) (fun c2 => ?_)
      · try simp only [decide_eq_true_eq, decide_eq_false_iff_not, Bool.not_eq_true', Bool.not_eq_false', beq_iff_eq, beq_eq_false_iff_ne, bne_iff_ne, bne_eq_false_iff_eq, ne_eq, Int.not_lt, Int.not_le] at c2
        refine w_seq ?_
        refine w_region ?_
        refine l_pslice rfl rfl ?_
        refine l_pslice rfl rfl ?_
        refine l_v rfl (q_lenSlice rfl el_22 rfl) ?_
        refine b_call rfl cb_37 rfl (Consistency_ok H hrb hlb hcb hob (by omega) (m : Int)) (fun v w hv => ?_)
        obtain ⟨a9, c9, rfl, H⟩ := hv
        have hcok := conR_ok lb (m : Int)
        have hel := ext_law (es := lb) (m := m) (by omega)
        have hc9 := (H.rowInv (i := 0) rfl).2.1
        refine l_ptup rfl rfl ?_
        refine l_pslice rfl rfl ?_
        refine l_pint rfl rfl ?_
        refine l_pslice rfl rfl ?_
        refine l_pint rfl rfl ?_
        refine l_nil ?_
        refine w_seq ?_
        refine w_seq ?_
        refine w_region ?_
        refine l_pint rfl rfl ?_
        refine l_pbool rfl rfl ?_
        refine l_nil ?_
        refine w_cond rfl (fun c3 => ?_) (fun c3 => ?_)
        · try simp only [decide_eq_true_eq, decide_eq_false_iff_not, Bool.not_eq_true', Bool.not_eq_false', beq_iff_eq, beq_eq_false_iff_ne, bne_iff_ne, bne_eq_false_iff_eq, ne_eq, Int.not_lt, Int.not_le] at c3
          exact absurd c3 (by rw [hel.1]; decide)
        · try simp only [decide_eq_true_eq, decide_eq_false_iff_not, Bool.not_eq_true', Bool.not_eq_false', beq_iff_eq, beq_eq_false_iff_ne, bne_iff_ne, bne_eq_false_iff_eq, ne_eq, Int.not_lt, Int.not_le] at c3
          refine w_skip ?_
          refine w_region ?_
          refine l_pslice rfl rfl ?_
          refine l_pslice rfl rfl ?_
          refine l_nil ?_
          refine ⟨by repeat' first | exact Agr.mix _ _ _ | exact Agr.refl _ _ | refine Agr.inner rfl ?_ | refine Agr.upd rfl ?_ | refine Agr.updL' rfl ?_, ?_⟩
          exact ⟨(a9, c9, (conR lb (m : Int)).1, _), ⟨rfl, trivial⟩, ⟨⟨hcok.1, hc9, by omega⟩, fun _ => rfl, RdIn.row 0 rfl, hra.up 1 rfl, hrb.up 1 rfl⟩, H⟩
      · try simp only [decide_eq_true_eq, decide_eq_false_iff_not, Bool.not_eq_true', Bool.not_eq_false', beq_iff_eq, beq_eq_false_iff_ne, bne_iff_ne, bne_eq_false_iff_eq, ne_eq, Int.not_lt, Int.not_le] at c2
        refine w_skip ?_
        refine ⟨by repeat' first | exact Agr.mix _ _ _ | exact Agr.refl _ _ | refine Agr.inner rfl ?_ | refine Agr.upd rfl ?_ | refine Agr.updL' rfl ?_, ?_⟩
        exact ⟨(pa, pc, path, F), ⟨rfl, trivial⟩, ⟨⟨hpo, hpc, hpb⟩, (fun hm => absurd (hm.symm.trans c2) (by decide)), hpr, hra, hrb⟩, H⟩
    · rintro ⟨pa', pc', pth, S1⟩ ρ1 w ⟨⟨⟨hpp, hppc, hppb⟩, hpm, hpr2, hra, hrb⟩, H⟩
      have hlbm : (lb.take m).length = m := by rw [List.length_take]; omega
      have hrbm := rdin_take5 hrb m cb
      refine w_seq ?_
      refine w_seq ?_
      refine w_region ?_
      refine l_pslice rfl rfl ?_
      refine b_call rfl cb_14 rfl (Head_ok m H hra hla hca hoa rfl (by omega)) (fun v w hv => ?_)
      obtain ⟨rfl, H⟩ := hv
      refine l_pslice rfl rfl ?_
      refine l_v rfl (q_lenSlice rfl el_22 rfl) ?_
      refine l_pslice rfl rfl ?_
      refine b_call rfl cb_14 rfl (Head_ok n H hrb hlb hcb hob rfl (by omega)) (fun v w hv => ?_)
      obtain ⟨rfl, H⟩ := hv
      refine l_pslice rfl rfl ?_
      refine l_v rfl (q_lenSlice rfl el_22 rfl) ?_
      refine l_pslice rfl rfl ?_
      refine b_call rfl cb_27 rfl (Extends_ok H (headH_len _) (headH_len _) (m : Int) (n : Int) hpp hpr2 hppc (by omega) (by omega)) (fun v w hv => ?_)
      obtain ⟨rfl, H⟩ := hv
      refine l_pbool rfl rfl ?_
      refine l_nil ?_
      refine w_cond rfl (fun c4 => ?_) (fun c4 => ?_)
      · try simp only [decide_eq_true_eq, decide_eq_false_iff_not, Bool.not_eq_true', Bool.not_eq_false', beq_iff_eq, beq_eq_false_iff_ne, bne_iff_ne, bne_eq_false_iff_eq, ne_eq, Int.not_lt, Int.not_le] at c4
        refine w_seq ?_
        refine w_region ?_
        refine l_pbool rfl rfl ?_
        refine l_pbool rfl rfl ?_
        refine l_pbool rfl rfl ?_
        refine l_split 51 rfl (fun h51 => ?_) (fun h51 => ?_)
        · try simp only [decide_eq_true_eq, decide_eq_false_iff_not, Bool.not_eq_true', Bool.not_eq_false', beq_iff_eq, beq_eq_false_iff_ne, bne_iff_ne, bne_eq_false_iff_eq, ne_eq, Int.not_lt, Int.not_le] at h51
          refine l_no rfl ?_
          refine l_no rfl ?_
          refine l_no rfl ?_
          refine l_no rfl ?_
          refine l_no rfl ?_
          refine l_no rfl ?_
          refine l_pickT (v := .bool _) rfl rfl rfl ?_
          refine l_pbool rfl rfl ?_
          refine l_nil ?_
          refine w_ret ?_
          refine fin1 (v := .bool _) rfl ?_
          exact ⟨rfl, _, H⟩
        · try simp only [decide_eq_true_eq, decide_eq_false_iff_not, Bool.not_eq_true', Bool.not_eq_false', beq_iff_eq, beq_eq_false_iff_ne, bne_iff_ne, bne_eq_false_iff_eq, ne_eq, Int.not_lt, Int.not_le] at h51
          refine l_pslice rfl rfl ?_
          refine l_pslice rfl rfl ?_
          refine l_pslice rfl rfl ?_
          refine l_v rfl (q_lenSlice rfl el_22 rfl) ?_
          refine l_v rfl (q_slice (h := m) rfl el_22 rfl Bnd.none (Bnd.nat (by omega)) Bnd.none (by simp)) ?_
          refine b_call rfl cb_34 rfl (unlike_ok (n := m) H hra hrbm hla (by rw [hlbm]; exact Nat.le_refl _) hlbm (by omega)) (fun v w hv => ?_)
          obtain ⟨rfl, H⟩ := hv
          refine l_pickF (v := .bool _) rfl rfl rfl ?_
          refine l_pbool rfl rfl ?_
          refine l_nil ?_
          refine w_ret ?_
          refine fin1 (v := .bool _) rfl ?_
          refine ⟨congrArg Value.bool ?_, _, H⟩
          cases hu : unlikeN la (lb.take m) with
          | true => rfl
          | false =>
            exfalso
            have e1 : la = lb.take m := unlike_eq (by omega) hu
            have hel := ext_law (es := lb) (m := m) (by omega)
            rw [← e1, hlb, ← hpm (by simpa using h51)] at hel
            exact absurd hel.2 (by simpa using c4)
      · try simp only [decide_eq_true_eq, decide_eq_false_iff_not, Bool.not_eq_true', Bool.not_eq_false', beq_iff_eq, beq_eq_false_iff_ne, bne_iff_ne, bne_eq_false_iff_eq, ne_eq, Int.not_lt, Int.not_le] at c4
        have hz := ext_zero (show extR (headH la) (m : Int) (headH lb) (n : Int) pth = 0 by simpa using c4)
        refine w_skip ?_
        refine w_seq ?_
        refine w_seq ?_
        refine w_region ?_
        refine l_pslice rfl rfl ?_
        refine l_pslice rfl rfl ?_
        refine l_pslice rfl rfl ?_
        refine l_v rfl (q_lenSlice rfl el_22 rfl) ?_
        refine l_v rfl (q_slice (h := m) rfl el_22 rfl Bnd.none (Bnd.nat (by omega)) Bnd.none (by simp)) ?_
        refine b_call rfl cb_34 rfl (unlike_ok (n := m) H hra hrbm hla (by rw [hlbm]; exact Nat.le_refl _) hlbm (by omega)) (fun v w hv => ?_)
        obtain ⟨rfl, H⟩ := hv
        refine l_pbool rfl rfl ?_
        refine l_nil ?_
        refine w_cond rfl (fun c5 => ?_) (fun c5 => ?_)
        · try simp only [decide_eq_true_eq, decide_eq_false_iff_not, Bool.not_eq_true', Bool.not_eq_false', beq_iff_eq, beq_eq_false_iff_ne, bne_iff_ne, bne_eq_false_iff_eq, ne_eq, Int.not_lt, Int.not_le] at c5
          refine w_seq ?_
          refine w_region ?_
          refine l_pbool rfl rfl ?_
          refine l_nil ?_
          refine w_ret ?_
          refine fin1 (v := .bool _) rfl ?_
          exact ⟨rfl, _, H⟩
        · try simp only [decide_eq_true_eq, decide_eq_false_iff_not, Bool.not_eq_true', Bool.not_eq_false', beq_iff_eq, beq_eq_false_iff_ne, bne_iff_ne, bne_eq_false_iff_eq, ne_eq, Int.not_lt, Int.not_le] at c5
          have hun : unlikeN la (lb.take m) = true := by simpa using c5
          have hm1 : 0 < la.length := unlike_pos hun
          refine w_skip ?_
          refine w_seq ?_
          refine w_seq ?_
          refine w_region ?_
          refine l_pslice rfl rfl ?_
          refine l_v rfl (q_lenSlice rfl el_22 rfl) ?_
          refine l_pslice rfl rfl ?_
          refine l_v rfl (q_lenSlice rfl el_22 rfl) ?_
          refine l_pbool rfl rfl ?_
          refine l_nil ?_
          refine w_cond rfl (fun c6 => ?_) (fun c6 => ?_)
          · try simp only [decide_eq_true_eq, decide_eq_false_iff_not, Bool.not_eq_true', Bool.not_eq_false', beq_iff_eq, beq_eq_false_iff_ne, bne_iff_ne, bne_eq_false_iff_eq, ne_eq, Int.not_lt, Int.not_le] at c6
            have emn : m = n := by omega
            subst emn
            have hun2 : unlikeN la lb = true := by rwa [List.take_of_length_le (by omega)] at hun
            refine w_seq ?_
            refine w_region ?_
            refine l_pslice rfl rfl ?_
            refine l_pslice rfl rfl ?_
            refine b_call rfl cb_35 rfl (clash_ok m H hra hrb hla (by omega) (by omega) (by omega) hoa hob rfl (by omega) (by omega) (hz.1 (by omega)) hun2) (fun v w hv => ?_)
            obtain ⟨rfl, H⟩ := hv
            refine l_pbool rfl rfl ?_
            refine l_nil ?_
            refine w_ret ?_
            refine fin1 (v := .bool _) rfl ?_
            exact ⟨rfl, _, H⟩
          · try simp only [decide_eq_true_eq, decide_eq_false_iff_not, Bool.not_eq_true', Bool.not_eq_false', beq_iff_eq, beq_eq_false_iff_ne, bne_iff_ne, bne_eq_false_iff_eq, ne_eq, Int.not_lt, Int.not_le] at c6
            have hz2 := hz.2 (by omega) (by omega)
            refine w_skip ?_
            refine w_seq ?_
            refine w_region ?_
            refine l_pslice rfl rfl ?_
            refine l_pslice rfl rfl ?_
            refine l_pslice rfl rfl ?_
            refine b_call rfl cb_14 rfl (Head_ok m H hra hla hca hoa rfl (by omega)) (fun v w hv => ?_)
            obtain ⟨rfl, H⟩ := hv
            refine l_pslice rfl rfl ?_
            refine b_call rfl cb_40 rfl (steps_ok n (m := m) (n := n) (wh := true) H hra hrb hla hlb hca hcb hoa hob (headH_len _) hpp hpr2 hz2.1 rfl hppc (by omega) (by omega) rfl (by omega)) (fun v w hv => ?_)
            obtain ⟨fd, rfl, hlaw, H⟩ := hv
            obtain rfl : fd = true := hlaw hz2.2.1 hz2.2.2 (by rw [hla]; exact hun)
            have hbl := bothN_len n (wh := true) (Nat.le_refl _) (by omega) (by omega) (headH_len la) hpp hz2.1
            refine l_ptup rfl rfl ?_
            refine l_pagg rfl rfl ?_
            refine l_pagg rfl rfl ?_
            refine l_pbool rfl rfl ?_
            refine b_alloc rfl ze_24 rfl H (fun b11 w H => ?_)
            refine b_alloc rfl ze_24 rfl H (fun b12 w H => ?_)
            refine b_store (vs := ((bothN m n true (headH la) pth).1).map B) rfl sz_24 rfl rfl rfl (by simp [hbl.1]) (all1 _) H 1 rfl (by simp [z32, hbl.1]) (putL_all (by simp [z32, hbl.1])) (fun w H => ?_)
            refine b_store (vs := ((bothN m n true (headH la) pth).2).map B) rfl sz_24 rfl rfl rfl (by simp [hbl.2]) (all1 _) H 0 rfl (by simp [z32, hbl.2]) (putL_all (by simp [z32, hbl.2])) (fun w H => ?_)
            refine l_pbool rfl rfl ?_
            refine l_nil ?_
            refine w_seq ?_
            refine w_region ?_
            refine l_pbool rfl rfl ?_
            refine l_pbool rfl rfl ?_
            refine l_nil ?_
            refine w_ret ?_
            refine fin1 (v := .bool _) rfl ?_
            exact ⟨rfl, _, H⟩

end Go.Proofs.Ytcmmhpkgjcepdaa
