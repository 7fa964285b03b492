/- The law DigestBack answers true, of every hash, text, place and byte. -/
import Derived.Test.YtcmmbjplekgihaaDig11
import Derived.Test.YtcmmbjplekgihaaBase16
namespace Go.Proofs.Ytcmmbjplekgihaa
open Go.EW
attribute [local irreducible] EW.W EW.L EW.fin block8 outB parA pgo hexL shaL digitI
set_option linter.unusedVariables false
set_option linter.unusedSimpArgs false

theorem Parse_to {W w : World} {F : List Seg} (H : St W w F) {s : ByteArray} {v : List UInt8} {e : Int} {p : Nat} (hp : parseL s.data.toList = (v, e, p)) :
    Ok Try.prog 21 [.string s].toArray w (fun r w' => r = .tuple #[.agg (v.map B).toArray, .int .i64 e, .int .i64 (p : Int)] ∧ St W w' F) := by
  have := Parse_ok H s
  rw [hp] at this
  exact this
theorem Print_to {W w : World} {F : List Seg} (H : St W w F) {v : List UInt8} {s : ByteArray} (hv : v.length = 32) (hs : hexL v = s.data.toList) :
    Ok Try.prog 23 [.agg (v.map B).toArray].toArray w (fun r w' => r = .string s ∧ St W w' F) := by
  have := Print_ok H hv
  rw [hs, show (⟨s.data.toList.toArray⟩ : ByteArray) = s from by rw [Array.toArray_toList]] at this
  exact this
theorem parse_case (t : List UInt8) : ∃ v e p, parseL t = (v, e, p) ∧ v.length = 32 ∧ ((e = 0 ∧ p = 0 ∧ hexL v = t) ∨ (e = 190 ∧ v = List.replicate 32 0 ∧ p ≤ t.length ∧ p ≤ 64)) := by
  rcases parse_cases t with ⟨h, hl, hd⟩ | ⟨p, h, h1, h2⟩
  · exact ⟨_, _, _, h, parA_len _ _, .inl ⟨rfl, rfl, hex_parA hl hd⟩⟩
  · exact ⟨_, _, _, h, by simp, .inr ⟨rfl, rfl, h1, h2⟩⟩
def bstr (l : List UInt8) : ByteArray := ⟨l.toArray⟩
theorem chg_data {l : List UInt8} (hl : l.length = 64) {i : Nat} (hi : i < 64) (c : UInt8) (e : Nat) (he : e = 64) : ((bstr l).extract 0 i ++ bstr [c] ++ (bstr l).extract (i + 1) e).data.toList = l.take i ++ [c] ++ l.drop (i + 1) := by
  subst he
  simp only [ByteArray.data_append, ByteArray.data_extract, Array.toList_append, Array.toList_extract, bstr, List.extract_eq_take_drop, List.drop_zero, Nat.sub_zero]
  rw [List.take_of_length_le (l := l.drop (i + 1)) (by simp; omega)]
theorem one_sz (c : UInt8) : (⟨#[c]⟩ : ByteArray).size = 1 := rfl
theorem str_eq (s : ByteArray) : (s.toList == s.toList) = true := beq_self_eq_true _
set_option maxRecDepth 8000 in
set_option maxHeartbeats 2000000 in
theorem DigestBack_ok {W w : World} {F : List Seg} (H : St W w F) {h : List UInt8} (hh : h.length = 32) (s : ByteArray) (hsz : s.size ≤ 140737488355328) (x : Int) (c : UInt8) :
    Ok Try.prog 7 [.agg (h.map B).toArray, .string s, .int .i64 x, B c].toArray w (fun v w' => v = .bool true ∧ ∃ S, St W w' S) := by
  obtain ⟨v2, e2, p2, hp2, hv2, hcase⟩ := parse_case s.data.toList
  have hl64 : (hexL h).length = 64 := by rw [hexL_len]; omega
  have hsl := size_len s
  have hhl : (bstr (hexL h)).size = 64 := by
    show (hexL h).toArray.size = 64
    simp [hl64]
  have hcl := c.toNat_lt
  refine enter (n := 123) (rs := #[.tmp 8]) Try.func7 rfl rfl rfl rfl ?_
  refine w_seq ?_
  refine w_region ?_
  refine b_box rfl rfl rfl H (fun b4 w H => ?_)
  refine l_pbool rfl rfl ?_
  refine l_nil ?_
  refine w_seq ?_
  refine w_seq ?_
  refine w_region ?_
  refine b_call rfl cb_14 rfl (alive_ok H) (fun v w hv => ?_)
  obtain ⟨rfl, H⟩ := hv
  refine l_pbool rfl rfl ?_
  refine l_nil ?_
  refine w_cond rfl (fun c1 => ?_) (fun c1 => ?_)
  · try simp only [decide_eq_true_eq, decide_eq_false_iff_not, Bool.not_eq_true', Bool.not_eq_false', beq_iff_eq, beq_eq_false_iff_ne, bne_iff_ne, bne_eq_false_iff_eq, ne_eq, Int.not_lt, Int.not_le] at c1
    refine w_seq ?_
    refine w_region ?_
    refine l_pbool rfl rfl ?_
    refine l_nil ?_
    refine w_ret ?_
    refine fin1 (v := .bool _) rfl ?_
    exact absurd c1 (by decide)
  · try simp only [decide_eq_true_eq, decide_eq_false_iff_not, Bool.not_eq_true', Bool.not_eq_false', beq_iff_eq, beq_eq_false_iff_ne, bne_iff_ne, bne_eq_false_iff_eq, ne_eq, Int.not_lt, Int.not_le] at c1
    refine w_skip ?_
    refine w_seq ?_
    refine w_region ?_
    refine l_v rfl (q_loadN (vs := h.map B) rfl ag_32 rfl (by simp [hh]) (H.cells 0 rfl)) ?_
    refine b_call rfl cb_23 rfl (Print_to H hh (s := bstr (hexL h)) (by simp [bstr])) (fun v w hv => ?_)
    obtain ⟨rfl, H⟩ := hv
    refine l_pstr rfl rfl ?_
    refine l_nil ?_
    refine w_seq ?_
    refine w_region ?_
    refine l_pstr rfl rfl ?_
    refine b_call rfl cb_21 rfl (Parse_to H (s := bstr (hexL h)) (v := h) (e := 0) (p := 0) (by simpa [bstr] using parse_hex hh)) (fun v w hv => ?_)
    obtain ⟨rfl, H⟩ := hv
    refine l_ptup rfl rfl ?_
    refine l_pagg rfl rfl ?_
    refine l_pint rfl rfl ?_
    refine l_pint rfl rfl ?_
    refine b_alloc rfl ze_32 rfl H (fun b10 w H => ?_)
    refine b_store (vs := h.map B) rfl sz_32 rfl rfl rfl (by simp [hh]) (all1 _) H 0 rfl (by simp [hh]) (putL_all (by simp [hh])) (fun w H => ?_)
    refine l_pint rfl rfl ?_
    refine l_pint rfl rfl ?_
    refine l_nil ?_
    refine w_seq ?_
    refine w_seq ?_
    refine w_region ?_
    refine l_pint rfl rfl ?_
    refine b_call rfl cb_25 rfl (num_ok _) (fun v w hv => ?_)
    obtain ⟨rfl, rfl⟩ := hv
    refine l_pbool rfl rfl ?_
    refine l_pbool rfl rfl ?_
    refine l_split 32 rfl (fun h32 => absurd h32 (by first | (simp; done) | (simp; omega) | (simp [*]; done))) (fun h32 => ?_)
    try simp only [decide_eq_true_eq, decide_eq_false_iff_not, Bool.not_eq_true', Bool.not_eq_false', beq_iff_eq, beq_eq_false_iff_ne, bne_iff_ne, bne_eq_false_iff_eq, ne_eq, Int.not_lt, Int.not_le] at h32
    refine l_v rfl (q_loadN (vs := h.map B) rfl ag_32 rfl (by simp [hh]) (H.cells 0 rfl)) ?_
    refine l_v rfl (q_loadN (vs := h.map B) rfl ag_32 rfl (by simp [hh]) (H.cells 1 rfl)) ?_
    refine l_v rfl (q_neqHash rfl rfl rfl hh hh) ?_
    refine l_pickF (v := .bool _) rfl rfl rfl ?_
    refine l_pbool rfl rfl ?_
    refine l_split 37 rfl (fun h37 => absurd h37 (by first | (simp; done) | (simp; omega) | (simp [*]; done))) (fun h37 => ?_)
    try simp only [decide_eq_true_eq, decide_eq_false_iff_not, Bool.not_eq_true', Bool.not_eq_false', beq_iff_eq, beq_eq_false_iff_ne, bne_iff_ne, bne_eq_false_iff_eq, ne_eq, Int.not_lt, Int.not_le] at h37
    refine l_pstr rfl rfl ?_
    refine l_v rfl (q_lenStr rfl st_9 rfl) ?_
    refine l_pbool rfl rfl ?_
    refine l_pickF (v := .bool _) rfl rfl rfl ?_
    refine l_nil ?_
    refine w_cond rfl (fun c2 => ?_) (fun c2 => ?_)
    · try simp only [decide_eq_true_eq, decide_eq_false_iff_not, Bool.not_eq_true', Bool.not_eq_false', beq_iff_eq, beq_eq_false_iff_ne, bne_iff_ne, bne_eq_false_iff_eq, ne_eq, Int.not_lt, Int.not_le] at c2
      refine w_seq ?_
      refine w_region ?_
      refine l_pbool rfl rfl ?_
      refine l_nil ?_
      refine w_ret ?_
      refine fin1 (v := .bool _) rfl ?_
      exact absurd c2 (by omega)
    · try simp only [decide_eq_true_eq, decide_eq_false_iff_not, Bool.not_eq_true', Bool.not_eq_false', beq_iff_eq, beq_eq_false_iff_ne, bne_iff_ne, bne_eq_false_iff_eq, ne_eq, Int.not_lt, Int.not_le] at c2
      refine w_skip ?_
      refine w_seq ?_
      refine w_region ?_
      refine l_pstr rfl rfl ?_
      refine b_call rfl cb_21 rfl (Parse_to H hp2) (fun v w hv => ?_)
      obtain ⟨rfl, H⟩ := hv
      refine l_ptup rfl rfl ?_
      refine l_pagg rfl rfl ?_
      refine l_pint rfl rfl ?_
      refine l_pint rfl rfl ?_
      refine b_alloc rfl ze_32 rfl H (fun b13 w H => ?_)
      refine b_store (vs := v2.map B) rfl sz_32 rfl rfl rfl (by simp [hv2]) (all1 _) H 0 rfl (by simp [hv2]) (putL_all (by simp [hv2])) (fun w H => ?_)
      refine l_pint rfl rfl ?_
      refine l_pint rfl rfl ?_
      refine l_nil ?_
      refine w_cutG (G := Unit) [8, 48, 49, 50, 51, 52, 53, 54, 55, 56, 57, 58, 59, 60, 61, 62, 63, 64, 65, 66, 67, 68, 69, 70, 71, 72, 73, 74, 75] (fun _ => []) (fun _ w => St W w (blk b4 (h.map B) 32 :: F)) (fun _ => rfl) ?_ ?_
      · refine w_seq ?_
        refine w_region ?_
        refine l_pint rfl rfl ?_
        refine b_call rfl cb_25 rfl (num_ok _) (fun v w hv => ?_)
        obtain ⟨rfl, rfl⟩ := hv
        refine l_pbool rfl rfl ?_
        refine l_nil ?_
        refine w_cond rfl (fun c3 => ?_) (fun c3 => ?_)
        · try simp only [decide_eq_true_eq, decide_eq_false_iff_not, Bool.not_eq_true', Bool.not_eq_false', beq_iff_eq, beq_eq_false_iff_ne, bne_iff_ne, bne_eq_false_iff_eq, ne_eq, Int.not_lt, Int.not_le] at c3
          have hc3 : p2 = 0 ∧ hexL v2 = s.data.toList := by
            rcases hcase with h | h
            · exact h.2
            · omega
          refine w_seq ?_
          refine w_region ?_
          refine l_v rfl (q_loadN (vs := v2.map B) rfl ag_32 rfl (by simp [hv2]) (H.cells 0 rfl)) ?_
          refine b_call rfl cb_23 rfl (Print_to H hv2 hc3.2) (fun v w hv => ?_)
          obtain ⟨rfl, H⟩ := hv
          refine l_pstr rfl rfl ?_
          refine l_pbool rfl rfl ?_
          refine l_pbool rfl rfl ?_
          refine l_split 55 rfl (fun h55 => absurd h55 (by first | (simp; done) | (simp; omega) | (simp [*]; done))) (fun h55 => ?_)
          try simp only [decide_eq_true_eq, decide_eq_false_iff_not, Bool.not_eq_true', Bool.not_eq_false', beq_iff_eq, beq_eq_false_iff_ne, bne_iff_ne, bne_eq_false_iff_eq, ne_eq, Int.not_lt, Int.not_le] at h55
          refine l_pint rfl rfl ?_
          refine l_pbool rfl rfl ?_
          refine l_pickF (v := .bool _) rfl rfl rfl ?_
          refine l_nil ?_
          refine w_cond rfl (fun c4 => ?_) (fun c4 => ?_)
          · try simp only [decide_eq_true_eq, decide_eq_false_iff_not, Bool.not_eq_true', Bool.not_eq_false', beq_iff_eq, beq_eq_false_iff_ne, bne_iff_ne, bne_eq_false_iff_eq, ne_eq, Int.not_lt, Int.not_le] at c4
            refine w_seq ?_
            refine w_region ?_
            refine l_pbool rfl rfl ?_
            refine l_nil ?_
            refine w_ret ?_
            refine fin1 (v := .bool _) rfl ?_
            exact absurd c4 (by omega)
          · try simp only [decide_eq_true_eq, decide_eq_false_iff_not, Bool.not_eq_true', Bool.not_eq_false', beq_iff_eq, beq_eq_false_iff_ne, bne_iff_ne, bne_eq_false_iff_eq, ne_eq, Int.not_lt, Int.not_le] at c4
            refine w_skip ?_
            refine ⟨by repeat' first | exact Agr.mix _ _ _ | exact Agr.refl _ _ | refine Agr.inner rfl ?_ | refine Agr.upd rfl ?_ | refine Agr.updL' rfl ?_, ?_⟩
            exact ⟨(), trivial, ((H.erase 0).erase 0)⟩
        · try simp only [decide_eq_true_eq, decide_eq_false_iff_not, Bool.not_eq_true', Bool.not_eq_false', beq_iff_eq, beq_eq_false_iff_ne, bne_iff_ne, bne_eq_false_iff_eq, ne_eq, Int.not_lt, Int.not_le] at c3
          have hc3 : v2 = List.replicate 32 0 ∧ p2 ≤ s.data.toList.length ∧ p2 ≤ 64 := by
            rcases hcase with h | h
            · exact absurd h.1 (by omega)
            · exact h.2
          refine w_seq ?_
          refine w_region ?_
          refine l_v rfl (q_loadN (vs := v2.map B) rfl ag_32 rfl (by simp [hv2]) (H.cells 0 rfl)) ?_
          refine l_v rfl (q_buildArr rfl ar_32 ze_32 (by kernel_rfl : fillL _ _ _ = some ((List.replicate 32 (0 : UInt8)).map B))) ?_
          refine l_v rfl (q_neqHash (ys := List.replicate 32 0) rfl rfl rfl hv2 (by simp)) ?_
          refine l_pbool rfl rfl ?_
          refine l_split 62 rfl (fun h62 => absurd h62 (by rw [hc3.1]; simp)) (fun h62 => ?_)
          try simp only [decide_eq_true_eq, decide_eq_false_iff_not, Bool.not_eq_true', Bool.not_eq_false', beq_iff_eq, beq_eq_false_iff_ne, bne_iff_ne, bne_eq_false_iff_eq, ne_eq, Int.not_lt, Int.not_le] at h62
          refine l_pint rfl rfl ?_
          refine l_pbool rfl rfl ?_
          refine l_pickF (v := .bool _) rfl rfl rfl ?_
          refine l_pbool rfl rfl ?_
          refine l_split 66 rfl (fun h66 => absurd h66 (by first | (simp; done) | (simp; omega) | (simp [*]; done))) (fun h66 => ?_)
          try simp only [decide_eq_true_eq, decide_eq_false_iff_not, Bool.not_eq_true', Bool.not_eq_false', beq_iff_eq, beq_eq_false_iff_ne, bne_iff_ne, bne_eq_false_iff_eq, ne_eq, Int.not_lt, Int.not_le] at h66
          refine l_pint rfl rfl ?_
          refine l_pstr rfl rfl ?_
          refine l_v rfl (q_lenStr rfl st_9 rfl) ?_
          refine l_pbool rfl rfl ?_
          refine l_pickF (v := .bool _) rfl rfl rfl ?_
          refine l_pbool rfl rfl ?_
          refine l_split 72 rfl (fun h72 => absurd h72 (by simp; omega)) (fun h72 => ?_)
          try simp only [decide_eq_true_eq, decide_eq_false_iff_not, Bool.not_eq_true', Bool.not_eq_false', beq_iff_eq, beq_eq_false_iff_ne, bne_iff_ne, bne_eq_false_iff_eq, ne_eq, Int.not_lt, Int.not_le] at h72
          refine l_pint rfl rfl ?_
          refine l_pbool rfl rfl ?_
          refine l_pickF (v := .bool _) rfl rfl rfl ?_
          refine l_nil ?_
          refine w_cond rfl (fun c5 => ?_) (fun c5 => ?_)
          · try simp only [decide_eq_true_eq, decide_eq_false_iff_not, Bool.not_eq_true', Bool.not_eq_false', beq_iff_eq, beq_eq_false_iff_ne, bne_iff_ne, bne_eq_false_iff_eq, ne_eq, Int.not_lt, Int.not_le] at c5
            refine w_seq ?_
            refine w_region ?_
            refine l_pbool rfl rfl ?_
            refine l_nil ?_
            refine w_ret ?_
            refine fin1 (v := .bool _) rfl ?_
            exact absurd c5 (by omega)
          · try simp only [decide_eq_true_eq, decide_eq_false_iff_not, Bool.not_eq_true', Bool.not_eq_false', beq_iff_eq, beq_eq_false_iff_ne, bne_iff_ne, bne_eq_false_iff_eq, ne_eq, Int.not_lt, Int.not_le] at c5
            refine w_skip ?_
            refine ⟨by repeat' first | exact Agr.mix _ _ _ | exact Agr.refl _ _ | refine Agr.inner rfl ?_ | refine Agr.upd rfl ?_ | refine Agr.updL' rfl ?_, ?_⟩
            exact ⟨(), trivial, ((H.erase 0).erase 0)⟩
      · rintro _ ρ1 w H
        refine w_cutG (G := Unit) [8, 76, 77, 78, 79, 80, 81, 82, 83, 84, 85, 86, 87, 88, 89, 90, 91, 92, 93, 94, 95, 96, 97] (fun _ => []) (fun _ w => (0 ≤ x ∧ x < 64 ∧ digitI c < 0) ∧ St W w (blk b4 (h.map B) 32 :: F)) (fun _ => rfl) ?_ ?_
        · refine w_seq ?_
          refine w_region ?_
          refine l_pint rfl rfl ?_
          refine l_pbool rfl rfl ?_
          refine l_pbool rfl rfl ?_
          refine l_split 78 rfl (fun h78 => ?_) (fun h78 => ?_)
          · try simp only [decide_eq_true_eq, decide_eq_false_iff_not, Bool.not_eq_true', Bool.not_eq_false', beq_iff_eq, beq_eq_false_iff_ne, bne_iff_ne, bne_eq_false_iff_eq, ne_eq, Int.not_lt, Int.not_le] at h78
            refine l_no rfl ?_
            refine l_no rfl ?_
            refine l_pickT (v := .bool _) rfl rfl rfl ?_
            refine l_pbool rfl rfl ?_
            refine l_no rfl ?_
            refine l_no rfl ?_
            refine l_no rfl ?_
            refine l_no rfl ?_
            refine l_no rfl ?_
            refine l_no rfl ?_
            refine l_pickT (v := .bool _) rfl rfl rfl ?_
            refine l_pbool rfl rfl ?_
            refine l_no rfl ?_
            refine l_no rfl ?_
            refine l_no rfl ?_
            refine l_no rfl ?_
            refine l_no rfl ?_
            refine l_no rfl ?_
            refine l_pickT (v := .bool _) rfl rfl rfl ?_
            refine l_nil ?_
            refine w_cond_t rfl ?_
            refine w_seq ?_
            refine w_region ?_
            refine l_pbool rfl rfl ?_
            refine l_nil ?_
            refine w_ret ?_
            refine fin1 (v := .bool _) rfl ?_
            exact ⟨by first | rfl | exact congrArg Value.bool (by simp), _, H⟩
          · try simp only [decide_eq_true_eq, decide_eq_false_iff_not, Bool.not_eq_true', Bool.not_eq_false', beq_iff_eq, beq_eq_false_iff_ne, bne_iff_ne, bne_eq_false_iff_eq, ne_eq, Int.not_lt, Int.not_le] at h78
            refine l_pint rfl rfl ?_
            refine l_pbool rfl rfl ?_
            refine l_pickF (v := .bool _) rfl rfl rfl ?_
            refine l_pbool rfl rfl ?_
            refine l_split 82 rfl (fun h82 => ?_) (fun h82 => ?_)
            · try simp only [decide_eq_true_eq, decide_eq_false_iff_not, Bool.not_eq_true', Bool.not_eq_false', beq_iff_eq, beq_eq_false_iff_ne, bne_iff_ne, bne_eq_false_iff_eq, ne_eq, Int.not_lt, Int.not_le] at h82
              refine l_no rfl ?_
              refine l_no rfl ?_
              refine l_no rfl ?_
              refine l_no rfl ?_
              refine l_no rfl ?_
              refine l_no rfl ?_
              refine l_pickT (v := .bool _) rfl rfl rfl ?_
              refine l_pbool rfl rfl ?_
              refine l_no rfl ?_
              refine l_no rfl ?_
              refine l_no rfl ?_
              refine l_no rfl ?_
              refine l_no rfl ?_
              refine l_no rfl ?_
              refine l_pickT (v := .bool _) rfl rfl rfl ?_
              refine l_nil ?_
              refine w_cond_t rfl ?_
              refine w_seq ?_
              refine w_region ?_
              refine l_pbool rfl rfl ?_
              refine l_nil ?_
              refine w_ret ?_
              refine fin1 (v := .bool _) rfl ?_
              exact ⟨by first | rfl | exact congrArg Value.bool (by simp), _, H⟩
            · try simp only [decide_eq_true_eq, decide_eq_false_iff_not, Bool.not_eq_true', Bool.not_eq_false', beq_iff_eq, beq_eq_false_iff_ne, bne_iff_ne, bne_eq_false_iff_eq, ne_eq, Int.not_lt, Int.not_le] at h82
              first | refine l_p (v := B _) rfl rfl ?_ | refine l_pint rfl rfl ?_
              refine l_pbool rfl rfl ?_
              refine l_pbool rfl rfl ?_
              refine l_split 85 rfl (fun h85 => ?_) (fun h85 => ?_)
              · try simp only [decide_eq_true_eq, decide_eq_false_iff_not, Bool.not_eq_true', Bool.not_eq_false', beq_iff_eq, beq_eq_false_iff_ne, bne_iff_ne, bne_eq_false_iff_eq, ne_eq, Int.not_lt, Int.not_le] at h85
                first | refine l_p (v := B _) rfl rfl ?_ | refine l_pint rfl rfl ?_
                refine l_pbool rfl rfl ?_
                refine l_pickT (v := .bool _) rfl rfl rfl ?_
                refine l_pickF (v := .bool _) rfl rfl rfl ?_
                refine l_pbool rfl rfl ?_
                refine l_split 90 rfl (fun h90 => ?_) (fun h90 => ?_)
                · try simp only [decide_eq_true_eq, decide_eq_false_iff_not, Bool.not_eq_true', Bool.not_eq_false', beq_iff_eq, beq_eq_false_iff_ne, bne_iff_ne, bne_eq_false_iff_eq, ne_eq, Int.not_lt, Int.not_le] at h90
                  refine l_no rfl ?_
                  refine l_no rfl ?_
                  refine l_no rfl ?_
                  refine l_no rfl ?_
                  refine l_no rfl ?_
                  refine l_no rfl ?_
                  refine l_pickT (v := .bool _) rfl rfl rfl ?_
                  refine l_nil ?_
                  refine w_cond_t rfl ?_
                  refine w_seq ?_
                  refine w_region ?_
                  refine l_pbool rfl rfl ?_
                  refine l_nil ?_
                  refine w_ret ?_
                  refine fin1 (v := .bool _) rfl ?_
                  exact ⟨by first | rfl | exact congrArg Value.bool (by simp), _, H⟩
                · try simp only [decide_eq_true_eq, decide_eq_false_iff_not, Bool.not_eq_true', Bool.not_eq_false', beq_iff_eq, beq_eq_false_iff_ne, bne_iff_ne, bne_eq_false_iff_eq, ne_eq, Int.not_lt, Int.not_le] at h90
                  first | refine l_p (v := B _) rfl rfl ?_ | refine l_pint rfl rfl ?_
                  refine l_pbool rfl rfl ?_
                  refine l_pbool rfl rfl ?_
                  refine l_split 93 rfl (fun h93 => ?_) (fun h93 => ?_)
                  · try simp only [decide_eq_true_eq, decide_eq_false_iff_not, Bool.not_eq_true', Bool.not_eq_false', beq_iff_eq, beq_eq_false_iff_ne, bne_iff_ne, bne_eq_false_iff_eq, ne_eq, Int.not_lt, Int.not_le] at h93
                    first | refine l_p (v := B _) rfl rfl ?_ | refine l_pint rfl rfl ?_
                    refine l_pbool rfl rfl ?_
                    refine l_pickT (v := .bool _) rfl rfl rfl ?_
                    refine l_pickF (v := .bool _) rfl rfl rfl ?_
                    refine l_nil ?_
                    refine w_cond rfl (fun c6 => ?_) (fun c6 => ?_)
                    · try simp only [decide_eq_true_eq, decide_eq_false_iff_not, Bool.not_eq_true', Bool.not_eq_false', beq_iff_eq, beq_eq_false_iff_ne, bne_iff_ne, bne_eq_false_iff_eq, ne_eq, Int.not_lt, Int.not_le] at c6
                      refine w_seq ?_
                      refine w_region ?_
                      refine l_pbool rfl rfl ?_
                      refine l_nil ?_
                      refine w_ret ?_
                      refine fin1 (v := .bool _) rfl ?_
                      exact ⟨by first | rfl | exact congrArg Value.bool (by simp), _, H⟩
                    · try simp only [decide_eq_true_eq, decide_eq_false_iff_not, Bool.not_eq_true', Bool.not_eq_false', beq_iff_eq, beq_eq_false_iff_ne, bne_iff_ne, bne_eq_false_iff_eq, ne_eq, Int.not_lt, Int.not_le] at c6
                      refine w_skip ?_
                      refine ⟨by repeat' first | exact Agr.mix _ _ _ | exact Agr.refl _ _ | refine Agr.inner rfl ?_ | refine Agr.upd rfl ?_ | refine Agr.updL' rfl ?_, ?_⟩
                      exact ⟨(), trivial, ⟨by omega, by omega, by unfold digitI; split <;> (try split) <;> omega⟩, H⟩
                  · try simp only [decide_eq_true_eq, decide_eq_false_iff_not, Bool.not_eq_true', Bool.not_eq_false', beq_iff_eq, beq_eq_false_iff_ne, bne_iff_ne, bne_eq_false_iff_eq, ne_eq, Int.not_lt, Int.not_le] at h93
                    refine l_no rfl ?_
                    refine l_no rfl ?_
                    refine l_pickF (v := .bool _) rfl rfl rfl ?_
                    refine l_pickF (v := .bool _) rfl rfl rfl ?_
                    refine l_nil ?_
                    refine w_cond_f rfl ?_
                    refine w_skip ?_
                    refine ⟨by repeat' first | exact Agr.mix _ _ _ | exact Agr.refl _ _ | refine Agr.inner rfl ?_ | refine Agr.upd rfl ?_ | refine Agr.updL' rfl ?_, ?_⟩
                    exact ⟨(), trivial, ⟨by omega, by omega, by unfold digitI; split <;> (try split) <;> omega⟩, H⟩
              · try simp only [decide_eq_true_eq, decide_eq_false_iff_not, Bool.not_eq_true', Bool.not_eq_false', beq_iff_eq, beq_eq_false_iff_ne, bne_iff_ne, bne_eq_false_iff_eq, ne_eq, Int.not_lt, Int.not_le] at h85
                refine l_no rfl ?_
                refine l_no rfl ?_
                refine l_pickF (v := .bool _) rfl rfl rfl ?_
                refine l_pickF (v := .bool _) rfl rfl rfl ?_
                refine l_pbool rfl rfl ?_
                first | refine l_p (v := B _) rfl rfl ?_ | refine l_pint rfl rfl ?_
                refine l_pbool rfl rfl ?_
                refine l_pbool rfl rfl ?_
                refine l_split 93 rfl (fun h93 => ?_) (fun h93 => ?_)
                · try simp only [decide_eq_true_eq, decide_eq_false_iff_not, Bool.not_eq_true', Bool.not_eq_false', beq_iff_eq, beq_eq_false_iff_ne, bne_iff_ne, bne_eq_false_iff_eq, ne_eq, Int.not_lt, Int.not_le] at h93
                  first | refine l_p (v := B _) rfl rfl ?_ | refine l_pint rfl rfl ?_
                  refine l_pbool rfl rfl ?_
                  refine l_pickT (v := .bool _) rfl rfl rfl ?_
                  refine l_pickF (v := .bool _) rfl rfl rfl ?_
                  refine l_nil ?_
                  refine w_cond rfl (fun c7 => ?_) (fun c7 => ?_)
                  · try simp only [decide_eq_true_eq, decide_eq_false_iff_not, Bool.not_eq_true', Bool.not_eq_false', beq_iff_eq, beq_eq_false_iff_ne, bne_iff_ne, bne_eq_false_iff_eq, ne_eq, Int.not_lt, Int.not_le] at c7
                    refine w_seq ?_
                    refine w_region ?_
                    refine l_pbool rfl rfl ?_
                    refine l_nil ?_
                    refine w_ret ?_
                    refine fin1 (v := .bool _) rfl ?_
                    exact ⟨by first | rfl | exact congrArg Value.bool (by simp), _, H⟩
                  · try simp only [decide_eq_true_eq, decide_eq_false_iff_not, Bool.not_eq_true', Bool.not_eq_false', beq_iff_eq, beq_eq_false_iff_ne, bne_iff_ne, bne_eq_false_iff_eq, ne_eq, Int.not_lt, Int.not_le] at c7
                    refine w_skip ?_
                    refine ⟨by repeat' first | exact Agr.mix _ _ _ | exact Agr.refl _ _ | refine Agr.inner rfl ?_ | refine Agr.upd rfl ?_ | refine Agr.updL' rfl ?_, ?_⟩
                    exact ⟨(), trivial, ⟨by omega, by omega, by unfold digitI; split <;> (try split) <;> omega⟩, H⟩
                · try simp only [decide_eq_true_eq, decide_eq_false_iff_not, Bool.not_eq_true', Bool.not_eq_false', beq_iff_eq, beq_eq_false_iff_ne, bne_iff_ne, bne_eq_false_iff_eq, ne_eq, Int.not_lt, Int.not_le] at h93
                  refine l_no rfl ?_
                  refine l_no rfl ?_
                  refine l_pickF (v := .bool _) rfl rfl rfl ?_
                  refine l_pickF (v := .bool _) rfl rfl rfl ?_
                  refine l_nil ?_
                  refine w_cond_f rfl ?_
                  refine w_skip ?_
                  refine ⟨by repeat' first | exact Agr.mix _ _ _ | exact Agr.refl _ _ | refine Agr.inner rfl ?_ | refine Agr.upd rfl ?_ | refine Agr.updL' rfl ?_, ?_⟩
                  exact ⟨(), trivial, ⟨by omega, by omega, by unfold digitI; split <;> (try split) <;> omega⟩, H⟩
        · rintro _ ρ1 w ⟨⟨hx0, hx64, hdc⟩, H⟩
          obtain ⟨i, rfl⟩ := Int.eq_ofNat_of_zero_le hx0
          have hi64 : i < 64 := by omega
          refine w_seq ?_
          refine w_drawP [4, 5, 12, 17, 18] [] (.alt [(0, 0), (1, 0), (2, 0), (3, 0), (7, 0), (8, 0), (9, 0), (10, 0)] (.alt [(4, 2)] (.alt [(5, 2), (6, 0), (11, 0)] (.leaf [(12, 2), (13, 0), (14, 0), (15, 0), (16, 0), (17, 2), (18, 2), (19, 0), (20, 0)]) (.leaf [(17, 2), (12, 2), (13, 0), (14, 0), (15, 0), (16, 0), (18, 2), (19, 0), (20, 0)])) (.leaf [(17, 2), (5, 2), (6, 0), (11, 0), (12, 2), (13, 0), (14, 0), (15, 0), (16, 0), (18, 2), (19, 0), (20, 0)])) (.leaf [(17, 2), (4, 2), (5, 2), (6, 0), (11, 0), (12, 2), (13, 0), (14, 0), (15, 0), (16, 0), (18, 2), (19, 0), (20, 0)])) mixed (by kernel_rfl) (fun _ _ _ h => fin_panic h) H (fun H => ?_)
          refine rp_alt ?_
          refine r_pstr rfl rfl rfl ?_
          refine r_pint rfl rfl rfl ?_
          refine r_w rfl rfl (fun w => q_sliceStr (s := bstr (hexL h)) rfl st_9 rfl (Bnd.nat (by omega)) Bnd.none) ?_
          first | refine r_p (v := B _) rfl rfl rfl ?_ | refine r_pint rfl rfl rfl ?_
          refine r_pstr rfl rfl rfl ?_
          refine r_pint rfl rfl rfl ?_
          first | refine r_w rfl rfl (fun w => q_add rfl rfl rfl (by simp only [inK]; omega)) ?_ | refine r_pint rfl rfl rfl ?_
          refine r_w rfl rfl (fun w => q_sliceStr (s := bstr (hexL h)) rfl st_9 rfl Bnd.none (Bnd.nat (j := i + 1) (by omega))) ?_
          refine rp_two ?_ ?_
          · refine rp_alt ?_
            refine r_do rfl ?_
            refine b_buildSlice (cs := [B c]) rfl el_22 ze_5 rfl rfl rfl H (fun b103 w H => ?_)
            refine l_nil ⟨(fun h => nomatch h), ?_⟩
            refine rp_two ?_ ?_
            · refine rp_alt ?_
              refine r_do rfl ?_
              refine l_v rfl (q_bytesStr (bs := [c]) rfl by_22 st_9 rfl (Rd.mk (by first | exact H.cells0 0 rfl | exact H.cells0 1 rfl)) rfl) ?_
              refine l_nil ⟨(fun h => nomatch h), ?_⟩
              refine r_w rfl rfl (fun w => q_strAdd rfl rfl rfl (by simp only [ByteArray.size_append, ByteArray.size_extract, hhl, one_sz]; omega)) ?_
              refine r_w rfl rfl (fun w => q_strAdd rfl rfl rfl (by simp only [ByteArray.size_append, ByteArray.size_extract, hhl, one_sz]; omega)) ?_
              refine rp_two ?_ ?_
              · refine rp_leaf ?_
                refine r_do rfl ?_
                refine b_call rfl cb_21 rfl (Parse_to H (v := List.replicate 32 0) (e := 190) (p := i) (by have e := parse_changed hh hi64 hdc; rw [← chg_data hl64 hi64 c _ hhl] at e; exact e)) (fun v w hv => ?_)
                obtain ⟨rfl, H⟩ := hv
                refine l_nil ⟨(fun h => nomatch h), ?_⟩
                refine r_ptup rfl rfl rfl ?_
                refine r_pagg rfl rfl rfl ?_
                refine r_pint rfl rfl rfl ?_
                refine r_pint rfl rfl rfl ?_
                refine r_do rfl ?_
                refine b_alloc rfl ze_32 rfl H (fun b16 w H => ?_)
                refine l_nil ⟨(fun h => nomatch h), ?_⟩
                refine r_do rfl ?_
                first | refine b_store (vs := (List.replicate 32 (0 : UInt8)).map B) rfl sz_32 rfl rfl rfl (by simp) (all1 _) H 0 rfl (by simp) (putL_all (by simp)) (fun w H => ?_) | refine b_store (vs := (List.replicate 32 (0 : UInt8)).map B) rfl sz_32 rfl rfl rfl (by simp) (all1 _) H 1 rfl (by simp) (putL_all (by simp)) (fun w H => ?_)
                refine l_nil ⟨(fun h => nomatch h), ?_⟩
                refine r_pint rfl rfl rfl ?_
                refine r_pint rfl rfl rfl ?_
                refine r_nil ?_
                refine w_seq ?_
                refine w_region ?_
                refine l_pint rfl rfl ?_
                refine b_call rfl cb_25 rfl (num_ok _) (fun v w hv => ?_)
                obtain ⟨rfl, rfl⟩ := hv
                refine l_pbool rfl rfl ?_
                refine l_pbool rfl rfl ?_
                refine l_split 118 rfl (fun h118 => ?_) (fun h118 => absurd h118 (by first | (simp; done) | (simp; omega) | (simp [*]; done)))
                try simp only [decide_eq_true_eq, decide_eq_false_iff_not, Bool.not_eq_true', Bool.not_eq_false', beq_iff_eq, beq_eq_false_iff_ne, bne_iff_ne, bne_eq_false_iff_eq, ne_eq, Int.not_lt, Int.not_le] at h118
                refine l_pint rfl rfl ?_
                refine l_pint rfl rfl ?_
                refine l_pbool rfl rfl ?_
                refine l_pickT (v := .bool _) rfl rfl rfl ?_
                refine l_pbool rfl rfl ?_
                refine l_nil ?_
                refine w_ret ?_
                refine fin1 (v := .bool _) rfl ?_
                exact ⟨by first | rfl | exact congrArg Value.bool (by simp), _, H⟩
              · refine rp_leaf ?_
                refine r_do rfl ?_
                refine b_alloc rfl ze_32 rfl H (fun b16 w H => ?_)
                refine l_nil ⟨(fun h => nomatch h), ?_⟩
                refine r_do rfl ?_
                refine b_call rfl cb_21 rfl (Parse_to H (v := List.replicate 32 0) (e := 190) (p := i) (by have e := parse_changed hh hi64 hdc; rw [← chg_data hl64 hi64 c _ hhl] at e; exact e)) (fun v w hv => ?_)
                obtain ⟨rfl, H⟩ := hv
                refine l_nil ⟨(fun h => nomatch h), ?_⟩
                refine r_ptup rfl rfl rfl ?_
                refine r_pagg rfl rfl rfl ?_
                refine r_pint rfl rfl rfl ?_
                refine r_pint rfl rfl rfl ?_
                refine r_do rfl ?_
                first | refine b_store (vs := (List.replicate 32 (0 : UInt8)).map B) rfl sz_32 rfl rfl rfl (by simp) (all1 _) H 0 rfl (by simp) (putL_all (by simp)) (fun w H => ?_) | refine b_store (vs := (List.replicate 32 (0 : UInt8)).map B) rfl sz_32 rfl rfl rfl (by simp) (all1 _) H 1 rfl (by simp) (putL_all (by simp)) (fun w H => ?_)
                refine l_nil ⟨(fun h => nomatch h), ?_⟩
                refine r_pint rfl rfl rfl ?_
                refine r_pint rfl rfl rfl ?_
                refine r_nil ?_
                refine w_seq ?_
                refine w_region ?_
                refine l_pint rfl rfl ?_
                refine b_call rfl cb_25 rfl (num_ok _) (fun v w hv => ?_)
                obtain ⟨rfl, rfl⟩ := hv
                refine l_pbool rfl rfl ?_
                refine l_pbool rfl rfl ?_
                refine l_split 118 rfl (fun h118 => ?_) (fun h118 => absurd h118 (by first | (simp; done) | (simp; omega) | (simp [*]; done)))
                try simp only [decide_eq_true_eq, decide_eq_false_iff_not, Bool.not_eq_true', Bool.not_eq_false', beq_iff_eq, beq_eq_false_iff_ne, bne_iff_ne, bne_eq_false_iff_eq, ne_eq, Int.not_lt, Int.not_le] at h118
                refine l_pint rfl rfl ?_
                refine l_pint rfl rfl ?_
                refine l_pbool rfl rfl ?_
                refine l_pickT (v := .bool _) rfl rfl rfl ?_
                refine l_pbool rfl rfl ?_
                refine l_nil ?_
                refine w_ret ?_
                refine fin1 (v := .bool _) rfl ?_
                exact ⟨by first | rfl | exact congrArg Value.bool (by simp), _, H⟩
            · refine rp_leaf ?_
              refine r_do rfl ?_
              refine b_alloc rfl ze_32 rfl H (fun b16 w H => ?_)
              refine l_nil ⟨(fun h => nomatch h), ?_⟩
              refine r_do rfl ?_
              refine l_v rfl (q_bytesStr (bs := [c]) rfl by_22 st_9 rfl (Rd.mk (by first | exact H.cells0 0 rfl | exact H.cells0 1 rfl)) rfl) ?_
              refine l_nil ⟨(fun h => nomatch h), ?_⟩
              refine r_w rfl rfl (fun w => q_strAdd rfl rfl rfl (by simp only [ByteArray.size_append, ByteArray.size_extract, hhl, one_sz]; omega)) ?_
              refine r_w rfl rfl (fun w => q_strAdd rfl rfl rfl (by simp only [ByteArray.size_append, ByteArray.size_extract, hhl, one_sz]; omega)) ?_
              refine r_do rfl ?_
              refine b_call rfl cb_21 rfl (Parse_to H (v := List.replicate 32 0) (e := 190) (p := i) (by have e := parse_changed hh hi64 hdc; rw [← chg_data hl64 hi64 c _ hhl] at e; exact e)) (fun v w hv => ?_)
              obtain ⟨rfl, H⟩ := hv
              refine l_nil ⟨(fun h => nomatch h), ?_⟩
              refine r_ptup rfl rfl rfl ?_
              refine r_pagg rfl rfl rfl ?_
              refine r_pint rfl rfl rfl ?_
              refine r_pint rfl rfl rfl ?_
              refine r_do rfl ?_
              first | refine b_store (vs := (List.replicate 32 (0 : UInt8)).map B) rfl sz_32 rfl rfl rfl (by simp) (all1 _) H 0 rfl (by simp) (putL_all (by simp)) (fun w H => ?_) | refine b_store (vs := (List.replicate 32 (0 : UInt8)).map B) rfl sz_32 rfl rfl rfl (by simp) (all1 _) H 1 rfl (by simp) (putL_all (by simp)) (fun w H => ?_)
              refine l_nil ⟨(fun h => nomatch h), ?_⟩
              refine r_pint rfl rfl rfl ?_
              refine r_pint rfl rfl rfl ?_
              refine r_nil ?_
              refine w_seq ?_
              refine w_region ?_
              refine l_pint rfl rfl ?_
              refine b_call rfl cb_25 rfl (num_ok _) (fun v w hv => ?_)
              obtain ⟨rfl, rfl⟩ := hv
              refine l_pbool rfl rfl ?_
              refine l_pbool rfl rfl ?_
              refine l_split 118 rfl (fun h118 => ?_) (fun h118 => absurd h118 (by first | (simp; done) | (simp; omega) | (simp [*]; done)))
              try simp only [decide_eq_true_eq, decide_eq_false_iff_not, Bool.not_eq_true', Bool.not_eq_false', beq_iff_eq, beq_eq_false_iff_ne, bne_iff_ne, bne_eq_false_iff_eq, ne_eq, Int.not_lt, Int.not_le] at h118
              refine l_pint rfl rfl ?_
              refine l_pint rfl rfl ?_
              refine l_pbool rfl rfl ?_
              refine l_pickT (v := .bool _) rfl rfl rfl ?_
              refine l_pbool rfl rfl ?_
              refine l_nil ?_
              refine w_ret ?_
              refine fin1 (v := .bool _) rfl ?_
              exact ⟨by first | rfl | exact congrArg Value.bool (by simp), _, H⟩
          · refine rp_leaf ?_
            refine r_do rfl ?_
            refine b_alloc rfl ze_32 rfl H (fun b16 w H => ?_)
            refine l_nil ⟨(fun h => nomatch h), ?_⟩
            refine r_do rfl ?_
            refine b_buildSlice (cs := [B c]) rfl el_22 ze_5 rfl rfl rfl H (fun b103 w H => ?_)
            refine l_nil ⟨(fun h => nomatch h), ?_⟩
            refine r_do rfl ?_
            refine l_v rfl (q_bytesStr (bs := [c]) rfl by_22 st_9 rfl (Rd.mk (by first | exact H.cells0 0 rfl | exact H.cells0 1 rfl)) rfl) ?_
            refine l_nil ⟨(fun h => nomatch h), ?_⟩
            refine r_w rfl rfl (fun w => q_strAdd rfl rfl rfl (by simp only [ByteArray.size_append, ByteArray.size_extract, hhl, one_sz]; omega)) ?_
            refine r_w rfl rfl (fun w => q_strAdd rfl rfl rfl (by simp only [ByteArray.size_append, ByteArray.size_extract, hhl, one_sz]; omega)) ?_
            refine r_do rfl ?_
            refine b_call rfl cb_21 rfl (Parse_to H (v := List.replicate 32 0) (e := 190) (p := i) (by have e := parse_changed hh hi64 hdc; rw [← chg_data hl64 hi64 c _ hhl] at e; exact e)) (fun v w hv => ?_)
            obtain ⟨rfl, H⟩ := hv
            refine l_nil ⟨(fun h => nomatch h), ?_⟩
            refine r_ptup rfl rfl rfl ?_
            refine r_pagg rfl rfl rfl ?_
            refine r_pint rfl rfl rfl ?_
            refine r_pint rfl rfl rfl ?_
            refine r_do rfl ?_
            first | refine b_store (vs := (List.replicate 32 (0 : UInt8)).map B) rfl sz_32 rfl rfl rfl (by simp) (all1 _) H 0 rfl (by simp) (putL_all (by simp)) (fun w H => ?_) | refine b_store (vs := (List.replicate 32 (0 : UInt8)).map B) rfl sz_32 rfl rfl rfl (by simp) (all1 _) H 1 rfl (by simp) (putL_all (by simp)) (fun w H => ?_)
            refine l_nil ⟨(fun h => nomatch h), ?_⟩
            refine r_pint rfl rfl rfl ?_
            refine r_pint rfl rfl rfl ?_
            refine r_nil ?_
            refine w_seq ?_
            refine w_region ?_
            refine l_pint rfl rfl ?_
            refine b_call rfl cb_25 rfl (num_ok _) (fun v w hv => ?_)
            obtain ⟨rfl, rfl⟩ := hv
            refine l_pbool rfl rfl ?_
            refine l_pbool rfl rfl ?_
            refine l_split 118 rfl (fun h118 => ?_) (fun h118 => absurd h118 (by first | (simp; done) | (simp; omega) | (simp [*]; done)))
            try simp only [decide_eq_true_eq, decide_eq_false_iff_not, Bool.not_eq_true', Bool.not_eq_false', beq_iff_eq, beq_eq_false_iff_ne, bne_iff_ne, bne_eq_false_iff_eq, ne_eq, Int.not_lt, Int.not_le] at h118
            refine l_pint rfl rfl ?_
            refine l_pint rfl rfl ?_
            refine l_pbool rfl rfl ?_
            refine l_pickT (v := .bool _) rfl rfl rfl ?_
            refine l_pbool rfl rfl ?_
            refine l_nil ?_
            refine w_ret ?_
            refine fin1 (v := .bool _) rfl ?_
            exact ⟨by first | rfl | exact congrArg Value.bool (by simp), _, H⟩

end Go.Proofs.Ytcmmbjplekgihaa
