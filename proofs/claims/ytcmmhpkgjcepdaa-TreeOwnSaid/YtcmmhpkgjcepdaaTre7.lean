/- The tree's length does what its contract says, and what a path comes to, as a plain function. -/
import Derived.Test.YtcmmhpkgjcepdaaTre6
import Derived.Test.YtcmmhpkgjcepdaaBaseAll
namespace Go.Proofs.Ytcmmhpkgjcepdaa
open Go.EW
attribute [local irreducible] EW.W EW.L EW.fin block8 outB shaL
set_option linter.unusedVariables false
set_option linter.unusedSimpArgs false
attribute [local irreducible] swp headH leafH nodeH inclN sidesN

def lenF : Nat → Nat → Nat → Bool → Nat
  | 0, _, _, _ => 0
  | f + 1, m, n, wh => if m = n then (bif wh then 0 else 1) else if m ≤ splitN n then lenF f m (splitN n) wh + 1 else lenF f (m - splitN n) (n - splitN n) false + 1
def lenN (m n : Nat) (wh : Bool) : Nat := lenF n m n wh
theorem lenF_fuel : ∀ (k m n : Nat) (wh : Bool) (f g : Nat), 1 ≤ m → m ≤ n → n ≤ k → n ≤ f → n ≤ g → lenF f m n wh = lenF g m n wh := by
  intro k
  induction k with
  | zero => intro m n wh f g h1 h2 h3; omega
  | succ k ih =>
    intro m n wh f g h1 h2 h3 hf hg
    match f, g, hf, hg with
    | 0, _, hf, _ => omega
    | _ + 1, 0, _, hg => omega
    | f + 1, g + 1, hf, hg =>
      rw [lenF, lenF]
      by_cases he : m = n
      · rw [if_pos he, if_pos he]
      · have hs := splitN_spec (n := n) (by omega)
        rw [if_neg he, if_neg he]
        by_cases hk : m ≤ splitN n
        · rw [if_pos hk, if_pos hk, ih m (splitN n) wh f g h1 hk (by omega) (by omega) (by omega)]
        · rw [if_neg hk, if_neg hk, ih (m - splitN n) (n - splitN n) false f g (by omega) (by omega) (by omega) (by omega) (by omega)]
theorem lenN_eq {m : Nat} {wh : Bool} (h1 : 1 ≤ m) : lenN m m wh = bif wh then 0 else 1 := by
  unfold lenN
  obtain ⟨f, rfl⟩ : ∃ f, m = f + 1 := ⟨m - 1, by omega⟩
  rw [lenF, if_pos rfl]
theorem lenN_ne {m n : Nat} {wh : Bool} (h1 : 1 ≤ m) (h2 : m < n) : lenN m n wh = if m ≤ splitN n then lenN m (splitN n) wh + 1 else lenN (m - splitN n) (n - splitN n) false + 1 := by
  have hs := splitN_spec (n := n) (by omega)
  unfold lenN
  obtain ⟨f, hf⟩ : ∃ f, n = f + 1 := ⟨n - 1, by omega⟩
  conv => lhs; rw [show lenF n m n wh = lenF (f + 1) m n wh from by rw [← hf]]
  rw [lenF, if_neg (by omega)]
  by_cases hk : m ≤ splitN n
  · rw [if_pos hk, if_pos hk, lenF_fuel n m (splitN n) wh f (splitN n) h1 hk (by omega) (by omega) (by omega)]
  · rw [if_neg hk, if_neg hk, lenF_fuel n (m - splitN n) (n - splitN n) false f (n - splitN n) (by omega) (by omega) (by omega) (by omega) (by omega)]
theorem lenF_le : ∀ (f m n : Nat) (wh : Bool), lenF f m n wh ≤ f
  | 0, _, _, _ => Nat.le_refl _
  | f + 1, m, n, wh => by
    rw [lenF]
    split
    · cases wh <;> simp
    · split
      · have := lenF_le f m (splitN n) wh; omega
      · have := lenF_le f (m - splitN n) (n - splitN n) false; omega
/-- what a path comes to: the head of the first m, and that of all n -/
def bothF : Nat → Nat → Nat → Bool → List UInt8 → List (List UInt8) → List UInt8 × List UInt8
  | 0, _, _, _, old, _ => (old, old)
  | f + 1, m, n, wh, old, p => if m = n then (bif wh then (old, old) else (p.getD 0 [], p.getD 0 [])) else
    if m ≤ splitN n then ((bothF f m (splitN n) wh old (p.take (p.length - 1))).1, nodeH (bothF f m (splitN n) wh old (p.take (p.length - 1))).2 (p.getD (p.length - 1) []))
    else (nodeH (p.getD (p.length - 1) []) (bothF f (m - splitN n) (n - splitN n) false old (p.take (p.length - 1))).1, nodeH (p.getD (p.length - 1) []) (bothF f (m - splitN n) (n - splitN n) false old (p.take (p.length - 1))).2)
def bothN (m n : Nat) (wh : Bool) (old : List UInt8) (p : List (List UInt8)) : List UInt8 × List UInt8 := bothF n m n wh old p
theorem bothF_fuel : ∀ (k m n : Nat) (wh : Bool) (old : List UInt8) (p : List (List UInt8)) (f g : Nat), 1 ≤ m → m ≤ n → n ≤ k → n ≤ f → n ≤ g → bothF f m n wh old p = bothF g m n wh old p := by
  intro k
  induction k with
  | zero => intro m n wh old p f g h1 h2 h3; omega
  | succ k ih =>
    intro m n wh old p f g h1 h2 h3 hf hg
    match f, g, hf, hg with
    | 0, _, hf, _ => omega
    | _ + 1, 0, _, hg => omega
    | f + 1, g + 1, hf, hg =>
      rw [bothF, bothF]
      by_cases he : m = n
      · rw [if_pos he, if_pos he]
      · have hs := splitN_spec (n := n) (by omega)
        rw [if_neg he, if_neg he]
        by_cases hk : m ≤ splitN n
        · rw [if_pos hk, if_pos hk, ih m (splitN n) wh old _ f g h1 hk (by omega) (by omega) (by omega)]
        · rw [if_neg hk, if_neg hk, ih (m - splitN n) (n - splitN n) false old _ f g (by omega) (by omega) (by omega) (by omega) (by omega)]
theorem bothN_eq {m : Nat} {wh : Bool} {old : List UInt8} {p : List (List UInt8)} (h1 : 1 ≤ m) : bothN m m wh old p = bif wh then (old, old) else (p.getD 0 [], p.getD 0 []) := by
  unfold bothN
  obtain ⟨f, rfl⟩ : ∃ f, m = f + 1 := ⟨m - 1, by omega⟩
  rw [bothF, if_pos rfl]
theorem bothN_le {m n : Nat} {wh : Bool} {old : List UInt8} {p : List (List UInt8)} (h1 : 1 ≤ m) (h2 : m < n) (hk : m ≤ splitN n) : bothN m n wh old p = ((bothN m (splitN n) wh old (p.take (p.length - 1))).1, nodeH (bothN m (splitN n) wh old (p.take (p.length - 1))).2 (p.getD (p.length - 1) [])) := by
  have hs := splitN_spec (n := n) (by omega)
  unfold bothN
  obtain ⟨f, hf⟩ : ∃ f, n = f + 1 := ⟨n - 1, by omega⟩
  conv => lhs; rw [show bothF n m n wh old p = bothF (f + 1) m n wh old p from by rw [← hf]]
  rw [bothF, if_neg (by omega), if_pos hk, bothF_fuel n m (splitN n) wh old _ f (splitN n) h1 hk (by omega) (by omega) (by omega)]
theorem bothN_gt {m n : Nat} {wh : Bool} {old : List UInt8} {p : List (List UInt8)} (h2 : m < n) (hk : splitN n < m) : bothN m n wh old p = (nodeH (p.getD (p.length - 1) []) (bothN (m - splitN n) (n - splitN n) false old (p.take (p.length - 1))).1, nodeH (p.getD (p.length - 1) []) (bothN (m - splitN n) (n - splitN n) false old (p.take (p.length - 1))).2) := by
  have hs := splitN_spec (n := n) (by omega)
  unfold bothN
  obtain ⟨f, hf⟩ : ∃ f, n = f + 1 := ⟨n - 1, by omega⟩
  conv => lhs; rw [show bothF n m n wh old p = bothF (f + 1) m n wh old p from by rw [← hf]]
  rw [bothF, if_neg (by omega), if_neg (by omega), bothF_fuel n (m - splitN n) (n - splitN n) false old _ f (n - splitN n) (by omega) (by omega) (by omega) (by omega) (by omega)]

theorem length_ok {w : World} {m n : Nat} (hm : 1 ≤ m) (hmn : m ≤ n) (hn : n ≤ 9223372036854775807) (wh : Bool) :
    Ok Try.prog 68 [.int .i64 (m : Int), .int .i64 (n : Int), .bool wh].toArray w (fun r w' => r = .int .i64 (lenN m n wh : Int) ∧ w' = w) := by
  refine enter (n := 31) (rs := #[.tmp 6]) Try.func68 rfl rfl rfl rfl ?_
  refine w_seq ?_
  refine w_region ?_
  refine l_pint rfl rfl ?_
  refine l_nil ?_
  refine w_seq ?_
  refine w_region ?_
  refine l_pint rfl rfl ?_
  refine l_nil ?_
  refine w_seq ?_
  refine w_block ?_
  refine w_loopG (G := Nat × Nat × Nat × Bool) [0, 1, 2, 7, 8, 9, 10, 11, 12, 13, 14, 15, 16, 17, 18, 19, 20, 21, 22, 23, 24, 25] (fun ⟨k, m', n', w'⟩ => [(0, .int .i64 ((m' : Nat) : Int)), (1, .int .i64 ((n' : Nat) : Int)), (2, .bool w'), (7, .int .i64 ((k : Nat) : Int))]) (fun mm ⟨k, m', n', w'⟩ ww => ww = w ∧ (mm = n' ∧ 1 ≤ m' ∧ m' ≤ n' ∧ k + n' ≤ n ∧ n' ≤ n) ∧ k + lenN m' n' w' = lenN m n wh) (fun _ => rfl) ?_ ?_
  · exact ⟨n, (0, m, n, wh), ⟨rfl, rfl, rfl, rfl, trivial⟩, rfl, ⟨rfl, hm, hmn, by omega, Nat.le_refl _⟩, by omega⟩
  · rintro mm ⟨k, m', n', w'⟩ ρ1 ww ⟨rfl, ⟨hmm, hm1, hmn1, hkn, hnn⟩, hlen⟩
    refine w_seq ?_
    refine w_seq ?_
    refine w_region ?_
    refine l_pint rfl rfl ?_
    refine l_pint rfl rfl ?_
    refine l_pbool rfl rfl ?_
    refine l_nil ?_
    refine w_cond rfl (fun c1 => ?_) (fun c1 => ?_)
    · try simp only [decide_eq_true_eq, decide_eq_false_iff_not, Bool.not_eq_true', Bool.not_eq_false', beq_iff_eq, beq_eq_false_iff_ne, bne_iff_ne, bne_eq_false_iff_eq, ne_eq, Int.not_lt, Int.not_le] at c1
      have hne : m' < n' := by omega
      have hsp := splitN_spec (n := n') (by omega)
      rw [lenN_ne hm1 hne] at hlen
      refine w_skip ?_
      refine w_block ?_
      refine w_seq ?_
      refine w_region ?_
      refine l_pint rfl rfl ?_
      refine b_call rfl cb_51 rfl (split_ok (n := n') ⟨by omega, by omega⟩) (fun v w hv => ?_)
      obtain ⟨rfl, rfl⟩ := hv
      refine l_pint rfl rfl ?_
      refine l_nil ?_
      refine w_seq ?_
      refine w_region ?_
      refine l_pint rfl rfl ?_
      first | refine l_v rfl (q_add rfl rfl rfl (by simp only [inK]; omega)) ?_ | refine l_pint rfl rfl ?_
      refine l_pint rfl rfl ?_
      refine l_nil ?_
      refine w_seq ?_
      refine w_region ?_
      refine l_pint rfl rfl ?_
      refine l_pint rfl rfl ?_
      refine l_pbool rfl rfl ?_
      refine l_nil ?_
      refine w_cond rfl (fun c2 => ?_) (fun c2 => ?_)
      · try simp only [decide_eq_true_eq, decide_eq_false_iff_not, Bool.not_eq_true', Bool.not_eq_false', beq_iff_eq, beq_eq_false_iff_ne, bne_iff_ne, bne_eq_false_iff_eq, ne_eq, Int.not_lt, Int.not_le] at c2
        rw [if_pos (by omega)] at hlen
        refine w_region ?_
        refine l_pint rfl rfl ?_
        refine l_pint rfl rfl ?_
        refine l_nil ?_
        refine ⟨by repeat' first | exact Agr.mix _ _ _ | exact Agr.refl _ _ | refine Agr.inner rfl ?_ | refine Agr.upd rfl ?_ | refine Agr.updL' rfl ?_, ?_⟩
        exact ⟨splitN n', (k + 1, m', splitN n', w'), by omega, ⟨rfl, rfl, rfl, by exact congrArg (Value.int IntKind.i64) (Int.natCast_succ k).symm, trivial⟩, rfl, ⟨rfl, by omega, by omega, by omega, by omega⟩, by omega⟩
      · try simp only [decide_eq_true_eq, decide_eq_false_iff_not, Bool.not_eq_true', Bool.not_eq_false', beq_iff_eq, beq_eq_false_iff_ne, bne_iff_ne, bne_eq_false_iff_eq, ne_eq, Int.not_lt, Int.not_le] at c2
        rw [if_neg (by omega)] at hlen
        refine w_region ?_
        refine l_pint rfl rfl ?_
        refine l_pint rfl rfl ?_
        first | refine l_v rfl (q_subN (a := m') (b := splitN n') rfl rfl rfl ⟨by omega, by omega⟩) ?_ | refine l_pint rfl rfl ?_
        refine l_pint rfl rfl ?_
        refine l_pint rfl rfl ?_
        first | refine l_v rfl (q_subN (a := n') (b := splitN n') rfl rfl rfl ⟨by omega, by omega⟩) ?_ | refine l_pint rfl rfl ?_
        refine l_pint rfl rfl ?_
        refine l_pint rfl rfl ?_
        refine l_pbool rfl rfl ?_
        refine l_nil ?_
        refine ⟨by repeat' first | exact Agr.mix _ _ _ | exact Agr.refl _ _ | refine Agr.inner rfl ?_ | refine Agr.upd rfl ?_ | refine Agr.updL' rfl ?_, ?_⟩
        exact ⟨n' - splitN n', (k + 1, m' - splitN n', n' - splitN n', false), by omega, ⟨rfl, rfl, rfl, by exact congrArg (Value.int IntKind.i64) (Int.natCast_succ k).symm, trivial⟩, rfl, ⟨rfl, by omega, by omega, by omega, by omega⟩, by omega⟩
    · try simp only [decide_eq_true_eq, decide_eq_false_iff_not, Bool.not_eq_true', Bool.not_eq_false', beq_iff_eq, beq_eq_false_iff_ne, bne_iff_ne, bne_eq_false_iff_eq, ne_eq, Int.not_lt, Int.not_le] at c1
      have he : m' = n' := by omega
      subst he
      rw [lenN_eq hm1] at hlen
      refine w_exit ?_
      refine w_seq ?_
      refine w_seq ?_
      refine w_region ?_
      refine l_pbool rfl rfl ?_
      refine l_pbool rfl rfl ?_
      refine l_nil ?_
      refine w_cond rfl (fun c3 => ?_) (fun c3 => ?_)
      · try simp only [decide_eq_true_eq, decide_eq_false_iff_not, Bool.not_eq_true', Bool.not_eq_false', beq_iff_eq, beq_eq_false_iff_ne, bne_iff_ne, bne_eq_false_iff_eq, ne_eq, Int.not_lt, Int.not_le] at c3
        refine w_region ?_
        refine l_pint rfl rfl ?_
        first | refine l_v rfl (q_add rfl rfl rfl (by simp only [inK]; omega)) ?_ | refine l_pint rfl rfl ?_
        refine l_pint rfl rfl ?_
        refine l_nil ?_
        refine w_seq ?_
        refine w_region ?_
        refine l_pint rfl rfl ?_
        refine l_pint rfl rfl ?_
        refine l_nil ?_
        refine w_ret ?_
        refine fin1 (v := .int _ _) rfl ?_
        refine ⟨?_, rfl⟩
        rw [← hlen]
        obtain rfl : w' = false := by simpa using c3
        exact congrArg (Value.int .i64) (by simp)
      · try simp only [decide_eq_true_eq, decide_eq_false_iff_not, Bool.not_eq_true', Bool.not_eq_false', beq_iff_eq, beq_eq_false_iff_ne, bne_iff_ne, bne_eq_false_iff_eq, ne_eq, Int.not_lt, Int.not_le] at c3
        refine w_skip ?_
        refine w_seq ?_
        refine w_region ?_
        refine l_pint rfl rfl ?_
        refine l_pint rfl rfl ?_
        refine l_nil ?_
        refine w_ret ?_
        refine fin1 (v := .int _ _) rfl ?_
        refine ⟨?_, rfl⟩
        rw [← hlen]
        obtain rfl : w' = true := by simpa using c3
        exact congrArg (Value.int .i64) (by simp)

end Go.Proofs.Ytcmmhpkgjcepdaa
