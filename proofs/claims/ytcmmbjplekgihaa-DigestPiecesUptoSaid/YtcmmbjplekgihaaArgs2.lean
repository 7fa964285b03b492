/- What a law is handed as bytes and as parts, with a bound. -/
import Derived.Test.YtcmmbjplekgihaaArgs
import Derived.Test.YtcmmbjplekgihaaGlue4
namespace Go.EW
set_option linter.unusedVariables false
/-! what a law is handed, with a bound -/
theorem map_ofN {α β : Type} {f : α → β} {g : α → Nat} : ∀ {xss : List β} {Ns : List Nat} {Q : α → Prop}, Ns.length = xss.length → (∀ (i : Nat) (xs : β) (M : Nat), xss[i]? = some xs → Ns[i]? = some M → ∃ p, xs = f p ∧ Q p ∧ g p ≤ M) → ∃ l : List α, xss = l.map f ∧ (∀ p ∈ l, Q p) ∧ (l.map g).sum ≤ Ns.sum
  | [], Ns, _, _, _ => ⟨[], rfl, (fun p h => absurd h (by simp)), Nat.zero_le _⟩
  | xs :: xss, [], _, h, _ => by simp at h
  | xs :: xss, M :: Ns, Q, hl, h => by
    obtain ⟨p, hp, hq, hg⟩ := h 0 xs M rfl rfl
    obtain ⟨l, hll, hql, hgl⟩ := map_ofN (f := f) (g := g) (xss := xss) (Ns := Ns) (Q := Q) (by simpa using hl) (fun i ys K hi hK => h (i + 1) ys K (by simpa using hi) (by simpa using hK))
    refine ⟨p :: l, by rw [hp, hll]; rfl, fun r hr => ?_, by simp only [List.map_cons, List.sum_cons]; omega⟩
    rcases List.mem_cons.1 hr with rfl | hr
    · exact hq
    · exact hql r hr
theorem mem_le_sum {M : Nat} : ∀ {l : List Nat}, M ∈ l → M ≤ l.sum
  | x :: l, h => by
    simp only [List.sum_cons]
    rcases List.mem_cons.1 h with rfl | h
    · omega
    · have := mem_le_sum h; omega
theorem bytes_ofN {W : World} {N : Nat} {cs : List Value} (h : bytesSh.okN W N cs) : ∃ (a : Option Addr) (n cap : Nat) (bs : List UInt8), cs = [.slice a n cap] ∧ bs.length = n ∧ n ≤ cap ∧ n ≤ N ∧ Rd W a (bs.map B) := by
  obtain ⟨a, n, cap, xss, Ns, rfl, hn, hc, hl, hr, hNl, hnN, hsN, he⟩ := h
  obtain ⟨l, rfl, _, _⟩ := map_ofN (f := fun u : UInt8 => [B u]) (g := fun _ => 0) (Q := fun _ => True) (by rw [hNl, hl]) (fun i xs M hi hM => by
    obtain ⟨_, x, rfl, hw⟩ := he i xs M hi hM
    obtain ⟨u, hu⟩ := byte_of hw
    exact ⟨u, by rw [hu], trivial, Nat.zero_le _⟩)
  rw [flatten_one] at hr
  exact ⟨a, n, cap, l, rfl, by simpa using hl, hn, hnN, hr⟩
def partsSh : Sh := .sl bytesSh 1 24
theorem parts_ofN {W : World} {N : Nat} {cs : List Value} (h : partsSh.okN W N cs) : ∃ (a : Option Addr) (n cap : Nat) (ps : List (Option Addr × Nat × List UInt8)), cs = [.slice a n cap] ∧ ps.length = n ∧ n ≤ cap ∧ n ≤ N ∧ (ps.map (fun p => p.2.2.length)).sum ≤ N ∧
    Rd W a (ps.map (fun p => Value.slice p.1 p.2.2.length p.2.1)) ∧ ∀ p ∈ ps, Rd W p.1 (p.2.2.map B) ∧ p.2.2.length ≤ p.2.1 ∧ p.2.2.length ≤ N := by
  obtain ⟨a, n, cap, xss, Ns, rfl, hn, hc, hl, hr, hNl, hnN, hsN, he⟩ := h
  obtain ⟨l, rfl, hq, hs⟩ := map_ofN (f := fun p : Option Addr × Nat × List UInt8 => [Value.slice p.1 p.2.2.length p.2.1]) (g := fun p => p.2.2.length) (Q := fun p => Rd W p.1 (p.2.2.map B) ∧ p.2.2.length ≤ p.2.1 ∧ p.2.2.length ≤ N) (by rw [hNl, hl]) (fun i xs M hi hM => by
    obtain ⟨_, h2⟩ := he i xs M hi hM
    obtain ⟨a', n', cap', bs, rfl, hbl, hn', hnN', hr'⟩ := bytes_ofN h2
    have hMN : M ≤ Ns.sum := by
      have := List.mem_of_getElem? hM
      exact mem_le_sum this
    subst hbl
    exact ⟨(a', cap', bs), rfl, ⟨hr', hn', by show bs.length ≤ N; omega⟩, hnN'⟩)
  rw [flatten_one] at hr
  exact ⟨a, n, cap, l, rfl, by simpa using hl, hn, hnN, by omega, hr, hq⟩
end Go.EW
