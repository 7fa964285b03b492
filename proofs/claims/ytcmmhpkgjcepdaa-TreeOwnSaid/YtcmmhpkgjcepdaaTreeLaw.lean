/- Turning a list of bools round, as a plain law. -/
import Derived.Test.YtcmmhpkgjcepdaaTextLaw
namespace Go.EW
set_option linter.unusedVariables false
/-! turning a list of bools round, two at a time -/
def swp (l : List Bool) : Nat → List Bool
  | 0 => l
  | i + 1 => ((swp l i).set i ((swp l i).getD (l.length - 1 - i) false)).set (l.length - 1 - i) ((swp l i).getD i false)
theorem swp_len (l : List Bool) : ∀ i, (swp l i).length = l.length
  | 0 => rfl
  | i + 1 => by simp [swp, swp_len l i]
theorem getD_set {l : List Bool} {i t : Nat} {b : Bool} (ht : t < l.length) : (l.set i b).getD t false = if i = t then b else l.getD t false := by
  rw [List.getD_eq_getElem?_getD, List.getElem?_set]
  by_cases h : i = t
  · subst h; rw [if_pos rfl, if_pos ht, if_pos rfl]; rfl
  · rw [if_neg h, if_neg h, List.getD_eq_getElem?_getD]
theorem swp_get (l : List Bool) : ∀ i, 2 * i ≤ l.length → ∀ t, t < l.length → (swp l i).getD t false = if t < i ∨ l.length - 1 - t < i then l.getD (l.length - 1 - t) false else l.getD t false
  | 0, _, t, ht => by rw [if_neg (by omega)]; rfl
  | i + 1, hi, t, ht => by
    have ih := swp_get l i (by omega)
    have hl := swp_len l i
    rw [swp, getD_set (by rw [List.length_set]; omega), getD_set (by omega), ih i (by omega), ih (l.length - 1 - i) (by omega), ih t ht]
    by_cases h1 : l.length - 1 - i = t
    · subst h1
      rw [if_pos rfl, if_neg (by omega), if_pos (by omega), show l.length - 1 - (l.length - 1 - i) = i by omega]
    · rw [if_neg h1]
      by_cases h2 : i = t
      · subst h2
        rw [if_pos rfl, if_neg (by omega), if_pos (by omega)]
      · rw [if_neg h2]
        by_cases h3 : t < i ∨ l.length - 1 - t < i
        · rw [if_pos h3, if_pos (by omega)]
        · rw [if_neg h3, if_neg (by omega)]
theorem swp_done (l : List Bool) {i : Nat} (h1 : 2 * i ≤ l.length) (h2 : l.length ≤ 2 * i + 1) : swp l i = l.reverse := by
  refine List.ext_getElem (by rw [swp_len, List.length_reverse]) fun t ht1 ht2 => ?_
  have ht : t < l.length := by rw [swp_len] at ht1; exact ht1
  have := swp_get l i h1 t ht
  rw [List.getD_eq_getElem?_getD, List.getElem?_eq_getElem ht1] at this
  rw [List.getElem_reverse]
  have h3 : (swp l i)[t] = l.getD (l.length - 1 - t) false := by
    rw [show (swp l i)[t] = (some (swp l i)[t]).getD false from rfl, this]
    split
    · rfl
    · rw [show l.length - 1 - t = t by omega]
  rw [h3, List.getD_eq_getElem?_getD, List.getElem?_eq_getElem (by omega)]
  rfl
end Go.EW
