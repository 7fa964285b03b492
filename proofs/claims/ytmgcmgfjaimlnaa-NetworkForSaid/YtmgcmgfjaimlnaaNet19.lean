/- How often each place was counted; plain lists, no program. -/
import Derived.Test.YtmgcmgfjaimlnaaNet18
namespace Go.Proofs.Ytmgcmgfjaimlnaa
open Go.EW
attribute [local irreducible] EW.W EW.L EW.fin
set_option linter.unusedVariables false
set_option linter.unusedSimpArgs false
theorem forN_mem {to : Int} {l : List Pk} {k : Nat} : ∀ {m : Nat}, k ∈ forN to l m ↔ k < m ∧ (l[k]?.map Pk.to) = some to
  | 0 => by simp [forN]
  | m + 1 => by
    rw [forN, List.mem_append, forN_mem (m := m)]
    by_cases h : (l[m]?.map Pk.to) = some to
    · rw [if_pos h, List.mem_singleton]
      constructor
      · rintro (⟨h1, h2⟩ | rfl)
        · exact ⟨by omega, h2⟩
        exact ⟨by omega, h⟩
      rintro ⟨h1, h2⟩
      by_cases e : k = m
      · exact .inr e
      exact .inl ⟨by omega, h2⟩
    rw [if_neg h]
    constructor
    · rintro (⟨h1, h2⟩ | h1)
      · exact ⟨by omega, h2⟩
      cases h1
    rintro ⟨h1, h2⟩
    refine .inl ⟨?_, h2⟩
    by_cases e : k = m
    · subst e; exact absurd h2 h
    omega
theorem forN_sorted (to : Int) (l : List Pk) : ∀ m, (forN to l m).Pairwise (· < ·)
  | 0 => List.Pairwise.nil
  | m + 1 => by
    rw [forN]
    refine List.pairwise_append.2 ⟨forN_sorted to l m, ?_, ?_⟩
    · split
      · exact List.pairwise_singleton _ _
      exact List.Pairwise.nil
    intro a ha b hb
    have h1 := (forN_mem.1 ha).1
    split at hb
    · rw [List.mem_singleton.1 hb]; exact h1
    cases hb
theorem forN_lt {to : Int} {l : List Pk} {m i j : Nat} (hij : i < j) (hj : j < (forN to l m).length) : (forN to l m)[i]'(by omega) < (forN to l m)[j] :=
  List.pairwise_iff_getElem.1 (forN_sorted to l m) i j (by omega) hj hij
/-- how often each place was counted -/
def cntN (l : List Pk) (a : Int) (ds : List Nat) (k : Nat) : Int := if (l[k]?.map Pk.to).getD 0 < a ∨ k ∈ ds then 1 else 0
def cntV (l : List Pk) (a : Int) (ds : List Nat) : List Value := (List.range l.length).map fun k => I64 (cntN l a ds k)
theorem cntV_len (l : List Pk) (a : Int) (ds : List Nat) : (cntV l a ds).length = l.length := by unfold cntV; simp
theorem cntV_get {l : List Pk} {a : Int} {ds : List Nat} {k : Nat} (h : k < l.length) : (cntV l a ds)[k]? = some (I64 (cntN l a ds k)) := by
  unfold cntV; rw [List.getElem?_map, List.getElem?_range h]; rfl
theorem cntN_zero {a : Int} {l : List Pk} {m j : Nat} (hj : j < (forN a l m).length) : cntN l a ((forN a l m).take j) (forN a l m)[j] = 0 := by
  unfold cntN
  have h1 := (forN_mem.1 (List.getElem_mem hj)).2
  rw [if_neg]
  rintro (h | h)
  · rw [h1] at h; simp at h
  obtain ⟨i, hi, e⟩ := List.mem_take_iff_getElem.1 h
  have := forN_lt (to := a) (l := l) (m := m) (i := i) (j := j) (by omega) hj
  omega
theorem cntN_one {l : List Pk} {a : Int} {ds : List Nat} {k : Nat} (h : (l[k]?.map Pk.to).getD 0 < a ∨ k ∈ ds) : cntN l a ds k = 1 := if_pos h
theorem cntN_congr {l : List Pk} {a a' : Int} {ds ds' : List Nat} {k : Nat} (h : ((l[k]?.map Pk.to).getD 0 < a ∨ k ∈ ds) ↔ ((l[k]?.map Pk.to).getD 0 < a' ∨ k ∈ ds')) : cntN l a ds k = cntN l a' ds' k := by
  unfold cntN
  by_cases h1 : (l[k]?.map Pk.to).getD 0 < a ∨ k ∈ ds
  · rw [if_pos h1, if_pos (h.1 h1)]
  rw [if_neg h1, if_neg (fun h2 => h1 (h.2 h2))]
theorem take_mem {L : List Nat} {j : Nat} (hj : j < L.length) (k : Nat) : k ∈ L.take (j + 1) ↔ k ∈ L.take j ∨ k = L[j] := by
  rw [List.take_succ_eq_append_getElem hj, List.mem_append, List.mem_singleton]
theorem cntV_step {a : Int} {l : List Pk} {j : Nat} (hj : j < (forN a l l.length).length) : (cntV l a ((forN a l l.length).take j)).set (forN a l l.length)[j] (I64 1) = cntV l a ((forN a l l.length).take (j + 1)) := by
  refine List.ext_getElem? fun k => ?_
  rw [List.getElem?_set]
  have hjl := (forN_mem.1 (List.getElem_mem hj)).1
  by_cases e : (forN a l l.length)[j] = k
  · rw [if_pos e, if_pos (by rw [cntV_len]; exact hjl), ← e, cntV_get hjl]
    rw [cntN_one (.inr ((take_mem hj _).2 (.inr rfl)))]
  rw [if_neg e]
  by_cases hk : k < l.length
  · rw [cntV_get hk, cntV_get hk]
    rw [cntN_congr (l := l) (a := a) (a' := a) (k := k) (ds := (forN a l l.length).take j) (ds' := (forN a l l.length).take (j + 1))]
    rw [take_mem hj]
    have e' : ¬ k = (forN a l l.length)[j] := fun h => e h.symm
    simp [e']
  rw [List.getElem?_eq_none (by rw [cntV_len]; omega), List.getElem?_eq_none (by rw [cntV_len]; omega)]
theorem cntV_next {a : Int} {l : List Pk} : cntV l a ((forN a l l.length).take (forN a l l.length).length) = cntV l (a + 1) [] := by
  rw [List.take_of_length_le (Nat.le_refl _)]
  unfold cntV
  refine List.map_congr_left fun k hk => ?_
  have hk := List.mem_range.1 hk
  rw [cntN_congr (l := l) (a := a) (a' := a + 1) (k := k) (ds := forN a l l.length) (ds' := [])]
  rw [forN_mem, List.getElem?_eq_getElem hk]
  simp only [Option.map_some, Option.getD_some, Option.some.injEq, List.not_mem_nil, or_false, hk, true_and]
  constructor <;> omega
theorem cntV_start {l : List Pk} (h : ∀ p ∈ l, 0 ≤ p.to) : cntV l (-1) [] = repL l.length [I64 0] := by
  refine List.ext_getElem? fun k => ?_
  by_cases hk : k < l.length
  · rw [cntV_get hk]
    have h0 := h _ (List.getElem_mem hk)
    have : cntN l (-1) [] k = 0 := by
      unfold cntN
      rw [List.getElem?_eq_getElem hk, if_neg]
      simp; omega
    rw [this]
    rw [show repL l.length [I64 0] = List.replicate l.length (I64 0) from by unfold repL; induction l.length with | zero => rfl | succ n ih => rw [List.replicate_succ, List.flatten_cons, ih]; rfl]
    rw [List.getElem?_replicate, if_pos hk]
  rw [List.getElem?_eq_none (by rw [cntV_len]; omega), List.getElem?_eq_none (by rw [length_repL]; simp; omega)]
theorem cntV_all {l : List Pk} (h : ∀ p ∈ l, p.to ≤ 9) {k : Nat} (hk : k < l.length) : (cntV l 10 [])[k]? = some (I64 1) := by
  rw [cntV_get hk]
  have h0 := h _ (List.getElem_mem hk)
  have : cntN l 10 [] k = 1 := by
    unfold cntN
    rw [List.getElem?_eq_getElem hk, if_pos]
    simp; omega
  rw [this]
theorem row_cellN {W w : World} {S : List Seg} {T sz m cap k b : Nat} {a : Option Addr} {xs : List Value} {v : Value} {i : Nat} (H : St W w S) (hi : S[i]? = some (row T sz a m cap xs)) (ha : a = some ⟨b, 0, none⟩) (hk : xs[k]? = some v) : w.cell? ⟨b, 0 + k * 1, none⟩ = some v := by
  obtain ⟨b', h, hc⟩ := row_addr H hi hk
  rw [ha] at h
  cases h
  exact hc
end Go.Proofs.Ytmgcmgfjaimlnaa
