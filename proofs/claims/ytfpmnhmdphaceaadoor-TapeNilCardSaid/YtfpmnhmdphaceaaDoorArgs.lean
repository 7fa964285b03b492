/- What a law is handed as bytes, as a hash, as numbers. -/
import Derived.Test.YtfpmnhmdphaceaaDoorGlueAll
namespace Go.EW
set_option linter.unusedVariables false
def bytesSh : Sh := .sl (.int .u8) 1 1
def intsSh : Sh := .sl (.int .i64) 1 8
theorem map_of {α β : Type} {f : α → β} {Q : α → Prop} : ∀ {xss : List β}, (∀ xs ∈ xss, ∃ p, xs = f p ∧ Q p) → ∃ l : List α, xss = l.map f ∧ ∀ p ∈ l, Q p
  | [], _ => ⟨[], rfl, fun p h => by cases h⟩
  | xs :: xss, h => by
    obtain ⟨p, hp, hq⟩ := h xs List.mem_cons_self
    obtain ⟨l, hl, hql⟩ := map_of (xss := xss) (fun ys hy => h ys (List.mem_cons_of_mem _ hy))
    refine ⟨p :: l, by rw [hp, hl]; rfl, fun r hr => ?_⟩
    rcases List.mem_cons.1 hr with rfl | hr
    · exact hq
    · exact hql r hr
theorem flatten_one {α β : Type} (f : α → β) (l : List α) : (l.map fun x => [f x]).flatten = l.map f := by
  induction l with
  | nil => rfl
  | cons a l ih => rw [List.map_cons, List.flatten_cons, ih]; rfl
theorem byte_of {x : Int} (hw : (Lit.int .u8 x).wf = true) : ∃ u : UInt8, B u = .int .u8 x := by
  have hx2 : 0 ≤ x ∧ x ≤ 255 := by simpa [Lit.wf, IntKind.min, IntKind.max, IntKind.signed, IntKind.bits] using hw
  refine ⟨UInt8.ofNat x.toNat, ?_⟩
  have : (UInt8.ofNat x.toNat).toNat = x.toNat := by
    rw [UInt8.toNat_ofNat']
    exact Nat.mod_eq_of_lt (by omega)
  simp only [B, this, Int.toNat_of_nonneg hx2.1]
theorem bytes_of {W : World} {cs : List Value} (h : bytesSh.ok W cs) : ∃ (a : Option Addr) (n cap : Nat) (bs : List UInt8), cs = [.slice a n cap] ∧ bs.length = n ∧ n ≤ cap ∧ cap ≤ reachBytes ∧ Rd W a (bs.map B) := by
  obtain ⟨a, n, cap, xss, rfl, hn, hc, hl, hr, he⟩ := h
  obtain ⟨l, rfl, _⟩ := map_of (f := fun u : UInt8 => [B u]) (Q := fun _ => True) (fun xs hx => by
    obtain ⟨_, x, rfl, hw⟩ := he xs hx
    have hx2 : 0 ≤ x ∧ x ≤ 255 := by simpa [Lit.wf, IntKind.min, IntKind.max, IntKind.signed, IntKind.bits] using hw
    refine ⟨UInt8.ofNat x.toNat, ?_, trivial⟩
    have : (UInt8.ofNat x.toNat).toNat = x.toNat := by
      rw [UInt8.toNat_ofNat']
      exact Nat.mod_eq_of_lt (by omega)
    simp only [B, this, Int.toNat_of_nonneg hx2.1])
  rw [flatten_one] at hr
  exact ⟨a, n, cap, l, rfl, by simpa using hl, hn, by omega, hr⟩
theorem ints_of {W : World} {cs : List Value} (h : intsSh.ok W cs) : ∃ (a : Option Addr) (n cap : Nat) (xs : List Int), cs = [.slice a n cap] ∧ xs.length = n ∧ n ≤ cap ∧ cap * 8 ≤ reachBytes ∧ Rd W a (xs.map I64) := by
  obtain ⟨a, n, cap, xss, rfl, hn, hc, hl, hr, he⟩ := h
  obtain ⟨l, rfl, _⟩ := map_of (f := fun u : Int => [I64 u]) (Q := fun _ => True) (fun xs hx => by
    obtain ⟨_, x, rfl, hw⟩ := he xs hx
    exact ⟨x, rfl, trivial⟩)
  rw [flatten_one] at hr
  exact ⟨a, n, cap, l, rfl, by simpa using hl, hn, hc, hr⟩
/-- the shape of a hash -/
def hashSh : Sh := .arr 32 (.int .u8) 1
theorem hash_of {W : World} {cs : List Value} (h : hashSh.ok W cs) : ∃ bs : List UInt8, cs = bs.map B ∧ bs.length = 32 := by
  obtain ⟨hl, he⟩ := h
  obtain ⟨l, hl2, hp⟩ := list_choose (n := 32) (p := fun i (u : UInt8) => (cs.drop (i * 1)).take 1 = [B u]) (fun i hi => by
    obtain ⟨x, hx, hw⟩ := he i hi
    obtain ⟨u, hu⟩ := byte_of hw
    exact ⟨u, by rw [hx, hu]⟩)
  refine ⟨l, ?_, hl2⟩
  refine List.ext_getElem? fun i => ?_
  by_cases hi : i < 32
  · have := hp i l[i] (List.getElem?_eq_getElem (by omega))
    rw [Nat.mul_one] at this
    have h2 : cs[i]? = some (B l[i]) := by
      have h3 : ((cs.drop i).take 1)[0]? = some (B l[i]) := by rw [this]; rfl
      simpa using h3
    rw [h2, List.getElem?_map, List.getElem?_eq_getElem (by omega)]; rfl
  · rw [List.getElem?_eq_none (by omega), List.getElem?_eq_none (by simp; omega)]
end Go.EW
