/- A part of this claim. -/
import Derived.Test.YtcmmhpkgjcepdaaGlueAll
import Derived.Test.YtcmmhpkgjcepdaaTre3
import Derived.Test.YtcmmhpkgjcepdaaTre5
namespace Go.EW
set_option linter.unusedVariables false
def bytesSh : Sh := .sl (.int .u8) 1 1
def intsSh : Sh := .sl (.int .i64) 1 8
theorem map_of {α β : Type} {f : α → β} {Q : α → Prop} : ∀ {xss : List β}, (∀ xs ∈ xss, ∃ p, xs = f p ∧ Q p) → ∃ l : List α, xss = l.map f ∧ ∀ p ∈ l, Q p
  | [], _ => ⟨[], rfl, fun p h => by cases h⟩
  | xs :: xss, h => by
    obtain ⟨p, hp, hq⟩ := h xs List.mem_cons_self
    obtain ⟨l, hl, hql⟩ := map_of (xss := xss) (fun ys hy => h ys (List.mem_cons_of_mem _ hy))
    refine ⟨p :: l, by rw [hp, hl]; rfl, fun r hr => ?_⟩
    rcases List.mem_cons.1 hr with rfl | hr
    · exact hq
    · exact hql r hr
theorem flatten_one {α β : Type} (f : α → β) (l : List α) : (l.map fun x => [f x]).flatten = l.map f := by
  induction l with
  | nil => rfl
  | cons a l ih => rw [List.map_cons, List.flatten_cons, ih]; rfl
theorem byte_of {x : Int} (hw : (Lit.int .u8 x).wf = true) : ∃ u : UInt8, B u = .int .u8 x := by
  have hx2 : 0 ≤ x ∧ x ≤ 255 := by simpa [Lit.wf, IntKind.min, IntKind.max, IntKind.signed, IntKind.bits] using hw
  refine ⟨UInt8.ofNat x.toNat, ?_⟩
  have : (UInt8.ofNat x.toNat).toNat = x.toNat := by
    rw [UInt8.toNat_ofNat']
    exact Nat.mod_eq_of_lt (by omega)
  simp only [B, this, Int.toNat_of_nonneg hx2.1]
theorem bytes_of {W : World} {cs : List Value} (h : bytesSh.ok W cs) : ∃ (a : Option Addr) (n cap : Nat) (bs : List UInt8), cs = [.slice a n cap] ∧ bs.length = n ∧ n ≤ cap ∧ cap ≤ reachBytes ∧ Rd W a (bs.map B) := by
  obtain ⟨a, n, cap, xss, rfl, hn, hc, hl, hr, he⟩ := h
  obtain ⟨l, rfl, _⟩ := map_of (f := fun u : UInt8 => [B u]) (Q := fun _ => True) (fun xs hx => by
    obtain ⟨_, x, rfl, hw⟩ := he xs hx
    have hx2 : 0 ≤ x ∧ x ≤ 255 := by simpa [Lit.wf, IntKind.min, IntKind.max, IntKind.signed, IntKind.bits] using hw
    refine ⟨UInt8.ofNat x.toNat, ?_, trivial⟩
    have : (UInt8.ofNat x.toNat).toNat = x.toNat := by
      rw [UInt8.toNat_ofNat']
      exact Nat.mod_eq_of_lt (by omega)
    simp only [B, this, Int.toNat_of_nonneg hx2.1])
  rw [flatten_one] at hr
  exact ⟨a, n, cap, l, rfl, by simpa using hl, hn, by omega, hr⟩
theorem ints_of {W : World} {cs : List Value} (h : intsSh.ok W cs) : ∃ (a : Option Addr) (n cap : Nat) (xs : List Int), cs = [.slice a n cap] ∧ xs.length = n ∧ n ≤ cap ∧ cap * 8 ≤ reachBytes ∧ Rd W a (xs.map I64) := by
  obtain ⟨a, n, cap, xss, rfl, hn, hc, hl, hr, he⟩ := h
  obtain ⟨l, rfl, _⟩ := map_of (f := fun u : Int => [I64 u]) (Q := fun _ => True) (fun xs hx => by
    obtain ⟨_, x, rfl, hw⟩ := he xs hx
    exact ⟨x, rfl, trivial⟩)
  rw [flatten_one] at hr
  exact ⟨a, n, cap, l, rfl, by simpa using hl, hn, hc, hr⟩
/-- the shape of a hash -/
def hashSh : Sh := .arr 32 (.int .u8) 1
theorem hash_of {W : World} {cs : List Value} (h : hashSh.ok W cs) : ∃ bs : List UInt8, cs = bs.map B ∧ bs.length = 32 := by
  obtain ⟨hl, he⟩ := h
  obtain ⟨l, hl2, hp⟩ := list_choose (n := 32) (p := fun i (u : UInt8) => (cs.drop (i * 1)).take 1 = [B u]) (fun i hi => by
    obtain ⟨x, hx, hw⟩ := he i hi
    obtain ⟨u, hu⟩ := byte_of hw
    exact ⟨u, by rw [hx, hu]⟩)
  refine ⟨l, ?_, hl2⟩
  refine List.ext_getElem? fun i => ?_
  by_cases hi : i < 32
  · have := hp i l[i] (List.getElem?_eq_getElem (by omega))
    rw [Nat.mul_one] at this
    have h2 : cs[i]? = some (B l[i]) := by
      have h3 : ((cs.drop i).take 1)[0]? = some (B l[i]) := by rw [this]; rfl
      simpa using h3
    rw [h2, List.getElem?_map, List.getElem?_eq_getElem (by omega)]; rfl
  · rw [List.getElem?_eq_none (by omega), List.getElem?_eq_none (by simp; omega)]
end Go.EW
namespace Go.Proofs.Ytcmmhpkgjcepdaa
open Go.EW
set_option linter.unusedVariables false
def opSh : Sh := .st 3 (.cons (.int .i64) 0 1 (.cons (.int .i64) 1 1 (.cons .str 2 1 .nil)))
def entSh : Sh := .st 5 (.cons (.int .i64) 0 1 (.cons (.int .i64) 1 1 (.cons opSh 2 3 .nil)))
def entsSh : Sh := .sl entSh 5 48
theorem ent_of {W : World} {cs : List Value} (h : entSh.ok W cs) : ∃ e : Ent, cs = e.cells ∧ e.va.size ≤ 140737488351232 := by
  obtain ⟨hl, ⟨x1, h1, _⟩, ⟨x2, h2, _⟩, ⟨hl3, ⟨x3, h3, _⟩, ⟨x4, h4, _⟩, ⟨s, h5, h6⟩, _⟩, _⟩ := h
  have hreach : reachBytes = 140737488351232 := rfl
  match cs, hl with
  | [a, b, c, d, e], _ =>
    simp only [List.drop_zero, List.take_succ_cons, List.take_zero, List.cons.injEq, and_true, List.drop_succ_cons] at h1 h2 h3 h4 h5
    subst h1; subst h2; subst h3; subst h4; subst h5
    exact ⟨⟨x1, x2, x3, x4, s⟩, rfl, by rw [hreach] at h6; exact h6⟩
theorem entsV_flat : ∀ l : List Ent, (l.map Ent.cells).flatten = entsV l
  | [] => rfl
  | e :: l => by
    have := entsV_flat l
    rw [List.map_cons, List.flatten_cons, this]; rfl
theorem ents_of {W : World} {cs : List Value} (h : entsSh.ok W cs) : ∃ (a : Option Addr) (n cap : Nat) (l : List Ent), cs = [.slice a n cap] ∧ l.length = n ∧ n ≤ cap ∧ cap * 48 ≤ reachBytes ∧ Rd W a (entsV l) ∧ EntsOk l := by
  obtain ⟨a, n, cap, xss, rfl, hn, hc, hl, hr, he⟩ := h
  obtain ⟨l, rfl, hq⟩ := map_of (f := Ent.cells) (Q := fun e => e.va.size ≤ 140737488351232) (fun xs hx => ent_of (he xs hx).2)
  rw [entsV_flat] at hr
  exact ⟨a, n, cap, l, rfl, by simpa using hl, hn, hc, hr, hq⟩
end Go.Proofs.Ytcmmhpkgjcepdaa
namespace Go.Proofs.Ytcmmhpkgjcepdaa
open Go.EW
set_option linter.unusedVariables false
def pathSh : Sh := .sl hashSh 32 32
theorem pathV_flat : ∀ l : List (List UInt8), (l.map fun h => h.map B).flatten = pathV l
  | [] => rfl
  | e :: l => by
    have := pathV_flat l
    rw [List.map_cons, List.flatten_cons, this]; rfl
theorem path_of {W : World} {cs : List Value} (h : pathSh.ok W cs) : ∃ (a : Option Addr) (n cap : Nat) (l : List (List UInt8)), cs = [.slice a n cap] ∧ l.length = n ∧ n ≤ cap ∧ cap * 32 ≤ reachBytes ∧ Rd W a (pathV l) ∧ PathOk l := by
  obtain ⟨a, n, cap, xss, rfl, hn, hc, hl, hr, he⟩ := h
  obtain ⟨l, rfl, hq⟩ := map_of (f := fun h : List UInt8 => h.map B) (Q := fun h => h.length = 32) (fun xs hx => hash_of (he xs hx).2)
  rw [pathV_flat] at hr
  exact ⟨a, n, cap, l, rfl, by simpa using hl, hn, hc, hr, hq⟩
theorem int_le {W : World} {x : Int} (h : (Sh.int .i64).ok W [.int .i64 x]) : -9223372036854775808 ≤ x ∧ x ≤ 9223372036854775807 := by
  obtain ⟨y, hy, hw⟩ := h
  simp only [List.cons.injEq, Value.int.injEq, true_and, and_true] at hy
  subst hy
  simpa [Lit.wf, IntKind.min, IntKind.max, IntKind.signed, IntKind.bits] using hw
theorem hash_val {W : World} {cs : Array Value} (h : hashSh.ok W (Value.agg cs).cells.toList) : ∃ bs : List UInt8, cs = (bs.map B).toArray ∧ bs.length = 32 := by
  obtain ⟨bs, e, hl⟩ := hash_of h
  refine ⟨bs, ?_, hl⟩
  apply Array.ext'
  simpa [Value.cells] using e
theorem ent_val {W : World} {cs : Array Value} (h : entSh.ok W (Value.agg cs).cells.toList) : ∃ e : Ent, cs = e.cells.toArray ∧ e.va.size ≤ 140737488351232 := by
  obtain ⟨e, he, hl⟩ := ent_of h
  refine ⟨e, ?_, hl⟩
  apply Array.ext'
  simpa [Value.cells] using he
def zhV : Value := .agg #[.int .u8 0, .int .u8 0, .int .u8 0, .int .u8 0, .int .u8 0, .int .u8 0, .int .u8 0, .int .u8 0, .int .u8 0, .int .u8 0, .int .u8 0, .int .u8 0, .int .u8 0, .int .u8 0, .int .u8 0, .int .u8 0, .int .u8 0, .int .u8 0, .int .u8 0, .int .u8 0, .int .u8 0, .int .u8 0, .int .u8 0, .int .u8 0, .int .u8 0, .int .u8 0, .int .u8 0, .int .u8 0, .int .u8 0, .int .u8 0, .int .u8 0, .int .u8 0]
def zeV : Value := .agg #[.int .i64 0, .int .i64 0, .int .i64 0, .int .i64 0, .string ⟨#[]⟩]
end Go.Proofs.Ytcmmhpkgjcepdaa
