/- What the tree's laws are handed, as paths and hashes. -/
import Derived.Test.YtcmmhpkgjcepdaaTreArgs
import Derived.Test.YtcmmhpkgjcepdaaTre5
namespace Go.Proofs.Ytcmmhpkgjcepdaa
open Go.EW
set_option linter.unusedVariables false
def pathSh : Sh := .sl hashSh 32 32
theorem pathV_flat : ∀ l : List (List UInt8), (l.map fun h => h.map B).flatten = pathV l
  | [] => rfl
  | e :: l => by
    have := pathV_flat l
    rw [List.map_cons, List.flatten_cons, this]; rfl
theorem path_of {W : World} {cs : List Value} (h : pathSh.ok W cs) : ∃ (a : Option Addr) (n cap : Nat) (l : List (List UInt8)), cs = [.slice a n cap] ∧ l.length = n ∧ n ≤ cap ∧ cap * 32 ≤ reachBytes ∧ Rd W a (pathV l) ∧ PathOk l := by
  obtain ⟨a, n, cap, xss, rfl, hn, hc, hl, hr, he⟩ := h
  obtain ⟨l, rfl, hq⟩ := map_of (f := fun h : List UInt8 => h.map B) (Q := fun h => h.length = 32) (fun xs hx => hash_of (he xs hx).2)
  rw [pathV_flat] at hr
  exact ⟨a, n, cap, l, rfl, by simpa using hl, hn, hc, hr, hq⟩
theorem int_le {W : World} {x : Int} (h : (Sh.int .i64).ok W [.int .i64 x]) : -9223372036854775808 ≤ x ∧ x ≤ 9223372036854775807 := by
  obtain ⟨y, hy, hw⟩ := h
  simp only [List.cons.injEq, Value.int.injEq, true_and, and_true] at hy
  subst hy
  simpa [Lit.wf, IntKind.min, IntKind.max, IntKind.signed, IntKind.bits] using hw
theorem hash_val {W : World} {cs : Array Value} (h : hashSh.ok W (Value.agg cs).cells.toList) : ∃ bs : List UInt8, cs = (bs.map B).toArray ∧ bs.length = 32 := by
  obtain ⟨bs, e, hl⟩ := hash_of h
  refine ⟨bs, ?_, hl⟩
  apply Array.ext'
  simpa [Value.cells] using e
theorem ent_val {W : World} {cs : Array Value} (h : entSh.ok W (Value.agg cs).cells.toList) : ∃ e : Ent, cs = e.cells.toArray ∧ e.va.size ≤ 140737488351232 := by
  obtain ⟨e, he, hl⟩ := ent_of h
  refine ⟨e, ?_, hl⟩
  apply Array.ext'
  simpa [Value.cells] using he
def zhV : Value := .agg #[.int .u8 0, .int .u8 0, .int .u8 0, .int .u8 0, .int .u8 0, .int .u8 0, .int .u8 0, .int .u8 0, .int .u8 0, .int .u8 0, .int .u8 0, .int .u8 0, .int .u8 0, .int .u8 0, .int .u8 0, .int .u8 0, .int .u8 0, .int .u8 0, .int .u8 0, .int .u8 0, .int .u8 0, .int .u8 0, .int .u8 0, .int .u8 0, .int .u8 0, .int .u8 0, .int .u8 0, .int .u8 0, .int .u8 0, .int .u8 0, .int .u8 0, .int .u8 0]
def zeV : Value := .agg #[.int .i64 0, .int .i64 0, .int .i64 0, .int .i64 0, .string ⟨#[]⟩]
end Go.Proofs.Ytcmmhpkgjcepdaa
