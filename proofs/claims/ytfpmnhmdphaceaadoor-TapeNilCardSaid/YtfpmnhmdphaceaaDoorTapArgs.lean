/- The shapes of this seat's arguments. -/
import Derived.Test.YtfpmnhmdphaceaaDoorArgs
import Derived.Test.YtfpmnhmdphaceaaDoorTap30
namespace Go.Proofs.YtfpmnhmdphaceaaDoor
open Go.EW
set_option linter.unusedVariables false
def evtSh : Sh := .st 13 (.cons (.int .i64) 0 1 (.cons (.int .i64) 1 1 (.cons (.int .i64) 2 1 (.cons (.int .i64) 3 1 (.cons (.int .i64) 4 1 (.cons (.int .i64) 5 1 (.cons (.int .i64) 6 1 (.cons (.st 2 (.cons (.int .u64) 0 1 (.cons (.int .u64) 1 1 .nil))) 7 2 (.cons (.st 3 (.cons (.int .i64) 0 1 (.cons (.int .i64) 1 1 (.cons .str 2 1 .nil)))) 9 3 (.cons bytesSh 12 1 .nil))))))))))
theorem i64_wf {x : Int} (h : (Lit.int .i64 x).wf = true) : -9223372036854775808 ≤ x ∧ x ≤ 9223372036854775807 := by
  simpa [Lit.wf, IntKind.min, IntKind.max, IntKind.signed, IntKind.bits] using h
theorem u64_wf {x : Int} (h : (Lit.int .u64 x).wf = true) : 0 ≤ x ∧ x ≤ 18446744073709551615 := by
  simpa [Lit.wf, IntKind.min, IntKind.max, IntKind.signed, IntKind.bits] using h
theorem evt_of {W : World} {cs : List Value} (h : evtSh.ok W cs) : ∃ (e : Evt) (a : Option Addr) (c : Nat), cs = e.cells a c ∧ EvOk e ∧ e.bs.length ≤ c ∧ Rd W a (e.bs.map B) := by
  obtain ⟨hl, ⟨x0, h0, w0⟩, ⟨x1, h1, w1⟩, ⟨x2, h2, w2⟩, ⟨x3, h3, w3⟩, ⟨x4, h4, w4⟩, ⟨x5, h5, w5⟩, ⟨x6, h6, w6⟩, ⟨hl7, ⟨x7, h7, w7⟩, ⟨x8, h8, w8⟩, _⟩, ⟨hl9, ⟨x9, h9, w9⟩, ⟨x10, h10, w10⟩, ⟨s, h11, w11⟩, _⟩, h12, _⟩ := h
  obtain ⟨a, n, c, bs, e12, hbl, hnc, hcr, hr⟩ := bytes_of h12
  have hreach : reachBytes = 140737488351232 := rfl
  have q0 := i64_wf w0; have q1 := i64_wf w1; have q2 := i64_wf w2; have q3 := i64_wf w3; have q4 := i64_wf w4; have q5 := i64_wf w5; have q6 := i64_wf w6
  have q7 := u64_wf w7; have q8 := u64_wf w8; have q9 := i64_wf w9; have q10 := i64_wf w10
  match cs, hl with
  | [c0, c1, c2, c3, c4, c5, c6, c7, c8, c9, c10, c11, c12], _ =>
    simp only [List.drop_zero, List.take_succ_cons, List.take_zero, List.cons.injEq, and_true, List.drop_succ_cons] at h0 h1 h2 h3 h4 h5 h6 h7 h8 h9 h10 h11 e12
    subst h0; subst h1; subst h2; subst h3; subst h4; subst h5; subst h6; subst h7; subst h8; subst h9; subst h10; subst h11; subst e12
    subst hbl
    refine ⟨⟨x0, x1, x2, x3, x4, x5, x6, x7.toNat, x8.toNat, x9, x10, s, bs⟩, a, c, ?_, ?_, hnc, hr⟩
    · unfold Evt.cells N64
      rw [Int.toNat_of_nonneg q7.1, Int.toNat_of_nonneg q8.1]
    · refine ⟨fun i => ?_, ⟨q9.2, q10.2⟩, ⟨by show x7.toNat < _; omega, by show x8.toNat < _; omega⟩, by show s.size ≤ _; omega, by show bs.length ≤ _; omega⟩
      match i with
      | 0 => exact q1
      | 1 => exact q2
      | 2 => exact q3
      | 3 => exact q4
      | 4 => exact q5
      | (_ + 5) => exact q6
theorem evt_val {W : World} {cs : Array Value} (h : evtSh.ok W (Value.agg cs).cells.toList) : ∃ (e : Evt) (a : Option Addr) (c : Nat), cs = (e.cells a c).toArray ∧ EvOk e ∧ e.bs.length ≤ c ∧ Rd W a (e.bs.map B) := by
  obtain ⟨e, a, c, he, h1, h2, h3⟩ := evt_of h
  refine ⟨e, a, c, ?_, h1, h2, h3⟩
  apply Array.ext'
  simpa [Value.cells] using he
def evV : Value := .agg #[.int .i64 0, .int .i64 0, .int .i64 0, .int .i64 0, .int .i64 0, .int .i64 0, .int .i64 0, .int .u64 0, .int .u64 0, .int .i64 0, .int .i64 0, .string ⟨#[]⟩, .slice none 0 0]
end Go.Proofs.YtfpmnhmdphaceaaDoor
