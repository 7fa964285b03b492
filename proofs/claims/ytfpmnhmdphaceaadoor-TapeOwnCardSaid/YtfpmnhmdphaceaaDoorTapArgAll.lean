/- Walks through the tape's functions. -/
import Derived.Test.YtfpmnhmdphaceaaDoorGlueAll
import Derived.Test.YtfpmnhmdphaceaaDoorTap30
import Derived.Test.YtfpmnhmdphaceaaDoorTap33
namespace Go.EW
set_option linter.unusedVariables false
def bytesSh : Sh := .sl (.int .u8) 1 1
theorem map_of {α β : Type} {f : α → β} {Q : α → Prop} : ∀ {xss : List β}, (∀ xs ∈ xss, ∃ p, xs = f p ∧ Q p) → ∃ l : List α, xss = l.map f ∧ ∀ p ∈ l, Q p
  | [], _ => ⟨[], rfl, fun p h => by cases h⟩
  | xs :: xss, h => by
    obtain ⟨p, hp, hq⟩ := h xs List.mem_cons_self
    obtain ⟨l, hl, hql⟩ := map_of (xss := xss) (fun ys hy => h ys (List.mem_cons_of_mem _ hy))
    refine ⟨p :: l, by rw [hp, hl]; rfl, fun r hr => ?_⟩
    rcases List.mem_cons.1 hr with rfl | hr
    · exact hq
    exact hql r hr
theorem flatten_one {α β : Type} (f : α → β) (l : List α) : (l.map fun x => [f x]).flatten = l.map f := by
  induction l with
  | nil => rfl
  | cons a l ih => rw [List.map_cons, List.flatten_cons, ih]; rfl
theorem bytes_of {W : World} {cs : List Value} (h : bytesSh.ok W cs) : ∃ (a : Option Addr) (n cap : Nat) (bs : List UInt8), cs = [.slice a n cap] ∧ bs.length = n ∧ n ≤ cap ∧ cap ≤ reachBytes ∧ Rd W a (bs.map B) := by
  obtain ⟨a, n, cap, xss, rfl, hn, hc, hl, hr, he⟩ := h
  obtain ⟨l, rfl, _⟩ := map_of (f := fun u : UInt8 => [B u]) (Q := fun _ => True) (fun xs hx => by
    obtain ⟨_, x, rfl, hw⟩ := he xs hx
    have hx2 : 0 ≤ x ∧ x ≤ 255 := by simpa [Lit.wf, IntKind.min, IntKind.max, IntKind.signed, IntKind.bits] using hw
    refine ⟨UInt8.ofNat x.toNat, ?_, trivial⟩
    have : (UInt8.ofNat x.toNat).toNat = x.toNat := by
      rw [UInt8.toNat_ofNat']
      exact Nat.mod_eq_of_lt (by omega)
    simp only [B, this, Int.toNat_of_nonneg hx2.1])
  rw [flatten_one] at hr
  exact ⟨a, n, cap, l, rfl, by simpa using hl, hn, by omega, hr⟩
end Go.EW
namespace Go.Proofs.YtfpmnhmdphaceaaDoor
open Go.EW
set_option linter.unusedVariables false
def evtSh : Sh := .st 13 (.cons (.int .i64) 0 1 (.cons (.int .i64) 1 1 (.cons (.int .i64) 2 1 (.cons (.int .i64) 3 1 (.cons (.int .i64) 4 1 (.cons (.int .i64) 5 1 (.cons (.int .i64) 6 1 (.cons (.st 2 (.cons (.int .u64) 0 1 (.cons (.int .u64) 1 1 .nil))) 7 2 (.cons (.st 3 (.cons (.int .i64) 0 1 (.cons (.int .i64) 1 1 (.cons .str 2 1 .nil)))) 9 3 (.cons bytesSh 12 1 .nil))))))))))
theorem i64_wf {x : Int} (h : (Lit.int .i64 x).wf = true) : -9223372036854775808 ≤ x ∧ x ≤ 9223372036854775807 := by
  simpa [Lit.wf, IntKind.min, IntKind.max, IntKind.signed, IntKind.bits] using h
theorem u64_wf {x : Int} (h : (Lit.int .u64 x).wf = true) : 0 ≤ x ∧ x ≤ 18446744073709551615 := by
  simpa [Lit.wf, IntKind.min, IntKind.max, IntKind.signed, IntKind.bits] using h
theorem evt_of {W : World} {cs : List Value} (h : evtSh.ok W cs) : ∃ (e : Evt) (a : Option Addr) (c : Nat), cs = e.cells a c ∧ EvOk e ∧ e.bs.length ≤ c ∧ Rd W a (e.bs.map B) := by
  obtain ⟨hl, ⟨x0, h0, w0⟩, ⟨x1, h1, w1⟩, ⟨x2, h2, w2⟩, ⟨x3, h3, w3⟩, ⟨x4, h4, w4⟩, ⟨x5, h5, w5⟩, ⟨x6, h6, w6⟩, ⟨hl7, ⟨x7, h7, w7⟩, ⟨x8, h8, w8⟩, _⟩, ⟨hl9, ⟨x9, h9, w9⟩, ⟨x10, h10, w10⟩, ⟨s, h11, w11⟩, _⟩, h12, _⟩ := h
  obtain ⟨a, n, c, bs, e12, hbl, hnc, hcr, hr⟩ := bytes_of h12
  have hreach : reachBytes = 140737488351232 := rfl
  have q0 := i64_wf w0; have q1 := i64_wf w1; have q2 := i64_wf w2; have q3 := i64_wf w3; have q4 := i64_wf w4; have q5 := i64_wf w5; have q6 := i64_wf w6
  have q7 := u64_wf w7; have q8 := u64_wf w8; have q9 := i64_wf w9; have q10 := i64_wf w10
  match cs, hl with
  | [c0, c1, c2, c3, c4, c5, c6, c7, c8, c9, c10, c11, c12], _ =>
    simp only [List.drop_zero, List.take_succ_cons, List.take_zero, List.cons.injEq, and_true, List.drop_succ_cons] at h0 h1 h2 h3 h4 h5 h6 h7 h8 h9 h10 h11 e12
    subst h0; subst h1; subst h2; subst h3; subst h4; subst h5; subst h6; subst h7; subst h8; subst h9; subst h10; subst h11; subst e12
    subst hbl
    refine ⟨⟨x0, x1, x2, x3, x4, x5, x6, x7.toNat, x8.toNat, x9, x10, s, bs⟩, a, c, ?_, ?_, hnc, hr⟩
    · unfold Evt.cells N64
      rw [Int.toNat_of_nonneg q7.1, Int.toNat_of_nonneg q8.1]
    refine ⟨fun i => ?_, ⟨q9.2, q10.2⟩, ⟨by show x7.toNat < _; omega, by show x8.toNat < _; omega⟩, by show s.size ≤ _; omega, by show bs.length ≤ _; omega⟩
    match i with
    | 0 => exact q1
    | 1 => exact q2
    | 2 => exact q3
    | 3 => exact q4
    | 4 => exact q5
    | (_ + 5) => exact q6
end Go.Proofs.YtfpmnhmdphaceaaDoor
namespace Go.Proofs.YtfpmnhmdphaceaaDoor
open Go.EW
set_option linter.unusedVariables false
def stpSh : Sh := .st 5 (.cons (.st 4 (.cons (.int .i64) 0 1 (.cons (.int .i64) 1 1 (.cons (.int .i64) 2 1 (.cons .bool 3 1 .nil))))) 0 4 (.cons (.sl (.st 1 (.cons (.int .i64) 0 1 .nil)) 1 8) 4 1 .nil))
def evsSh : Sh := .sl evtSh 13 128
theorem stp_val {W : World} {cs : Array Value} (h : stpSh.ok W (Value.agg cs).cells.toList) : ∃ (s : Stp) (a : Option Addr) (c : Nat), cs = (s.cells a c).toArray ∧ StpOk s ∧ Rd W a (intsV s.cls) ∧ s.cls.length ≤ 140737488351232 := by
  have hc : (Value.agg cs).cells.toList = cs.toList := rfl
  rw [hc] at h
  obtain ⟨hl, ⟨hl4, ⟨x0, h0, w0⟩, ⟨x1, h1, w1⟩, ⟨x2, h2, w2⟩, ⟨x3, h3⟩, _⟩, ⟨a, n, cap, xss, h4, hn, hcp, hlx, hr, he⟩, _⟩ := h
  have hreach : reachBytes = 140737488351232 := rfl
  obtain ⟨l, rfl, hq⟩ := map_of (f := fun u : Int => [I u]) (Q := fun u => u ≤ 9223372036854775807) (fun xs hx => by
    obtain ⟨h1, h2⟩ := he xs hx
    obtain ⟨_, ⟨x, h3, hw⟩, _⟩ := h2
    refine ⟨x, ?_, (i64_wf hw).2⟩
    match xs, h1 with
    | [y], _ => simpa using h3)
  rw [flatten_one] at hr
  match hcs : cs.toList, hl with
  | [c0, c1, c2, c3, c4], _ =>
    rw [hcs] at h0 h1 h2 h3 h4
    simp only [List.drop_zero, List.take_succ_cons, List.take_zero, List.cons.injEq, and_true, List.drop_succ_cons] at h0 h1 h2 h3 h4
    subst h0; subst h1; subst h2; subst h3; subst h4
    have hln : l.length = n := by simpa using hlx
    subst hln
    refine ⟨⟨x0, x1, x2, x3, l⟩, a, cap, ?_, fun x hx => hq x hx, hr, by show l.length ≤ _; omega⟩
    apply Array.ext'
    rw [hcs]; rfl
theorem evs_of {W : World} {cs : List Value} (h : evsSh.ok W cs) : ∃ (a : Option Addr) (n cap : Nat) (es : List EvM), cs = [.slice a n cap] ∧ es.length = n ∧ n ≤ cap ∧ cap * 128 ≤ reachBytes ∧ Rd W a (evsV es) ∧ ∀ x ∈ es, EvOk x.e ∧ Rd W x.a (x.e.bs.map B) := by
  obtain ⟨a, n, cap, xss, rfl, hn, hc, hl, hr, he⟩ := h
  obtain ⟨l, rfl, hq⟩ := map_of (f := EvM.cells) (Q := fun x => EvOk x.e ∧ Rd W x.a (x.e.bs.map B)) (fun xs hx => by
    obtain ⟨e, a, c, h1, h2, h3, h4⟩ := evt_of (he xs hx).2
    exact ⟨⟨e, a, c⟩, h1, h2, h4⟩)
  refine ⟨a, n, cap, l, rfl, by simpa using hl, hn, hc, ?_, hq⟩
  unfold evsV
  rw [List.flatMap_def]
  exact hr
theorem evs_in {W : World} {F : List Seg} {es : List EvM} (h : ∀ x ∈ es, EvOk x.e ∧ Rd W x.a (x.e.bs.map B)) : EvsIn W [] es := fun x hx => ⟨RdIn.rdro (h x hx).2, (h x hx).1⟩
end Go.Proofs.YtfpmnhmdphaceaaDoor
