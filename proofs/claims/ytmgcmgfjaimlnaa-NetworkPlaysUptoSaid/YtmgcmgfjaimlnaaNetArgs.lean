/- What the network's laws are handed, as lists of packets and of numbers. -/
import Derived.Test.YtmgcmgfjaimlnaaNet9
import Derived.Test.YtmgcmgfjaimlnaaGlueAll
namespace Go.Proofs.Ytmgcmgfjaimlnaa
open Go.EW
set_option linter.unusedVariables false
def bytesSh : Sh := .sl (.int .u8) 1 1
def pkSh : Sh := .st 3 (.cons (.int .i64) 0 1 (.cons (.int .i64) 1 1 (.cons bytesSh 2 1 .nil)))
theorem map_of {α β : Type} {f : α → β} {Q : α → Prop} : ∀ {xss : List β}, (∀ xs ∈ xss, ∃ p, xs = f p ∧ Q p) → ∃ l : List α, xss = l.map f ∧ ∀ p ∈ l, Q p
  | [], _ => ⟨[], rfl, fun p h => by cases h⟩
  | xs :: xss, h => by
    obtain ⟨p, hp, hq⟩ := h xs List.mem_cons_self
    obtain ⟨l, hl, hql⟩ := map_of (xss := xss) (fun ys hy => h ys (List.mem_cons_of_mem _ hy))
    refine ⟨p :: l, by rw [hp, hl]; rfl, fun r hr => ?_⟩
    rcases List.mem_cons.1 hr with rfl | hr
    · exact hq
    exact hql r hr
theorem flatten_one {α β : Type} (f : α → β) (l : List α) : (l.map fun x => [f x]).flatten = l.map f := by
  induction l with
  | nil => rfl
  | cons a l ih => rw [List.map_cons, List.flatten_cons, ih]; rfl
theorem byte_of {x : Int} (hw : (Lit.int .u8 x).wf = true) : ∃ u : UInt8, B u = .int .u8 x := by
  have hx2 : 0 ≤ x ∧ x ≤ 255 := by simpa [Lit.wf, IntKind.min, IntKind.max, IntKind.signed, IntKind.bits] using hw
  refine ⟨UInt8.ofNat x.toNat, ?_⟩
  have : (UInt8.ofNat x.toNat).toNat = x.toNat := by
    rw [UInt8.toNat_ofNat']
    exact Nat.mod_eq_of_lt (by omega)
  simp only [B, this, Int.toNat_of_nonneg hx2.1]
theorem bytes_of {W : World} {cs : List Value} (h : bytesSh.ok W cs) : ∃ (a : Option Addr) (n cap : Nat) (bs : List UInt8), cs = [.slice a n cap] ∧ bs.length = n ∧ n ≤ cap ∧ cap ≤ reachBytes ∧ Rd W a (bs.map B) := by
  obtain ⟨a, n, cap, xss, rfl, hn, hc, hl, hr, he⟩ := h
  obtain ⟨l, rfl, _⟩ := map_of (f := fun u : UInt8 => [B u]) (Q := fun _ => True) (fun xs hx => by
    obtain ⟨_, x, rfl, hw⟩ := he xs hx
    have hx2 : 0 ≤ x ∧ x ≤ 255 := by simpa [Lit.wf, IntKind.min, IntKind.max, IntKind.signed, IntKind.bits] using hw
    refine ⟨UInt8.ofNat x.toNat, ?_, trivial⟩
    have : (UInt8.ofNat x.toNat).toNat = x.toNat := by
      rw [UInt8.toNat_ofNat']
      exact Nat.mod_eq_of_lt (by omega)
    simp only [B, this, Int.toNat_of_nonneg hx2.1])
  rw [flatten_one] at hr
  exact ⟨a, n, cap, l, rfl, by simpa using hl, hn, by omega, hr⟩
/-- a packet that may be read -/
def PkOk (W : World) (p : Pk) : Prop := Rd W p.a (p.bs.map B) ∧ p.bs.length = p.n ∧ p.n ≤ reachBytes
theorem pk_of {W : World} {cs : List Value} (h : pkSh.ok W cs) : ∃ p : Pk, cs = p.cells ∧ PkOk W p := by
  obtain ⟨hl, ⟨fr, h1, _⟩, ⟨to, h2, _⟩, h3, _⟩ := h
  match cs, hl with
  | [x, y, z], _ =>
    obtain ⟨a, n, cap, bs, h8, h4, h5, h6, h7⟩ := bytes_of h3
    simp only [List.drop_zero, List.take_succ_cons, List.take_zero, List.cons.injEq, and_true, List.drop_succ_cons] at h1 h2 h8
    subst h1; subst h2; subst h8
    exact ⟨⟨fr, to, a, n, cap, bs⟩, rfl, h7, h4, by show n ≤ _; omega⟩
end Go.Proofs.Ytmgcmgfjaimlnaa
