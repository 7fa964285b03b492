/- What the network's laws are handed, as scripts. -/
import Derived.Test.YtmgcmgfjaimlnaaNetArgs
import Derived.Test.YtmgcmgfjaimlnaaNet14
namespace Go.Proofs.Ytmgcmgfjaimlnaa
open Go.EW
set_option linter.unusedVariables false
def opSh : Sh := .st 8 (.cons (.int .i64) 0 1 (.cons (.int .i64) 1 1 (.cons (.int .i64) 2 1 (.cons (.int .u8) 3 1 (.cons pkSh 4 3 (.cons .bool 7 1 .nil))))))
def opsSh : Sh := .sl opSh 8 80
theorem op_of {W : World} {cs : List Value} (h : opSh.ok W cs) : ∃ o : OpS, cs = o.cells ∧ PkOk W o.pk := by
  obtain ⟨hl, ⟨x0, h0, _⟩, ⟨x1, h1, _⟩, ⟨x2, h2, _⟩, ⟨x3, h3, hw⟩, h4, ⟨x7, h7⟩, _⟩ := h
  match cs, hl with
  | [c0, c1, c2, c3, c4, c5, c6, c7], _ =>
    obtain ⟨p, h8, hp⟩ := pk_of h4
    simp only [List.drop_zero, List.take_succ_cons, List.take_zero, List.cons.injEq, and_true, List.drop_succ_cons, Pk.cells] at h0 h1 h2 h3 h7 h8
    obtain ⟨h8, h9, h10⟩ := h8
    obtain ⟨u, hu⟩ := byte_of hw
    subst h0; subst h1; subst h2; subst h3; subst h7; subst h8; subst h9; subst h10
    exact ⟨⟨x0, x1, x2, u, p, x7⟩, by simp only [OpS.cells, hu], hp⟩
theorem ops_of {W : World} {cs : List Value} (h : opsSh.ok W cs) : ∃ (a : Option Addr) (n cap : Nat) (l : List OpS), cs = [.slice a n cap] ∧ l.length = n ∧ n ≤ cap ∧ cap * 80 ≤ reachBytes ∧ Rd W a (opsL l) ∧ ∀ o ∈ l, PkOk W o.pk := by
  obtain ⟨a, n, cap, xss, rfl, hn, hc, hl, hr, he⟩ := h
  obtain ⟨l, rfl, hq⟩ := map_of (f := OpS.cells) (Q := fun o => PkOk W o.pk) (fun xs hx => op_of (he xs hx).2)
  exact ⟨a, n, cap, l, rfl, by simpa using hl, hn, hc, hr, hq⟩
theorem opgood_args {W : World} {l : List OpS} (h : ∀ o ∈ l, PkOk W o.pk) : OpGood W l := fun p hp => ⟨RdIn.rdro (h p hp).1, (h p hp).2.1, Nat.le_trans (h p hp).2.2 (by decide)⟩
end Go.Proofs.Ytmgcmgfjaimlnaa
