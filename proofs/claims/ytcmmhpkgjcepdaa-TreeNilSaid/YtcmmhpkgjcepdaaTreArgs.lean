/- What the tree's laws are handed, as logs of entries. -/
import Derived.Test.YtcmmhpkgjcepdaaArgs
import Derived.Test.YtcmmhpkgjcepdaaTre3
namespace Go.Proofs.Ytcmmhpkgjcepdaa
open Go.EW
set_option linter.unusedVariables false
def opSh : Sh := .st 3 (.cons (.int .i64) 0 1 (.cons (.int .i64) 1 1 (.cons .str 2 1 .nil)))
def entSh : Sh := .st 5 (.cons (.int .i64) 0 1 (.cons (.int .i64) 1 1 (.cons opSh 2 3 .nil)))
def entsSh : Sh := .sl entSh 5 48
theorem ent_of {W : World} {cs : List Value} (h : entSh.ok W cs) : ∃ e : Ent, cs = e.cells ∧ e.va.size ≤ 140737488351232 := by
  obtain ⟨hl, ⟨x1, h1, _⟩, ⟨x2, h2, _⟩, ⟨hl3, ⟨x3, h3, _⟩, ⟨x4, h4, _⟩, ⟨s, h5, h6⟩, _⟩, _⟩ := h
  have hreach : reachBytes = 140737488351232 := rfl
  match cs, hl with
  | [a, b, c, d, e], _ =>
    simp only [List.drop_zero, List.take_succ_cons, List.take_zero, List.cons.injEq, and_true, List.drop_succ_cons] at h1 h2 h3 h4 h5
    subst h1; subst h2; subst h3; subst h4; subst h5
    exact ⟨⟨x1, x2, x3, x4, s⟩, rfl, by rw [hreach] at h6; exact h6⟩
theorem entsV_flat : ∀ l : List Ent, (l.map Ent.cells).flatten = entsV l
  | [] => rfl
  | e :: l => by
    have := entsV_flat l
    rw [List.map_cons, List.flatten_cons, this]; rfl
theorem ents_of {W : World} {cs : List Value} (h : entsSh.ok W cs) : ∃ (a : Option Addr) (n cap : Nat) (l : List Ent), cs = [.slice a n cap] ∧ l.length = n ∧ n ≤ cap ∧ cap * 48 ≤ reachBytes ∧ Rd W a (entsV l) ∧ EntsOk l := by
  obtain ⟨a, n, cap, xss, rfl, hn, hc, hl, hr, he⟩ := h
  obtain ⟨l, rfl, hq⟩ := map_of (f := Ent.cells) (Q := fun e => e.va.size ≤ 140737488351232) (fun xs hx => ent_of (he xs hx).2)
  rw [entsV_flat] at hr
  exact ⟨a, n, cap, l, rfl, by simpa using hl, hn, hc, hr, hq⟩
end Go.Proofs.Ytcmmhpkgjcepdaa
