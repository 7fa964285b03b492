/- The statement TreeGrowsSaid; without conditions of our own. -/
import Derived.Test.YtcmmhpkgjcepdaaTreArgs2
import Derived.Test.YtcmmhpkgjcepdaaTre37
import Derived.Test.YtcmmhpkgjcepdaaRows
namespace Go.Proofs.Ytcmmhpkgjcepdaa
open Go.EW
def opnSh : Sh := .st 8 (.cons (.int .i64) 0 1 (.cons entSh 1 5 (.cons (.int .i64) 6 1 (.cons (.int .i64) 7 1 .nil))))
def opnsSh : Sh := .sl opnSh 8 72
theorem opn_of {W : World} {cs : List Value} (h : opnSh.ok W cs) : ∃ x : Opn, cs = x.cells ∧ x.e.va.size ≤ 140737488351232 := by
  obtain ⟨hl, ⟨k, h1, _⟩, h2, ⟨x, h3, _⟩, ⟨y, h4, _⟩, _⟩ := h
  obtain ⟨e, he, hs⟩ := ent_of h2
  match cs, hl with
  | [c0, c1, c2, c3, c4, c5, c6, c7], _ =>
    simp only [List.drop_zero, List.take_succ_cons, List.take_zero, List.cons.injEq, and_true, List.drop_succ_cons, Ent.cells] at h1 h3 h4 he
    obtain ⟨rfl, rfl, rfl, rfl, rfl⟩ := he
    subst h1; subst h3; subst h4
    exact ⟨⟨k, e, x, y⟩, rfl, hs⟩
theorem opsV_flat : ∀ l : List Opn, (l.map Opn.cells).flatten = opsV l
  | [] => rfl
  | e :: l => by
    have := opsV_flat l
    rw [List.map_cons, List.flatten_cons, this]; rfl
theorem ops_of {W : World} {cs : List Value} (h : opnsSh.ok W cs) : ∃ (a : Option Addr) (n cap : Nat) (l : List Opn), cs = [.slice a n cap] ∧ l.length = n ∧ n ≤ cap ∧ cap * 72 ≤ reachBytes ∧ Rd W a (opsV l) ∧ OpsOk l := by
  obtain ⟨a, n, cap, xss, rfl, hn, hc, hl, hr, he⟩ := h
  obtain ⟨l, rfl, hq⟩ := map_of (f := Opn.cells) (Q := fun x => x.e.va.size ≤ 140737488351232) (fun xs hx => opn_of (he xs hx).2)
  rw [opsV_flat] at hr
  exact ⟨a, n, cap, l, rfl, by simpa using hl, hn, hc, hr, hq⟩
theorem grows_own : ownKnob Try.prog.godebug = none := by kernel_rfl
theorem grows_laid : laidOutB Try.prog = true := by kernel_rfl
theorem grows_walk (W : World) (args : List Value) (h : argsOk W [opnsSh] args) : Ok Try.prog 13 args.toArray W (fun v w' => v = .bool true ∧ ∃ S, St W w' S) := by
  obtain ⟨v0, args, rfl, h0, ⟨a0, n0, k0, e0⟩, h⟩ := argsOk_cons h
  obtain rfl := argsOk_nil h
  subst e0
  have hreach : reachBytes = 140737488351232 := rfl
  obtain ⟨a, n, cap, l, e, hl, hc, hN, hr, ho⟩ := ops_of h0
  simp only [Value.cells, List.cons.injEq, Value.slice.injEq, and_true] at e
  obtain ⟨rfl, rfl, rfl⟩ := e
  exact TreeGrows_ok (St.refl W) (RdIn.rdro hr) hl (by omega) ho
set_option maxRecDepth 100000 in
theorem grows_lifted (os : Os) (started : os.Started) (H : Type) (enc : TypeId × Value → H) :
    ReturnsInHanded {} Try.checked os 13 .any (Rows.treeGrowsSpec.pre6 enc Try.prog Try.f13 Rows.treeGrowsRow.domain false) (Rows.treeGrowsSpec.post enc Try.prog Try.f13 false true false false) :=
  lifted_true (C := Try.checked) (tb := 4) [opnsSh] grows_own started (by kernel_rfl) Try.func13
    (ChangeSpec.witness6 (enc := enc) (C := Try.checked) false ⟨#[], #[.slice none 0 0], []⟩ 8 (by kernel_rfl) (by kernel_rfl) (by kernel_rfl) (by kernel_rfl))
    rfl (fun ds h => by match ds, h with | [_], _ => rfl) rfl (by kernel_rfl) grows_laid (by kernel_rfl) (by kernel_rfl) grows_walk
theorem treeGrows_proved : Rows.TreeGrowsSaid :=
  OpenClaim.holds_of_wide 13 Try.f13 rfl rfl rfl rfl rfl rfl rfl ⟨rfl, rfl, rfl, rfl, rfl⟩ rfl rfl rfl rfl rfl (by kernel_rfl) Try.func13 (by kernel_rfl)
    (of_decide_eq_true (by kernel_rfl)) (by unfold Func.isWrapper; first | (rw [if_pos (by decide +kernel)]; kernel_rfl) | (rw [if_neg (by decide +kernel)]; exact ⟨rfl, rfl⟩))
    (fun os started H enc _ => grows_lifted os started H enc)
#print axioms treeGrows_proved
end Go.Proofs.Ytcmmhpkgjcepdaa
