/- The statement TreeBindsSaid; without conditions of our own. -/
import Derived.Test.YtcmmhpkgjcepdaaTreArgs2
import Derived.Test.YtcmmhpkgjcepdaaTre28
import Derived.Test.YtcmmhpkgjcepdaaRows
namespace Go.Proofs.Ytcmmhpkgjcepdaa
open Go.EW
def saidSh : Sh := .st 8 (.cons (.int .i64) 0 1 (.cons entSh 1 5 (.cons pathSh 6 1 (.cons (.int .i64) 7 1 .nil))))
theorem said_of {W : World} {cs : List Value} (h : saidSh.ok W cs) : ∃ (x y : Int) (e : Ent) (a : Option Addr) (l : List (List UInt8)) (cap : Nat), cs = saidV x y e a l.length cap ∧ e.va.size ≤ 140737488351232 ∧ l.length ≤ cap ∧ cap * 32 ≤ reachBytes ∧ Rd W a (pathV l) ∧ PathOk l := by
  obtain ⟨hl, ⟨x, h1, _⟩, h2, h3, ⟨y, h4, _⟩, _⟩ := h
  obtain ⟨e, he, hs⟩ := ent_of h2
  obtain ⟨a, n, cap, l, h5, h6, h7, h8, h9, h10⟩ := path_of h3
  subst h6
  match cs, hl with
  | [c0, c1, c2, c3, c4, c5, c6, c7], _ =>
    simp only [List.drop_zero, List.take_succ_cons, List.take_zero, List.cons.injEq, and_true, List.drop_succ_cons, Ent.cells] at h1 h4 he h5
    obtain ⟨rfl, rfl, rfl, rfl, rfl⟩ := he
    subst h1; subst h4; subst h5
    exact ⟨x, y, e, a, l, cap, rfl, hs, h7, h8, h9, h10⟩
def zsV : Value := .agg #[.int .i64 0, .int .i64 0, .int .i64 0, .int .i64 0, .int .i64 0, .string ⟨#[]⟩, .slice none 0 0, .int .i64 0]
theorem binds_own : ownKnob Try.prog.godebug = none := by kernel_rfl
theorem binds_laid : laidOutB Try.prog = true := by kernel_rfl
theorem binds_walk (W : World) (args : List Value) (h : argsOk W [entsSh, saidSh, hashSh] args) : Ok Try.prog 6 args.toArray W (fun v w' => v = .bool true ∧ ∃ S, St W w' S) := by
  obtain ⟨v0, args, rfl, h0, ⟨a0, n0, k0, e0⟩, h⟩ := argsOk_cons h
  obtain ⟨v1, args, rfl, h1, ⟨c1, e1⟩, h⟩ := argsOk_cons h
  obtain ⟨v2, args, rfl, h2, ⟨c2, e2⟩, h⟩ := argsOk_cons h
  obtain rfl := argsOk_nil h
  subst e0; subst e1; subst e2
  have hreach : reachBytes = 140737488351232 := rfl
  obtain ⟨hh, rfl, hhhl⟩ := hash_val h2
  obtain ⟨a, n, cap, l, e, hl, hc, hN, hr, ho⟩ := ents_of h0
  simp only [Value.cells, List.cons.injEq, Value.slice.injEq, and_true] at e
  obtain ⟨rfl, rfl, rfl⟩ := e
  obtain ⟨x, y, en, pa, pl, pcap, ec, hs, hpc, hpb, hpr, hpo⟩ := said_of h1
  have e2 : c1 = (saidV x y en pa pl.length pcap).toArray := by
    apply Array.ext'
    simpa [Value.cells] using ec
  subst e2
  exact TreeBinds_ok (St.refl W) (RdIn.rdro hr) hl hc (by omega) ho x y hs hpo (RdIn.rdro hpr) hpc (by omega) hhhl
set_option maxRecDepth 100000 in
theorem binds_lifted (os : Os) (started : os.Started) (H : Type) (enc : TypeId × Value → H) :
    ReturnsInHanded {} Try.checked os 6 .any (Rows.treeBindsSpec.pre6 enc Try.prog Try.f6 Rows.treeBindsRow.domain false) (Rows.treeBindsSpec.post enc Try.prog Try.f6 false true false false) :=
  lifted_true (C := Try.checked) (tb := 4) [entsSh, saidSh, hashSh] binds_own started (by kernel_rfl) Try.func6
    (ChangeSpec.witness6 (enc := enc) (C := Try.checked) false ⟨#[], #[.slice none 0 0, zsV, zhV], []⟩ 8 (by kernel_rfl) (by kernel_rfl) (by kernel_rfl) (by kernel_rfl))
    rfl (fun ds h => by match ds, h with | [_, _, _], _ => rfl) rfl (by kernel_rfl) binds_laid (by kernel_rfl) (by kernel_rfl) binds_walk
theorem treeBinds_proved : Rows.TreeBindsSaid :=
  OpenClaim.holds_of_wide 6 Try.f6 rfl rfl rfl rfl rfl rfl rfl ⟨rfl, rfl, rfl, rfl, rfl⟩ rfl rfl rfl rfl rfl (by kernel_rfl) Try.func6 (by kernel_rfl)
    (of_decide_eq_true (by kernel_rfl)) (by unfold Func.isWrapper; first | (rw [if_pos (by decide +kernel)]; kernel_rfl) | (rw [if_neg (by decide +kernel)]; exact ⟨rfl, rfl⟩))
    (fun os started H enc _ => binds_lifted os started H enc)
#print axioms treeBinds_proved
end Go.Proofs.Ytcmmhpkgjcepdaa
