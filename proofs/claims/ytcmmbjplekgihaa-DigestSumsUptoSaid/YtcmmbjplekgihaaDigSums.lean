/- The statement DigestSumsUptoSaid: Sum of any bytes, Join of any parts; under the statement's own bound, without conditions of our own. -/
import Derived.Test.YtcmmbjplekgihaaDigBulk
import Derived.Test.YtcmmbjplekgihaaDig22
namespace Go.Proofs.Ytcmmbjplekgihaa
open Go.EW
theorem sums_own : ownKnob Try.prog.godebug = none := by kernel_rfl
theorem sums_laid : laidOutB Try.prog = true := by kernel_rfl
theorem sums_walk (W : World) (args : List Value) (h : argsN W 1048576 [bytesSh, partsSh] args) : Ok Try.prog 3 args.toArray W (fun v w' => v = .bool true ∧ ∃ S, St W w' S) := by
  obtain ⟨v0, args, rfl, h0, ⟨a0, n0, c0, e0⟩, h⟩ := argsN_cons h
  obtain ⟨v1, args, rfl, h1, ⟨a1, n1, c1, e1⟩, h⟩ := argsN_cons h
  obtain rfl := argsN_nil h
  subst e0; subst e1
  obtain ⟨a, n, cap, l, e, hl, hc, hN, hr⟩ := bytes_ofN h0
  simp only [Value.cells, List.cons.injEq, Value.slice.injEq, and_true] at e
  obtain ⟨rfl, rfl, rfl⟩ := e
  obtain ⟨a', n', cap', ps, e, hl', hc', hN', hs', hr', hq'⟩ := parts_ofN h1
  simp only [Value.cells, List.cons.injEq, Value.slice.injEq, and_true] at e
  obtain ⟨rfl, rfl, rfl⟩ := e
  subst hl; subst hl'
  exact DigestSums_ok (St.refl W) (RdIn.rdro hr) hc hN (RdIn.rdro hr') (fun p hp => ⟨RdIn.rdro (hq' p hp).1, (hq' p hp).2.1⟩) hN' (by unfold joinL; rw [List.length_flatMap]; exact hs')
set_option maxRecDepth 100000 in
theorem sums_lifted (os : Os) (started : os.Started) (H : Type) (enc : TypeId × Value → H) (F : Stop.Interp) :
    ReturnsInHanded {} Try.checked os 3 .any ((Rows.OpenSpec.upto Rows.digestSumsSpec).pre6 enc Try.prog Try.f3 Rows.digestSumsUptoRow.domain false) (((Rows.OpenSpec.upto Rows.digestSumsSpec).at F).post enc Try.prog Try.f3 false true false false) :=
  lifted_upto (C := Try.checked) (kk := Rows.uptoSmall) (tb := 4) 1048576 [bytesSh, partsSh] bulk_law bulk_small sums_own started (by kernel_rfl) Try.func3
    (OpenSpec.witness (enc := enc) (C := Try.checked) (s := Rows.OpenSpec.upto Rows.digestSumsSpec) (k := Rows.uptoSmall) rfl false ⟨#[], #[.slice none 0 0, .slice none 0 0], []⟩ 8 (by kernel_rfl) (by kernel_rfl) (by kernel_rfl)
      (x := ([.nil, .nil], [], [])) (by kernel_rfl) rfl (by kernel_rfl))
    rfl (fun ds h => by match ds, h with | [_, _], _ => rfl) rfl (by kernel_rfl) sums_laid (by kernel_rfl) (by kernel_rfl) sums_walk
theorem digestSums_proved : Rows.DigestSumsUptoSaid :=
  OpenClaim.holds_of_cond 3 Try.f3 rfl rfl rfl rfl rfl rfl rfl ⟨rfl, rfl, rfl, rfl, rfl⟩ rfl rfl rfl rfl rfl (by kernel_rfl) Try.func3 (by kernel_rfl)
    (of_decide_eq_true (by kernel_rfl)) (by unfold Func.isWrapper; first | (rw [if_pos (by decide +kernel)]; kernel_rfl) | (rw [if_neg (by decide +kernel)]; exact ⟨rfl, rfl⟩))
    (fun os started H enc _ F => sums_lifted os started H enc F)
#print axioms digestSums_proved
end Go.Proofs.Ytcmmbjplekgihaa
