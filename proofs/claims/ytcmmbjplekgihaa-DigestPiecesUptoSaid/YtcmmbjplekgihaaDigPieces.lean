/- The statement DigestPiecesUptoSaid: in whatever pieces, the digest of all bytes; under the statement's own bound, without conditions of our own. -/
import Derived.Test.YtcmmbjplekgihaaDigBulk
import Derived.Test.YtcmmbjplekgihaaDig23
namespace Go.Proofs.Ytcmmbjplekgihaa
open Go.EW
def boolsSh : Sh := .sl .bool 1 1
theorem bools_ofN {W : World} {N : Nat} {cs : List Value} (h : boolsSh.okN W N cs) : ∃ (a : Option Addr) (n cap : Nat) (qs : List Bool), cs = [.slice a n cap] ∧ qs.length = n ∧ n ≤ N ∧ Rd W a (qs.map Bo) := by
  obtain ⟨a, n, cap, xss, Ns, rfl, hn, hc, hl, hr, hNl, hnN, hsN, he⟩ := h
  obtain ⟨l, rfl, _, _⟩ := map_ofN (f := fun u : Bool => [Bo u]) (g := fun _ => 0) (Q := fun _ => True) (by rw [hNl, hl]) (fun i xs M hi hM => by
    obtain ⟨_, x, rfl⟩ := he i xs M hi hM
    exact ⟨x, rfl, trivial, Nat.zero_le _⟩)
  rw [flatten_one] at hr
  exact ⟨a, n, cap, l, rfl, by simpa using hl, hnN, hr⟩
theorem pieces_own : ownKnob Try.prog.godebug = none := by kernel_rfl
theorem pieces_laid : laidOutB Try.prog = true := by kernel_rfl
theorem pieces_walk (W : World) (args : List Value) (h : argsN W 1048576 [bytesSh, partsSh, boolsSh] args) : Ok Try.prog 4 args.toArray W (fun v w' => v = .bool true ∧ ∃ S, St W w' S) := by
  obtain ⟨v0, args, rfl, h0, ⟨a0, n0, c0, e0⟩, h⟩ := argsN_cons h
  obtain ⟨v1, args, rfl, h1, ⟨a1, n1, c1, e1⟩, h⟩ := argsN_cons h
  obtain ⟨v2, args, rfl, h2, ⟨a2, n2, c2, e2⟩, h⟩ := argsN_cons h
  obtain rfl := argsN_nil h
  subst e0; subst e1; subst e2
  obtain ⟨a, n, cap, l, e, hl, hc, hN, hr⟩ := bytes_ofN h0
  simp only [Value.cells, List.cons.injEq, Value.slice.injEq, and_true] at e
  obtain ⟨rfl, rfl, rfl⟩ := e
  obtain ⟨a', n', cap', ps, e, hl', hc', hN', hs', hr', hq'⟩ := parts_ofN h1
  simp only [Value.cells, List.cons.injEq, Value.slice.injEq, and_true] at e
  obtain ⟨rfl, rfl, rfl⟩ := e
  obtain ⟨a3, n3, cap3, qs, e, hl3, hN3, hr3⟩ := bools_ofN h2
  simp only [Value.cells, List.cons.injEq, Value.slice.injEq, and_true] at e
  obtain ⟨rfl, rfl, rfl⟩ := e
  subst hl; subst hl'; subst hl3
  exact DigestPieces_ok (St.refl W) (RdIn.rdro hr) hc hN (RdIn.rdro hr') (fun p hp => ⟨RdIn.rdro (hq' p hp).1, (hq' p hp).2.1⟩) hN' (by unfold joinL; rw [List.length_flatMap]; exact hs') (RdIn.rdro hr3) hN3
set_option maxRecDepth 100000 in
theorem pieces_lifted (os : Os) (started : os.Started) (H : Type) (enc : TypeId × Value → H) (F : Stop.Interp) :
    ReturnsInHanded {} Try.checked os 4 .any ((Rows.OpenSpec.upto Rows.digestPiecesSpec).pre6 enc Try.prog Try.f4 Rows.digestPiecesUptoRow.domain false) (((Rows.OpenSpec.upto Rows.digestPiecesSpec).at F).post enc Try.prog Try.f4 false true false false) :=
  lifted_upto (C := Try.checked) (kk := Rows.uptoSmall) (tb := 4) 1048576 [bytesSh, partsSh, boolsSh] bulk_law bulk_small pieces_own started (by kernel_rfl) Try.func4
    (OpenSpec.witness (enc := enc) (C := Try.checked) (s := Rows.OpenSpec.upto Rows.digestPiecesSpec) (k := Rows.uptoSmall) rfl false ⟨#[], #[.slice none 0 0, .slice none 0 0, .slice none 0 0], []⟩ 8 (by kernel_rfl) (by kernel_rfl) (by kernel_rfl)
      (x := ([.nil, .nil, .nil], [], [])) (by kernel_rfl) rfl (by kernel_rfl))
    rfl (fun ds h => by match ds, h with | [_, _, _], _ => rfl) rfl (by kernel_rfl) pieces_laid (by kernel_rfl) (by kernel_rfl) pieces_walk
theorem digestPieces_proved : Rows.DigestPiecesUptoSaid :=
  OpenClaim.holds_of_cond 4 Try.f4 rfl rfl rfl rfl rfl rfl rfl ⟨rfl, rfl, rfl, rfl, rfl⟩ rfl rfl rfl rfl rfl (by kernel_rfl) Try.func4 (by kernel_rfl)
    (of_decide_eq_true (by kernel_rfl)) (by unfold Func.isWrapper; first | (rw [if_pos (by decide +kernel)]; kernel_rfl) | (rw [if_neg (by decide +kernel)]; exact ⟨rfl, rfl⟩))
    (fun os started H enc _ F => pieces_lifted os started H enc F)
#print axioms digestPieces_proved
end Go.Proofs.Ytcmmbjplekgihaa
