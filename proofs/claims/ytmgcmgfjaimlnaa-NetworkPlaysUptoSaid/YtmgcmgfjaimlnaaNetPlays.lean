/- The law NetworkPlays holds of every argument of bulk at most 1048576. -/
import Derived.Test.YtmgcmgfjaimlnaaNetOps
import Derived.Test.YtmgcmgfjaimlnaaNetBulk
import Derived.Test.YtmgcmgfjaimlnaaNet34
namespace Go.Proofs.Ytmgcmgfjaimlnaa
open Go.EW
theorem okN_ok {W : World} : ∀ (sh : Sh) (N : Nat) (cs : List Value), sh.okN W N cs → sh.ok W cs
  | .int _, _, _, h => h
  | .bool, _, _, h => h
  | .str, _, _, ⟨s, h1, h2, _⟩ => ⟨s, h1, h2⟩
  | .sl e _ _, _, _, ⟨a, n, cap, xss, Ns, h1, h2, h3, h4, h5, h6, _, _, h9⟩ => ⟨a, n, cap, xss, h1, h2, h3, h4, h5, fun xs hx => by
      obtain ⟨i, hi, rfl⟩ := List.getElem_of_mem hx
      have h10 := h9 i _ (Ns[i]'(by omega)) (List.getElem?_eq_getElem hi) (List.getElem?_eq_getElem (by omega))
      exact ⟨h10.1, okN_ok e _ _ h10.2⟩⟩
  | .st _ fs, N, cs, h => ⟨h.1, okN_ok fs N cs h.2⟩
  | .nil, _, _, _ => trivial
  | .cons f _ _ r, N, cs, h => ⟨okN_ok f N _ h.1, okN_ok r N cs h.2⟩
  | .arr _ e _, N, _, h => ⟨h.1, fun i hi => okN_ok e N _ (h.2 i hi)⟩
theorem plays_ok {W w : World} {F : List Seg} (H : St W w F) (nodes clients : Int) (nn : Bool) {oa : Option Addr} {oc : Nat} {os : List OpS} (hro : RdIn W [] oa (opsL os)) (hgo : OpGood W os) (hon : os.length ≤ 1048576) :
    Ok Try.prog 8 [.int .i64 nodes, .int .i64 clients, .bool nn, .slice oa os.length oc].toArray w (fun v w' => v = .bool true ∧ ∃ S, St W w' S) := by
  by_cases hval : NVal nodes clients <;> cases nn
  · exact plays_yes H nodes clients hval hro hgo hon
  · exact plays_nil H nodes clients hval hro hgo hon
  · exact plays_works H nodes clients hval hro hgo hon
  exact plays_bad H nodes clients hval hro hgo hon
theorem pl_own : ownKnob Try.prog.godebug = none := by kernel_rfl
theorem pl_laid : laidOutB Try.prog = true := by kernel_rfl
theorem pl_walk (W : World) (args : List Value) (h : argsN W 1048576 [.int .i64, .int .i64, .bool, opsSh] args) : Ok Try.prog 8 args.toArray W (fun v w' => v = .bool true ∧ ∃ S, St W w' S) := by
  obtain ⟨v0, args, rfl, h0, ⟨x0, e0⟩, h⟩ := argsN_cons h
  obtain ⟨v1, args, rfl, h1, ⟨x1, e1⟩, h⟩ := argsN_cons h
  obtain ⟨v2, args, rfl, h2, ⟨x2, e2⟩, h⟩ := argsN_cons h
  obtain ⟨v3, args, rfl, h3, ⟨a3, n3, c3, e3⟩, h⟩ := argsN_cons h
  obtain rfl := argsN_nil h
  subst e0; subst e1; subst e2; subst e3
  obtain ⟨oa, on, oc, xs, e, hl, hn, hc, hr, hg⟩ := ops_of (okN_ok _ _ _ h3)
  simp only [Value.cells, List.cons.injEq, Value.slice.injEq, and_true] at e
  obtain ⟨rfl, rfl, rfl⟩ := e
  obtain ⟨b3, m3, d3, _, _, q, _, _, _, _, _, hN, _⟩ := h3
  simp only [Value.cells, List.cons.injEq, Value.slice.injEq, and_true] at q
  obtain ⟨rfl, rfl, rfl⟩ := q
  subst hl
  exact plays_ok (St.refl W) x0 x1 x2 (RdIn.rdro hr) (opgood_args hg) hN
set_option maxRecDepth 100000 in
theorem pl_lifted (os : Os) (started : os.Started) (H : Type) (enc : TypeId × Value → H) (F : Stop.Interp) :
    ReturnsInHanded {} Try.checked os 8 .any ((Rows.OpenSpec.upto Rows.networkPlaysSpec).pre6 enc Try.prog Try.f8 Rows.networkPlaysUptoRow.domain false) (((Rows.OpenSpec.upto Rows.networkPlaysSpec).at F).post enc Try.prog Try.f8 false true false false) :=
  lifted_upto (C := Try.checked) (kk := Rows.uptoSmall) (tb := 4) 1048576 [.int .i64, .int .i64, .bool, opsSh] bulk_law bulk_small pl_own started (by kernel_rfl) Try.func8
    (OpenSpec.witness (enc := enc) (C := Try.checked) (s := Rows.OpenSpec.upto Rows.networkPlaysSpec) (k := Rows.uptoSmall) rfl false ⟨#[], #[.int .i64 0, .int .i64 0, .bool false, .slice none 0 0], []⟩ 8 (by kernel_rfl) (by kernel_rfl) (by kernel_rfl)
      (x := ([.lit (.int .i64 0), .lit (.int .i64 0), .lit (.bool false), .nil], [], [])) (by kernel_rfl) rfl (by kernel_rfl))
    rfl (fun ds h => by match ds, h with | [_, _, _, _], _ => rfl) rfl (by kernel_rfl) pl_laid (by kernel_rfl) (by kernel_rfl) pl_walk
theorem networkPlays_proved : Rows.NetworkPlaysUptoSaid :=
  OpenClaim.holds_of_cond 8 Try.f8 rfl rfl rfl rfl rfl rfl rfl ⟨rfl, rfl, rfl, rfl, rfl⟩ rfl rfl rfl rfl rfl (by kernel_rfl) Try.func8 (by kernel_rfl)
    (of_decide_eq_true (by kernel_rfl)) (by unfold Func.isWrapper; first | (rw [if_pos (by decide +kernel)]; kernel_rfl) | (rw [if_neg (by decide +kernel)]; exact ⟨rfl, rfl⟩))
    (fun os started H enc _ F => pl_lifted os started H enc F)
#print axioms networkPlays_proved
end Go.Proofs.Ytmgcmgfjaimlnaa
