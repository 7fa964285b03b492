/- A layer over the model's own weakest preconditions: environments as functions, memory as a list of owned segments, a law for each operation; it holds of every program, on the conditions that each theorem names. -/
import Derived.Test.YtcmmbjplekgihaaBase14
namespace Go.EW
section
variable {P : Program} {n : Nat} {Q : Post} {ρ : Env} {W w : World} {S : List Seg} {ops : Array Oper} {rest : List Oper} {d : Nat} {ty : TypeId} {ps : String} {af : Array Edge} {gd : Option (Nat × Bool)}
theorem heap_freeze_other (w : World) (a : Addr) (n j : Nat) (h : a.block ≠ j) : (w.freeze a n).heap[j]? = w.heap[j]? := by
  unfold World.freeze
  split
  · rfl
  · simp [Array.getElem?_modify, h]
theorem heap_freeze_cells {w : World} {b k m : Nat} {cs : List Value} {T : TypeId} (hm : m ≠ 0) (h : w.heap[b]? = some (.cells cs.toArray T (0, 0))) :
    (w.freeze ⟨b, k, none⟩ m).heap[b]? = some (.cells cs.toArray T (k, k + m)) := by
  unfold World.freeze
  rw [if_neg hm]
  simp [Array.getElem?_modify, h]
/-- what a literal []byte("..") does to its block: it is marked behind its end -/
theorem b_markBytes {T : TypeId} {x : Operand} {b m c : Nat} {cs : List Value} {E : TypeId} (hg : gst n ops ρ ⟨some d, .convert T T x, ty, ps, af, gd⟩ = some true) (hT : isBytesT P T = true)
    (hx : ev n ρ x = .slice (some ⟨b, 0, none⟩) m c) (H : St W w S) (i : Nat) (hi : S[i]? = some (blk0 b cs E))
    (h : ∀ w', St W w' (S.set i (blk b cs E)) → L P n ops rest Q (upd ρ d (.slice (some ⟨b, 0, none⟩) m c)) w') :
    L P n ops (⟨some d, .convert T T x, ty, ps, af, gd⟩ :: rest) Q ρ w := by
  have hb := H.heap0 hi
  unfold isBytesT at hT
  split at hT
  · rename_i E' hs
    split at hT
    · rename_i hE
      refine l_val (v := .slice (some ⟨b, 0, none⟩) m c) (w' := w.freeze ⟨b, cs.length, none⟩ 1) hg ?_ (h _ ?_)
      · unfold execOp
        simp only [Sem.run_bind, convert, run_underlying hs, run_underlying hE, Result.andThen_ok, hx, beq_self_eq_true, markStringish, run_shape, World.shape?, hb, List.size_toArray, run_freeze, Sem.run_pure]
      · refine St.at_ (w := w) hi (fun H => H.turn ?_ ?_ ?_ ?_ ?_) H
        · unfold World.freeze; split <;> rfl
        · unfold World.freeze; split <;> rfl
        · unfold World.freeze; split <;> rfl
        · unfold World.freeze; split <;> simp
        · rintro ch rfl hc _
          have hbb := hc _ (List.mem_singleton.2 rfl)
          refine ⟨fun j hj hne => heap_freeze_other _ _ _ _ (by simpa using Ne.symm (by simpa using hne)), [(b, .cells cs.toArray E (cs.length, cs.length + 1))], ⟨(cs.length, cs.length + 1), fun k hk => by simp only; omega, rfl⟩, by simp, ?_⟩
          intro x hx
          rw [List.mem_singleton.1 hx]
          exact ⟨hbb.1, heap_freeze_cells (by decide) hbb.2, .inl (by simp)⟩
    · cases hT
  · cases hT
end
/-- two codes, one behind the other; what the first writes is forgotten but for what is known -/
theorem w_cutG {P : Program} {n : Nat} {Q : Post} {ρ : Env} {w : World} {x y : Code} {G : Type} (wr : List Nat) (K : G → List (Nat × Value)) (M : G → World → Prop) (hm : ∀ g, (K g).all (fun p => memb wr p.1) = true)
    (hx : W P n x (thn (fun ρ' w' => Agr wr ρ ρ' ∧ ∃ g, knows ρ' (K g) ∧ M g w') Q) ρ w)
    (hy : ∀ g ρ1 w1, M g w1 → W P n y Q (updL (mix wr ρ1 ρ) (K g)) w1) : W P n (.seq x y) Q ρ w := by
  refine w_cut wr (fun ρ w => ∃ g, knows ρ (K g) ∧ M g w) hx ?_
  rintro ρ1 w1 ⟨g, hk, hM⟩
  have h := hy g ρ1 w1 hM
  rwa [updL_knows (knows_mix (hm g) hk)] at h
def I64 (x : Int) : Value := .int .i64 x
theorem ints_cell {w : World} {a : Option Addr} {xs : List Int} {k : Nat} {x : Int} (h : Rd w a (xs.map I64)) (hk : xs[k]? = some x) : ∃ b o, a = some ⟨b, o, none⟩ ∧ w.cell? ⟨b, o + k * 1, none⟩ = some (.int .i64 x) := by
  obtain ⟨b, o, ha, hc⟩ := h k (I64 x) (by simp [hk])
  exact ⟨b, o, ha, by rw [Nat.mul_one]; exact hc⟩
end Go.EW
