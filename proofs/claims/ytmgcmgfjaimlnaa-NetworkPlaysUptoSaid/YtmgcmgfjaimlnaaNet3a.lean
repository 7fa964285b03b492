/- Lists of packets in memory. -/
import Derived.Test.YtmgcmgfjaimlnaaNet2
import Derived.Test.YtmgcmgfjaimlnaaBaseAll
namespace Go.EW
theorem q_indexSliceA {P : Program} {w : World} {e : Operand → Value} {o : Oper} {T E : TypeId} {x i : Operand} {a : Option Addr} {b k sz by_ len cap : Nat} {kd : IntKind} {j : Int} (ho : o.op = .indexAddr T x i) (hT : elT P T = some (E, sz, by_))
    (hx : e x = .slice a len cap) (ha : a = some ⟨b, k, none⟩) (hi : e i = .int kd j) (h0 : 0 ≤ j ∧ j < len) : (execOp e o).run P w = .ok (.value (.pointer (some ⟨b, k + j.toNat * sz, none⟩))) w := by
  subst ha; exact q_indexSlice ho hT hx hi h0
theorem b_makeMap {P : Program} {n : Cx} {Q : Post} {ρ : Env} {W w : World} {S : List Seg} {ops : Array Oper} {rest : List Oper} {d : Nat} {ty : TypeId} {ps : String} {af : Array Edge} {gd : Option (Nat × Bool)} {T : TypeId}
    (hg : gst n ops ρ ⟨some d, .makeMap T none, ty, ps, af, gd⟩ = some true) (H : St W w S) (h : ∀ b w', St W w' (kmap b [] :: S) → L P n ops rest Q (upd ρ d (.map (some b))) w') :
    L P n ops (⟨some d, .makeMap T none, ty, ps, af, gd⟩ :: rest) Q ρ w := by
  refine l_val (v := .map (some w.heap.size)) (w' := w.alloc (.map #[] 0)) hg ?_ (h _ _ H.allocMap)
  unfold execOp
  simp only [Instr.makeMap, Sem.run_bind, Option.map_none, run_newObj, Result.andThen_ok, Sem.run_pure]
  rfl
theorem subA_lt {b k sz l m : Nat} (h : l < m) : subA (some ⟨b, k, none⟩) sz l m = some ⟨b, k + l * sz, none⟩ := by
  unfold subA; rw [if_neg (by omega)]; simp [add_mk]
end Go.EW
namespace Go.Proofs.Ytmgcmgfjaimlnaa
open Go.EW
attribute [local irreducible] EW.W EW.L EW.fin
set_option linter.unusedVariables false
set_option linter.unusedSimpArgs false
def pkv (p : Pk) : Value := .agg #[.int .i64 p.fr, .int .i64 p.to, .slice p.a p.n p.cap]
theorem pks_length (l : List Pk) : (pks l).length = l.length * 3 := by
  induction l with
  | nil => rfl
  | cons p l ih => simp only [pks, List.flatMap_cons, List.length_append, List.length_cons] at ih ⊢; rw [ih]; simp [Pk.cells]; omega
theorem pks_at : ∀ {l : List Pk} {k : Nat} {p : Pk}, l[k]? = some p → ((pks l).drop (k * 3)).take 3 = p.cells
  | q :: l, 0, p, h => by
    obtain rfl : q = p := by simpa using h
    simp [pks, Pk.cells]
  | q :: l, k+1, p, h => by
    have e : (pks (q :: l)).drop ((k + 1) * 3) = (pks l).drop (k * 3) := by
      have : pks (q :: l) = q.cells ++ pks l := by simp [pks]
      rw [this, List.drop_append]
      have h3 : q.cells.length = 3 := rfl
      rw [List.drop_eq_nil_of_le (by omega), h3, List.nil_append]
      congr 1; omega
    rw [e]; exact pks_at (by simpa using h)
  | [], k, p, h => by simp at h
theorem pks_append (l l' : List Pk) : pks (l ++ l') = pks l ++ pks l' := by simp [pks]
theorem pks_take (l : List Pk) (k : Nat) : pks (l.take k) = (pks l).take (k * 3) := by
  by_cases h : k ≤ l.length
  · have h1 := pks_append (l.take k) (l.drop k)
    have h2 : (pks (l.take k)).length = k * 3 := by rw [pks_length, List.length_take]; omega
    rw [List.take_append_drop] at h1
    have h3 : (pks l).take (k * 3) = (pks (l.take k) ++ pks (l.drop k)).take (k * 3) := by rw [← h1]
    rw [h3, List.take_append_of_le_length (by omega)]; exact (List.take_of_length_le (by omega)).symm
  rw [List.take_of_length_le (by omega), List.take_of_length_le (by rw [pks_length]; omega)]
theorem pks_drop (l : List Pk) (k : Nat) : pks (l.drop k) = (pks l).drop (k * 3) := by
  by_cases h : k ≤ l.length
  · have h1 := pks_append (l.take k) (l.drop k)
    have hl : (pks (l.take k)).length = k * 3 := by rw [pks_length, List.length_take]; omega
    rw [List.take_append_drop] at h1
    have h3 : (pks l).drop (k * 3) = (pks (l.take k) ++ pks (l.drop k)).drop (k * 3) := by rw [← h1]
    rw [h3, ← hl, List.drop_left]
  have h1 : l.drop k = [] := List.drop_eq_nil_of_le (by omega)
  have h2 : (pks l).drop (k * 3) = [] := List.drop_eq_nil_of_le (by rw [pks_length]; omega)
  rw [h1, h2]; rfl
theorem pks_erase (l : List Pk) (k : Nat) : pks (l.eraseIdx k) = (pks l).take (k * 3) ++ (pks l).drop ((k + 1) * 3) := by
  rw [List.eraseIdx_eq_take_drop_succ, pks_append, pks_take, pks_drop]
theorem pk_cells {w : World} {a : Option Addr} {l : List Pk} {k : Nat} {p : Pk} (h : Rd w a (pks l)) (hk : l[k]? = some p) : ∃ b o, a = some ⟨b, o, none⟩ ∧ Cells w b (o + k * 3) p.cells := by
  have h2 := pks_at hk
  have h0 : (pks l)[k * 3]? = some (.int .i64 p.fr) := by
    have := congrArg (fun x => x[0]?) h2
    simpa [Pk.cells] using this
  obtain ⟨b, o, rfl, _⟩ := h _ _ h0
  refine ⟨b, o, rfl, ?_⟩
  have := h.cells.sub (k * 3) 3
  rwa [h2] at this
theorem pk_own {W : World} {S : List Seg} {l : List Pk} {k : Nat} {p : Pk} (i : Nat) (hi : S[i]? = some (Segs (l.map Pk.own))) (hk : l[k]? = some p) : RdIn W S p.a (p.bs.map B) :=
  RdIn.segs (T := 5) (sz := 1) (m := p.n) (cap := p.cap) i hi k (by simp [hk, Pk.own])
theorem pk_len {W w : World} {S : List Seg} {l : List Pk} {k : Nat} {p : Pk} (H : St W w S) (i : Nat) (hi : S[i]? = some (Segs (l.map Pk.own))) (hk : l[k]? = some p) : p.bs.length = p.n ∧ p.n ≤ p.cap ∧ p.cap ≤ maxLen := by
  have H2 := St.segs.1 (H.front i hi)
  have h4 : (l.map Pk.own ++ S.eraseIdx i)[k]? = some (EW.row 5 1 p.a p.n p.cap (p.bs.map B)) := by
    rw [List.getElem?_append_left (by simpa using (List.getElem?_eq_some_iff.1 hk).1)]; simp [hk, Pk.own]
  have := H2.rowInv h4
  exact ⟨by simpa using this.1, this.2.1, this.2.2.1⟩
/-- what At answers -/
def AtR (pool : List Pk) (k : Int) (q : Pk) (e : Int) : Prop :=
  (¬ (0 ≤ k ∧ k < pool.length) ∧ e = 141 ∧ q = ⟨0, 0, none, 0, 0, []⟩) ∨ (∃ p, 0 ≤ k ∧ k < pool.length ∧ pool[k.toNat]? = some p ∧ e = 0 ∧ q = ⟨p.fr, p.to, q.a, p.n, p.n, p.bs⟩)
end Go.Proofs.Ytmgcmgfjaimlnaa
