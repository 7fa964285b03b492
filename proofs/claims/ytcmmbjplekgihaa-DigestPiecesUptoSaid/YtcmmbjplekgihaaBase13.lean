/- A layer over the model's own weakest preconditions: environments as functions, memory as a list of owned segments, a law for each operation; it holds of every program, on the conditions that each theorem names. -/
import Derived.Test.YtcmmbjplekgihaaBase12
namespace Go.EW
section
variable {P : Program} {n : Nat} {Q : Post} {ρ : Env} {W w : World} {S : List Seg} {ops : Array Oper} {rest : List Oper} {d : Nat} {ty : TypeId} {ps : String} {af : Array Edge} {gd : Option (Nat × Bool)}
/-- append where there is room: the block is written in place; the source may lie in it -/
theorem b_appendRoom {T E E' : TypeId} {s x : Operand} {sz by_ : Nat} {b o : Nat} {a2 : Option Addr} {k cap m c2 : Nat} {cs ys : List Value} (hg : gst n ops ρ ⟨some d, .call { callee := .builtin .append, args := #[s, x], argTypes := #[T, T] }, ty, ps, af, gd⟩ = some true)
    (hT : elT P T = some (E, sz, by_)) (hs : ev n ρ s = .slice (some ⟨b, o, none⟩) k cap) (hx : ev n ρ x = .slice a2 m c2) (H : St W w S) (i : Nat) (hi : S[i]? = some (blk0 b cs E')) (hr : Rd w a2 ys) (hy : ys.length = m * sz) (h1 : ∀ u ∈ ys, u.oneCell' = true)
    (hroom : k + m ≤ cap ∧ o + k * sz + m * sz ≤ cs.length)
    (h : ∀ w', St W w' (S.set i (blk0 b (putL cs (o + k * sz) ys) E')) → L P n ops rest Q (upd ρ d (.slice (some ⟨b, o, none⟩) (k + m) cap)) w') :
    L P n ops (⟨some d, .call { callee := .builtin .append, args := #[s, x], argTypes := #[T, T] }, ty, ps, af, gd⟩ :: rest) Q ρ w := by
  obtain ⟨inf, hu, hin, rfl, rfl⟩ := elT_spec hT
  have hst := run_storeCells_blk0 (P := P) (k := o + k * inf.size) H hi (by rw [hy]; omega) h1
  have hf := firstCells_rd' (P := P) (w := w) (k := m) (len := m) (cap := c2) hr hy
  refine l_val (v := .slice (some ⟨b, o, none⟩) (k + m) cap) (w' := w.setCells b (o + k * inf.size) ys) hg ?_ (h _ (H.setCells0 hi))
  unfold execOp
  simp only [resolve, invoke, builtin, Sem.run_bind, Sem.run_pure, Result.andThen_ok, List.map_toArray, List.map_cons, List.map_nil, hs, hx, Builtin.append_]
  simp [run_underlying hu, Builtin.lenOf, run_sizeOf hin, hroom.1, hf, add_mk, hst]
/-- clear of a part of a block -/
theorem b_clear {T E E' : TypeId} {x : Operand} {sz by_ : Nat} {b k m c2 : Nat} {z : Value} {cs : List Value} (hg : gst n ops ρ ⟨none, .call { callee := .builtin .clear, args := #[x], argTypes := #[T] }, ty, ps, af, gd⟩ = some true)
    (hT : elT P T = some (E, sz, by_)) (hz : zeroV P E = some z) (hzs : Nat.beq z.cells.size sz = true) (hx : ev n ρ x = .slice (some ⟨b, k, none⟩) m c2) (H : St W w S) (i : Nat) (hi : S[i]? = some (blk0 b cs E')) (h1 : z.cells.toList.all Value.oneCell' = true)
    (hm : 0 < m ∧ k + m * sz ≤ cs.length)
    (h : ∀ w', St W w' (S.set i (blk0 b (putL cs k (repL m z.cells.toList)) E')) → L P n ops rest Q ρ w') :
    L P n ops (⟨none, .call { callee := .builtin .clear, args := #[x], argTypes := #[T] }, ty, ps, af, gd⟩ :: rest) Q ρ w := by
  obtain ⟨inf, hu, hin, rfl, rfl⟩ := elT_spec hT
  have hzs := Nat.eq_of_beq_eq_true hzs
  have hre : (Builtin.zeroCells z.cells m).toList = repL m z.cells.toList := by
    unfold Builtin.zeroCells
    rw [range_eq]
  have h1' : ∀ v ∈ repL m z.cells.toList, v.oneCell' = true := by
    intro v hv
    simp only [repL, List.mem_flatten, List.mem_replicate] at hv
    obtain ⟨l, ⟨_, rfl⟩, hv⟩ := hv
    exact List.all_eq_true.1 h1 v hv
  have hst := run_storeCells_blk0 (P := P) (k := k) (vs := repL m z.cells.toList) H hi (by rw [length_repL, Array.length_toList, hzs]; exact hm.2) h1'
  refine l_val (o := ⟨none, .call { callee := .builtin .clear, args := #[x], argTypes := #[T] }, ty, ps, af, gd⟩) (v := .tuple #[]) (w' := w.setCells b k (repL m z.cells.toList)) hg ?_ (h _ (H.setCells0 hi))
  unfold execOp
  simp only [resolve, invoke, builtin, Sem.run_bind, Sem.run_pure, Result.andThen_ok, List.map_toArray, List.map_cons, List.map_nil, hx, Builtin.clear_]
  cases m with
  | zero => omega
  | succ m =>
    simp only [List.getElem?_toArray, List.getElem?_cons_zero, Sem.run_bind, run_underlying hu, Result.andThen_ok, run_zero hz]
    rw [hre, hst]
    rfl
end
/-- a row's parts -/
theorem RdIn.segs {W : World} {S : List Seg} {T sz : Nat} {a : Option Addr} {m cap : Nat} {xs : List Value} {l : List Seg} (i : Nat) (hi : S[i]? = some (Segs l)) (j : Nat) (hj : l[j]? = some (EW.row T sz a m cap xs)) : RdIn W S a xs := fun w S' H => by
  have H2 := H.front (S'.length + i) (by rw [List.getElem?_append_right (by omega)]; simpa using hi)
  have H3 := St.segs.1 H2
  have h4 : (l ++ (S' ++ S).eraseIdx (S'.length + i))[j]? = some (EW.row T sz a m cap xs) := by
    rw [List.getElem?_append_left (List.getElem?_eq_some_iff.1 hj).1]; exact hj
  exact (H3.rowInv h4).2.2.2.2
theorem Segs.take {W w : World} {S : List Seg} {l : List Seg} {s : Seg} (j : Nat) (hj : l[j]? = some s) (H : St W w (Segs l :: S)) : St W w (s :: Segs (l.eraseIdx j) :: S) := by
  have H1 := (St.segs.1 H)
  have H2 := H1.perm ((perm_front hj).append_right S)
  have H3 : St W w ((l.eraseIdx j) ++ s :: S) := H2.perm (by simp only [List.cons_append]; exact (List.perm_middle (a := s) (l₁ := l.eraseIdx j) (l₂ := S)).symm)
  exact (St.segs.2 H3).swap01
theorem Segs.put {W w : World} {S : List Seg} {l : List Seg} {s : Seg} (j : Nat) (hj : j < l.length) (H : St W w (s :: Segs (l.eraseIdx j) :: S)) : St W w (Segs (l.set j s) :: S) := by
  have H1 := H.swap01
  have H2 := St.segs.1 H1
  have H3 : St W w ((s :: l.eraseIdx j) ++ S) := H2.perm (by simp only [List.cons_append]; exact (List.perm_middle (a := s) (l₁ := l.eraseIdx j) (l₂ := S)))
  have hs : l[j]? = some l[j] := by simp [hj]
  exact St.segs.2 (H3.perm ((perm_set (t := s) hs).append_right S))
end Go.EW
