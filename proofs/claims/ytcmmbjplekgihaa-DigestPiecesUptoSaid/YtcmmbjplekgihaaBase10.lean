/- A layer over the model's own weakest preconditions: environments as functions, memory as a list of owned segments, a law for each operation; it holds of every program, on the conditions that each theorem names. -/
import Derived.Test.YtcmmbjplekgihaaBase9
namespace Go.EW
/-! blocks that bear no mark: the same laws -/
section
variable {P : Program} {n : Nat} {Q : Post} {ρ : Env} {W w : World} {S : List Seg}
theorem St.cell0 {b : Nat} {cs : List Value} {T : TypeId} {k : Nat} {v : Value} (H : St W w S) (i : Nat) (hi : S[i]? = some (blk0 b cs T)) (hk : cs[k]? = some v) : w.cell? ⟨b, k, none⟩ = some v := by
  rw [cell_of_row w b k _ T _ (H.heap0 hi)]
  simpa using hk
theorem St.setCell0 {b : Nat} {cs : List Value} {T : TypeId} {k : Nat} {v : Value} {i : Nat} (H : St W w S) (hi : S[i]? = some (blk0 b cs T)) : St W (w.setCell ⟨b, k, none⟩ v) (S.set i (blk0 b (cs.set k v) T)) := by
  refine St.at_ (w := w) hi (fun H => H.turn rfl rfl rfl (by simp) ?_) H
  rintro c rfl hc _
  refine ⟨fun j hj hne => heap_setCell_other _ _ _ _ (by simpa using hne), [(b, .cells (cs.set k v).toArray T (0, 0))], rfl, by simp, ?_⟩
  intro x hx
  rw [List.mem_singleton.1 hx]
  have := hc _ (List.mem_singleton.2 rfl)
  exact ⟨this.1, heap_setCell_cells this.2, .inl (by simp)⟩
theorem St.setCells0 {b : Nat} {T : TypeId} {i : Nat} : ∀ {vs : List Value} {k : Nat} {cs : List Value} {w : World} {S : List Seg}, St W w S → S[i]? = some (blk0 b cs T) → St W (w.setCells b k vs) (S.set i (blk0 b (putL cs k vs) T))
  | [], k, cs, w, S, H, hi => by
    have : S.set i (blk0 b cs T) = S := by
      obtain ⟨h, he⟩ := List.getElem?_eq_some_iff.1 hi
      rw [← he]; exact List.set_getElem_self h
    simpa [World.setCells, putL, this] using H
  | v :: vs, k, cs, w, S, H, hi => by
    have H2 := H.setCell0 (k := k) (v := v) hi
    obtain ⟨hlt, _⟩ := List.getElem?_eq_some_iff.1 hi
    have := St.setCells0 (vs := vs) (k := k + 1) (i := i) (T := T) (cs := cs.set k v) H2 (List.getElem?_set_self hlt)
    rw [List.set_set] at this
    exact this
theorem run_storeCells_blk0 {b k : Nat} {cs vs : List Value} {T : TypeId} {i : Nat} (H : St W w S) (hi : S[i]? = some (blk0 b cs T)) (hk : k + vs.length ≤ cs.length) (h1 : ∀ v ∈ vs, v.oneCell' = true) :
    (storeCells ⟨b, k, none⟩ vs).run P w = .ok () (w.setCells b k vs) := by
  have := run_storeCells_cells (P := P) b k vs 0 w (fun j hj => by
      have : (cs[k + j]?).isSome = true := by simp; omega
      obtain ⟨v, hv⟩ := Option.isSome_iff_exists.1 this
      have := H.cell0 i hi hv
      simp [this]) (fun j hj => by
      rw [Nat.add_zero]
      exact frozen_of_row w b _ _ T (H.heap0 hi)) h1
  simpa using this
variable {ops : Array Oper} {rest : List Oper} {d : Nat} {op : Op} {ty : TypeId} {ps : String} {af : Array Edge} {gd : Option (Nat × Bool)}
theorem b_store0 {T T' : TypeId} {x y : Operand} {b k m : Nat} {cs vs : List Value} {v : Value} (hg : gst n ops ρ ⟨none, .store T x y, ty, ps, af, gd⟩ = some true) (hT : sizeV P T = some m)
    (hx : ev n ρ x = .pointer (some ⟨b, k, none⟩)) (hy : ev n ρ y = v) (hv : v.cells = vs.toArray) (hm : Nat.beq vs.length m = true) (h1 : vs.all Value.oneCell' = true) (H : St W w S) (i : Nat) (hi : S[i]? = some (blk0 b cs T'))
    (hk : k + vs.length ≤ cs.length) (h : ∀ w', St W w' (S.set i (blk0 b (putL cs k vs) T')) → L P n ops rest Q ρ w') : L P n ops (⟨none, .store T x y, ty, ps, af, gd⟩ :: rest) Q ρ w := by
  refine l_do (w' := w.setCells b k vs) hg ?_ (h _ (H.setCells0 hi))
  have hm := Nat.eq_of_beq_eq_true hm
  cases hinf : P.info? T with
  | none => simp [sizeV, hinf] at hT
  | some inf =>
    simp only [sizeV, hinf, Option.map_some, Option.some.injEq] at hT
    have hs : v.cells.size = m := by rw [hv]; simpa using hm
    have hr := run_storeCells_blk0 (P := P) (k := k) H hi hk (List.all_eq_true.1 h1)
    unfold execOp
    simp only [hx, hy, Instr.storeAt, Instr.sureAddr, storeVar, Sem.run_bind, Sem.run_pure, Result.andThen_ok, run_sizeOf hinf, hT, hs, ne_eq, not_true_eq_false, if_false]
    rw [hv]
    simp only [hr, Result.andThen_ok]
theorem b_copy0 {T T' E E' : TypeId} {sz by_ : Nat} {x s : Operand} {b k dl dc sl sc : Nat} {a2 : Option Addr} {cs ys : List Value} (hg : gst n ops ρ ⟨some d, .call { callee := .builtin .copy, args := #[x, s], argTypes := #[T, T'] }, ty, ps, af, gd⟩ = some true)
    (hT : elT P T = some (E, sz, by_)) (hd : ev n ρ x = .slice (some ⟨b, k, none⟩) dl dc) (hs : ev n ρ s = .slice a2 sl sc)
    (H : St W w S) (i : Nat) (hi : S[i]? = some (blk0 b cs E')) (hr : Rd w a2 ys) (hy : ys.length = (min sl dl) * sz) (hk : k + ys.length ≤ cs.length) (h1 : ∀ u ∈ ys, u.oneCell' = true)
    (h : ∀ w', St W w' (S.set i (blk0 b (putL cs k ys) E')) → L P n ops rest Q (upd ρ d (.int .i64 ((min sl dl : Nat) : Int))) w') :
    L P n ops (⟨some d, .call { callee := .builtin .copy, args := #[x, s], argTypes := #[T, T'] }, ty, ps, af, gd⟩ :: rest) Q ρ w := by
  obtain ⟨inf, hu, hin, rfl, rfl⟩ := elT_spec hT
  have hst := run_storeCells_blk0 (P := P) (k := k) H hi hk h1
  have hf := firstCells_rd' (P := P) (w := w) (k := min sl dl) (len := sl) (cap := sc) hr hy
  refine l_val (v := .int .i64 ((min sl dl : Nat) : Int)) (w' := w.setCells b k ys) hg ?_ (h _ (H.setCells0 hi))
  unfold execOp
  simp only [resolve, invoke, builtin, Sem.run_bind, Sem.run_pure, Result.andThen_ok, List.map_toArray, List.map_cons, List.map_nil, hs, hd, Builtin.copy_]
  simp [run_underlying hu, Builtin.lenOf, run_sizeOf hin, goInt, Nat.min_def]
  have : (Builtin.firstCells inf.size (if sl ≤ dl then sl else dl) (Value.slice a2 sl sc)).run P w = .ok ys.toArray w := by
    have := hf
    rwa [Nat.min_def] at this
  simp [this, hst]
/-- a row may be opened, and shut again -/
theorem row_open {T sz : Nat} {b k m cap : Nat} {s : Option Nat} {xs : List Value} {c : List Chunk} (h : row T sz (some ⟨b, k, s⟩) m cap xs c) :
    k = 0 ∧ s = none ∧ xs.length = m * sz ∧ m ≤ cap ∧ cap ≤ maxLen ∧ ∃ spare, xs.length + spare.length = cap * sz ∧ blk0 b (xs ++ spare) T c := by
  obtain ⟨⟨h1, h2, h3⟩, h4⟩ := h
  rcases h4 with ⟨h, _⟩ | ⟨g, cur, he, hl, ht, hb⟩
  · cases h
  · cases he
    refine ⟨rfl, rfl, h1, h2, h3, cur.drop xs.length, ?_, ?_⟩
    · have : xs.length ≤ cur.length := by rw [← ht]; simp; omega
      rw [List.length_drop, hl] at *
      omega
    · have := List.take_append_drop xs.length cur
      rw [ht] at this
      rw [this]
      exact hb
theorem St.rowOpen {T sz : Nat} {b k m cap : Nat} {s : Option Nat} {xs : List Value} (H : St W w (row T sz (some ⟨b, k, s⟩) m cap xs :: S)) :
    k = 0 ∧ s = none ∧ xs.length = m * sz ∧ m ≤ cap ∧ cap ≤ maxLen ∧ ∃ spare, xs.length + spare.length = cap * sz ∧ St W w (blk0 b (xs ++ spare) T :: S) := by
  obtain ⟨c, ⟨c1, c2, rfl, h1, h2⟩, hn, hc⟩ := H.own
  obtain ⟨e1, e2, e3, e4, e5, spare, e6, e7⟩ := row_open h1
  exact ⟨e1, e2, e3, e4, e5, spare, e6, H.os, H.tape, H.output, H.size, H.ro, _, ⟨c1, c2, rfl, e7, h2⟩, hn, hc⟩
theorem St.rowShut {T sz : Nat} {b m cap : Nat} {xs spare : List Value} (H : St W w (blk0 b (xs ++ spare) T :: S)) (hl : xs.length + spare.length = cap * sz) (hx : xs.length = m * sz) (hm : m ≤ cap) (hc : cap ≤ maxLen) :
    St W w (row T sz (some ⟨b, 0, none⟩) m cap xs :: S) :=
  H.imp fun _ h => row_of_blk0 h (by simpa using hl) (List.take_left) hx hm hc
theorem St.erase (H : St W w S) (i : Nat) : St W w (S.eraseIdx i) := by
  cases h : S[i]? with
  | none =>
    rw [List.eraseIdx_of_length_le (by simpa using h)]
    exact H
  | some s => exact (H.front i h).drop1
theorem St.snocseg {s : Seg} {l : List Seg} : St W w (Segs l :: s :: S) ↔ St W w (Segs (l ++ [s]) :: S) := by
  rw [St.segs, St.segs]
  simp
theorem St.rot3 {a b c : Seg} (H : St W w (a :: b :: c :: S)) : St W w (b :: c :: a :: S) :=
  H.perm ((List.Perm.swap b a (c :: S)).trans ((List.Perm.swap c a S).cons b))
theorem St.swap01 {a b : Seg} (H : St W w (a :: b :: S)) : St W w (b :: a :: S) := H.perm (List.Perm.swap b a S)
/-- some of the first segments, in whatever order; the others are forgotten -/
def pickB : List Nat → Nat → Bool
  | [], _ => true
  | i :: is, k => Nat.blt i k && !memb is i && pickB is k
theorem memb_iff : ∀ (l : List Nat) (t : Nat), memb l t = true ↔ t ∈ l
  | [], t => by simp [memb]
  | x :: l, t => by
    simp only [memb, List.mem_cons]
    by_cases h : t = x
    · subst h; simp
    · rw [beq_f h]
      simp [memb_iff l t, h]
theorem pickB_spec : ∀ (is : List Nat) (k : Nat), pickB is k = true → is.Nodup ∧ ∀ i ∈ is, i < k
  | [], _, _ => by simp
  | i :: is, k, h => by
    simp only [pickB, Bool.and_eq_true, Bool.not_eq_true'] at h
    obtain ⟨⟨h1, h2⟩, h3⟩ := h
    obtain ⟨n1, n2⟩ := pickB_spec is k h3
    refine ⟨List.nodup_cons.2 ⟨fun hm => ?_, n1⟩, ?_⟩
    · rw [(memb_iff is i).2 hm] at h2; cases h2
    · intro j hj
      rcases List.mem_cons.1 hj with rfl | hj
      · exact Nat.le_of_ble_eq_true h1
      · exact n2 j hj
theorem range_split (is : List Nat) (k : Nat) (hn : is.Nodup) (hl : ∀ i ∈ is, i < k) : (List.range k).Perm (is ++ (List.range k).filter (fun i => !memb is i)) := by
  have h1 : is.Perm ((List.range k).filter (fun i => memb is i)) := by
    rw [List.perm_ext_iff_of_nodup hn (List.nodup_range.filter _)]
    intro a
    simp only [List.mem_filter, List.mem_range, memb_iff]
    exact ⟨fun h => ⟨hl a h, h⟩, fun h => h.2⟩
  exact (List.filter_append_perm (fun i => memb is i) (List.range k)).symm.trans (h1.symm.append_right _)
theorem range_get : ∀ (pre : List Seg), (List.range pre.length).filterMap (fun i => pre[i]?) = pre
  | [] => rfl
  | x :: l => by
    rw [List.length_cons, List.range_succ_eq_map, List.filterMap_cons, List.filterMap_map]
    have := range_get l
    simp only [List.getElem?_cons_zero]
    congr 1
theorem St.pick (is : List Nat) {pre F : List Seg} (hb : pickB is pre.length = true) (H : St W w (pre ++ F)) {S' : List Seg} (hS : is.filterMap (fun i => pre[i]?) ++ F = S') : St W w S' := by
  obtain ⟨n1, n2⟩ := pickB_spec is _ hb
  have hp := (range_split is pre.length n1 n2).filterMap (fun i => pre[i]?)
  rw [range_get, List.filterMap_append] at hp
  have H2 := H.perm (hp.append_right F)
  rw [List.append_assoc] at H2
  have H3 := H2.perm ((List.perm_append_comm (l₁ := is.filterMap (fun i => pre[i]?)) (l₂ := ((List.range pre.length).filter (fun i => !memb is i)).filterMap (fun i => pre[i]?) ++ F)))
  rw [List.append_assoc] at H3
  have H4 := H3.dropN (((List.range pre.length).filter (fun i => !memb is i)).filterMap (fun i => pre[i]?)).length
  rw [List.drop_left] at H4
  rw [← hS]
  exact H4.perm List.perm_append_comm
theorem putL_all {cs vs : List Value} (h : vs.length = cs.length) : putL cs 0 vs = vs := by
  rw [putL_eq _ _ _ (by omega)]
  simp [h]
theorem subA_zero (b k sz m : Nat) : subA (some ⟨b, k, none⟩) sz 0 m = some ⟨b, k, none⟩ := by
  unfold subA
  split <;> simp [Addr.add]
end
end Go.EW
