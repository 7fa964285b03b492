/- A layer over the model's own weakest preconditions: environments as functions, memory as a list of owned segments, a law for each operation; it holds of every program, on the conditions that each theorem names. -/
import Derived.Test.YtcmmbjplekgihaaBase5
namespace Go.EW
/-! Operations that turn the memory. -/
def putL : List Value → Nat → List Value → List Value
  | cs, _, [] => cs
  | cs, k, v :: vs => putL (cs.set k v) (k + 1) vs
theorem length_putL : ∀ (vs cs : List Value) (k : Nat), (putL cs k vs).length = cs.length
  | [], _, _ => rfl
  | v :: vs, cs, k => by simp [putL, length_putL vs]
theorem putL_eq : ∀ (vs cs : List Value) (k : Nat), k + vs.length ≤ cs.length → putL cs k vs = cs.take k ++ vs ++ cs.drop (k + vs.length)
  | [], cs, k, _ => by simp [putL]
  | v :: vs, cs, k, h => by
    simp only [List.length_cons] at h
    rw [putL, putL_eq vs _ _ (by simp; omega)]
    rw [List.take_set, List.take_succ_eq_append_getElem (by omega), List.drop_set_of_lt (by omega)]
    rw [List.set_append_right _ _ (by simp; omega)]
    simp [show min k cs.length = k by omega, show k + 1 + vs.length = k + (vs.length + 1) by omega]

section
variable {P : Program} {n : Nat} {Q : Post} {ρ : Env} {W w : World} {S : List Seg}
theorem St.setCells {b : Nat} {T : TypeId} {i : Nat} : ∀ {vs : List Value} {k : Nat} {cs : List Value} {w : World} {S : List Seg}, St W w S → S[i]? = some (blk b cs T) → St W (w.setCells b k vs) (S.set i (blk b (putL cs k vs) T))
  | [], k, cs, w, S, H, hi => by
    have : S.set i (blk b cs T) = S := by
      obtain ⟨h, he⟩ := List.getElem?_eq_some_iff.1 hi
      rw [← he]; exact List.set_getElem_self h
    simpa [World.setCells, putL, this] using H
  | v :: vs, k, cs, w, S, H, hi => by
    have H2 := H.setCell (k := k) (v := v) hi
    obtain ⟨hlt, _⟩ := List.getElem?_eq_some_iff.1 hi
    have := St.setCells (vs := vs) (k := k + 1) (i := i) (T := T) (cs := cs.set k v) H2 (List.getElem?_set_self hlt)
    rw [List.set_set] at this
    exact this

/-- storing, one cell or many -/
theorem run_storeCells_blk {b k : Nat} {cs vs : List Value} {T : TypeId} {i : Nat} (H : St W w S) (hi : S[i]? = some (blk b cs T)) (hk : k + vs.length ≤ cs.length) (h1 : ∀ v ∈ vs, v.oneCell' = true) :
    (storeCells ⟨b, k, none⟩ vs).run P w = .ok () (w.setCells b k vs) := by
  have := run_storeCells_cells (P := P) b k vs 0 w (fun j hj => by
      have : (cs[k + j]?).isSome = true := by simp; omega
      obtain ⟨v, hv⟩ := Option.isSome_iff_exists.1 this
      have := H.cell i hi hv
      simp [this]) (fun j hj => by
      have := H.notFrozen (k := k + j) hi (by omega)
      simpa using this) h1
  simpa using this
theorem l_store {ops : Array Oper} {o : Oper} {rest : List Oper} {T T' : TypeId} {x y : Operand} {b k m : Nat} {cs vs : List Value} {v : Value} (hg : gst n ops ρ o = some true) (ho : o.op = .store T x y) (hT : sizeV P T = some m)
    (hx : ev n ρ x = .pointer (some ⟨b, k, none⟩)) (hy : ev n ρ y = v) (hv : v.cells = vs.toArray) (hm : Nat.beq vs.length m = true) (h1 : vs.all Value.oneCell' = true) (H : St W w S) (i : Nat) (hi : S[i]? = some (blk b cs T'))
    (hk : Nat.ble (k + vs.length) cs.length = true) (h : ∀ w', St W w' (S.set i (blk b (putL cs k vs) T')) → L P n ops rest Q (putE ρ o.dst undef) w') : L P n ops (o :: rest) Q ρ w := by
  refine l_do (w' := w.setCells b k vs) hg ?_ (h _ (H.setCells hi))
  have hm := Nat.eq_of_beq_eq_true hm
  cases hinf : P.info? T with
  | none => simp [sizeV, hinf] at hT
  | some inf =>
    simp only [sizeV, hinf, Option.map_some, Option.some.injEq] at hT
    have hs : v.cells.size = m := by rw [hv]; simpa using hm
    have hr := run_storeCells_blk (P := P) (k := k) H hi (Nat.le_of_ble_eq_true hk) (List.all_eq_true.1 h1)
    unfold execOp
    simp only [ho, hx, hy, Instr.storeAt, Instr.sureAddr, storeVar, Sem.run_bind, Sem.run_pure, Result.andThen_ok, run_sizeOf hinf, hT, hs, ne_eq, not_true_eq_false, if_false]
    rw [hv]
    simp only [hr, Result.andThen_ok]

theorem l_box {ops : Array Oper} {o : Oper} {rest : List Oper} {T : TypeId} {x : Operand} {v : Value} {cs : List Value} (hg : gst n ops ρ o = some true) (ho : o.op = .box T x) (hx : ev n ρ x = v) (hv : v.cells = cs.toArray)
    (H : St W w S) (h : ∀ b w', St W w' (blk b cs T :: S) → L P n ops rest Q (putE ρ o.dst (.pointer (some ⟨b, 0, none⟩))) w') : L P n ops (o :: rest) Q ρ w := by
  refine l_val (w' := w.alloc (.cells cs.toArray T)) hg ?_ (h _ _ ((H.alloc cs T).imp fun c hc => blk_of_blk0 hc))
  unfold execOp
  simp only [ho, hx, Instr.box, newVar, newRow, hv, Sem.run_bind, run_newObj, Result.andThen_ok, Sem.run_pure]
  rfl
theorem run_zero {T : TypeId} {z : Value} (h : zeroV P T = some z) : (zeroValue T).run P w = .ok z w := by
  unfold zeroV at h
  cases hi : P.info? T with
  | none => simp [hi] at h
  | some i =>
    simp only [hi, Option.bind_some] at h
    simp [zeroValue, typeInfo, hi, h]
theorem l_alloc {ops : Array Oper} {o : Oper} {rest : List Oper} {T : TypeId} {z : Value} {cs : List Value} (hg : gst n ops ρ o = some true) (ho : o.op = .alloc T) (hz : zeroV P T = some z) (hv : z.cells = cs.toArray)
    (H : St W w S) (h : ∀ b w', St W w' (blk b cs T :: S) → L P n ops rest Q (putE ρ o.dst (.pointer (some ⟨b, 0, none⟩))) w') : L P n ops (o :: rest) Q ρ w := by
  refine l_val (w' := w.alloc (.cells cs.toArray T)) hg ?_ (h _ _ ((H.alloc cs T).imp fun c hc => blk_of_blk0 hc))
  unfold execOp
  simp only [ho, Instr.alloc, newVar, newRow, Sem.run_bind, run_zero hz, Result.andThen_ok, hv, run_newObj, Sem.run_pure]
  rfl

/-! building -/
def fillL (pl : Nat → Option (Nat × Nat)) : List Value → List (Nat × Value) → Option (List Value)
  | cs, [] => some cs
  | cs, (i, v) :: r =>
    match pl i with
    | none => none
    | some (off, size) => cond (Nat.beq v.cells.size size) (cond (Nat.ble (off + v.cells.size) cs.length) (fillL pl (putL cs off v.cells.toList) r) none) none
theorem foldl_put : ∀ (vs : List Value) (cs : List Value) (off k : Nat), (vs.zipIdx k).foldl (fun (cs : Array Value) (x : Value × Nat) => cs.setIfInBounds (off + x.2) x.1) cs.toArray = (putL cs (off + k) vs).toArray
  | [], _, _, _ => rfl
  | v :: vs, cs, off, k => by
    simp only [List.zipIdx_cons, List.foldl_cons]
    rw [show cs.toArray.setIfInBounds (off + k) v = (cs.set (off + k) v).toArray by simp, foldl_put vs]
    simp [putL, Nat.add_assoc]
theorem fill_eq (pl : Nat → Option (Nat × Nat)) : ∀ (ps : List (Nat × Value)) (cs cs' : List Value), fillL pl cs ps = some cs' → Instr.fill pl cs.toArray ps = some cs'.toArray
  | [], cs, cs', h => by simp [fillL] at h; simp [Instr.fill, h]
  | (i, v) :: r, cs, cs', h => by
    unfold fillL at h
    unfold Instr.fill
    cases hp : pl i with
    | none => simp [hp] at h
    | some q =>
      obtain ⟨off, size⟩ := q
      simp only [hp] at h ⊢
      cases h1 : Nat.beq v.cells.size size with
      | false => rw [h1] at h; cases h
      | true =>
        rw [h1, cond_true] at h
        cases h2 : Nat.ble (off + v.cells.size) cs.length with
        | false => rw [h2] at h; cases h
        | true =>
          rw [h2, cond_true] at h
          have h1 := Nat.eq_of_beq_eq_true h1
          have h2 := Nat.le_of_ble_eq_true h2
          rw [if_neg (by simp; omega)]
          have hf := foldl_put v.cells.toList cs off 0
          rw [Nat.add_zero] at hf
          have : (Array.foldl (fun (cs : Array Value) (x : Value × Nat) => match x with | (c, j) => cs.setIfInBounds (off + j) c) cs.toArray v.cells.zipIdx) = (putL cs off v.cells.toList).toArray := by
            rw [← hf, ← Array.foldl_toList, Array.toList_zipIdx]
          rw [this]
          exact fill_eq pl r _ _ h
def strPl (P : Program) (T : TypeId) : Option (List (Nat × Nat) × List Value) :=
  match P.underlying T, zeroV P T with
  | some (.struct fs), some z => (fs.toList.mapM fun f => (sizeV P f.type).map fun s => (f.offset, s)).map fun l => (l, z.cells.toList)
  | _, _ => none
theorem run_mapM_size : ∀ (fs : List Field) (l : List (Nat × Nat)), (fs.mapM fun f => (sizeV P f.type).map fun s => (f.offset, s)) = some l →
    (fs.mapM fun f => do pure (f.offset, ← sizeOf f.type) : Sem _).run P w = .ok l w
  | [], l, h => by simp at h; subst h; rfl
  | f :: fs, l, h => by
    simp only [List.mapM_cons, Option.bind_eq_bind] at h
    cases hs : sizeV P f.type with
    | none => simp [hs] at h
    | some s =>
      cases hr : (fs.mapM fun f => (sizeV P f.type).map fun s => (f.offset, s)) with
      | none => simp [hs, hr] at h
      | some r =>
        simp only [hs, hr, Option.map_some, Option.bind_some] at h
        cases h
        have ih := run_mapM_size fs r hr
        cases hi : P.info? f.type with
        | none => simp [sizeV, hi] at hs
        | some i =>
          simp only [sizeV, hi, Option.map_some, Option.some.injEq] at hs
          simp only [List.mapM_cons, Sem.run_bind, run_sizeOf hi, Result.andThen_ok, Sem.run_pure, hs]
          rw [ih]
          rfl
theorem q_build {e : Operand → Value} {o : Oper} {T : TypeId} {parts : List (Nat × Operand)} {pl : List (Nat × Nat)} {z cs : List Value} (ho : o.op = .build T parts.toArray) (hT : strPl P T = some (pl, z))
    (hf : fillL (fun i => pl[i]?) z (parts.map fun p => (p.1, e p.2)) = some cs) : (execOp e o).run P w = .ok (.value (.agg cs.toArray)) w := by
  unfold strPl at hT
  split at hT
  · rename_i fs zv hu hz
    cases hl : (fs.toList.mapM fun f => (sizeV P f.type).map fun s => (f.offset, s)) with
    | none => simp [hl] at hT
    | some l =>
      simp only [hl, Option.map_some, Option.some.injEq, Prod.mk.injEq] at hT
      obtain ⟨rfl, rfl⟩ := hT
      have hm := run_mapM_size (w := w) fs.toList l hl
      have hm' : (fs.mapM fun f => do pure (f.offset, ← sizeOf f.type) : Sem _).run P w = .ok l.toArray w := by
        rw [show fs = fs.toList.toArray by simp, List.mapM_toArray]
        simp only [Sem.run_map]
        rw [hm]
        rfl
      have hfl := fill_eq _ _ _ _ hf
      unfold execOp
      simp only [ho, Instr.build, Sem.run_bind, run_zero hz, Result.andThen_ok, run_underlying hu]
      rw [show (List.map (fun p : Nat × Operand => (p.1, e p.2)) parts) = (Array.map (fun x : Nat × Operand => match x with | (i, x) => (i, e x)) parts.toArray).toList by simp] at hfl
      rw [hm']
      simp only [Result.andThen_ok]
      have : (fun i : Nat => l.toArray[i]?) = (fun i : Nat => l[i]?) := by funext i; simp
      rw [this]
      simp only [Array.toArray_toList] at hfl
      rw [hfl]
      rfl
  · cases hT
end
end Go.EW
