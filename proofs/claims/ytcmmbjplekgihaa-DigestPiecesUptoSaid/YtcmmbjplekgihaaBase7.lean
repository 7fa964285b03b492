/- A layer over the model's own weakest preconditions: environments as functions, memory as a list of owned segments, a law for each operation; it holds of every program, on the conditions that each theorem names. -/
import Derived.Test.YtcmmbjplekgihaaBase6
namespace Go.EW
def repL (n : Nat) (z : List Value) : List Value := (List.replicate n z).flatten
theorem length_repL (n : Nat) (z : List Value) : (repL n z).length = n * z.length := by simp [repL]
theorem range_eq (n : Nat) (z : Array Value) : (Array.range (n * z.size)).map (fun i => z[i % z.size]!) = (repL n z.toList).toArray := by
  apply Array.ext'
  simp only [Array.toList_map, Array.toList_range]
  induction n with
  | zero => simp [repL]
  | succ n ih =>
    rw [Nat.succ_mul, List.range_add, List.map_append, ih]
    simp only [repL, List.replicate_succ', List.flatten_append, List.flatten_cons, List.flatten_nil, List.append_nil]
    congr 1
    apply List.ext_getElem
    · simp
    · intro i h1 h2
      simp at h1
      simp [Nat.mul_comm n, Nat.mod_eq_of_lt h1, h1]
def B (u : UInt8) : Value := .int .u8 (u.toNat : Int)
theorem oneB (bs : List UInt8) : ∀ v ∈ bs.map B, v.oneCell' = true := by
  intro v hv
  obtain ⟨u, _, rfl⟩ := List.mem_map.1 hv
  rfl

/-- a slice that the call owns: elements of type T, sz cells each -/
def row (T : TypeId) (sz : Nat) (a : Option Addr) (n cap : Nat) (xs : List Value) : Seg := fun c =>
  (xs.length = n * sz ∧ n ≤ cap ∧ cap ≤ maxLen) ∧ ((a = none ∧ cap = 0 ∧ c = []) ∨ ∃ g cur, a = some ⟨g, 0, none⟩ ∧ cur.length = cap * sz ∧ cur.take xs.length = xs ∧ blk0 g cur T c)

section
variable {P : Program} {n : Nat} {Q : Post} {ρ : Env} {W w : World} {S : List Seg}
theorem St.rowInv {T sz : Nat} {a : Option Addr} {m cap : Nat} {xs : List Value} {i : Nat} (H : St W w S) (hi : S[i]? = some (row T sz a m cap xs)) :
    xs.length = m * sz ∧ m ≤ cap ∧ cap ≤ maxLen ∧ (a = none → cap = 0) ∧ Rd w a xs := by
  obtain ⟨c, ⟨c1, c2, rfl, ⟨h1, h2⟩, h3⟩, hn, hc⟩ := (H.front i hi).own
  refine ⟨h1.1, h1.2.1, h1.2.2, ?_, ?_⟩
  · rcases h2 with ⟨h, h', _⟩ | ⟨g, cur, h, _⟩
    · exact fun _ => h'
    · intro he; rw [he] at h; cases h
  · rcases h2 with ⟨rfl, rfl, _⟩ | ⟨g, cur, rfl, hl, ht, rfl⟩
    · have : m = 0 := by omega
      subst this
      have : xs = [] := List.eq_nil_of_length_eq_zero (by simpa using h1.1)
      subst this
      intro j v h; simp at h
    · intro j v hj
      refine ⟨g, 0, rfl, ?_⟩
      have hg := (hc (g, _) (List.mem_append_left _ (List.mem_singleton.2 rfl))).2
      rw [cell_of_row w g _ _ _ _ hg, Nat.zero_add]
      rw [← ht, List.getElem?_take] at hj
      split at hj
      · simpa using hj
      · cases hj
theorem RdIn.row {T sz : Nat} {a : Option Addr} {m cap : Nat} {xs : List Value} (i : Nat) (hi : S[i]? = some (row T sz a m cap xs)) : RdIn W S a xs := fun w S' H =>
  (St.rowInv (i := S'.length + i) H (by rw [List.getElem?_append_right (by omega)]; simpa using hi)).2.2.2.2
theorem row_nil (T sz : Nat) : row T sz none 0 0 [] [] := ⟨⟨by simp, by omega, by simp⟩, .inl ⟨rfl, rfl, rfl⟩⟩
theorem St.newRow {T sz : Nat} (H : St W w S) : St W w (row T sz none 0 0 [] :: S) := by
  obtain ⟨c, h2, hn, hc⟩ := H.own
  exact ⟨H.os, H.tape, H.output, H.size, H.ro, c, ⟨[], c, rfl, row_nil T sz, h2⟩, hn, hc⟩
theorem row_of_blk0 {T sz g : Nat} {m cap : Nat} {cur xs : List Value} {c : List Chunk} (h : blk0 g cur T c) (hl : cur.length = cap * sz) (hx : cur.take xs.length = xs) (hxl : xs.length = m * sz) (hm : m ≤ cap) (hc : cap ≤ maxLen) : row T sz (some ⟨g, 0, none⟩) m cap xs c :=
  ⟨⟨hxl, hm, hc⟩, .inr ⟨g, cur, rfl, hl, hx, h⟩⟩

theorem Rd.at {a : Addr} {xs : List Value} (h : Rd w (some a) xs) : ∀ j v, xs[j]? = some v → w.cell? (a.add j) = some v := by
  intro j v hj
  obtain ⟨b, o, he, hc⟩ := h j v hj
  cases he
  rw [add_mk]
  exact hc
theorem firstCells_rd {a : Option Addr} {k cap sz : Nat} {xs : List Value} (h : Rd w a xs) (hl : xs.length = k * sz) : (Builtin.firstCells sz k (.slice a k cap)).run P w = .ok xs.toArray w := by
  cases a with
  | some a => exact run_firstCells_some w sz k a k cap xs hl h.at
  | none =>
    cases xs with
    | nil => exact run_firstCells_none w sz k k cap
    | cons x xs =>
      obtain ⟨b, o, he, _⟩ := h 0 x rfl
      cases he
theorem firstCells_rd' {a : Option Addr} {k len cap sz : Nat} {xs : List Value} (h : Rd w a xs) (hl : xs.length = k * sz) : (Builtin.firstCells sz k (.slice a len cap)).run P w = .ok xs.toArray w := by
  cases a with
  | some a => exact run_firstCells_some w sz k a len cap xs hl h.at
  | none =>
    cases xs with
    | nil => exact run_firstCells_none w sz k len cap
    | cons x xs =>
      obtain ⟨b, o, he, _⟩ := h 0 x rfl
      cases he

theorem next_le {need old : Nat} (h : old < need) : Builtin.nextslicecap need old ≤ need + need / 4 + 192 := by
  unfold Builtin.nextslicecap
  split
  · omega
  · split
    · omega
    · rw [growBy_four]
      repeat' split
      all_goals omega
/-- append to a slice that the call owns, from whatever slice -/
theorem run_append {a : Option Addr} {k cap sz by_ : Nat} {T E ty : TypeId} {z : Value} {xs ys : List Value} {a2 : Option Addr} {m c2 : Nat} (hT : elT P T = some (E, sz, by_)) (hz : zeroV P E = some z) (hzs : z.cells.size = sz) (H : St W w (row E sz a k cap xs :: S))
    (hr : Rd w a2 ys) (hy : ys.length = m * sz) (h1 : ∀ u ∈ ys, u.oneCell' = true) (hb : (k + m) * by_ ≤ 140737488355328 ∨ ((k + m) + (k + m) / 4 + 192) * by_ ≤ 281474976710656) (hml : k + m ≤ maxLen) :
    ∃ a' cap' w', (Builtin.append_ #[T, T] ty #[.slice a k cap, .slice a2 m c2]).run P w = .ok (.slice a' (k + m) cap') w' ∧ St W w' (row E sz a' (k + m) cap' (xs ++ ys) :: S) := by
  obtain ⟨i, hu, hi, rfl, rfl⟩ := elT_spec hT
  obtain ⟨hxl, hkc, hcm, hnil, hrx⟩ := H.rowInv (i := 0) rfl
  have h63 : ((k + m : Nat) : Int) ≤ 9223372036854775807 := by simp only [maxLen] at hml; omega
  have hlen : (xs ++ ys).length = (k + m) * i.size := by rw [List.length_append, hxl, hy, Nat.add_mul]
  by_cases hroom : k + m ≤ cap
  · have hfy := firstCells_rd (P := P) (cap := c2) (sz := i.size) hr hy
    cases a with
    | none =>
      have := hnil rfl
      subst this
      have hk0 : k = 0 := by omega
      have hm0 : m = 0 := by omega
      subst hk0; subst hm0
      have : xs = [] := List.eq_nil_of_length_eq_zero (by simpa using hxl)
      subst this
      have : ys = [] := List.eq_nil_of_length_eq_zero (by simpa using hy)
      subst this
      refine ⟨none, 0, w, ?_, by simpa using H⟩
      simp [Builtin.append_, run_underlying hu, run_sizeOf hi, Builtin.lenOf, hfy]
    | some ad =>
      obtain ⟨c, ⟨c1, c2', rfl, ⟨hh1, hh2⟩, hh3⟩, hn, hc⟩ := H.own
      rcases hh2 with ⟨h, _⟩ | ⟨g, cur, hg, hl, ht, rfl⟩
      · cases h
      cases hg
      have hgw := (hc (g, _) (List.mem_append_left _ (List.mem_singleton.2 rfl))).2
      have hfit : 0 + k * i.size + ys.length ≤ cur.toArray.size := by
        simp only [List.size_toArray, hl, Nat.zero_add, hy, ← Nat.add_mul]; exact Nat.mul_le_mul_right _ hroom
      have hst := run_storeCells_at P g (k * i.size) E ys 0 cur.toArray w hgw (by simpa using hfit) h1
      simp only [Nat.add_zero] at hst
      refine ⟨some ⟨g, 0, none⟩, cap, _, ?_, H.turn (w' := w.setRow g (cur.toArray.toList.take (k * i.size) ++ ys ++ cur.toArray.toList.drop (k * i.size + ys.length)).toArray) rfl rfl rfl (by simp) ?_⟩
      · simp [Builtin.append_, run_underlying hu, run_sizeOf hi, Builtin.lenOf, hroom, hfy, add_mk, hst]
      · rintro c ⟨_, hcc⟩ hc' _
        rcases hcc with ⟨h, _⟩ | ⟨g', cur', hg', _, _, rfl⟩
        · cases h
        cases hg'
        have hgw' := (hc' (g, _) (List.mem_singleton.2 rfl))
        refine ⟨fun j hj hne => setRow_other w g j _ (by simpa using hne), [(g, _)], ⟨⟨hlen, hroom, hcm⟩, .inr ⟨g, cur.take (k * i.size) ++ ys ++ cur.drop (k * i.size + ys.length), rfl, ?_, ?_, rfl⟩⟩, by simp, ?_⟩
        · simp only [List.size_toArray] at hfit
          simp only [List.length_append, List.length_take, List.length_drop]
          omega
        · rw [hxl] at ht
          rw [ht]
          exact List.take_left
        · intro x hx
          rw [List.mem_singleton.1 hx]
          exact ⟨hgw'.1, setRow_heap w g _ _ E _ hgw, .inl (by simp)⟩
  · have hn : ¬ (k + m ≤ cap) := hroom
    have h63' : ¬ (9223372036854775807 < ((k : Int) + (m : Int))) := by omega
    have hfit : Builtin.nextslicecap (k + m) cap * i.bytes ≤ 281474976710656 := by
      rcases hb with hb | hb
      · exact growslice_fits (old := cap) (need := k + m) (bytes := i.bytes) (by omega) hb
      · exact Nat.le_trans (Nat.mul_le_mul_right _ (next_le (by omega))) hb
    have h48' : ¬ (281474976710656 < Builtin.nextslicecap (k + m) cap * i.bytes) := by omega
    have hfy := firstCells_rd (P := P) (w := w.drew) (cap := c2) (sz := i.size) hr hy
    have hfx := firstCells_rd (P := P) (w := w.drew) (cap := cap) (sz := i.size) hrx hxl
    have hge := grownCap_ge w (k + m) cap E
    have hgm := grownCap_le_maxLen w (k + m) cap E hml
    have hzi : i.zero = some z := by simpa [zeroV, hi] using hz
    refine ⟨some ⟨w.heap.size, 0, none⟩, grownCap w (k + m) cap E, w.drew.alloc (.cells (xs ++ ys ++ (Builtin.zeroCells z.cells (grownCap w (k + m) cap E - (k + m))).toList).toArray E), ?_, ?_⟩
    · simp [Builtin.append_, run_underlying hu, sizeOf, typeInfo, zeroValue, hi, hzi, Builtin.lenOf, hn, h63', h48', Question.forced, hfx, hfy, newRow, grownCap]
      congr 2
      apply Array.ext'
      simp
    · have H2 := (H.drop1.drew).alloc (xs ++ ys ++ (Builtin.zeroCells z.cells (grownCap w (k + m) cap E - (k + m))).toList) E
      refine H2.imp fun c hc => row_of_blk0 hc ?_ ?_ hlen hge hgm
      · rw [List.length_append, hlen, Array.length_toList, size_zeroCells, hzs, ← Nat.add_mul]
        congr 1; omega
      · exact List.take_left
theorem l_append {ops : Array Oper} {o : Oper} {rest : List Oper} {T E : TypeId} {s x : Operand} {sz by_ : Nat} {z : Value} {a a2 : Option Addr} {k cap m c2 : Nat} {xs ys : List Value} (hg : gst n ops ρ o = some true)
    (ho : o.op = .call { callee := .builtin .append, args := #[s, x], argTypes := #[T, T] }) (hT : elT P T = some (E, sz, by_)) (hz : zeroV P E = some z) (hzs : Nat.beq z.cells.size sz = true)
    (hs : ev n ρ s = .slice a k cap) (hx : ev n ρ x = .slice a2 m c2) (H : St W w S) (i : Nat) (hi : S[i]? = some (row E sz a k cap xs)) (hr : Rd w a2 ys) (hy : ys.length = m * sz) (h1 : ∀ u ∈ ys, u.oneCell' = true)
    (hb : ((k + m) * by_ ≤ 140737488355328 ∨ ((k + m) + (k + m) / 4 + 192) * by_ ≤ 281474976710656) ∧ k + m ≤ maxLen)
    (h : ∀ a' cap' w', St W w' (S.set i (row E sz a' (k + m) cap' (xs ++ ys))) → L P n ops rest Q (putE ρ o.dst (.slice a' (k + m) cap')) w') : L P n ops (o :: rest) Q ρ w := by
  obtain ⟨a', cap', w', hrun, H'⟩ := run_append (P := P) (ty := o.type) (c2 := c2) hT hz (Nat.eq_of_beq_eq_true hzs) (H.front i hi) hr hy h1 hb.1 hb.2
  refine l_val hg (v := .slice a' (k + m) cap') (w' := w') ?_ (h a' cap' w' (H'.perm (perm_set hi)))
  unfold execOp
  simp only [ho, resolve, invoke, builtin, Sem.run_bind, Sem.run_pure, Result.andThen_ok, List.map_toArray, List.map_cons, List.map_nil, hs, hx, hrun]

/-- a literal slice -/
theorem l_buildSlice {ops : Array Oper} {o : Oper} {rest : List Oper} {T E : TypeId} {sz by_ len : Nat} {z : Value} {parts : List (Nat × Operand)} {cs : List Value} (hg : gst n ops ρ o = some true) (ho : o.op = .buildSlice T len parts.toArray)
    (hT : elT P T = some (E, sz, by_)) (hz : zeroV P E = some z) (hzs : Nat.beq z.cells.size sz = true) (hl : (Nat.ble (len * sz) 16777216 && Nat.blt 0 (len * sz)) = true)
    (hf : fillL (fun i => some (i * sz, sz)) (repL len z.cells.toList) (parts.map fun p => (p.1, ev n ρ p.2)) = some cs) (H : St W w S)
    (h : ∀ b w', St W w' (blk0 b cs E :: S) → L P n ops rest Q (putE ρ o.dst (.slice (some ⟨b, 0, none⟩) len len)) w') : L P n ops (o :: rest) Q ρ w := by
  obtain ⟨i, hu, hi, rfl, rfl⟩ := elT_spec hT
  have hzs := Nat.eq_of_beq_eq_true hzs
  simp only [Bool.and_eq_true] at hl
  have hl1 := Nat.le_of_ble_eq_true hl.1
  have hl2 : 0 < len * i.size := Nat.le_of_ble_eq_true hl.2
  have hfl := fill_eq _ _ _ _ hf
  have hre := range_eq len z.cells
  rw [hzs] at hre
  refine l_val (w' := w.alloc (.cells cs.toArray E)) hg ?_ (h _ _ (H.alloc cs E))
  unfold execOp
  rw [show (List.map (fun p : Nat × Operand => (p.1, ev n ρ p.2)) parts) = (Array.map (fun x : Nat × Operand => match x with | (i, x) => (i, ev n ρ x)) parts.toArray).toList by simp] at hfl
  simp only [ho, Instr.buildSlice, Sem.run_bind, run_underlying hu, Result.andThen_ok, run_sizeOf hi]
  rw [if_neg (by omega), if_neg (by omega)]
  simp only [Sem.run_bind, run_zero hz, Result.andThen_ok, Sem.run_pure, hzs, hre, hfl]
  rfl

/-- make([]T, n) -/
theorem l_make {ops : Array Oper} {o : Oper} {rest : List Oper} {T E : TypeId} {sz by_ : Nat} {z : Value} {x y : Operand} {m : Nat} (hg : gst n ops ρ o = some true) (ho : o.op = .makeSlice T x y)
    (hT : elT P T = some (E, sz, by_)) (hz : zeroV P E = some z) (hzs : Nat.beq z.cells.size sz = true) (hx : ev n ρ x = .int .i64 (m : Int)) (hy : ev n ρ y = .int .i64 (m : Int)) (hb : m * by_ ≤ 281474976710656 ∧ m ≤ maxLen) (H : St W w S)
    (h : ∀ b w', St W w' (blk0 b (repL m z.cells.toList) E :: S) → L P n ops rest Q (putE ρ o.dst (.slice (some ⟨b, 0, none⟩) m m)) w') : L P n ops (o :: rest) Q ρ w := by
  obtain ⟨i, hu, hi, rfl, rfl⟩ := elT_spec hT
  have hzs := Nat.eq_of_beq_eq_true hzs
  have hre := range_eq m z.cells
  rw [hzs] at hre
  have hw : IntKind.i64.wrap (m : Int) = m := wrap_inK (by have := hb.2; simp only [maxLen] at this; simp only [inK]; omega)
  refine l_val (w' := w.alloc (.cells (repL m z.cells.toList).toArray E)) hg ?_ (h _ _ (H.alloc _ E))
  unfold execOp
  have hbi : ¬ ((i.bytes : Int) * (m : Int) > 2 ^ 48) := by
    rw [show (2 : Int) ^ 48 = 281474976710656 by decide]
    have : ((m * i.bytes : Nat) : Int) ≤ 281474976710656 := by have := hb.1; omega
    rw [Int.natCast_mul, Int.mul_comm] at this
    omega
  have hm0 : ¬ ((m : Int) < 0) := by omega
  simp only [ho, hx, hy, Instr.makeSlice, Sem.run_bind, run_underlying hu, Result.andThen_ok, asInt, asIntOf, Sem.run_pure, run_typeInfo hi, hw]
  simp only [hbi, hm0, decide_false, Bool.or_false, show ((m : Int) > (m : Int)) = False by simp, Bool.false_eq_true, if_false, Sem.run_bind, run_askRoom, Result.andThen_ok, run_sizeOf hi, Int.toNat_natCast]
  by_cases h0 : m * i.size = 0
  · have he : repL m z.cells.toList = [] := List.eq_nil_of_length_eq_zero (by rw [length_repL, Array.length_toList, hzs, h0])
    rw [he]
    simp only [h0, if_true, newRow, Sem.run_bind, Sem.run_pure, Result.andThen_ok, run_newObj, show Array.range 0 = #[] from rfl]
    simp
  · rw [if_neg h0]
    simp only [newRow, Sem.run_bind, run_zero hz, Sem.run_pure, Result.andThen_ok, run_newObj, hzs, hre]
    rfl
end
end Go.EW
