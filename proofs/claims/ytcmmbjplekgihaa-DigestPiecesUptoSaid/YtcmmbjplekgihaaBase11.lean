/- A layer over the model's own weakest preconditions: environments as functions, memory as a list of owned segments, a law for each operation; it holds of every program, on the conditions that each theorem names. -/
import Derived.Test.YtcmmbjplekgihaaBase10
import Derived.Laws.StructEq
import Derived.ChangeKeysEq
namespace Go.EW
/-! '==' on structs and arrays of numbers, strings and bools -/
inductive Kd where
  | int (k : IntKind)
  | str
  | bool
def FitC : Kd → Value → Prop
  | .int k, v => ∃ a, v = .int k a
  | .str, v => ∃ s, v = .string s
  | .bool, v => ∃ b, v = .bool b
def Fit : List Kd → List Value → Prop
  | [], [] => True
  | k :: ks, v :: vs => FitC k v ∧ Fit ks vs
  | _, _ => False
def eqC : Value → Value → Bool
  | .int _ a, .int _ b => a == b
  | .string a, .string b => a.toList == b.toList
  | .bool a, .bool b => a == b
  | _, _ => false
def eqL : List Value → List Value → Bool
  | v :: vs, u :: us => eqC v u && eqL vs us
  | _, _ => true
theorem Fit.len : ∀ {ks : List Kd} {vs : List Value}, Fit ks vs → vs.length = ks.length
  | [], [], _ => rfl
  | _ :: _, _ :: _, h => by simp [h.2.len]
  | [], _ :: _, h => h.elim
  | _ :: _, [], h => h.elim
theorem Fit.app {ks ls : List Kd} : ∀ {vs : List Value}, Fit (ks ++ ls) vs → Fit ks (vs.take ks.length) ∧ Fit ls (vs.drop ks.length) := by
  induction ks with
  | nil => intro vs h; exact ⟨by simp [Fit], by simpa using h⟩
  | cons k ks ih =>
    intro vs h
    cases vs with
    | nil => exact h.elim
    | cons v vs =>
      obtain ⟨h1, h2⟩ := h
      obtain ⟨h3, h4⟩ := ih h2
      exact ⟨⟨h1, h3⟩, h4⟩
theorem eqL_app : ∀ (n : Nat) (vs us : List Value), n ≤ vs.length → n ≤ us.length → eqL vs us = (eqL (vs.take n) (us.take n) && eqL (vs.drop n) (us.drop n))
  | 0, vs, us, _, _ => by simp [eqL]
  | n + 1, v :: vs, u :: us, h1, h2 => by
    simp only [List.length_cons] at h1 h2
    simp only [eqL, List.take_succ_cons, List.drop_succ_cons, eqL_app n vs us (by omega) (by omega), Bool.and_assoc]
def flatF (P : Program) (g : TypeId → Option (List Kd)) : Nat → List Field → Option (List Kd)
  | _, [] => some []
  | off, f :: fs =>
    if f.name ≠ "_" ∧ f.offset = off ∧ P.cellsOf f.type ≠ 0 then
      match g f.type with
      | some ks => if ks.length = P.cellsOf f.type then (flatF P g (off + ks.length) fs).map (ks ++ ·) else none
      | none => none
    else none
def flatK (P : Program) : Nat → TypeId → Option (List Kd)
  | 0, _ => none
  | d + 1, t =>
    match P.underlying t with
    | some .bool => some [.bool]
    | some (.int k) => some [.int k]
    | some .string => some [.str]
    | some (.array n e) =>
      match flatK P d e with
      | some ks => if ks.length = P.cellsOf e ∧ P.cellsOf e ≠ 0 then some (List.replicate n ks).flatten else none
      | none => none
    | some (.struct fs) => if P.stoodInHeld t then none else flatF P (flatK P d) 0 fs.toList
    | _ => none
/-- a value of a type, out of its cells -/
def mkV (P : Program) (t : TypeId) (xs : List Value) : Value :=
  match P.underlying t with
  | some (.struct _) | some (.array _ _) => .agg xs.toArray
  | _ => xs.headD undef
section
variable {P : Program}
theorem cellsOf_info {t : TypeId} {s : Nat} (h : P.cellsOf t = s) (hs : s ≠ 0) : ∃ i, P.info? t = some i ∧ i.size = s := by
  unfold Program.cellsOf at h
  cases hi : P.info? t with
  | none => rw [hi] at h; simp at h; omega
  | some i => rw [hi] at h; exact ⟨i, rfl, by simpa using h⟩
theorem flatK_und {d : Nat} {t : TypeId} {ks : List Kd} (h : flatK P d t = some ks) : ∃ u, P.underlying t = some u := by
  cases d with
  | zero => cases h
  | succ d =>
    simp only [flatK] at h
    cases hu : P.underlying t with
    | none => rw [hu] at h; cases h
    | some u => exact ⟨u, rfl⟩
theorem run_part {d : Nat} {t : TypeId} {ks : List Kd} {xs : List Value} {off : Nat} {w : World} (h : flatK P d t = some ks) (hl : ks.length = P.cellsOf t) (h0 : P.cellsOf t ≠ 0) (hx : off + ks.length ≤ xs.length) :
    (part t xs.toArray off).run P w = .ok (mkV P t ((xs.drop off).take ks.length)) w := by
  obtain ⟨u, hu⟩ := flatK_und h
  obtain ⟨i, hi, his⟩ := cellsOf_info rfl h0
  have hex : xs.toArray.extract off (off + ks.length) = ((xs.drop off).take ks.length).toArray := by
    apply Array.ext'
    simp [List.take_drop]
  unfold part mkV
  simp only [Sem.run_bind, run_isAgg hu, Result.andThen_ok, hu]
  cases u <;> simp only [oneD, Bool.not_true, Bool.not_false, Bool.false_eq_true, if_false, if_true, Sem.run_bind, run_sizeOf hi, Result.andThen_ok, Sem.run_pure, his, ← hl, hex]
  all_goals
    have hlt : off < xs.length := by omega
    have h1 : xs.toArray[off]? = some xs[off] := by simp [hlt]
    have h2 : ((xs.drop off).take ks.length).headD undef = xs[off] := by
      rw [List.drop_eq_getElem_cons hlt]
      obtain ⟨m, hm⟩ : ∃ m, ks.length = m + 1 := ⟨ks.length - 1, by omega⟩
      rw [hm, List.take_succ_cons]; rfl
    rw [h1]
    simp only [Sem.run_pure, h2]
theorem run_fields {d m : Nat} (IH : ∀ t ks, flatK P m t = some ks → ∀ xs ys w, Fit ks xs → Fit ks ys → (Op.equalIn (d + m) t (mkV P t xs) (mkV P t ys)).run P w = .ok (eqL xs ys) w) :
    ∀ (fs : List Field) (off : Nat) (ks : List Kd), flatF P (flatK P m) off fs = some ks → ∀ (xs ys : List Value) (w : World), Fit ks (xs.drop off) → Fit ks (ys.drop off) → off ≤ xs.length → off ≤ ys.length →
      (Op.eqFields (d + m) xs.toArray ys.toArray fs).run P w = .ok (eqL (xs.drop off) (ys.drop off)) w
  | [], off, ks, h, xs, ys, w, hx, hy, _, _ => by
    simp only [flatF, Option.some.injEq] at h
    subst h
    have := hx.len
    have e1 : xs.drop off = [] := List.eq_nil_of_length_eq_zero (by simpa using hx.len)
    simp [Op.eqFields, e1, eqL]
  | f :: fs, off, ks, h, xs, ys, w, hx, hy, lx, ly => by
    simp only [flatF] at h
    split at h
    · rename_i hf
      split at h
      · rename_i k1 hk1
        split at h
        · rename_i hl
          cases hr : flatF P (flatK P m) (off + k1.length) fs with
          | none => rw [hr] at h; cases h
          | some k2 =>
            rw [hr] at h
            simp only [Option.map_some, Option.some.injEq] at h
            subst h
            obtain ⟨x1, x2⟩ := hx.app
            obtain ⟨y1, y2⟩ := hy.app
            have hxl := hx.len
            have hyl := hy.len
            simp only [List.length_drop, List.length_append] at hxl hyl
            have h0 := hf.2.2
            have px := run_part (P := P) (w := w) (xs := xs) (off := off) hk1 hl h0 (by omega)
            have py := run_part (P := P) (w := w) (xs := ys) (off := off) hk1 hl h0 (by omega)
            have he := IH f.type k1 hk1 _ _ w x1 y1
            rw [List.drop_drop] at x2 y2
            have ih := run_fields IH fs (off + k1.length) k2 hr xs ys w x2 y2 (by omega) (by omega)
            have hsp := eqL_app k1.length (xs.drop off) (ys.drop off) (by simp; omega) (by simp; omega)
            rw [List.drop_drop, List.drop_drop] at hsp
            simp only [Op.eqFields]
            rw [if_pos hf.1]
            simp only [Sem.run_bind, hf.2.1, px, py, he, Result.andThen_ok, Sem.run_ite, ih, Sem.run_pure]
            rw [hsp]
            cases eqL ((xs.drop off).take k1.length) ((ys.drop off).take k1.length) <;> simp
        · cases h
      · cases h
    · cases h
theorem Fit.rep {ks : List Kd} : ∀ (n : Nat) {xs : List Value}, Fit (List.replicate n ks).flatten xs → ∀ i, i < n → Fit ks ((xs.drop (i * ks.length)).take ks.length)
  | 0, _, _, _, h => by omega
  | n + 1, xs, h, i, hi => by
    rw [List.replicate_succ, List.flatten_cons] at h
    obtain ⟨h1, h2⟩ := h.app
    cases i with
    | zero => simpa using h1
    | succ i =>
      have := Fit.rep n h2 i (by omega)
      rw [List.drop_drop] at this
      rw [show (i + 1) * ks.length = ks.length + i * ks.length by rw [Nat.succ_mul]; omega]
      exact this
theorem run_items {d m : Nat} {e : TypeId} {ks : List Kd} (he : flatK P m e = some ks) (hl : ks.length = P.cellsOf e) (h0 : P.cellsOf e ≠ 0) (IH : ∀ xs ys w, Fit ks xs → Fit ks ys → (Op.equalIn (d + m) e (mkV P e xs) (mkV P e ys)).run P w = .ok (eqL xs ys) w) (n : Nat) :
    ∀ (k i : Nat) (xs ys : List Value) (w : World), i + k = n → Fit (List.replicate n ks).flatten xs → Fit (List.replicate n ks).flatten ys →
      (Op.eqItems (d + m) e (P.cellsOf e) xs.toArray ys.toArray (List.range' i k)).run P w = .ok (eqL (xs.drop (i * ks.length)) (ys.drop (i * ks.length))) w := by
  intro k
  induction k with
  | zero =>
    intro i xs ys w hi hx hy
    have := hx.len
    have e1 : xs.drop (i * ks.length) = [] := List.eq_nil_of_length_eq_zero (by
      have hl := hx.len
      simp at hl
      simp [hl]
      have : i = n := by omega
      subst this
      omega)
    simp [Op.eqItems, e1, eqL]
  | succ k ih =>
    intro i xs ys w hi hx hy
    have hxl := hx.len
    have hyl := hy.len
    simp only [List.length_flatten, List.map_replicate, List.sum_replicate_nat] at hxl hyl
    have hle : i * ks.length + ks.length ≤ n * ks.length := by
      have : (i + 1) * ks.length ≤ n * ks.length := Nat.mul_le_mul_right _ (by omega)
      rw [Nat.succ_mul] at this
      exact this
    have px := run_part (P := P) (w := w) (xs := xs) (off := i * ks.length) he hl h0 (by omega)
    have py := run_part (P := P) (w := w) (xs := ys) (off := i * ks.length) he hl h0 (by omega)
    have hee := IH _ _ w (hx.rep n i (by omega)) (hy.rep n i (by omega))
    have hih := ih (i + 1) xs ys w (by omega) hx hy
    have hsp := eqL_app ks.length (xs.drop (i * ks.length)) (ys.drop (i * ks.length)) (by simp; omega) (by simp; omega)
    rw [List.drop_drop, List.drop_drop] at hsp
    rw [show (i + 1) * ks.length = i * ks.length + ks.length by rw [Nat.succ_mul]] at hih
    rw [List.range'_succ]
    simp only [Op.eqItems, Sem.run_bind, ← hl, px, py, hee, Result.andThen_ok, Sem.run_ite, Sem.run_pure]
    rw [hl] at hih ⊢
    rw [hih, ← hl, hsp]
    cases eqL ((xs.drop (i * ks.length)).take ks.length) ((ys.drop (i * ks.length)).take ks.length) <;> simp
theorem run_eqFlat (d : Nat) : ∀ (m : Nat) (t : TypeId) (ks : List Kd), flatK P m t = some ks → ∀ xs ys w, Fit ks xs → Fit ks ys → (Op.equalIn (d + m) t (mkV P t xs) (mkV P t ys)).run P w = .ok (eqL xs ys) w
  | 0, _, _, h => by cases h
  | m + 1, t, ks, h => by
    intro xs ys w hx hy
    simp only [flatK] at h
    cases hu : P.underlying t with
    | none => rw [hu] at h; cases h
    | some u =>
      rw [hu] at h
      cases u <;> simp only at h <;> try (cases h; done)
      case bool =>
        cases h
        match xs, ys, hx, hy with
        | [x], [y], ⟨⟨a, ha⟩, _⟩, ⟨⟨b, hb⟩, _⟩ =>
          subst ha; subst hb
          simp only [mkV, hu, List.headD_cons]
          rw [show d + (m + 1) = (d + m) + 1 from rfl, run_equalIn_bool' w _ _ _ _ hu]
          simp [eqL, eqC]
      case int k =>
        cases h
        match xs, ys, hx, hy with
        | [x], [y], ⟨⟨a, ha⟩, _⟩, ⟨⟨b, hb⟩, _⟩ =>
          subst ha; subst hb
          simp only [mkV, hu, List.headD_cons]
          rw [show d + (m + 1) = (d + m) + 1 from rfl, run_equalIn_int w _ _ _ _ _ _ hu]
          simp [eqL, eqC]
      case string =>
        cases h
        match xs, ys, hx, hy with
        | [x], [y], ⟨⟨a, ha⟩, _⟩, ⟨⟨b, hb⟩, _⟩ =>
          subst ha; subst hb
          simp only [mkV, hu, List.headD_cons]
          rw [show d + (m + 1) = (d + m) + 1 from rfl, run_equalIn_string w _ _ _ _ hu]
          simp [eqL, eqC]
      case array n e =>
        split at h
        · rename_i k1 hk1
          split at h
          · rename_i hl
            cases h
            obtain ⟨i, hi, his⟩ := cellsOf_info rfl hl.2
            simp only [mkV, hu]
            rw [show d + (m + 1) = (d + m) + 1 from rfl, run_equalIn_array w (d + m) _ _ hu hi, List.range_eq_range']
            have := run_items (d := d) hk1 hl.1 hl.2 (run_eqFlat d m e k1 hk1) n n 0 xs ys w (by omega) hx hy
            simpa using this
          · cases h
        · cases h
      case struct fs =>
        split at h
        · cases h
        · rename_i hst
          have hfo : P.fieldsOf t = fs := by simp [Program.fieldsOf, hu]
          simp only [mkV, hu]
          rw [show d + (m + 1) = (d + m) + 1 from rfl, run_equalIn_struct w (d + m) t _ _ (by rw [hfo]; exact hu) (by simpa using hst), hfo]
          have := run_fields (d := d) (fun t ks h => run_eqFlat d m t ks h) fs.toList 0 ks h xs ys w (by simpa using hx) (by simpa using hy) (by omega) (by omega)
          simpa using this
/-- '==' and '!=' on structs and arrays -/
theorem q_eqlAgg {e : Operand → Value} {o : Oper} {x y : Operand} {T T' : TypeId} {ks : List Kd} {xs ys : List Value} {w : World} (ho : o.op = .binOp .eql T x y T') (hT : flatK P 8 T = some ks) (hA : mkV P T xs = .agg xs.toArray) (hA' : mkV P T ys = .agg ys.toArray)
    (hgd : P.eqGuardType P.depth T = false) (hx : e x = .agg xs.toArray) (hy : e y = .agg ys.toArray) (fx : Fit ks xs) (fy : Fit ks ys) : (execOp e o).run P w = .ok (.value (.bool (eqL xs ys))) w := by
  refine exec_eql ho hx hy (run_eqGuard_agg w _ _ _ _ _ _ hgd) rfl ?_
  have := run_eqFlat (P := P) 9992 8 T ks hT xs ys w fx fy
  rw [hA, hA'] at this
  exact this
theorem q_neqAgg {e : Operand → Value} {o : Oper} {x y : Operand} {T T' : TypeId} {ks : List Kd} {xs ys : List Value} {w : World} (ho : o.op = .binOp .neq T x y T') (hT : flatK P 8 T = some ks) (hA : mkV P T xs = .agg xs.toArray) (hA' : mkV P T ys = .agg ys.toArray)
    (hgd : P.eqGuardType P.depth T = false) (hx : e x = .agg xs.toArray) (hy : e y = .agg ys.toArray) (fx : Fit ks xs) (fy : Fit ks ys) : (execOp e o).run P w = .ok (.value (.bool (!(eqL xs ys)))) w := by
  refine exec_neq ho hx hy (run_eqGuard_agg w _ _ _ _ _ _ hgd) rfl ?_
  have := run_eqFlat (P := P) 9992 8 T ks hT xs ys w fx fy
  rw [hA, hA'] at this
  exact this
end
end Go.EW
