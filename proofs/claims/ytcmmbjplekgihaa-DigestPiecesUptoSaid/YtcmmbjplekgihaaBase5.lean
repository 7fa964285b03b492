/- A layer over the model's own weakest preconditions: environments as functions, memory as a list of owned segments, a law for each operation; it holds of every program, on the conditions that each theorem names. -/
import Derived.Test.YtcmmbjplekgihaaBase4
import Derived.Laws.IdiomCopy
import Derived.Laws.BytesString
import Derived.Laws.Closers25
import Derived.Laws.MakeOwn
import Derived.Lib.ConvBytes
import Derived.IntWalk
namespace Go.EW
/-! Facts of the program's table, as closed equations. -/
def oneD : TypeDesc → Bool
  | .struct _ | .array _ _ => false
  | _ => true
def cell1B (P : Program) (t : TypeId) : Bool :=
  match P.info? t, P.underlying t with
  | some i, some d => i.size == 1 && oneD d
  | _, _ => false
def aggB (P : Program) (t : TypeId) (m : Nat) : Bool :=
  match P.info? t, P.underlying t with
  | some i, some d => i.size == m && !oneD d
  | _, _ => false
def sizeV (P : Program) (t : TypeId) : Option Nat := (P.info? t).map (·.size)
def zeroV (P : Program) (t : TypeId) : Option Value := (P.info? t).bind (·.zero)
def fieldOff (P : Program) (t : TypeId) (f : Nat) : Option Nat :=
  match P.underlying t with
  | some (.struct fs) => match fs[f]? with
    | some fl => match P.info? fl.type with
      | some i => if i.size == 0 then none else some fl.offset
      | none => none
    | none => none
  | _ => none
/-- element type, its cells, its bytes -/
def elT (P : Program) (t : TypeId) : Option (TypeId × Nat × Nat) :=
  match P.underlying t with
  | some (.slice e) => (P.info? e).map fun i => (e, i.size, i.bytes)
  | _ => none
def arrT (P : Program) (t : TypeId) : Option (Nat × TypeId × Nat) :=
  match P.underlying t with
  | some (.array n e) => (P.info? e).map fun i => (n, e, i.size)
  | _ => none
def isStrT (P : Program) (t : TypeId) : Bool := match P.underlying t with | some .string => true | _ => false
def isBytesT (P : Program) (t : TypeId) : Bool := match P.underlying t with | some (.slice e) => (match P.underlying e with | some (.int .u8) => true | _ => false) | _ => false
def isPtrT (P : Program) (t : TypeId) : Bool := match P.underlying t with | some (.pointer _) => true | _ => false
def isBoolT (P : Program) (t : TypeId) : Bool := match P.underlying t with | some .bool => true | _ => false
def intT (P : Program) (t : TypeId) : Option IntKind := match P.underlying t with | some (.int k) => some k | _ => none
def callB (P : Program) (f : FuncId) : Bool :=
  match P.funcs[f]? with
  | some fn => !(fn.name == "runtime.NumGoroutine") && fn.body.isSome
  | none => false

theorem und_none {P : Program} {t : TypeId} (h : P.info? t = none) : P.underlying t = none := by simp [Program.underlying, h]

section
variable {P : Program} {w : World}
theorem cell1_spec {t : TypeId} (h : cell1B P t = true) : ∃ i d, P.info? t = some i ∧ i.size = 1 ∧ P.underlying t = some d ∧ oneD d = true := by
  unfold cell1B at h
  split at h
  · rename_i i d hi hd
    simp at h
    exact ⟨i, d, hi, h.1, hd, h.2⟩
  · cases h
theorem agg_spec {t : TypeId} {m : Nat} (h : aggB P t m = true) : ∃ i d, P.info? t = some i ∧ i.size = m ∧ P.underlying t = some d ∧ oneD d = false := by
  unfold aggB at h
  split at h
  · rename_i i d hi hd
    simp at h
    exact ⟨i, d, hi, h.1, hd, h.2⟩
  · cases h
theorem run_isAgg {t : TypeId} {d : TypeDesc} (h : P.underlying t = some d) : (isAgg t).run P w = .ok (!oneD d) w := by
  unfold isAgg
  rw [Sem.run_bind, run_underlying h]
  cases d <;> rfl
theorem run_sizeOf {t : TypeId} {i : TypeInfo} (h : P.info? t = some i) : (sizeOf t).run P w = .ok i.size w := by simp [sizeOf, typeInfo, h]
theorem run_typeInfo {t : TypeId} {i : TypeInfo} (h : P.info? t = some i) : (typeInfo t).run P w = .ok i w := by simp [typeInfo, h]
theorem add_mk (b k n : Nat) : (⟨b, k, none⟩ : Addr).add n = ⟨b, k + n, none⟩ := by unfold Addr.add; split <;> simp_all

theorem q_load1 {e : Operand → Value} {o : Oper} {T : TypeId} {x : Operand} {b k : Nat} {v : Value} (ho : o.op = .load T x) (hc : cell1B P T = true) (hx : e x = .pointer (some ⟨b, k, none⟩))
    (hv : w.cell? ⟨b, k, none⟩ = some v) : (execOp e o).run P w = .ok (.value v) w := by
  obtain ⟨i, d, hi, hs, hd, h1⟩ := cell1_spec hc
  unfold execOp
  simp only [ho, hx, Instr.loadAt, Instr.sureAddr, Sem.run_bind, Sem.run_pure, Result.andThen_ok, loadVar, run_isAgg hd, h1, Bool.not_true, Bool.false_eq_true, if_false]
  simp [hv]
theorem q_loadN {e : Operand → Value} {o : Oper} {T : TypeId} {x : Operand} {b k m : Nat} {vs : List Value} (ho : o.op = .load T x) (hc : aggB P T m = true) (hx : e x = .pointer (some ⟨b, k, none⟩))
    (hl : vs.length = m) (hv : Cells w b k vs) : (execOp e o).run P w = .ok (.value (.agg vs.toArray)) w := by
  obtain ⟨i, d, hi, hs, hd, h1⟩ := agg_spec hc
  have hr := run_loadCells_list (P := P) w ⟨b, k, none⟩ vs (fun j v hj => by rw [add_mk]; exact hv.get j v hj)
  unfold execOp
  simp only [ho, hx, Instr.loadAt, Instr.sureAddr, Sem.run_bind, Sem.run_pure, Result.andThen_ok, loadVar, run_isAgg hd, h1, Bool.not_false, if_true, run_sizeOf hi, hs]
  rw [← hl, hr]
  rfl

theorem fieldOff_spec {t : TypeId} {f off : Nat} (h : fieldOff P t f = some off) : ∃ fs fl i, P.underlying t = some (.struct fs) ∧ fs[f]? = some fl ∧ P.info? fl.type = some i ∧ i.size ≠ 0 ∧ fl.offset = off := by
  unfold fieldOff at h
  split at h
  · rename_i fs hu
    split at h
    · rename_i fl hf
      split at h
      · rename_i i hi
        split at h
        · cases h
        · rename_i hz
          cases h
          exact ⟨fs, fl, i, hu, hf, hi, by simpa using hz, rfl⟩
      · cases h
    · cases h
  · cases h
theorem q_fieldAddr {e : Operand → Value} {o : Oper} {T : TypeId} {x : Operand} {f b k off : Nat} (ho : o.op = .fieldAddr T x f) (hf : fieldOff P T f = some off) (hx : e x = .pointer (some ⟨b, k, none⟩)) :
    (execOp e o).run P w = .ok (.value (.pointer (some ⟨b, k + off, none⟩))) w := by
  obtain ⟨fs, fl, i, hu, hfl, hi, hz, rfl⟩ := fieldOff_spec hf
  unfold execOp
  simp only [ho, hx, Instr.fieldAt, Instr.sureAddr, Sem.run_bind, Sem.run_pure, Result.andThen_ok, run_underlying hu, hfl, fieldPlace, run_sizeOf hi, hz, if_false, add_mk]
theorem q_field1 {e : Operand → Value} {o : Oper} {T : TypeId} {x : Operand} {f off : Nat} {cs : List Value} {v : Value} {ft : TypeId} (ho : o.op = .field T x f) (hf : fieldOff P T f = some off) (hft : (match P.underlying T with | some (.struct fs) => (fs[f]?).map (·.type) | _ => none) = some ft)
    (h1 : cell1B P ft = true) (hx : e x = .agg cs.toArray) (hv : cs[off]? = some v) : (execOp e o).run P w = .ok (.value v) w := by
  obtain ⟨fs, fl, i, hu, hfl, hi, hz, rfl⟩ := fieldOff_spec hf
  rw [hu] at hft
  simp only [hfl, Option.map_some, Option.some.injEq] at hft
  subst hft
  obtain ⟨i', d, hi', hs, hd, h1⟩ := cell1_spec h1
  unfold execOp
  simp only [ho, hx, Instr.field, Sem.run_bind, Sem.run_pure, Result.andThen_ok, run_underlying hu, hfl, asAgg, part, run_isAgg hd, h1, Bool.not_true, Bool.false_eq_true, if_false]
  simp [hv]

theorem elT_spec {t E : TypeId} {sz by_ : Nat} (h : elT P t = some (E, sz, by_)) : ∃ i, P.underlying t = some (.slice E) ∧ P.info? E = some i ∧ i.size = sz ∧ i.bytes = by_ := by
  unfold elT at h
  split at h
  · rename_i e hu
    cases hi : P.info? e with
    | none => rw [hi] at h; cases h
    | some i =>
      rw [hi] at h
      simp at h
      obtain ⟨rfl, rfl, rfl⟩ := h
      exact ⟨i, hu, hi, rfl, rfl⟩
  · cases h
theorem arrT_spec {t E : TypeId} {n sz : Nat} (h : arrT P t = some (n, E, sz)) : ∃ i, P.underlying t = some (.array n E) ∧ P.info? E = some i ∧ i.size = sz := by
  unfold arrT at h
  split at h
  · rename_i m e hu
    cases hi : P.info? e with
    | none => rw [hi] at h; cases h
    | some i =>
      rw [hi] at h
      simp at h
      obtain ⟨rfl, rfl, rfl⟩ := h
      exact ⟨i, hu, hi, rfl⟩
  · cases h
theorem q_indexSlice {e : Operand → Value} {o : Oper} {T E : TypeId} {x i : Operand} {b k sz by_ len cap : Nat} {kd : IntKind} {j : Int} (ho : o.op = .indexAddr T x i) (hT : elT P T = some (E, sz, by_))
    (hx : e x = .slice (some ⟨b, k, none⟩) len cap) (hi : e i = .int kd j) (h0 : 0 ≤ j ∧ j < len) : (execOp e o).run P w = .ok (.value (.pointer (some ⟨b, k + j.toNat * sz, none⟩))) w := by
  obtain ⟨inf, hu, hin, rfl, rfl⟩ := elT_spec hT
  unfold execOp
  simp only [ho, hx, hi, Instr.indexAt, asIntOf, Sem.run_bind, Sem.run_pure, Result.andThen_ok, run_underlying hu]
  simp [h0, run_sizeOf hin, add_mk]
theorem q_indexSliceN {e : Operand → Value} {o : Oper} {T E : TypeId} {x i : Operand} {b k sz by_ len cap : Nat} {kd : IntKind} {j : Nat} (ho : o.op = .indexAddr T x i) (hT : elT P T = some (E, sz, by_))
    (hx : e x = .slice (some ⟨b, k, none⟩) len cap) (hi : e i = .int kd (j : Int)) (h0 : j < len) : (execOp e o).run P w = .ok (.value (.pointer (some ⟨b, k + j * sz, none⟩))) w := by
  have := q_indexSlice (P := P) (w := w) ho hT hx hi ⟨by omega, by omega⟩
  simpa using this
theorem q_indexArr {e : Operand → Value} {o : Oper} {T E : TypeId} {x i : Operand} {b k sz len : Nat} {kd : IntKind} {j : Int} (ho : o.op = .indexAddr T x i) (hT : arrT P T = some (len, E, sz))
    (hx : e x = .pointer (some ⟨b, k, none⟩)) (hi : e i = .int kd j) (h0 : 0 ≤ j ∧ j < len) : (execOp e o).run P w = .ok (.value (.pointer (some ⟨b, k + j.toNat * sz, none⟩))) w := by
  obtain ⟨inf, hu, hin, rfl⟩ := arrT_spec hT
  unfold execOp
  simp only [ho, hx, hi, Instr.indexAt, asIntOf, Sem.run_bind, Sem.run_pure, Result.andThen_ok, run_underlying hu, Instr.sureAddr]
  simp [h0, run_sizeOf hin, add_mk]
theorem q_indexArrN {e : Operand → Value} {o : Oper} {T E : TypeId} {x i : Operand} {b k sz len : Nat} {kd : IntKind} {j : Nat} (ho : o.op = .indexAddr T x i) (hT : arrT P T = some (len, E, sz))
    (hx : e x = .pointer (some ⟨b, k, none⟩)) (hi : e i = .int kd (j : Int)) (h0 : j < len) : (execOp e o).run P w = .ok (.value (.pointer (some ⟨b, k + j * sz, none⟩))) w := by
  have := q_indexArr (P := P) (w := w) ho hT hx hi ⟨by omega, by omega⟩
  simpa using this
theorem q_indexStr {e : Operand → Value} {o : Oper} {T : TypeId} {x i : Operand} {s : ByteArray} {kd : IntKind} {j : Int} {u : UInt8} (ho : o.op = .index T x i) (hT : isStrT P T = true)
    (hx : e x = .string s) (hi : e i = .int kd j) (h0 : 0 ≤ j ∧ s.data.toList[j.toNat]? = some u) : (execOp e o).run P w = .ok (.value (.int .u8 (u.toNat : Int))) w := by
  have hu : P.underlying T = some .string := by unfold isStrT at hT; split at hT <;> first | assumption | cases hT
  have hg : s[j.toNat]? = some u := by
    have := h0.2
    obtain ⟨hl, he⟩ := List.getElem?_eq_some_iff.1 this
    have hl' : j.toNat < s.size := by simpa using hl
    rw [getElem?_pos s j.toNat hl']
    congr 1
  unfold execOp
  simp only [ho, hx, hi, Instr.index, asIntOf, Sem.run_bind, Sem.run_pure, Result.andThen_ok, run_underlying hu]
  rw [if_pos h0.1, hg]
  rfl
theorem q_indexAgg1 {e : Operand → Value} {o : Oper} {T E : TypeId} {x i : Operand} {len : Nat} {cs : List Value} {kd : IntKind} {j : Int} {v : Value} (ho : o.op = .index T x i) (hT : arrT P T = some (len, E, 1)) (h1 : cell1B P E = true)
    (hx : e x = .agg cs.toArray) (hi : e i = .int kd j) (h0 : 0 ≤ j ∧ j < len) (hv : cs[j.toNat]? = some v) : (execOp e o).run P w = .ok (.value v) w := by
  obtain ⟨inf, hu, hin, hs⟩ := arrT_spec hT
  obtain ⟨i', d, hi', hs', hd, h1⟩ := cell1_spec h1
  unfold execOp
  simp only [ho, hx, hi, Instr.index, asIntOf, Sem.run_bind, Sem.run_pure, Result.andThen_ok, run_underlying hu]
  simp only [h0, and_self, if_true, Sem.run_bind, run_sizeOf hin, hs, Result.andThen_ok, part, run_isAgg hd, h1, Bool.not_true, Bool.false_eq_true, if_false]
  simp [hv]

theorem q_call {e : Operand → Value} {o : Oper} {f : FuncId} {as : Array Operand} {ts : Array TypeId} (ho : o.op = .call { callee := .value (.func f), args := as, argTypes := ts })
    (he : e (.func f) = .func (.func f) #[] #[]) (hf : callB P f = true) : (execOp e o).run P w = .ok (.enter f (as.map e)) w := by
  unfold callB at hf
  split at hf
  · rename_i fn hfn
    simp only [Bool.and_eq_true, Bool.not_eq_true'] at hf
    obtain ⟨h1, h2⟩ := hf
    have h1 : fn.name ≠ "runtime.NumGoroutine" := by simpa using h1
    have h3 : fn.body ≠ none := by cases hb : fn.body <;> simp_all
    unfold execOp
    simp only [ho, resolve, he, Deferred.ofValue]
    simp [invoke, callFunc, hfn, h1, h3]
  · cases hf
theorem q_lenSlice {e : Operand → Value} {o : Oper} {x : Operand} {T E : TypeId} {sz by_ : Nat} {a : Option Addr} {len cap : Nat} (ho : o.op = .call { callee := .builtin .len, args := #[x], argTypes := #[T] })
    (hT : elT P T = some (E, sz, by_)) (hx : e x = .slice a len cap) : (execOp e o).run P w = .ok (.value (.int .i64 (len : Int))) w := by
  obtain ⟨i, hu, hi, _, _⟩ := elT_spec hT
  unfold execOp
  simp [ho, resolve, invoke, builtin, Builtin.len_, hx, run_underlying hu, goInt]
theorem q_lenStr {e : Operand → Value} {o : Oper} {x : Operand} {T : TypeId} {s : ByteArray} (ho : o.op = .call { callee := .builtin .len, args := #[x], argTypes := #[T] })
    (hT : isStrT P T = true) (hx : e x = .string s) : (execOp e o).run P w = .ok (.value (.int .i64 (s.size : Int))) w := by
  have hu : P.underlying T = some .string := by unfold isStrT at hT; split at hT <;> first | assumption | cases hT
  unfold execOp
  simp [ho, resolve, invoke, builtin, Builtin.len_, hx, run_underlying hu, goInt]
theorem eq_succ (t : TypeId) (x y : Value) : Op.equal t x y = Op.equalIn (9999 + 1) t x y := rfl
theorem run_eqNil {T E : TypeId} {p : Option Addr} (hu : P.underlying T = some (.pointer E)) : (Op.equal T (.pointer p) (.pointer none)).run P w = .ok p.isNone w := by
  rw [eq_succ, Op.equalIn]
  cases p <;> simp [run_underlying hu]
theorem run_eqBool {T : TypeId} {a b : Bool} (hu : P.underlying T = some .bool) : (Op.equal T (.bool a) (.bool b)).run P w = .ok (a == b) w := by
  rw [eq_succ, Op.equalIn]
  simp [run_underlying hu]
theorem exec_eql {e : Operand → Value} {o : Oper} {x y : Operand} {T T' : TypeId} {v u : Value} {b : Bool} (ho : o.op = .binOp .eql T x y T') (hx : e x = v) (hy : e y = u)
    (hg : (eqGuard .eql T x y v u).run P w = .ok () w) (hb : binOp .eql T v u = (do pure (.bool (← Op.equal T v u)))) (h : (Op.equal T v u).run P w = .ok b w) :
    (execOp e o).run P w = .ok (.value (.bool b)) w := by
  unfold execOp
  simp only [ho, hx, hy, Sem.run_bind, hg, Result.andThen_ok, hb, h, Sem.run_pure]
theorem exec_neq {e : Operand → Value} {o : Oper} {x y : Operand} {T T' : TypeId} {v u : Value} {b : Bool} (ho : o.op = .binOp .neq T x y T') (hx : e x = v) (hy : e y = u)
    (hg : (eqGuard .neq T x y v u).run P w = .ok () w) (hb : binOp .neq T v u = (do pure (.bool (!(← Op.equal T v u))))) (h : (Op.equal T v u).run P w = .ok b w) :
    (execOp e o).run P w = .ok (.value (.bool (!b))) w := by
  unfold execOp
  simp only [ho, hx, hy, Sem.run_bind, hg, Result.andThen_ok, hb, h, Sem.run_pure]
theorem isPtr_spec {T : TypeId} (hT : isPtrT P T = true) : ∃ E, P.underlying T = some (.pointer E) := by
  unfold isPtrT at hT
  split at hT
  · exact ⟨_, by assumption⟩
  · cases hT
theorem isBool_spec {T : TypeId} (hT : isBoolT P T = true) : P.underlying T = some .bool := by
  unfold isBoolT at hT
  split at hT
  · assumption
  · cases hT
theorem q_eqlNil {e : Operand → Value} {o : Oper} {x y : Operand} {T T' : TypeId} {p : Option Addr} (ho : o.op = .binOp .eql T x y T') (hT : isPtrT P T = true) (hx : e x = .pointer p) (hy : e y = .pointer none) :
    (execOp e o).run P w = .ok (.value (.bool p.isNone)) w := by
  obtain ⟨E, hu⟩ := isPtr_spec hT
  exact exec_eql ho hx hy rfl rfl (run_eqNil hu)
theorem q_neqNil {e : Operand → Value} {o : Oper} {x y : Operand} {T T' : TypeId} {p : Option Addr} (ho : o.op = .binOp .neq T x y T') (hT : isPtrT P T = true) (hx : e x = .pointer p) (hy : e y = .pointer none) :
    (execOp e o).run P w = .ok (.value (.bool (!p.isNone))) w := by
  obtain ⟨E, hu⟩ := isPtr_spec hT
  exact exec_neq ho hx hy rfl rfl (run_eqNil hu)
theorem q_eqlNilF {e : Operand → Value} {o : Oper} {x y : Operand} {T T' : TypeId} {a : Addr} (ho : o.op = .binOp .eql T x y T') (hT : isPtrT P T = true) (hx : e x = .pointer (some a)) (hy : e y = .pointer none) :
    (execOp e o).run P w = .ok (.value (.bool false)) w := q_eqlNil ho hT hx hy
theorem q_eqlNilT {e : Operand → Value} {o : Oper} {x y : Operand} {T T' : TypeId} (ho : o.op = .binOp .eql T x y T') (hT : isPtrT P T = true) (hx : e x = .pointer none) (hy : e y = .pointer none) :
    (execOp e o).run P w = .ok (.value (.bool true)) w := q_eqlNil ho hT hx hy
theorem q_neqNilF {e : Operand → Value} {o : Oper} {x y : Operand} {T T' : TypeId} {a : Addr} (ho : o.op = .binOp .neq T x y T') (hT : isPtrT P T = true) (hx : e x = .pointer (some a)) (hy : e y = .pointer none) :
    (execOp e o).run P w = .ok (.value (.bool true)) w := q_neqNil ho hT hx hy
theorem q_neqNilT {e : Operand → Value} {o : Oper} {x y : Operand} {T T' : TypeId} (ho : o.op = .binOp .neq T x y T') (hT : isPtrT P T = true) (hx : e x = .pointer none) (hy : e y = .pointer none) :
    (execOp e o).run P w = .ok (.value (.bool false)) w := q_neqNil ho hT hx hy
theorem q_eqlBool {e : Operand → Value} {o : Oper} {x y : Operand} {T T' : TypeId} {a b : Bool} (ho : o.op = .binOp .eql T x y T') (hT : isBoolT P T = true) (hx : e x = .bool a) (hy : e y = .bool b) :
    (execOp e o).run P w = .ok (.value (.bool (a == b))) w := exec_eql ho hx hy rfl rfl (run_eqBool (isBool_spec hT))
theorem q_neqBool {e : Operand → Value} {o : Oper} {x y : Operand} {T T' : TypeId} {a b : Bool} (ho : o.op = .binOp .neq T x y T') (hT : isBoolT P T = true) (hx : e x = .bool a) (hy : e y = .bool b) :
    (execOp e o).run P w = .ok (.value (.bool (!(a == b)))) w := exec_neq ho hx hy rfl rfl (run_eqBool (isBool_spec hT))

/-! whole numbers that stay within their kind -/
theorem wrap_in {k : IntKind} {z : Int} (h : k.min ≤ z ∧ z ≤ k.max) : k.wrap z = z := by
  have := h.1; have := h.2
  cases k <;> simp [IntKind.min, IntKind.max, IntKind.signed, IntKind.bits, IntKind.wrap] at * <;> omega
def inK (k : IntKind) (z : Int) : Prop := match k with
  | .i8 => -128 ≤ z ∧ z ≤ 127
  | .i16 => -32768 ≤ z ∧ z ≤ 32767
  | .i32 => -2147483648 ≤ z ∧ z ≤ 2147483647
  | .i64 => -9223372036854775808 ≤ z ∧ z ≤ 9223372036854775807
  | .u8 => 0 ≤ z ∧ z ≤ 255
  | .u16 => 0 ≤ z ∧ z ≤ 65535
  | .u32 => 0 ≤ z ∧ z ≤ 4294967295
  | .u64 => 0 ≤ z ∧ z ≤ 18446744073709551615
theorem wrap_inK {k : IntKind} {z : Int} (h : inK k z) : k.wrap z = z := by
  cases k <;> simp only [inK] at h
  · exact IntWalk.i8_in _ h
  · exact IntWalk.i16_in _ h
  · exact IntWalk.i32_in _ h
  · exact IntWalk.i64_in _ h
  · exact IntWalk.u8_in _ h
  · exact IntWalk.u16_in _ h
  · exact IntWalk.u32_in _ h
  · exact IntWalk.u64_in _ h
theorem q_add {e : Operand → Value} {o : Oper} {x y : Operand} {T T' : TypeId} {k : IntKind} {a b : Int} (ho : o.op = .binOp .add T x y T') (hx : e x = .int k a) (hy : e y = .int k b) (h : inK k (a + b)) :
    (execOp e o).run P w = .ok (.value (.int k (a + b))) w := by
  refine q_pure ?_
  simp only [ho, pureV, hx, hy, binV, isShift, cond_false, intV, wrap_inK h]
  simp
theorem q_sub {e : Operand → Value} {o : Oper} {x y : Operand} {T T' : TypeId} {k : IntKind} {a b : Int} (ho : o.op = .binOp .sub T x y T') (hx : e x = .int k a) (hy : e y = .int k b) (h : inK k (a - b)) :
    (execOp e o).run P w = .ok (.value (.int k (a - b))) w := by
  refine q_pure ?_
  simp only [ho, pureV, hx, hy, binV, isShift, cond_false, intV, wrap_inK h]
  simp
theorem q_mul {e : Operand → Value} {o : Oper} {x y : Operand} {T T' : TypeId} {k : IntKind} {a b : Int} (ho : o.op = .binOp .mul T x y T') (hx : e x = .int k a) (hy : e y = .int k b) (h : inK k (a * b)) :
    (execOp e o).run P w = .ok (.value (.int k (a * b))) w := by
  refine q_pure ?_
  simp only [ho, pureV, hx, hy, binV, isShift, cond_false, intV, wrap_inK h]
  simp
theorem q_rem {e : Operand → Value} {o : Oper} {x y : Operand} {T T' : TypeId} {k : IntKind} {a b : Int} (ho : o.op = .binOp .rem T x y T') (hx : e x = .int k a) (hy : e y = .int k b) (h : b ≠ 0) :
    (execOp e o).run P w = .ok (.value (.int k (a.tmod b))) w := by
  unfold execOp
  simp [ho, hx, hy, eqGuard, binOp, Op.intDiv, h]
theorem q_quo {e : Operand → Value} {o : Oper} {x y : Operand} {T T' : TypeId} {k : IntKind} {a b : Int} (ho : o.op = .binOp .quo T x y T') (hx : e x = .int k a) (hy : e y = .int k b) (h : b ≠ 0) (hk : inK k (a.tdiv b)) :
    (execOp e o).run P w = .ok (.value (.int k (a.tdiv b))) w := by
  unfold execOp
  simp [ho, hx, hy, eqGuard, binOp, Op.intDiv, h, wrap_inK hk]
theorem q_strAdd {e : Operand → Value} {o : Oper} {x y : Operand} {T T' : TypeId} {a b : ByteArray} (ho : o.op = .binOp .add T x y T') (hx : e x = .string a) (hy : e y = .string b) (h : ((a.size + b.size : Nat) : Int) ≤ 9223372036854775807) :
    (execOp e o).run P w = .ok (.value (.string (a ++ b))) w := by
  have h' : ¬ (((a.size + b.size : Nat) : Int) > IntKind.i64.max) := by
    have : IntKind.i64.max = 9223372036854775807 := by decide
    omega
  unfold execOp
  simp only [ho, hx, hy, eqGuard, binOp, Op.stringOp, h', if_false]
  simp
theorem intT_spec {t : TypeId} {k : IntKind} (h : intT P t = some k) : P.underlying t = some (.int k) := by
  unfold intT at h
  split at h
  · cases h; assumption
  · cases h
theorem q_convInt {e : Operand → Value} {o : Oper} {x : Operand} {T T' : TypeId} {k k' : IntKind} {a : Int} (ho : o.op = .convert T T' x) (hs : (P.underlying T).isSome = true) (hT : intT P T' = some k) (hx : e x = .int k' a) :
    (execOp e o).run P w = .ok (.value (.int k (k.wrap a))) w := by
  obtain ⟨d, hd⟩ := Option.isSome_iff_exists.1 hs
  unfold execOp
  simp only [ho, hx, convert, Sem.run_bind, run_underlying hd, run_underlying (intT_spec hT), Result.andThen_ok, Conv.intToInt, Sem.run_pure]
theorem q_convIntIn {e : Operand → Value} {o : Oper} {x : Operand} {T T' : TypeId} {k k' : IntKind} {a : Int} (ho : o.op = .convert T T' x) (hs : (P.underlying T).isSome = true) (hT : intT P T' = some k) (hx : e x = .int k' a) (h : inK k a) :
    (execOp e o).run P w = .ok (.value (.int k a)) w := by
  rw [q_convInt ho hs hT hx, wrap_inK h]
end
end Go.EW
