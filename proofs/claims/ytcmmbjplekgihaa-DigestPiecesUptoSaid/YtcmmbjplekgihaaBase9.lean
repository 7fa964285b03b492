/- A layer over the model's own weakest preconditions: environments as functions, memory as a list of owned segments, a law for each operation; it holds of every program, on the conditions that each theorem names. -/
import Derived.Test.YtcmmbjplekgihaaBase8
namespace Go.EW
/-! The front: operations written out, so that the environments stay small. -/
section
variable {P : Program} {n : Nat} {Q : Post} {ρ : Env} {W w : World} {S : List Seg} {ops : Array Oper} {rest : List Oper} {d : Nat} {op : Op} {ty : TypeId} {ps : String} {af : Array Edge} {gd : Option (Nat × Bool)}

theorem l_v {v : Value} {w' : World} (hg : gst n ops ρ ⟨some d, op, ty, ps, af, gd⟩ = some true)
    (hr : (execOp (ev n ρ) ⟨some d, op, ty, ps, af, gd⟩).run P w = .ok (.value v) w') (h : L P n ops rest Q (upd ρ d v) w') : L P n ops (⟨some d, op, ty, ps, af, gd⟩ :: rest) Q ρ w := l_val hg hr h
theorem l_p {v : Value} (hg : gst n ops ρ ⟨some d, op, ty, ps, af, gd⟩ = some true) (hv : pureV (ev n ρ) op = some v) (h : L P n ops rest Q (upd ρ d v) w) :
    L P n ops (⟨some d, op, ty, ps, af, gd⟩ :: rest) Q ρ w := l_val hg (q_pure hv) h
theorem l_pint {k : IntKind} {a : Int} (hg : gst n ops ρ ⟨some d, op, ty, ps, af, gd⟩ = some true) (hv : pureV (ev n ρ) op = some (.int k a)) (h : L P n ops rest Q (upd ρ d (.int k a)) w) :
    L P n ops (⟨some d, op, ty, ps, af, gd⟩ :: rest) Q ρ w := l_p hg hv h
theorem l_pbool {b : Bool} (hg : gst n ops ρ ⟨some d, op, ty, ps, af, gd⟩ = some true) (hv : pureV (ev n ρ) op = some (.bool b)) (h : L P n ops rest Q (upd ρ d (.bool b)) w) :
    L P n ops (⟨some d, op, ty, ps, af, gd⟩ :: rest) Q ρ w := l_p hg hv h
theorem l_pslice {a : Option Addr} {m c : Nat} (hg : gst n ops ρ ⟨some d, op, ty, ps, af, gd⟩ = some true) (hv : pureV (ev n ρ) op = some (.slice a m c)) (h : L P n ops rest Q (upd ρ d (.slice a m c)) w) :
    L P n ops (⟨some d, op, ty, ps, af, gd⟩ :: rest) Q ρ w := l_p hg hv h
theorem l_pptr {a : Option Addr} (hg : gst n ops ρ ⟨some d, op, ty, ps, af, gd⟩ = some true) (hv : pureV (ev n ρ) op = some (.pointer a)) (h : L P n ops rest Q (upd ρ d (.pointer a)) w) :
    L P n ops (⟨some d, op, ty, ps, af, gd⟩ :: rest) Q ρ w := l_p hg hv h
theorem l_pstr {s : ByteArray} (hg : gst n ops ρ ⟨some d, op, ty, ps, af, gd⟩ = some true) (hv : pureV (ev n ρ) op = some (.string s)) (h : L P n ops rest Q (upd ρ d (.string s)) w) :
    L P n ops (⟨some d, op, ty, ps, af, gd⟩ :: rest) Q ρ w := l_p hg hv h
theorem l_pagg {cs : Array Value} (hg : gst n ops ρ ⟨some d, op, ty, ps, af, gd⟩ = some true) (hv : pureV (ev n ρ) op = some (.agg cs)) (h : L P n ops rest Q (upd ρ d (.agg cs)) w) :
    L P n ops (⟨some d, op, ty, ps, af, gd⟩ :: rest) Q ρ w := l_p hg hv h
theorem l_ptup {cs : Array Value} (hg : gst n ops ρ ⟨some d, op, ty, ps, af, gd⟩ = some true) (hv : pureV (ev n ρ) op = some (.tuple cs)) (h : L P n ops rest Q (upd ρ d (.tuple cs)) w) :
    L P n ops (⟨some d, op, ty, ps, af, gd⟩ :: rest) Q ρ w := l_p hg hv h
theorem l_pmap {r : Option Nat} (hg : gst n ops ρ ⟨some d, op, ty, ps, af, gd⟩ = some true) (hv : pureV (ev n ρ) op = some (.map r)) (h : L P n ops rest Q (upd ρ d (.map r)) w) :
    L P n ops (⟨some d, op, ty, ps, af, gd⟩ :: rest) Q ρ w := l_p hg hv h
theorem l_pfn {fn : Fn} {a b : Array Value} (hg : gst n ops ρ ⟨some d, op, ty, ps, af, gd⟩ = some true) (hv : pureV (ev n ρ) op = some (.func fn a b)) (h : L P n ops rest Q (upd ρ d (.func fn a b)) w) :
    L P n ops (⟨some d, op, ty, ps, af, gd⟩ :: rest) Q ρ w := l_p hg hv h
/-- passed over -/
theorem l_no (hg : gst n ops ρ ⟨some d, op, ty, ps, af, gd⟩ = some false) (h : L P n ops rest Q (upd ρ d undef) w) : L P n ops (⟨some d, op, ty, ps, af, gd⟩ :: rest) Q ρ w := l_skip hg h
theorem l_no0 (hg : gst n ops ρ ⟨none, op, ty, ps, af, gd⟩ = some false) (h : L P n ops rest Q ρ w) : L P n ops (⟨none, op, ty, ps, af, gd⟩ :: rest) Q ρ w := l_skip hg h
/-- a choice whose test is known -/
theorem l_pickT {c x y : Operand} {v : Value} (hg : gst n ops ρ ⟨some d, .pick c x y, ty, ps, af, gd⟩ = some true) (hc : ev n ρ c = .bool true) (hx : ev n ρ x = v) (h : L P n ops rest Q (upd ρ d v) w) :
    L P n ops (⟨some d, .pick c x y, ty, ps, af, gd⟩ :: rest) Q ρ w := l_p hg (by simp only [pureV, hc, cond_true, hx]) h
theorem l_pickF {c x y : Operand} {v : Value} (hg : gst n ops ρ ⟨some d, .pick c x y, ty, ps, af, gd⟩ = some true) (hc : ev n ρ c = .bool false) (hy : ev n ρ y = v) (h : L P n ops rest Q (upd ρ d v) w) :
    L P n ops (⟨some d, .pick c x y, ty, ps, af, gd⟩ :: rest) Q ρ w := l_p hg (by simp only [pureV, hc, cond_false, hy]) h

theorem b_call {f : FuncId} {as : Array Operand} {ts : Array TypeId} {args : List Value} {R : Value → World → Prop} (hg : gst n ops ρ ⟨some d, .call { callee := .value (.func f), args := as, argTypes := ts }, ty, ps, af, gd⟩ = some true)
    (hf : callB P f = true) (ha : as.toList.map (ev n ρ) = args) (hc : Ok P f args.toArray w R) (h : ∀ v w', R v w' → L P n ops rest Q (upd ρ d v) w') :
    L P n ops (⟨some d, .call { callee := .value (.func f), args := as, argTypes := ts }, ty, ps, af, gd⟩ :: rest) Q ρ w := by
  refine l_call hg (q_call rfl rfl hf) ?_ h
  have : as.map (ev n ρ) = args.toArray := by apply Array.ext'; rw [Array.toList_map, ha]
  rw [this]
  exact hc
theorem b_call0 {f : FuncId} {as : Array Operand} {ts : Array TypeId} {args : List Value} {R : Value → World → Prop} (hg : gst n ops ρ ⟨none, .call { callee := .value (.func f), args := as, argTypes := ts }, ty, ps, af, gd⟩ = some true)
    (hf : callB P f = true) (ha : as.toList.map (ev n ρ) = args) (hc : Ok P f args.toArray w R) (h : ∀ v w', R v w' → L P n ops rest Q ρ w') :
    L P n ops (⟨none, .call { callee := .value (.func f), args := as, argTypes := ts }, ty, ps, af, gd⟩ :: rest) Q ρ w := by
  refine l_call hg (q_call rfl rfl hf) ?_ h
  have : as.map (ev n ρ) = args.toArray := by apply Array.ext'; rw [Array.toList_map, ha]
  rw [this]
  exact hc
theorem b_store {T T' : TypeId} {x y : Operand} {b k m : Nat} {cs vs : List Value} {v : Value} (hg : gst n ops ρ ⟨none, .store T x y, ty, ps, af, gd⟩ = some true) (hT : sizeV P T = some m)
    (hx : ev n ρ x = .pointer (some ⟨b, k, none⟩)) (hy : ev n ρ y = v) (hv : v.cells = vs.toArray) (hm : Nat.beq vs.length m = true) (h1 : vs.all Value.oneCell' = true) (H : St W w S) (i : Nat) (hi : S[i]? = some (blk b cs T'))
    (hk : Nat.ble (k + vs.length) cs.length = true) {cs' : List Value} (hcs : putL cs k vs = cs') (h : ∀ w', St W w' (S.set i (blk b cs' T')) → L P n ops rest Q ρ w') : L P n ops (⟨none, .store T x y, ty, ps, af, gd⟩ :: rest) Q ρ w :=
  l_store hg rfl hT hx hy hv hm h1 H i hi hk (by rw [hcs]; exact h)
theorem b_box {T : TypeId} {x : Operand} {v : Value} {cs : List Value} (hg : gst n ops ρ ⟨some d, .box T x, ty, ps, af, gd⟩ = some true) (hx : ev n ρ x = v) (hv : v.cells = cs.toArray)
    (H : St W w S) (h : ∀ b w', St W w' (blk b cs T :: S) → L P n ops rest Q (upd ρ d (.pointer (some ⟨b, 0, none⟩))) w') : L P n ops (⟨some d, .box T x, ty, ps, af, gd⟩ :: rest) Q ρ w := l_box hg rfl hx hv H h
theorem b_alloc {T : TypeId} {z : Value} {cs : List Value} (hg : gst n ops ρ ⟨some d, .alloc T, ty, ps, af, gd⟩ = some true) (hz : zeroV P T = some z) (hv : z.cells = cs.toArray)
    (H : St W w S) (h : ∀ b w', St W w' (blk b cs T :: S) → L P n ops rest Q (upd ρ d (.pointer (some ⟨b, 0, none⟩))) w') : L P n ops (⟨some d, .alloc T, ty, ps, af, gd⟩ :: rest) Q ρ w := l_alloc hg rfl hz hv H h
theorem b_append {T E : TypeId} {s x : Operand} {sz by_ : Nat} {z : Value} {a a2 : Option Addr} {k cap m c2 : Nat} {xs ys : List Value} (hg : gst n ops ρ ⟨some d, .call { callee := .builtin .append, args := #[s, x], argTypes := #[T, T] }, ty, ps, af, gd⟩ = some true)
    (hT : elT P T = some (E, sz, by_)) (hz : zeroV P E = some z) (hzs : Nat.beq z.cells.size sz = true)
    (hs : ev n ρ s = .slice a k cap) (hx : ev n ρ x = .slice a2 m c2) (H : St W w S) (i : Nat) (hi : S[i]? = some (row E sz a k cap xs)) (hr : Rd w a2 ys) (hy : ys.length = m * sz) (h1 : ∀ u ∈ ys, u.oneCell' = true)
    (hb : ((k + m) * by_ ≤ 140737488355328 ∨ ((k + m) + (k + m) / 4 + 192) * by_ ≤ 281474976710656) ∧ k + m ≤ maxLen)
    (h : ∀ a' cap' w', St W w' (S.set i (row E sz a' (k + m) cap' (xs ++ ys))) → L P n ops rest Q (upd ρ d (.slice a' (k + m) cap')) w') :
    L P n ops (⟨some d, .call { callee := .builtin .append, args := #[s, x], argTypes := #[T, T] }, ty, ps, af, gd⟩ :: rest) Q ρ w := l_append hg rfl hT hz hzs hs hx H i hi hr hy h1 hb h
theorem b_buildSlice {T E : TypeId} {sz by_ len : Nat} {z : Value} {parts : List (Nat × Operand)} {cs : List Value} (hg : gst n ops ρ ⟨some d, .buildSlice T len parts.toArray, ty, ps, af, gd⟩ = some true)
    (hT : elT P T = some (E, sz, by_)) (hz : zeroV P E = some z) (hzs : Nat.beq z.cells.size sz = true) (hl : (Nat.ble (len * sz) 16777216 && Nat.blt 0 (len * sz)) = true)
    (hf : fillL (fun i => some (i * sz, sz)) (repL len z.cells.toList) (parts.map fun p => (p.1, ev n ρ p.2)) = some cs) (H : St W w S)
    (h : ∀ b w', St W w' (blk0 b cs E :: S) → L P n ops rest Q (upd ρ d (.slice (some ⟨b, 0, none⟩) len len)) w') : L P n ops (⟨some d, .buildSlice T len parts.toArray, ty, ps, af, gd⟩ :: rest) Q ρ w := l_buildSlice hg rfl hT hz hzs hl hf H h
theorem b_make {T E : TypeId} {sz by_ : Nat} {z : Value} {x y : Operand} {m : Nat} (hg : gst n ops ρ ⟨some d, .makeSlice T x y, ty, ps, af, gd⟩ = some true)
    (hT : elT P T = some (E, sz, by_)) (hz : zeroV P E = some z) (hzs : Nat.beq z.cells.size sz = true) (hx : ev n ρ x = .int .i64 (m : Int)) (hy : ev n ρ y = .int .i64 (m : Int)) (hb : m * by_ ≤ 281474976710656 ∧ m ≤ maxLen) (H : St W w S)
    (h : ∀ b w', St W w' (blk0 b (repL m z.cells.toList) E :: S) → L P n ops rest Q (upd ρ d (.slice (some ⟨b, 0, none⟩) m m)) w') : L P n ops (⟨some d, .makeSlice T x y, ty, ps, af, gd⟩ :: rest) Q ρ w := l_make hg rfl hT hz hzs hx hy hb H h
theorem b_copy {T T' E E' : TypeId} {sz by_ : Nat} {x s : Operand} {b k dl dc sl sc : Nat} {a2 : Option Addr} {cs ys : List Value} (hg : gst n ops ρ ⟨some d, .call { callee := .builtin .copy, args := #[x, s], argTypes := #[T, T'] }, ty, ps, af, gd⟩ = some true)
    (hT : elT P T = some (E, sz, by_)) (hd : ev n ρ x = .slice (some ⟨b, k, none⟩) dl dc) (hs : ev n ρ s = .slice a2 sl sc)
    (H : St W w S) (i : Nat) (hi : S[i]? = some (blk b cs E')) (hr : Rd w a2 ys) (hy : ys.length = (min sl dl) * sz) (hk : k + ys.length ≤ cs.length) (h1 : ∀ u ∈ ys, u.oneCell' = true)
    (h : ∀ w', St W w' (S.set i (blk b (putL cs k ys) E')) → L P n ops rest Q (upd ρ d (.int .i64 ((min sl dl : Nat) : Int))) w') :
    L P n ops (⟨some d, .call { callee := .builtin .copy, args := #[x, s], argTypes := #[T, T'] }, ty, ps, af, gd⟩ :: rest) Q ρ w := l_copy hg rfl hT hd hs H i hi hr hy hk h1 h
theorem b_strBytes {x : Operand} {T T' E by_ : Nat} {s : ByteArray} (hg : gst n ops ρ ⟨some d, .convert T T' x, ty, ps, af, gd⟩ = some true) (hT : isStrT P T = true) (hT' : isBytesT P T' = true) (hE : elT P T' = some (E, 1, by_))
    (hx : ev n ρ x = .string s) (H : St W w S)
    (h : ∀ b cap spare w', s.size + spare.length = cap → St W w' (blk b (s.data.toList.map B ++ spare) E :: S) → L P n ops rest Q (upd ρ d (.slice (some ⟨b, 0, none⟩) s.size cap)) w') :
    L P n ops (⟨some d, .convert T T' x, ty, ps, af, gd⟩ :: rest) Q ρ w := l_strBytes hg rfl hT hT' hE hx H h

/-! the same in a region that draws -/
variable {tl : List Nat} {SS : World → Prop} {r : List (Nat × Nat)} {i : Nat}
theorem r_v {v : Value} (ho : ops[i]? = some ⟨some d, op, ty, ps, af, gd⟩) (hg : gst n ops ρ ⟨some d, op, ty, ps, af, gd⟩ = some true)
    (hr : ∀ w, SS w → (execOp (ev n ρ) ⟨some d, op, ty, ps, af, gd⟩).run P w = .ok (.value v) w) (h : R P n ops tl SS Q r (upd ρ d v) w) : R P n ops tl SS Q ((i, 1) :: r) ρ w := ⟨_, v, ho, .inl ⟨hg, hr⟩, h⟩
theorem r_w {v : Value} (ho : ops[i]? = some ⟨some d, op, ty, ps, af, gd⟩) (hg : gst n ops ρ ⟨some d, op, ty, ps, af, gd⟩ = some true)
    (hr : ∀ w, (execOp (ev n ρ) ⟨some d, op, ty, ps, af, gd⟩).run P w = .ok (.value v) w) (h : R P n ops tl SS Q r (upd ρ d v) w) : R P n ops tl SS Q ((i, 0) :: r) ρ w := ⟨_, v, ho, .inl ⟨hg, fun w _ => hr w⟩, h⟩
theorem r_p {v : Value} (ho : ops[i]? = some ⟨some d, op, ty, ps, af, gd⟩) (hg : gst n ops ρ ⟨some d, op, ty, ps, af, gd⟩ = some true) (hv : pureV (ev n ρ) op = some v) (h : R P n ops tl SS Q r (upd ρ d v) w) :
    R P n ops tl SS Q ((i, 0) :: r) ρ w := r_w ho hg (fun _ => q_pure hv) h
theorem r_pint {k : IntKind} {a : Int} (ho : ops[i]? = some ⟨some d, op, ty, ps, af, gd⟩) (hg : gst n ops ρ ⟨some d, op, ty, ps, af, gd⟩ = some true) (hv : pureV (ev n ρ) op = some (.int k a)) (h : R P n ops tl SS Q r (upd ρ d (.int k a)) w) :
    R P n ops tl SS Q ((i, 0) :: r) ρ w := r_p ho hg hv h
theorem r_pbool {b : Bool} (ho : ops[i]? = some ⟨some d, op, ty, ps, af, gd⟩) (hg : gst n ops ρ ⟨some d, op, ty, ps, af, gd⟩ = some true) (hv : pureV (ev n ρ) op = some (.bool b)) (h : R P n ops tl SS Q r (upd ρ d (.bool b)) w) :
    R P n ops tl SS Q ((i, 0) :: r) ρ w := r_p ho hg hv h
theorem r_pslice {a : Option Addr} {m c : Nat} (ho : ops[i]? = some ⟨some d, op, ty, ps, af, gd⟩) (hg : gst n ops ρ ⟨some d, op, ty, ps, af, gd⟩ = some true) (hv : pureV (ev n ρ) op = some (.slice a m c)) (h : R P n ops tl SS Q r (upd ρ d (.slice a m c)) w) :
    R P n ops tl SS Q ((i, 0) :: r) ρ w := r_p ho hg hv h
theorem r_pptr {a : Option Addr} (ho : ops[i]? = some ⟨some d, op, ty, ps, af, gd⟩) (hg : gst n ops ρ ⟨some d, op, ty, ps, af, gd⟩ = some true) (hv : pureV (ev n ρ) op = some (.pointer a)) (h : R P n ops tl SS Q r (upd ρ d (.pointer a)) w) :
    R P n ops tl SS Q ((i, 0) :: r) ρ w := r_p ho hg hv h
theorem r_pstr {s : ByteArray} (ho : ops[i]? = some ⟨some d, op, ty, ps, af, gd⟩) (hg : gst n ops ρ ⟨some d, op, ty, ps, af, gd⟩ = some true) (hv : pureV (ev n ρ) op = some (.string s)) (h : R P n ops tl SS Q r (upd ρ d (.string s)) w) :
    R P n ops tl SS Q ((i, 0) :: r) ρ w := r_p ho hg hv h
theorem r_pagg {cs : Array Value} (ho : ops[i]? = some ⟨some d, op, ty, ps, af, gd⟩) (hg : gst n ops ρ ⟨some d, op, ty, ps, af, gd⟩ = some true) (hv : pureV (ev n ρ) op = some (.agg cs)) (h : R P n ops tl SS Q r (upd ρ d (.agg cs)) w) :
    R P n ops tl SS Q ((i, 0) :: r) ρ w := r_p ho hg hv h
theorem r_ptup {cs : Array Value} (ho : ops[i]? = some ⟨some d, op, ty, ps, af, gd⟩) (hg : gst n ops ρ ⟨some d, op, ty, ps, af, gd⟩ = some true) (hv : pureV (ev n ρ) op = some (.tuple cs)) (h : R P n ops tl SS Q r (upd ρ d (.tuple cs)) w) :
    R P n ops tl SS Q ((i, 0) :: r) ρ w := r_p ho hg hv h
theorem r_pmap {m : Option Nat} (ho : ops[i]? = some ⟨some d, op, ty, ps, af, gd⟩) (hg : gst n ops ρ ⟨some d, op, ty, ps, af, gd⟩ = some true) (hv : pureV (ev n ρ) op = some (.map m)) (h : R P n ops tl SS Q r (upd ρ d (.map m)) w) :
    R P n ops tl SS Q ((i, 0) :: r) ρ w := r_p ho hg hv h
theorem r_no (ho : ops[i]? = some ⟨some d, op, ty, ps, af, gd⟩) (hg : gst n ops ρ ⟨some d, op, ty, ps, af, gd⟩ = some false) (h : R P n ops tl SS Q r (upd ρ d undef) w) :
    R P n ops tl SS Q ((i, 0) :: r) ρ w := ⟨_, undef, ho, .inr ⟨hg, rfl⟩, h⟩
theorem r_no1 (ho : ops[i]? = some ⟨some d, op, ty, ps, af, gd⟩) (hg : gst n ops ρ ⟨some d, op, ty, ps, af, gd⟩ = some false) (h : R P n ops tl SS Q r (upd ρ d undef) w) :
    R P n ops tl SS Q ((i, 1) :: r) ρ w := ⟨_, undef, ho, .inr ⟨hg, rfl⟩, h⟩
theorem r_pickT {c x y : Operand} {v : Value} (ho : ops[i]? = some ⟨some d, .pick c x y, ty, ps, af, gd⟩) (hg : gst n ops ρ ⟨some d, .pick c x y, ty, ps, af, gd⟩ = some true) (hc : ev n ρ c = .bool true) (hx : ev n ρ x = v) (h : R P n ops tl SS Q r (upd ρ d v) w) :
    R P n ops tl SS Q ((i, 0) :: r) ρ w := r_p ho hg (by simp only [pureV, hc, cond_true, hx]) h
theorem r_pickF {c x y : Operand} {v : Value} (ho : ops[i]? = some ⟨some d, .pick c x y, ty, ps, af, gd⟩) (hg : gst n ops ρ ⟨some d, .pick c x y, ty, ps, af, gd⟩ = some true) (hc : ev n ρ c = .bool false) (hy : ev n ρ y = v) (h : R P n ops tl SS Q r (upd ρ d v) w) :
    R P n ops tl SS Q ((i, 0) :: r) ρ w := r_p ho hg (by simp only [pureV, hc, cond_false, hy]) h
theorem r_do {o : Oper} (ho : ops[i]? = some o) (h : L P n ops [o] (thn (fun ρ' w' => (memb tl i = false → SS w → SS w') ∧ R P n ops tl SS Q r ρ' w') Q) ρ w) : R P n ops tl SS Q ((i, 2) :: r) ρ w := ⟨o, ho, h⟩
theorem r_nil (h : Q .normal ρ w) : R P n ops tl SS Q [] ρ w := h
theorem r_split (d : Nat) {b : Bool} (hv : ev n ρ (.tmp d) = .bool b)
    (ht : b = true → R P n ops tl SS Q r (upd ρ d (.bool true)) w) (hf : b = false → R P n ops tl SS Q r (upd ρ d (.bool false)) w) : R P n ops tl SS Q r ρ w := by
  have h := ev_tmp_bool hv
  cases b with
  | true => have := ht rfl; rwa [upd_self h] at this
  | false => have := hf rfl; rwa [upd_self h] at this

/-- these segments stand, whatever else there is -/
def Sx (W : World) (S0 : List Seg) (w : World) : Prop := ∃ X, St W w (S0 ++ X)
theorem Sx.of {S0 : List Seg} (H : St W w S) (k j : Nat) (h : (S.drop k).take j = S0) : Sx W S0 w := by
  refine ⟨(S.drop k).drop j ++ S.take k, H.perm ?_⟩
  rw [← h, ← List.append_assoc, List.take_append_drop]
  have := List.take_append_drop k S
  exact (List.Perm.of_eq this.symm).trans List.perm_append_comm
theorem Sx.cell {S0 : List Seg} {b : Nat} {cs : List Value} {T : TypeId} {k : Nat} {v : Value} (h : Sx W S0 w) (i : Nat) (hi : S0[i]? = some (blk b cs T)) (hk : cs[k]? = some v) : w.cell? ⟨b, k, none⟩ = some v := by
  obtain ⟨X, H⟩ := h
  refine H.cell (T := T) i ?_ hk
  rw [List.getElem?_append_left (List.getElem?_eq_some_iff.1 hi).1]; exact hi
theorem Sx.cells {S0 : List Seg} {b : Nat} {cs : List Value} {T : TypeId} (h : Sx W S0 w) (i : Nat) (hi : S0[i]? = some (blk b cs T)) : Cells w b 0 cs := by
  obtain ⟨X, H⟩ := h
  refine H.cells (T := T) i ?_
  rw [List.getElem?_append_left (List.getElem?_eq_some_iff.1 hi).1]; exact hi
theorem Sx.rd {S0 : List Seg} {a : Option Addr} {xs : List Value} {T sz m cap : Nat} (h : Sx W S0 w) (i : Nat) (hi : S0[i]? = some (row T sz a m cap xs)) : Rd w a xs := by
  obtain ⟨X, H⟩ := h
  exact (H.rowInv (i := i) (by rw [List.getElem?_append_left (List.getElem?_eq_some_iff.1 hi).1]; exact hi)).2.2.2.2
theorem Sx.use {S0 F : List Seg} {a : Option Addr} {xs : List Value} (h : Sx W S0 w) (hr : RdIn W F a xs) (k : Nat) (hk : S0.drop k = F) : Rd w a xs := by
  obtain ⟨X, H⟩ := h
  refine hr w (X ++ S0.take k) (H.perm ?_)
  rw [← hk, List.append_assoc, List.take_append_drop]
  exact List.perm_append_comm
/-- the first K segments stand through all of a region that draws, but for its tail -/
theorem w_drawS {id : Nat} {l : List Oper} (tl sq : List Nat) (K : Nat) (plan : List (Nat × Nat)) (hm : P.follows .mixedOrders = true)
    (hb : (tailB l.toArray tl sq && Region.noSelect l.toArray && Nat.beq plan.length l.length && chk l.toArray tl sq true plan (Array.replicate l.length false)) = true) (hQ : ∀ c ρ w, ¬ Q (.panic c) ρ w)
    (H : St W w S) (h : St W w.drew S → R P n l.toArray tl (Sx W (S.take K)) Q plan ρ w.drew) : EW.W P n (.region id l.toArray true) Q ρ w :=
  w_draw tl sq _ plan hm hb hQ (Sx.of H.drew 0 K rfl) (h H.drew)
theorem St.cells0 {b : Nat} {cs : List Value} {T : TypeId} (H : St W w S) (i : Nat) (hi : S[i]? = some (blk0 b cs T)) : Cells w b 0 cs :=
  Cells.mk fun j v hj => by rw [Nat.zero_add, cell_of_row w b j _ T _ (H.heap0 hi)]; simpa using hj
end
end Go.EW
