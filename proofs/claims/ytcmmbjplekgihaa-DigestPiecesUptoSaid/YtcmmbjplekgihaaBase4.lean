/- A layer over the model's own weakest preconditions: environments as functions, memory as a list of owned segments, a law for each operation; it holds of every program, on the conditions that each theorem names. -/
import Derived.Test.YtcmmbjplekgihaaBase3
import Derived.Laws.Cells
import Derived.Laws.Append
import Derived.Laws.CopyRow
import Derived.Laws.AppendOwn
import Derived.Laws.Pointers
import Derived.Laws.Slices
namespace Go.EW
/-! What needs no memory and no table. -/
def kn : IntKind → Nat
  | .i8 => 0 | .i16 => 1 | .i32 => 2 | .i64 => 3 | .u8 => 4 | .u16 => 5 | .u32 => 6 | .u64 => 7
theorem kn_inj {a b : IntKind} (h : Nat.beq (kn a) (kn b) = true) : a = b := by cases a <;> cases b <;> first | rfl | (simp [kn] at h)
def bitI (op : BinOp) (k : IntKind) (a b : Int) : Int :=
  match op with
  | .and => k.wrap ((BitVec.ofInt k.bits a &&& BitVec.ofInt k.bits b).toNat : Int)
  | .or => k.wrap ((BitVec.ofInt k.bits a ||| BitVec.ofInt k.bits b).toNat : Int)
  | .xor => k.wrap ((BitVec.ofInt k.bits a ^^^ BitVec.ofInt k.bits b).toNat : Int)
  | _ => k.wrap ((BitVec.ofInt k.bits a &&& ~~~ BitVec.ofInt k.bits b).toNat : Int)
def shlI (k : IntKind) (x : Int) (n : Nat) : Int := k.wrap (x * 2 ^ (min n k.bits))
def shrI (k : IntKind) (x : Int) (n : Nat) : Int := x.fdiv (2 ^ (min n k.bits))
def intV (op : BinOp) (k : IntKind) (a b : Int) : Option Value :=
  match op with
  | .add => some (.int k (k.wrap (a + b)))
  | .sub => some (.int k (k.wrap (a - b)))
  | .mul => some (.int k (k.wrap (a * b)))
  | .and => some (.int k (bitI .and k a b))
  | .or => some (.int k (bitI .or k a b))
  | .xor => some (.int k (bitI .xor k a b))
  | .andNot => some (.int k (bitI .andNot k a b))
  | .eql => some (.bool (a == b))
  | .neq => some (.bool (a != b))
  | .lss => some (.bool (decide (a < b)))
  | .leq => some (.bool (decide (a ≤ b)))
  | .gtr => some (.bool (decide (a > b)))
  | .geq => some (.bool (decide (a ≥ b)))
  | _ => none
def strV (op : BinOp) (a b : ByteArray) : Option Value :=
  match op with
  | .eql => some (.bool (a.toList == b.toList))
  | .neq => some (.bool (!(a.toList == b.toList)))
  | _ => none
def isShift : BinOp → Bool
  | .shl | .shr => true
  | _ => false
def binV (op : BinOp) (x y : Value) : Option Value :=
  match x, y with
  | .int k a, .int k' b =>
    cond (isShift op)
      (match b with
       | .ofNat m => some (match op with | .shl => .int k (shlI k a m) | _ => .int k (shrI k a m))
       | _ => none)
      (cond (Nat.beq (kn k) (kn k')) (intV op k a b) none)
  | .string a, .string b => strV op a b
  | _, _ => none
def unV (op : UnOp) (x : Value) : Option Value :=
  match op, x with
  | .neg, .int k a => some (.int k (k.wrap (0 - a)))
  | .xor, .int k a => some (.int k (bitI .xor k (cond k.signed (-1) k.max) a))
  | .not, .bool b => some (.bool !b)
  | _, _ => none
def pureV (e : Operand → Value) : Op → Option Value
  | .move x => some (e x)
  | .assign x => some (e x)
  | .pick c a b => match e c with | .bool t => some (cond t (e a) (e b)) | _ => none
  | .nilCheck x => match e x with
    | .pointer (some a) => some (.pointer (some a))
    | .func (.func f) first cap => some (.func (.func f) first cap)
    | _ => none
  | .binOp op _ x y _ => binV op (e x) (e y)
  | .unOp op _ x => unV op (e x)
  | .extract t i => match e t with | .tuple vs => vs[i]? | _ => none
  | .makeFunc fn a b => some (.func fn (a.map e) (b.map e))
  | _ => none

section
variable {P : Program} {w : World}
theorem eqGuard_int (op : BinOp) (t : TypeId) (x y : Operand) (k k' : IntKind) (a b : Int) : (eqGuard op t x y (.int k a) (.int k' b)).run P w = .ok () w := by
  cases op <;> rfl
theorem eqGuard_str (op : BinOp) (t : TypeId) (x y : Operand) (a b : ByteArray) : (eqGuard op t x y (.string a) (.string b)).run P w = .ok () w := by
  cases op <;> rfl
theorem run_bin {op : BinOp} {t : TypeId} {x y v : Value} {ox oy : Operand} (h : binV op x y = some v) :
    (do eqGuard op t ox oy x y; binOp op t x y).run P w = .ok v w := by
  unfold binV at h
  split at h
  · rename_i k a k' b
    rw [Sem.run_bind, eqGuard_int, Result.andThen_ok]
    cases hs : isShift op with
    | true =>
      rw [hs, cond_true] at h
      split at h
      · rename_i m
        have hm : ¬ ((m : Int) < 0) := by omega
        cases op <;> simp [isShift] at hs <;> simp only [Option.some.injEq] at h <;> subst h <;> simp [binOp, Op.shift, hm, shlI, shrI]
      · cases h
    | false =>
      rw [hs, cond_false] at h
      cases hk : Nat.beq (kn k) (kn k') with
      | false => rw [hk] at h; cases h
      | true =>
        rw [hk, cond_true] at h
        have := kn_inj hk
        subst this
        cases op <;> simp [isShift] at hs <;> simp only [intV] at h <;> first
          | (cases h; simp [binOp, Op.intArith, Op.intBits, Op.intCmp, bitI]; done)
          | (cases h)
  · rename_i a b
    rw [Sem.run_bind, eqGuard_str, Result.andThen_ok]
    cases op <;> simp only [strV] at h <;> first
      | (cases h; simp [binOp, Op.stringOp]; done)
      | (cases h)
  · cases h
theorem run_un {op : UnOp} {x v : Value} (h : unV op x = some v) : (Op.unary op x).run P w = .ok v w := by
  unfold unV at h
  split at h
  · cases h; simp [Op.unary, Op.intArith]
  · rename_i k a
    cases h
    cases k <;> simp [Op.unary, Op.intBits, bitI, IntKind.signed]
  · cases h; simp [Op.unary]
  · cases h
theorem q_pure {e : Operand → Value} {o : Oper} {v : Value} (h : pureV e o.op = some v) : (execOp e o).run P w = .ok (.value v) w := by
  unfold execOp
  cases ho : o.op <;> rw [ho] at h <;> simp only [pureV] at h
  case move x => cases h; rfl
  case assign x => cases h; rfl
  case pick c a b =>
    split at h
    · rename_i t ht
      cases h
      simp only [ht]
      cases t <;> simp [asBool]
    · cases h
  case nilCheck x =>
    split at h
    · rename_i ht; cases h; simp only [ht]; rfl
    · rename_i ht; cases h; simp only [ht]; rfl
    · cases h
  case binOp op t x y t' =>
    have := run_bin (P := P) (w := w) (t := t) (ox := x) (oy := y) h
    simp only [Sem.run_bind] at this ⊢
    rw [this]
    rfl
  case unOp op t x =>
    have := run_un (P := P) (w := w) h
    simp [this]
  case extract t i =>
    split at h
    · rename_i vs ht
      simp only [ht]
      simp [Instr.extract, h]
    · cases h
  case makeFunc fn a b =>
    cases h
    simp [Instr.makeFunc]
  all_goals cases h
end
end Go.EW
