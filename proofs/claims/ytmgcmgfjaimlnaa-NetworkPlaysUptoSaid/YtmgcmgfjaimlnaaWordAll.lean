/- Laws of machine words. -/
import Derived.Test.YtmgcmgfjaimlnaaBaseAll
namespace Go.EW
/-! words of 32 bits and bytes, as values -/
theorem wrap_u8 (t : Nat) : IntKind.wrap .u8 (t : Int) = ((t % 256 : Nat) : Int) := by
  simp only [IntKind.wrap, IntKind.signed, IntKind.bits]
  simp
section
variable {e : Operand → Value} {T T' : TypeId} {x y : Operand} {a b : UInt32} {c d : UInt8}
end
section
variable {P : Program} {w : World}
end
theorem q_indexSliceE {P : Program} {w : World} {e : Operand → Value} {o : Oper} {T E : TypeId} {x i : Operand} {a : Option Addr} {b k sz by_ len cap : Nat} {kd : IntKind} {j : Int} (j' : Nat) (ho : o.op = .indexAddr T x i) (hT : elT P T = some (E, sz, by_))
    (hx : e x = .slice a len cap) (ha : a = some ⟨b, k, none⟩) (hi : e i = .int kd j) (hj : j = (j' : Int)) (h0 : j' < len) : (execOp e o).run P w = .ok (.value (.pointer (some ⟨b, k + j' * sz, none⟩))) w := by
  subst ha; subst hj; exact q_indexSliceN ho hT hx hi h0
theorem RdIn.blk {W : World} {S : List Seg} {b : Nat} {cs : List Value} {T : TypeId} (i : Nat) (hi : S[i]? = some (EW.blk b cs T)) : RdIn W S (some ⟨b, 0, none⟩) cs := by
  have := RdIn.mem (W := W) i hi 0 cs.length
  simpa using this
theorem q_lowN {P : Program} {w : World} {e : Operand → Value} {o : Oper} {x : Operand} {T T' : TypeId} {k' : IntKind} {M : Nat} (ho : o.op = .convert T T' x) (hs : (P.underlying T).isSome = true) (hT : intT P T' = some .u8) (hx : e x = .int k' (M : Int)) :
    (execOp e o).run P w = .ok (.value (B (UInt8.ofNat M))) w := by
  rw [q_convInt ho hs hT hx]
  have h : IntKind.wrap .u8 (M : Int) = ((UInt8.ofNat M).toNat : Int) := by
    rw [wrap_u8, UInt8.toNat_ofNat']
  rw [h]; rfl
end Go.EW
namespace Go.EW
set_option linter.unusedVariables false
/-! bytes: more laws; hexadecimal texts -/
section
variable {e : Operand → Value} {T T' : TypeId} {x y : Operand} {c d : UInt8}
end
/-! hexadecimal -/
end Go.EW
namespace Go.EW
set_option linter.unusedVariables false
/-! there and back: Print and Parse, as plain laws -/
end Go.EW
namespace Go.EW
set_option linter.unusedVariables false
/-! the reference's numbers: limbs of sixteen bits, roots, primes, as plain functions -/
def pl : Nat → List Nat
  | 0 => []
  | k + 1 => bif (pl k).all (fun q => !Nat.beq ((k + 2) % q) 0) then pl k ++ [k + 2] else pl k
end Go.EW
namespace Go.EW
end Go.EW
