/- A text in memory, as an address and its bytes; no conditions. -/
import Derived.Test.YtmgcmgfjaimlnaaNet21
import Derived.Test.YtmgcmgfjaimlnaaBaseAll
import Derived.Test.YtmgcmgfjaimlnaaWordAll
namespace Go.Proofs.Ytmgcmgfjaimlnaa
open Go.EW
abbrev I (x : Int) : Value := .int .i64 x
/-- bytes that are held -/
structure Tx where
  a : Option Addr
  c : Nat
  bs : List UInt8
def Tx.v (t : Tx) : Value := .slice t.a t.bs.length t.c
def Tx.seg (t : Tx) : Seg := row 5 1 t.a t.bs.length t.c (t.bs.map B)
theorem rd_cell {w : World} {a : Option Addr} {xs : List Value} {k : Nat} {x : Value} (h : Rd w a xs) (hk : xs[k]? = some x) : ∃ b o, a = some ⟨b, o, none⟩ ∧ w.cell? ⟨b, o + k * 1, none⟩ = some x := by
  obtain ⟨b, o, ha, hc⟩ := h k x hk
  exact ⟨b, o, ha, by rw [Nat.mul_one]; exact hc⟩
theorem txv_get {ts : List Tx} {i : Nat} (hi : i < ts.length) : (ts.map Tx.v)[i]? = some (.slice ts[i].a ts[i].bs.length ts[i].c) := by rw [List.getElem?_map, List.getElem?_eq_getElem hi]; rfl
theorem rd_at {w : World} {a : Option Addr} {b o j : Nat} {xs : List Value} {v : Value} (ha : a = some ⟨b, o, none⟩) (h : Rd w a xs) (hj : xs[j]? = some v) : w.cell? ⟨b, o + j * 1, none⟩ = some v := by
  obtain ⟨b', o', h1, h2⟩ := h j v hj
  rw [ha] at h1; cases h1
  rw [Nat.mul_one]; exact h2
end Go.Proofs.Ytmgcmgfjaimlnaa
