/- Events: what their bytes are, in plain lists. -/
import Derived.Test.YtfpmnhmdphaceaaDoorTapL1
import Derived.Test.YtfpmnhmdphaceaaDoorBaseAll
import Derived.Test.YtfpmnhmdphaceaaDoorWordAll
namespace Go.Proofs.YtfpmnhmdphaceaaDoor
open Go.EW
attribute [local irreducible] EW.W EW.L EW.fin block8 outB shaL
set_option linter.unusedVariables false
set_option linter.unusedSimpArgs false

abbrev I (x : Int) : Value := .int .i64 x
/-- an event -/
structure Evt where
  k : Int
  nd : Int
  cl : Int
  ix : Int
  pl : Int
  ct : Int
  cu : Int
  hi : Nat
  lo : Nat
  ok : Int
  os : Int
  ov : ByteArray
  bs : List UInt8
def Evt.cells (e : Evt) (a : Option Addr) (c : Nat) : List Value := [I e.k, I e.nd, I e.cl, I e.ix, I e.pl, I e.ct, I e.cu, N64 e.hi, N64 e.lo, I e.ok, I e.os, .string e.ov, .slice a e.bs.length c]
def Evt.num (e : Evt) : Nat → Int
  | 0 => e.nd
  | 1 => e.cl
  | 2 => e.ix
  | 3 => e.pl
  | 4 => e.ct
  | _ => e.cu
def Evt.put (e : Evt) (i : Nat) (x : Int) : Evt :=
  match i with
  | 0 => { e with nd := x }
  | 1 => { e with cl := x }
  | 2 => { e with ix := x }
  | 3 => { e with pl := x }
  | 4 => { e with ct := x }
  | _ => { e with cu := x }
def evt0 : Evt := ⟨0, 0, 0, 0, 0, 0, 0, 0, 0, 0, 0, ⟨#[]⟩, []⟩
theorem evt_cell (e : Evt) (a : Option Addr) (c : Nat) {i : Nat} (hi : i < 6) : (e.cells a c)[i + 1]? = some (I (e.num i)) := by
  match i, hi with
  | 0, _ => rfl
  | 1, _ => rfl
  | 2, _ => rfl
  | 3, _ => rfl
  | 4, _ => rfl
  | 5, _ => rfl
theorem evt_put (e : Evt) (a : Option Addr) (c : Nat) {i : Nat} (hi : i < 6) (x : Int) : putL (e.cells a c) (0 + (i + 1)) [I x] = (e.put i x).cells a c := by
  match i, hi with
  | 0, _ => rfl
  | 1, _ => rfl
  | 2, _ => rfl
  | 3, _ => rfl
  | 4, _ => rfl
  | 5, _ => rfl
structure EvOk (e : Evt) : Prop where
  num : ∀ i, -9223372036854775808 ≤ e.num i ∧ e.num i ≤ 9223372036854775807
  op : e.ok ≤ 9223372036854775807 ∧ e.os ≤ 9223372036854775807
  hi : e.hi < 18446744073709551616 ∧ e.lo < 18446744073709551616
  ov : e.ov.size ≤ 140737488351232
  bs : e.bs.length ≤ 140737488351232
/-- which fields a kind uses, as bits -/
def usesT : List Nat := [0, 130, 2, 36, 4, 4, 28, 265, 33, 1, 97, 16, 131]
def usesN (k : Int) : Nat := if k < 1 ∨ 13 ≤ k then 0 else usesT.getD k.toNat 0
def bitN (u i : Nat) : Bool := Nat.beq (u / 2 ^ i % 2) 1
theorem uses_mem (k : Int) : usesN k ∈ usesT := by
  unfold usesN
  split
  · decide
  · rename_i h
    have h1 : k.toNat < 13 := by omega
    generalize k.toNat = n at h1
    match n, h1 with
    | 0, _ => decide
    | 1, _ => decide
    | 2, _ => decide
    | 3, _ => decide
    | 4, _ => decide
    | 5, _ => decide
    | 6, _ => decide
    | 7, _ => decide
    | 8, _ => decide
    | 9, _ => decide
    | 10, _ => decide
    | 11, _ => decide
    | 12, _ => decide
theorem uses_lt (k : Int) : usesN k < 512 := by
  have h : ∀ u ∈ usesT, u < 512 := by decide
  exact h _ (uses_mem k)
theorem uses_and (k : Int) : bitI .and .i64 (usesN k : Int) 64 = (if bitN (usesN k) 6 then 64 else 0) ∧ bitI .and .i64 (usesN k : Int) 128 = (if bitN (usesN k) 7 then 128 else 0) ∧ bitI .and .i64 (usesN k : Int) 256 = (if bitN (usesN k) 8 then 256 else 0) := by
  have h : ∀ u ∈ usesT, bitI .and .i64 (u : Int) 64 = (if bitN u 6 then 64 else 0) ∧ bitI .and .i64 (u : Int) 128 = (if bitN u 7 then 128 else 0) ∧ bitI .and .i64 (u : Int) 256 = (if bitN u 8 then 256 else 0) := by decide
  exact h _ (uses_mem k)
theorem bit_one {u i : Nat} : (((u / 2 ^ i % 2 : Nat) : Int) = 1) ↔ bitN u i = true := by
  unfold bitN
  rw [Nat.beq_eq]
  omega
/-- is one of the first numbers that it uses below zero? -/
def negN (e : Evt) (u : Nat) : Nat → Bool
  | 0 => false
  | i + 1 => negN e u i || (bitN u i && decide (e.num i < 0))
/-- an event's kind and the first of the numbers that it uses -/
def pgo (e : Evt) (u : Nat) : Nat → List UInt8
  | 0 => formL e.k.toNat
  | i + 1 => pgo e u i ++ (if bitN u i then formL (e.num i).toNat else [])
def pdr (e : Evt) (u : Nat) : List UInt8 := if bitN u 6 then formL e.hi ++ formL e.lo else []
def pop (e : Evt) (u : Nat) : List UInt8 := if bitN u 7 then formL e.ok.toNat ++ formL e.os.toNat ++ (formL e.ov.size ++ e.ov.data.toList) else []
def pby (e : Evt) (u : Nat) : List UInt8 := if bitN u 8 then formL e.bs.length ++ e.bs else []
/-- an event's bytes, or the error -/
def putEv (e : Evt) : List UInt8 × Nat :=
  if usesN e.k = 0 then ([], 150) else if negN e (usesN e.k) 6 = true then ([], 150) else if bitN (usesN e.k) 7 = true ∧ (e.ok < 0 ∨ e.os < 0) then ([], 150)
  else if (bitN (usesN e.k) 7 = true ∧ 64 < e.ov.size) ∨ (bitN (usesN e.k) 8 = true ∧ 16384 < e.bs.length) then ([], 11)
  else (pgo e (usesN e.k) 6 ++ pdr e (usesN e.k) ++ pop e (usesN e.k) ++ pby e (usesN e.k), 0)
/-- the greatest int -/
def maxI : Nat := 9223372036854775807
def gnum (b : List UInt8) (u i : Nat) (st : Evt × Rs) : Evt × Rs := if bitN u i then (st.1.put i (rInt b maxI st.2).1, (rInt b maxI st.2).2) else st
def ggo (b : List UInt8) (u : Nat) (st : Evt × Rs) : Nat → Evt × Rs
  | 0 => st
  | i + 1 => gnum b u i (ggo b u st i)
def gdr (b : List UInt8) (u : Nat) (st : Evt × Rs) : Evt × Rs :=
  if bitN u 6 then ({ st.1 with hi := (rNum b st.2).1, lo := (rNum b (rNum b st.2).2).1 }, (rNum b (rNum b st.2).2).2) else st
def gop (b : List UInt8) (u : Nat) (st : Evt × Rs) : Evt × Rs :=
  if bitN u 7 then ({ st.1 with ok := (rInt b maxI st.2).1, os := (rInt b maxI (rInt b maxI st.2).2).1, ov := ⟨(rText b 64 (rInt b maxI (rInt b maxI st.2).2).2).1.toArray⟩ }, (rText b 64 (rInt b maxI (rInt b maxI st.2).2).2).2) else st
def gby (b : List UInt8) (u : Nat) (st : Evt × Rs) : Evt × Rs :=
  if bitN u 8 then ({ st.1 with bs := (rText b 16384 st.2).1 }, (rText b 16384 st.2).2) else st
def gkind (b : List UInt8) : Int := if 1 ≤ (rInt b maxI ⟨0, 0⟩).1 ∧ (rInt b maxI ⟨0, 0⟩).1 ≤ 12 then (rInt b maxI ⟨0, 0⟩).1 else 0
def gall (b : List UInt8) : Evt × Rs :=
  gby b (usesN (gkind b)) (gop b (usesN (gkind b)) (gdr b (usesN (gkind b)) (ggo b (usesN (gkind b)) ({ evt0 with k := gkind b }, (rInt b maxI ⟨0, 0⟩).2) 6)))
/-- the event of these bytes, or the error -/
def getEv (b : List UInt8) : Evt × Nat :=
  if (rInt b maxI ⟨0, 0⟩).2.at_ = 0 then (evt0, rEnd b (rInt b maxI ⟨0, 0⟩).2) else if usesN (gkind b) = 0 then (evt0, 150)
  else if rEnd b (gall b).2 ≠ 0 then (evt0, rEnd b (gall b).2) else ((gall b).1, 0)

end Go.Proofs.YtfpmnhmdphaceaaDoor
