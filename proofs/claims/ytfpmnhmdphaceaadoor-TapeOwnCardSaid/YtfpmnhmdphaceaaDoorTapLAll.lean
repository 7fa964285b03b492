/- Walks through the tape's functions. -/
import Derived.Test.YtfpmnhmdphaceaaDoorTapVAll
import Derived.Test.YtfpmnhmdphaceaaDoorBaseAll
import Derived.Test.YtfpmnhmdphaceaaDoorWordAll
import Derived.Test.YtfpmnhmdphaceaaDoorTadAll
namespace Go.Proofs.YtfpmnhmdphaceaaDoor
open Go.EW
attribute [local irreducible] EW.W EW.L EW.fin block8 outB shaL
set_option linter.unusedVariables false
set_option linter.unusedSimpArgs false
/-! what is laid down is read: the plain functions -/
def numB (l : List UInt8) : Nat := l.foldl (fun v x => v * 256 + x.toNat) 0
/-- a number at a place: its value, where it ends, the error -/
def getN (b : List UInt8) (p : Nat) : Nat × Nat × Nat :=
  match b.drop p with
  | [] => (0, p, 10)
  | k :: r => if 8 < k.toNat then (0, p, 12) else if r.length < k.toNat then (0, p, 10) else if 0 < k.toNat ∧ r.headD 0 = 0 then (0, p, 12) else (numB (r.take k.toNat), p + 1 + k.toNat, 0)
/-- a reader's state: how far, the first error -/
structure Rs where
  at_ : Nat
  err : Nat
def rNum (b : List UInt8) (s : Rs) : Nat × Rs :=
  if s.err ≠ 0 then (0, s) else if (getN b s.at_).2.2 ≠ 0 then (0, ⟨s.at_, (getN b s.at_).2.2⟩) else ((getN b s.at_).1, ⟨(getN b s.at_).2.1, 0⟩)
def rInt (b : List UInt8) (most : Nat) (s : Rs) : Nat × Rs :=
  if s.err ≠ 0 then (0, s) else if (getN b s.at_).2.2 ≠ 0 then (0, ⟨s.at_, (getN b s.at_).2.2⟩) else if most < (getN b s.at_).1 then (0, ⟨s.at_, 11⟩) else ((getN b s.at_).1, ⟨(getN b s.at_).2.1, 0⟩)
def rText (b : List UInt8) (most : Nat) (s : Rs) : List UInt8 × Rs :=
  if s.err ≠ 0 then ([], s) else if (rInt b most s).2.err ≠ 0 then ([], (rInt b most s).2) else if b.length - (rInt b most s).2.at_ < (rInt b most s).1 then ([], ⟨s.at_, 10⟩) else
    ((b.drop (rInt b most s).2.at_).take (rInt b most s).1, ⟨(rInt b most s).2.at_ + (rInt b most s).1, 0⟩)
def rEnd (b : List UInt8) (s : Rs) : Nat := if s.err ≠ 0 then s.err else if s.at_ < b.length then 15 else 0
theorem numB_nil : numB [] = 0 := rfl
theorem numB_snoc (l : List UInt8) (x : UInt8) : numB (l ++ [x]) = numB l * 256 + x.toNat := by unfold numB; rw [List.foldl_append]; rfl
theorem numB_go : ∀ (l : List UInt8) (v : Nat), l.foldl (fun v x => v * 256 + x.toNat) v < (v + 1) * 256 ^ l.length
  | [], v => by simp
  | x :: l, v => by
    have h := numB_go l (v * 256 + x.toNat)
    have hx := x.toNat_lt
    rw [List.foldl_cons, List.length_cons, Nat.pow_succ]
    refine Nat.lt_of_lt_of_le h ?_
    rw [Nat.mul_comm (256 ^ l.length) 256, ← Nat.mul_assoc]
    exact Nat.mul_le_mul_right _ (by omega)
theorem numB_lt (l : List UInt8) : numB l < 256 ^ l.length := by
  have := numB_go l 0
  simpa [numB] using this
theorem numB_le8 {l : List UInt8} (h : l.length ≤ 8) : numB l < 18446744073709551616 := by
  have h1 := numB_lt l
  have h2 : 256 ^ l.length ≤ 256 ^ 8 := Nat.pow_le_pow_right (by decide) h
  have h3 : 256 ^ 8 = 18446744073709551616 := by decide
  omega
theorem getN_lt (b : List UInt8) (p : Nat) : (getN b p).1 < 18446744073709551616 := by
  unfold getN
  split
  · exact Nat.succ_pos _
  split
  · exact Nat.succ_pos _
  split
  · exact Nat.succ_pos _
  split
  · exact Nat.succ_pos _
  exact numB_le8 (by rw [List.length_take]; omega)
theorem getN_err (b : List UInt8) (p : Nat) : (getN b p).2.2 ≤ 12 := by
  unfold getN
  split
  · show 10 ≤ 12; decide
  split
  · exact Nat.le_refl _
  split
  · show 10 ≤ 12; decide
  split
  · exact Nat.le_refl _
  exact Nat.zero_le _
/-- where a number is read, it ends within -/
theorem getN_end {b : List UInt8} {p : Nat} (h : (getN b p).2.2 = 0) : p < (getN b p).2.1 ∧ (getN b p).2.1 ≤ b.length := by
  unfold getN at h ⊢
  split at h
  · cases h
  rename_i k r hd
  have hl := congrArg List.length hd
  rw [List.length_drop, List.length_cons] at hl
  split at h
  · cases h
  rename_i h1
  split at h
  · cases h
  rename_i h2
  split at h
  · cases h
  rename_i h3
  simp only [h1, h2, h3, if_false]
  omega
/-- the state of a reader that may be -/
def RsOk2 (b : List UInt8) (s : Rs) : Prop := s.at_ ≤ b.length ∧ s.err ≤ 15
theorem rNum_ok2 {b : List UInt8} {s : Rs} (h : RsOk2 b s) : RsOk2 b (rNum b s).2 := by
  unfold rNum
  split
  · exact h
  split
  · exact ⟨h.1, Nat.le_trans (getN_err _ _) (by decide)⟩
  rename_i h2
  exact ⟨(getN_end (by simpa using h2)).2, Nat.zero_le _⟩
theorem rInt_ok2 {b : List UInt8} {m : Nat} {s : Rs} (h : RsOk2 b s) : RsOk2 b (rInt b m s).2 := by
  unfold rInt
  split
  · exact h
  split
  · exact ⟨h.1, Nat.le_trans (getN_err _ _) (by decide)⟩
  split
  · exact ⟨h.1, show 11 ≤ 15 by decide⟩
  rename_i h2 _
  exact ⟨(getN_end (by simpa using h2)).2, Nat.zero_le _⟩
theorem rInt_le {b : List UInt8} {m : Nat} {s : Rs} : (rInt b m s).1 ≤ m := by
  unfold rInt
  split
  · exact Nat.zero_le _
  split
  · exact Nat.zero_le _
  split
  · exact Nat.zero_le _
  rename_i h; omega
theorem rNum_lt {b : List UInt8} {s : Rs} : (rNum b s).1 < 18446744073709551616 := by
  unfold rNum
  split
  · exact Nat.succ_pos _
  split
  · exact Nat.succ_pos _
  exact getN_lt _ _
theorem rText_ok2 {b : List UInt8} {m : Nat} {s : Rs} (h : RsOk2 b s) : RsOk2 b (rText b m s).2 := by
  unfold rText
  split
  · exact h
  split
  · exact rInt_ok2 h
  split
  · exact ⟨h.1, show 10 ≤ 15 by decide⟩
  have := (rInt_ok2 (m := m) h).1
  exact ⟨by simp only []; omega, Nat.zero_le _⟩
theorem rText_len {b : List UInt8} {m : Nat} {s : Rs} : (rText b m s).1.length ≤ m ∧ (rText b m s).1.length ≤ b.length := by
  unfold rText
  split
  · exact ⟨Nat.zero_le _, Nat.zero_le _⟩
  split
  · exact ⟨Nat.zero_le _, Nat.zero_le _⟩
  split
  · exact ⟨Nat.zero_le _, Nat.zero_le _⟩
  rw [List.length_take, List.length_drop]
  have := rInt_le (b := b) (m := m) (s := s)
  omega
end Go.Proofs.YtfpmnhmdphaceaaDoor
namespace Go.Proofs.YtfpmnhmdphaceaaDoor
open Go.EW
attribute [local irreducible] EW.W EW.L EW.fin block8 outB shaL
set_option linter.unusedVariables false
set_option linter.unusedSimpArgs false
abbrev I (x : Int) : Value := .int .i64 x
/-- an event -/
structure Evt where
  k : Int
  nd : Int
  cl : Int
  ix : Int
  pl : Int
  ct : Int
  cu : Int
  hi : Nat
  lo : Nat
  ok : Int
  os : Int
  ov : ByteArray
  bs : List UInt8
def Evt.cells (e : Evt) (a : Option Addr) (c : Nat) : List Value := [I e.k, I e.nd, I e.cl, I e.ix, I e.pl, I e.ct, I e.cu, N64 e.hi, N64 e.lo, I e.ok, I e.os, .string e.ov, .slice a e.bs.length c]
def Evt.num (e : Evt) : Nat → Int
  | 0 => e.nd
  | 1 => e.cl
  | 2 => e.ix
  | 3 => e.pl
  | 4 => e.ct
  | _ => e.cu
def Evt.put (e : Evt) (i : Nat) (x : Int) : Evt :=
  match i with
  | 0 => { e with nd := x }
  | 1 => { e with cl := x }
  | 2 => { e with ix := x }
  | 3 => { e with pl := x }
  | 4 => { e with ct := x }
  | _ => { e with cu := x }
def evt0 : Evt := ⟨0, 0, 0, 0, 0, 0, 0, 0, 0, 0, 0, ⟨#[]⟩, []⟩
theorem evt_cell (e : Evt) (a : Option Addr) (c : Nat) {i : Nat} (hi : i < 6) : (e.cells a c)[i + 1]? = some (I (e.num i)) := by
  match i, hi with
  | 0, _ => rfl
  | 1, _ => rfl
  | 2, _ => rfl
  | 3, _ => rfl
  | 4, _ => rfl
  | 5, _ => rfl
theorem evt_put (e : Evt) (a : Option Addr) (c : Nat) {i : Nat} (hi : i < 6) (x : Int) : putL (e.cells a c) (0 + (i + 1)) [I x] = (e.put i x).cells a c := by
  match i, hi with
  | 0, _ => rfl
  | 1, _ => rfl
  | 2, _ => rfl
  | 3, _ => rfl
  | 4, _ => rfl
  | 5, _ => rfl
structure EvOk (e : Evt) : Prop where
  num : ∀ i, -9223372036854775808 ≤ e.num i ∧ e.num i ≤ 9223372036854775807
  op : e.ok ≤ 9223372036854775807 ∧ e.os ≤ 9223372036854775807
  hi : e.hi < 18446744073709551616 ∧ e.lo < 18446744073709551616
  ov : e.ov.size ≤ 140737488351232
  bs : e.bs.length ≤ 140737488351232
/-- which fields a kind uses, as bits -/
def usesT : List Nat := [0, 130, 2, 36, 4, 4, 28, 265, 33, 1, 97, 16, 131]
def usesN (k : Int) : Nat := if k < 1 ∨ 13 ≤ k then 0 else usesT.getD k.toNat 0
def bitN (u i : Nat) : Bool := Nat.beq (u / 2 ^ i % 2) 1
theorem uses_mem (k : Int) : usesN k ∈ usesT := by
  unfold usesN
  split
  · decide
  rename_i h
  have h1 : k.toNat < 13 := by omega
  generalize k.toNat = n at h1
  match n, h1 with
  | 0, _ => decide
  | 1, _ => decide
  | 2, _ => decide
  | 3, _ => decide
  | 4, _ => decide
  | 5, _ => decide
  | 6, _ => decide
  | 7, _ => decide
  | 8, _ => decide
  | 9, _ => decide
  | 10, _ => decide
  | 11, _ => decide
  | 12, _ => decide
theorem uses_lt (k : Int) : usesN k < 512 := by
  have h : ∀ u ∈ usesT, u < 512 := by decide
  exact h _ (uses_mem k)
theorem uses_and (k : Int) : bitI .and .i64 (usesN k : Int) 64 = (if bitN (usesN k) 6 then 64 else 0) ∧ bitI .and .i64 (usesN k : Int) 128 = (if bitN (usesN k) 7 then 128 else 0) ∧ bitI .and .i64 (usesN k : Int) 256 = (if bitN (usesN k) 8 then 256 else 0) := by
  have h : ∀ u ∈ usesT, bitI .and .i64 (u : Int) 64 = (if bitN u 6 then 64 else 0) ∧ bitI .and .i64 (u : Int) 128 = (if bitN u 7 then 128 else 0) ∧ bitI .and .i64 (u : Int) 256 = (if bitN u 8 then 256 else 0) := by decide
  exact h _ (uses_mem k)
theorem bit_one {u i : Nat} : (((u / 2 ^ i % 2 : Nat) : Int) = 1) ↔ bitN u i = true := by
  unfold bitN
  rw [Nat.beq_eq]
  omega
/-- is one of the first numbers that it uses below zero? -/
def negN (e : Evt) (u : Nat) : Nat → Bool
  | 0 => false
  | i + 1 => negN e u i || (bitN u i && decide (e.num i < 0))
/-- an event's kind and the first of the numbers that it uses -/
def pgo (e : Evt) (u : Nat) : Nat → List UInt8
  | 0 => formL e.k.toNat
  | i + 1 => pgo e u i ++ (if bitN u i then formL (e.num i).toNat else [])
def pdr (e : Evt) (u : Nat) : List UInt8 := if bitN u 6 then formL e.hi ++ formL e.lo else []
def pop (e : Evt) (u : Nat) : List UInt8 := if bitN u 7 then formL e.ok.toNat ++ formL e.os.toNat ++ (formL e.ov.size ++ e.ov.data.toList) else []
def pby (e : Evt) (u : Nat) : List UInt8 := if bitN u 8 then formL e.bs.length ++ e.bs else []
/-- an event's bytes, or the error -/
def putEv (e : Evt) : List UInt8 × Nat :=
  if usesN e.k = 0 then ([], 150) else if negN e (usesN e.k) 6 = true then ([], 150) else if bitN (usesN e.k) 7 = true ∧ (e.ok < 0 ∨ e.os < 0) then ([], 150)
  else if (bitN (usesN e.k) 7 = true ∧ 64 < e.ov.size) ∨ (bitN (usesN e.k) 8 = true ∧ 16384 < e.bs.length) then ([], 11)
  else (pgo e (usesN e.k) 6 ++ pdr e (usesN e.k) ++ pop e (usesN e.k) ++ pby e (usesN e.k), 0)
/-- the greatest int -/
def maxI : Nat := 9223372036854775807
def gnum (b : List UInt8) (u i : Nat) (st : Evt × Rs) : Evt × Rs := if bitN u i then (st.1.put i (rInt b maxI st.2).1, (rInt b maxI st.2).2) else st
def ggo (b : List UInt8) (u : Nat) (st : Evt × Rs) : Nat → Evt × Rs
  | 0 => st
  | i + 1 => gnum b u i (ggo b u st i)
def gdr (b : List UInt8) (u : Nat) (st : Evt × Rs) : Evt × Rs :=
  if bitN u 6 then ({ st.1 with hi := (rNum b st.2).1, lo := (rNum b (rNum b st.2).2).1 }, (rNum b (rNum b st.2).2).2) else st
def gop (b : List UInt8) (u : Nat) (st : Evt × Rs) : Evt × Rs :=
  if bitN u 7 then ({ st.1 with ok := (rInt b maxI st.2).1, os := (rInt b maxI (rInt b maxI st.2).2).1, ov := ⟨(rText b 64 (rInt b maxI (rInt b maxI st.2).2).2).1.toArray⟩ }, (rText b 64 (rInt b maxI (rInt b maxI st.2).2).2).2) else st
def gby (b : List UInt8) (u : Nat) (st : Evt × Rs) : Evt × Rs :=
  if bitN u 8 then ({ st.1 with bs := (rText b 16384 st.2).1 }, (rText b 16384 st.2).2) else st
def gkind (b : List UInt8) : Int := if 1 ≤ (rInt b maxI ⟨0, 0⟩).1 ∧ (rInt b maxI ⟨0, 0⟩).1 ≤ 12 then (rInt b maxI ⟨0, 0⟩).1 else 0
def gall (b : List UInt8) : Evt × Rs :=
  gby b (usesN (gkind b)) (gop b (usesN (gkind b)) (gdr b (usesN (gkind b)) (ggo b (usesN (gkind b)) ({ evt0 with k := gkind b }, (rInt b maxI ⟨0, 0⟩).2) 6)))
/-- the event of these bytes, or the error -/
def getEv (b : List UInt8) : Evt × Nat :=
  if (rInt b maxI ⟨0, 0⟩).2.at_ = 0 then (evt0, rEnd b (rInt b maxI ⟨0, 0⟩).2) else if usesN (gkind b) = 0 then (evt0, 150)
  else if rEnd b (gall b).2 ≠ 0 then (evt0, rEnd b (gall b).2) else ((gall b).1, 0)
end Go.Proofs.YtfpmnhmdphaceaaDoor
namespace Go.Proofs.YtfpmnhmdphaceaaDoor
open Go.EW
set_option linter.unusedVariables false
set_option linter.unusedSimpArgs false
/-! one form: what is read is what would be written; and what is written is read -/
theorem pow_256 (k : Nat) : 2 ^ (8 * k) = 256 ^ k := by rw [Nat.pow_mul]
/-- a good step of a reader: the number that it answers, where it stands then -/
structure Good (b : List UInt8) (s : Rs) (bs : List UInt8) (s' : Rs) : Prop where
  e0 : s.err = 0
  e1 : s'.err = 0
  cut : b.drop s.at_ = bs ++ b.drop s'.at_
  at_ : s'.at_ = s.at_ + bs.length
theorem Good.refl {b : List UInt8} {s : Rs} (h : s.err = 0) : Good b s [] s := ⟨h, h, rfl, rfl⟩
theorem Good.trans {b x y : List UInt8} {s t u : Rs} (h : Good b s x t) (g : Good b t y u) : Good b s (x ++ y) u :=
  ⟨h.e0, g.e1, by rw [h.cut, g.cut, List.append_assoc], by rw [g.at_, h.at_, List.length_append]; omega⟩
end Go.Proofs.YtfpmnhmdphaceaaDoor
namespace Go.Proofs.YtfpmnhmdphaceaaDoor
open Go.EW
set_option linter.unusedVariables false
set_option linter.unusedSimpArgs false
theorem six {i : Nat} (h : i < 6) : i = 0 ∨ i = 1 ∨ i = 2 ∨ i = 3 ∨ i = 4 ∨ i = 5 := by omega
theorem num_put (e : Evt) (v : Int) {i j : Nat} (hi : i < 6) (hj : j < 6) : (e.put j v).num i = if i = j then v else e.num i := by
  rcases six hi with rfl | rfl | rfl | rfl | rfl | rfl <;> rcases six hj with rfl | rfl | rfl | rfl | rfl | rfl <;> rfl
theorem gdr_keep (b : List UInt8) (u : Nat) (st : Evt × Rs) : (gdr b u st).1.k = st.1.k ∧ ∀ j, (gdr b u st).1.num j = st.1.num j := by
  unfold gdr; split <;> exact ⟨rfl, fun j => by unfold Evt.num; split <;> rfl⟩
theorem gop_keep (b : List UInt8) (u : Nat) (st : Evt × Rs) : (gop b u st).1.k = st.1.k ∧ (∀ j, (gop b u st).1.num j = st.1.num j) ∧ (gop b u st).1.hi = st.1.hi ∧ (gop b u st).1.lo = st.1.lo := by
  unfold gop; split <;> exact ⟨rfl, fun j => by unfold Evt.num; split <;> rfl, rfl, rfl⟩
theorem gby_keep (b : List UInt8) (u : Nat) (st : Evt × Rs) : (gby b u st).1.k = st.1.k ∧ (∀ j, (gby b u st).1.num j = st.1.num j) ∧ (gby b u st).1.hi = st.1.hi ∧ (gby b u st).1.lo = st.1.lo ∧ (gby b u st).1.ok = st.1.ok ∧ (gby b u st).1.os = st.1.os ∧ (gby b u st).1.ov = st.1.ov := by
  unfold gby; split <;> exact ⟨rfl, fun j => by unfold Evt.num; split <;> rfl, rfl, rfl, rfl, rfl, rfl⟩
end Go.Proofs.YtfpmnhmdphaceaaDoor
namespace Go.Proofs.YtfpmnhmdphaceaaDoor
open Go.EW
attribute [local irreducible] EW.W EW.L EW.fin block8 outB shaL
set_option linter.unusedVariables false
set_option linter.unusedSimpArgs false
/-! the sum -/
def c1N (n : Nat) : Nat := (n / 2) ^^^ (if n % 2 = 1 then 3988292384 else 0)
def ckN : Nat → Nat → Nat
  | 0, n => n
  | k + 1, n => ckN k (c1N n)
theorem c1N_xor (a b : Nat) : c1N (a ^^^ b) = c1N a ^^^ c1N b := by
  unfold c1N
  have h1 : (a ^^^ b) / 2 = a / 2 ^^^ b / 2 := Nat.xor_div_two
  have h2 : (a ^^^ b) % 2 = (a + b) % 2 := by
    have h := @Nat.xor_mod_two_eq_one a b
    have h3 : (a ^^^ b) % 2 < 2 := Nat.mod_lt _ (by decide)
    omega
  rw [h1, h2]
  rcases (show a % 2 = 0 ∨ a % 2 = 1 by omega) with ha | ha <;> rcases (show b % 2 = 0 ∨ b % 2 = 1 by omega) with hb | hb
  · rw [if_neg (by omega), if_neg (by omega), if_neg (by omega)]; simp
  · rw [if_pos (by omega), if_neg (by omega), if_pos (by omega), Nat.xor_zero, Nat.xor_assoc]
  · rw [if_pos (by omega), if_pos (by omega), if_neg (by omega), Nat.xor_zero, Nat.xor_assoc, Nat.xor_assoc, Nat.xor_comm (b / 2)]
  rw [if_neg (by omega), if_pos (by omega), if_pos (by omega), Nat.xor_zero]
  rw [show a / 2 ^^^ 3988292384 ^^^ (b / 2 ^^^ 3988292384) = a / 2 ^^^ b / 2 ^^^ (3988292384 ^^^ 3988292384) by
    rw [Nat.xor_assoc, Nat.xor_assoc, ← Nat.xor_assoc 3988292384, Nat.xor_comm 3988292384 (b / 2), Nat.xor_assoc]]
  rw [Nat.xor_self, Nat.xor_zero]
theorem ckN_xor : ∀ (k a b : Nat), ckN k (a ^^^ b) = ckN k a ^^^ ckN k b
  | 0, a, b => rfl
  | k + 1, a, b => by rw [ckN, c1N_xor, ckN_xor k]; rfl
theorem ckN_high : ∀ (k h l : Nat), l < 2 ^ k → ckN k (2 ^ k * h + l) = h ^^^ ckN k l
  | 0, h, l, hl => by
    obtain rfl : l = 0 := by simp at hl; exact hl
    simp [ckN]
  | k + 1, h, l, hl => by
    have e1 : 2 ^ (k + 1) * h = 2 * (2 ^ k * h) := by rw [Nat.pow_succ]; ac_rfl
    have e2 : (2 ^ (k + 1) * h + l) / 2 = 2 ^ k * h + l / 2 := by rw [e1]; omega
    have e3 : (2 ^ (k + 1) * h + l) % 2 = l % 2 := by rw [e1]; omega
    have e4 : l / 2 < 2 ^ k := by rw [Nat.pow_succ] at hl; omega
    rw [ckN, ckN]
    unfold c1N
    rw [e2, e3, ckN_xor, ckN_high k h _ e4, ckN_xor, Nat.xor_assoc]
def nibL : List UInt32 := [0, 498536548, 997073096, 651767980, 1994146192, 1802195444, 1303535960, 1342533948, 3988292384, 4027552580, 3604390888, 3412177804, 2607071920, 2262029012, 2685067896, 3183342108]
def crc1 (s : UInt32) : UInt32 := if s.toNat % 2 = 1 then (s >>> 1) ^^^ 3988292384 else s >>> 1
def crcN : Nat → UInt32 → UInt32
  | 0, s => s
  | k + 1, s => crcN k (crc1 s)
def crcB (s : UInt32) (x : UInt8) : UInt32 := crcN 8 (s ^^^ x.toUInt32)
def crcL (l : List UInt8) : UInt32 := ~~~ (l.foldl crcB 4294967295)
theorem crc1_nat (s : UInt32) : (crc1 s).toNat = c1N s.toNat := by
  unfold crc1 c1N
  have h1 : (s >>> 1).toNat = s.toNat / 2 := by rw [UInt32.toNat_shiftRight]; show s.toNat >>> 1 = _; rw [Nat.shiftRight_eq_div_pow]
  split
  · rename_i h; rw [UInt32.toNat_xor, h1]; rfl
  rename_i h; rw [h1]; simp
theorem crcN_nat : ∀ (k : Nat) (s : UInt32), (crcN k s).toNat = ckN k s.toNat
  | 0, s => rfl
  | k + 1, s => by rw [crcN, crcN_nat k, crc1_nat]; rfl
theorem crcN_add : ∀ (j k : Nat) (s : UInt32), crcN (j + k) s = crcN k (crcN j s)
  | 0, k, s => by rw [Nat.zero_add]; rfl
  | j + 1, k, s => by rw [show j + 1 + k = (j + k) + 1 by omega, crcN, crcN_add j k]; rfl
theorem nib_step (s : UInt32) : nibL.getD (s &&& 15).toNat 0 ^^^ (s >>> 4) = crcN 4 s := by
  apply UInt32.toNat_inj.1
  have h1 : (s >>> 4).toNat = s.toNat / 16 := by rw [UInt32.toNat_shiftRight]; show s.toNat >>> 4 = _; rw [Nat.shiftRight_eq_div_pow]
  have h2 : (s &&& 15).toNat = s.toNat % 16 := by rw [UInt32.toNat_and]; exact Nat.and_two_pow_sub_one_eq_mod s.toNat 4
  have h3 : ∀ l, l < 16 → (nibL.getD l 0).toNat = ckN 4 l := by decide
  rw [UInt32.toNat_xor, h1, h2, crcN_nat, h3 _ (by omega)]
  have h4 := ckN_high 4 (s.toNat / 16) (s.toNat % 16) (by omega)
  rw [show 2 ^ 4 * (s.toNat / 16) + s.toNat % 16 = s.toNat by omega] at h4
  rw [h4, Nat.xor_comm]
theorem nib_two (s : UInt32) (x : UInt8) : crcN 4 (crcN 4 (s ^^^ x.toUInt32)) = crcB s x := by
  rw [← crcN_add]; rfl
theorem crc_snoc (l : List UInt8) (x : UInt8) (s : UInt32) : (l ++ [x]).foldl crcB s = crcB (l.foldl crcB s) x := by rw [List.foldl_append]; rfl
/-- a number in four bytes, the highest first -/
def be4 (n : Nat) : List UInt8 := [UInt8.ofNat (n / 2 ^ 24), UInt8.ofNat (n / 2 ^ 16), UInt8.ofNat (n / 2 ^ 8), UInt8.ofNat n]
def le4 (s : UInt32) : List UInt8 := [UInt8.ofNat s.toNat, UInt8.ofNat (s.toNat / 2 ^ 8), UInt8.ofNat (s.toNat / 2 ^ 16), UInt8.ofNat (s.toNat / 2 ^ 24)]
def magicL : List UInt8 := [97, 109, 110, 49]
def frmL (b : List UInt8) : List UInt8 := magicL ++ be4 b.length ++ b
def sealL (b : List UInt8) : List UInt8 := frmL b ++ le4 (crcL (frmL b))
/-- the body's frame, or the error -/
def sealR (b : List UInt8) : List UInt8 × Nat := if 32756 < b.length then ([], 11) else (sealL b, 0)
def openR (f : List UInt8) : List UInt8 × Nat :=
  if 32768 < f.length then ([], 11) else if f.length < 12 then ([], 10) else if f.take 4 ≠ magicL then ([], 13)
  else if f.length < numB ((f.drop 4).take 4) + 12 then ([], 10) else if numB ((f.drop 4).take 4) + 12 < f.length then ([], 15)
  else if f.drop (f.length - 4) ≠ le4 (crcL (f.take (f.length - 4))) then ([], 14) else ((f.drop 8).take (f.length - 12), 0)
theorem seal_len (b : List UInt8) : (sealL b).length = b.length + 12 := by
  unfold sealL frmL
  simp only [List.length_append]
  have h1 : magicL.length = 4 := rfl
  have h2 : (be4 b.length).length = 4 := rfl
  have h3 : (le4 (crcL (magicL ++ be4 b.length ++ b))).length = 4 := rfl
  rw [h1, h2, h3]; omega
end Go.Proofs.YtfpmnhmdphaceaaDoor
