/- A part of this claim: laws of the tape's functions and of plain lists; no conditions beyond those that the theorems name. -/
import Derived.Test.YtfpmnhmdphaceaaGreatDoorZapPBAll
import Derived.Test.YtfpmnhmdphaceaaGreatDoorZap10
import Derived.Test.YtfpmnhmdphaceaaGreatDoorZapP4
namespace Go.Proofs.YtfpmnhmdphaceaaGreatDoor
open Go.EW
set_option linter.unusedVariables false
set_option linter.unusedSimpArgs false
/-- a reader that has read these bytes of a text -/
structure Pre (b : List UInt8) (s : Rs) (x : List UInt8) : Prop where
  err : s.err = 0
  at_ : s.at_ = x.length
  pre : x <+: b
theorem Pre.drop {b x y : List UInt8} {s : Rs} (h : Pre b s x) (hp : (x ++ y) <+: b) : ∃ rest, b.drop s.at_ = y ++ rest := by
  obtain ⟨r, rfl⟩ := hp
  exact ⟨r, by rw [h.at_, List.append_assoc, List.drop_left]⟩
theorem Pre.of {b x : List UInt8} {s : Rs} (h : Pre b s x) {y : List UInt8} (e : x = y) : Pre b s y := e ▸ h
end Go.Proofs.YtfpmnhmdphaceaaGreatDoor
namespace Go.Proofs.YtfpmnhmdphaceaaGreatDoor
open Go.EW
set_option linter.unusedVariables false
set_option linter.unusedSimpArgs false
attribute [local irreducible] crcL shaL
/-! a frame that is laid down is opened -/
/-! the head -/
/-! the foot -/
/-! a chunk -/
def evOf (t : List UInt8) : Evt := (getEv t).1
end Go.Proofs.YtfpmnhmdphaceaaGreatDoor
namespace Go.Proofs.YtfpmnhmdphaceaaGreatDoor
open Go.EW
set_option linter.unusedVariables false
set_option linter.unusedSimpArgs false
attribute [local irreducible] crcL shaL sealL sealR openR
/-! how a tape lays its events into chunks -/
abbrev Txt := List UInt8
/-- what is laid down: the file, the chunks' places, how many events -/
structure Lay where
  file : Txt
  places : List Nat
  n : Nat
def layC (l : Lay) (c : List Txt) : Lay := ⟨l.file ++ frameC l.n c, l.places ++ [l.file.length], l.n + c.length⟩
def layL (h : Txt) (cs : List (List Txt)) : Lay := cs.foldl layC ⟨h, [], 0⟩
theorem lay_nil (h : Txt) : layL h [] = ⟨h, [], 0⟩ := rfl
theorem lay_snoc (h : Txt) (cs : List (List Txt)) (c : List Txt) : layL h (cs ++ [c]) = layC (layL h cs) c := List.foldl_append
def cnt (cs : List (List Txt)) : Nat := (cs.map List.length).sum
theorem cnt_snoc (cs : List (List Txt)) (c : List Txt) : cnt (cs ++ [c]) = cnt cs + c.length := by
  unfold cnt; rw [List.map_append, List.sum_append]; simp
theorem cnt_flat (cs : List (List Txt)) : cnt cs = cs.flatten.length := by unfold cnt; rw [List.length_flatten]
theorem lay_n (h : Txt) (cs : List (List Txt)) : (layL h cs).n = cnt cs := by
  have : ∀ (cs : List (List Txt)) (l : Lay), (cs.foldl layC l).n = l.n + cnt cs := fun cs => by
    induction cs with
    | nil => intro l; rfl
    | cons c cs ih =>
      intro l
      rw [List.foldl_cons, ih]
      show l.n + c.length + cnt cs = _
      unfold cnt
      rw [List.map_cons, List.sum_cons, Nat.add_assoc]
  have h1 := this cs ⟨h, [], 0⟩
  unfold layL
  rw [h1]; exact Nat.zero_add _
theorem takeS {α : Type} {l : List α} {i : Nat} {c : α} (h : l[i]? = some c) : l.take (i + 1) = l.take i ++ [c] := by
  obtain ⟨hi, rfl⟩ := List.getElem?_eq_some_iff.1 h
  exact List.take_succ_eq_append_getElem hi
theorem lay_take {h : Txt} {cs : List (List Txt)} {i : Nat} {c : List Txt} (hc : cs[i]? = some c) : layL h (cs.take (i + 1)) = layC (layL h (cs.take i)) c := by
  rw [takeS hc, lay_snoc]
/-- the chunks that are full, the chunk at hand -/
structure CS where
  cs : List (List Txt)
  cur : List Txt
def fitC (c : CS) (b : Txt) : Bool := fitsN (cnt c.cs) c.cur.length (sizeT c.cur) b.length
def addC (c : CS) (b : Txt) : CS := if c.cur.length > 0 ∧ fitC c b = false then ⟨c.cs ++ [c.cur], [b]⟩ else ⟨c.cs, c.cur ++ [b]⟩
def csOf (ts : List Txt) : CS := ts.foldl addC ⟨[], []⟩
theorem csOf_snoc (ts : List Txt) (b : Txt) : csOf (ts ++ [b]) = addC (csOf ts) b := List.foldl_append
def allC (c : CS) : List (List Txt) := if c.cur.length > 0 then c.cs ++ [c.cur] else c.cs
def chsOf (ts : List Txt) : List (List Txt) := allC (csOf ts)
structure Rep (h : Txt) (t : TS) (c : CS) : Prop where
  file : t.file = (layL h c.cs).file
  places : t.places = (layL h c.cs).places
  first : t.first = cnt c.cs
  texts : t.texts = c.cur
  n : t.n = cnt c.cs + c.cur.length
theorem Rep.new (s : Stp) : Rep (sealR (headB s)).1 (newT s) (csOf []) := ⟨rfl, rfl, rfl, rfl, rfl⟩
theorem Rep.add {h : Txt} {t : TS} {c : CS} (r : Rep h t c) (b : Txt) : Rep h (addT t b) (addC c b) := by
  have hf : fitsT t b = fitC c b := by unfold fitsT fitC; rw [r.first, r.texts]
  unfold addT addC
  rw [hf, r.texts]
  by_cases hc : c.cur.length > 0 ∧ fitC c b = false
  · rw [if_pos hc, if_pos hc]
    refine ⟨?_, ?_, ?_, rfl, ?_⟩
    · show t.file ++ frameC t.first t.texts = _
      rw [lay_snoc, r.file, r.first, r.texts]
      show _ = _ ++ frameC (layL h c.cs).n c.cur
      rw [lay_n]
    · show t.places ++ [t.file.length] = _
      rw [lay_snoc, r.file, r.places]; rfl
    · show t.n = _
      rw [r.n, cnt_snoc]
    show t.n + 1 = _
    rw [r.n, cnt_snoc]; rfl
  rw [if_neg hc, if_neg hc]
  refine ⟨r.file, r.places, r.first, by show t.texts ++ [b] = _; rw [r.texts], ?_⟩
  show t.n + 1 = _
  rw [r.n, List.length_append]; rfl
theorem Rep.out {h : Txt} {t : TS} {c : CS} (r : Rep h t c) : outT t = (layL h (allC c)).file ∧ plT t = (layL h (allC c)).places := by
  unfold outT plT allC
  rw [r.texts]
  by_cases hc : c.cur.length > 0
  · rw [if_pos hc, if_pos hc, if_pos hc, lay_snoc, r.file, r.places, r.first]
    refine ⟨?_, rfl⟩
    show _ = _ ++ frameC (layL h c.cs).n c.cur
    rw [lay_n]
  rw [if_neg hc, if_neg hc, if_neg hc]
  exact ⟨r.file, r.places⟩
theorem rep_of (s : Stp) : ∀ (ts us : List Txt) (t : TS), Rep (sealR (headB s)).1 t (csOf us) → Rep (sealR (headB s)).1 (ts.foldl addT t) (csOf (us ++ ts))
  | [], us, t, h => by rw [List.append_nil]; exact h
  | b :: ts, us, t, h => by
    have := rep_of s ts (us ++ [b]) (addT t b) (by rw [csOf_snoc]; exact h.add b)
    rwa [List.append_assoc] at this
theorem rep_all (s : Stp) (ts : List Txt) : Rep (sealR (headB s)).1 (ts.foldl addT (newT s)) (csOf ts) := by
  have := rep_of s ts [] (newT s) (Rep.new s)
  rwa [List.nil_append] at this
/-- a chunk that may be -/
structure OkC (f : Nat) (c : List Txt) : Prop where
  pos : 1 ≤ c.length
  cnt : c.length ≤ 32
  size : (chunkB f c).length ≤ 32756
/-- chunks that are as full as may be -/
structure Grd (cs : List (List Txt)) : Prop where
  ok : ∀ i c, cs[i]? = some c → OkC (cnt (cs.take i)) c
  full : ∀ i c d, cs[i]? = some c → cs[i + 1]? = some d → fitsN (cnt (cs.take i)) c.length (sizeT c) (d.headD []).length = false
theorem Grd.nil : Grd [] := ⟨fun i c h => by simp at h, fun i c d h _ => by simp at h⟩
theorem get_snoc {α : Type} {l : List α} {x y : α} {i : Nat} (h : (l ++ [x])[i]? = some y) : (i < l.length ∧ l[i]? = some y) ∨ (i = l.length ∧ y = x) := by
  rcases Nat.lt_or_ge i l.length with h1 | h1
  · rw [List.getElem?_append_left h1] at h; exact .inl ⟨h1, h⟩
  rw [List.getElem?_append_right h1] at h
  rcases Nat.eq_zero_or_pos (i - l.length) with h2 | h2
  · rw [h2] at h
    exact .inr ⟨by omega, by simpa using h.symm⟩
  rw [List.getElem?_eq_none_iff.2 (by simp; omega)] at h; cases h
theorem Grd.snoc {cs : List (List Txt)} {d : List Txt} (h : Grd cs) (hd : OkC (cnt cs) d) (hf : ∀ c, cs[cs.length - 1]? = some c → fitsN (cnt (cs.take (cs.length - 1))) c.length (sizeT c) (d.headD []).length = false) : Grd (cs ++ [d]) := by
  constructor
  · intro i c hi
    rcases get_snoc hi with ⟨h1, h2⟩ | ⟨rfl, rfl⟩
    · rw [List.take_append_of_le_length (by omega)]; exact h.ok i c h2
    rw [List.take_left]; exact hd
  intro i c e hi he
  rcases get_snoc hi with ⟨h1, h2⟩ | ⟨rfl, rfl⟩
  · rw [List.take_append_of_le_length (by omega)]
    rcases get_snoc he with ⟨h3, h4⟩ | ⟨h3, rfl⟩
    · exact h.full i c e h2 h4
    have : i = cs.length - 1 := by omega
    subst this
    exact hf c h2
  rcases get_snoc he with ⟨h3, h4⟩ | ⟨h3, rfl⟩ <;> omega
/-- the last chunk grows -/
theorem Grd.grow {cs : List (List Txt)} {c d : List Txt} (h : Grd (cs ++ [c])) (hd : OkC (cnt cs) d) (hh : d.headD [] = c.headD []) : Grd (cs ++ [d]) := by
  have hn : ∀ i, i < cs.length → (cs ++ [c])[i]? = cs[i]? := fun i hi => List.getElem?_append_left hi
  constructor
  · intro i x hi
    rcases get_snoc hi with ⟨h1, h2⟩ | ⟨rfl, rfl⟩
    · have := h.ok i x (by rw [hn i h1]; exact h2)
      rw [List.take_append_of_le_length (by omega)] at this ⊢
      exact this
    rw [List.take_left]; exact hd
  intro i x e hi he
  rcases get_snoc hi with ⟨h1, h2⟩ | ⟨rfl, rfl⟩
  · rcases get_snoc he with ⟨h3, h4⟩ | ⟨h3, rfl⟩
    · have := h.full i x e (by rw [hn i h1]; exact h2) (by rw [hn _ h3]; exact h4)
      rw [List.take_append_of_le_length (by omega)] at this ⊢
      exact this
    have := h.full i x c (by rw [hn i h1]; exact h2) (by rw [h3, List.getElem?_append_right (Nat.le_refl _), Nat.sub_self]; rfl)
    rw [List.take_append_of_le_length (by omega)] at this ⊢
    rw [hh]; exact this
  rcases get_snoc he with ⟨h3, h4⟩ | ⟨h3, rfl⟩ <;> omega
theorem fits_len {f : Nat} {c : List Txt} {b : Txt} (h : fitsN f c.length (sizeT c) b.length = true) : c.length < 32 ∧ (chunkB f (c ++ [b])).length ≤ 32756 := by
  unfold fitsN at h
  simp only [Bool.and_eq_true, decide_eq_true_eq] at h
  rw [chunkB_len, sizeT_snoc, List.length_append]
  exact h
theorem ok_one (f : Nat) {b : Txt} (hb : b.length ≤ 20000) : OkC f [b] := by
  refine ⟨Nat.le_refl _, (show 1 ≤ 32 by decide), ?_⟩
  rw [chunkB_len]
  have h1 := (szN_le f).2
  have h2 := (szN_le [b].length).2
  have h3 := (szN_le b.length).2
  have h4 : sizeT [b] = szN b.length + b.length := by unfold sizeT; simp
  omega
structure CInv (c : CS) : Prop where
  grd : Grd (allC c)
  emp : c.cur.length = 0 → c.cs = []
theorem CInv.add {c : CS} (h : CInv c) {b : Txt} (hb : b.length ≤ 20000) : CInv (addC c b) := by
  unfold addC
  by_cases hc : c.cur.length > 0 ∧ fitC c b = false
  · rw [if_pos hc]
    refine ⟨?_, fun h => by simp at h⟩
    have hg := h.grd
    unfold allC at hg ⊢
    rw [if_pos hc.1] at hg
    rw [if_pos (show [b].length > 0 from Nat.one_pos)]
    refine hg.snoc (ok_one _ hb) (fun x hx => ?_)
    rw [List.length_append, show c.cs.length + [c.cur].length - 1 = c.cs.length by simp] at hx ⊢
    rw [List.getElem?_append_right (Nat.le_refl _), Nat.sub_self] at hx
    obtain rfl : c.cur = x := by simpa using hx
    rw [List.take_left]
    exact hc.2
  rw [if_neg hc]
  refine ⟨?_, fun h => by simp at h⟩
  unfold allC
  rw [if_pos (show (c.cur ++ [b]).length > 0 by simp)]
  by_cases h0 : c.cur.length > 0
  · have hfit : fitC c b = true := by
      cases hf : fitC c b with
      | true => rfl
      | false => exact absurd ⟨h0, hf⟩ hc
    obtain ⟨h1, h2⟩ := fits_len (f := cnt c.cs) (c := c.cur) (b := b) hfit
    have hg := h.grd
    unfold allC at hg
    rw [if_pos h0] at hg
    refine hg.grow ⟨by simp, by rw [List.length_append]; exact h1, h2⟩ ?_
    cases hcur : c.cur with
    | nil => rw [hcur] at h0; exact absurd h0 (by decide)
    | cons x r => rfl
  have he := h.emp (by omega)
  have hce : c.cur = [] := List.length_eq_zero_iff.1 (by omega)
  rw [he, hce]
  exact Grd.nil.snoc (ok_one _ hb) (fun x hx => by simp at hx)
theorem cinv_of : ∀ (ts us : List Txt), CInv (csOf us) → (∀ t ∈ ts, t.length ≤ 20000) → CInv (csOf (us ++ ts))
  | [], us, h, _ => by rw [List.append_nil]; exact h
  | b :: ts, us, h, hb => by
    have := cinv_of ts (us ++ [b]) (by rw [csOf_snoc]; exact h.add (hb b (by simp))) (fun t ht => hb t (by simp [ht]))
    rwa [List.append_assoc] at this
theorem cinv_all {ts : List Txt} (hb : ∀ t ∈ ts, t.length ≤ 20000) : CInv (csOf ts) := by
  have := cinv_of ts [] ⟨Grd.nil, fun _ => rfl⟩ hb
  rwa [List.nil_append] at this
theorem flat_of : ∀ (ts us : List Txt), (allC (csOf us)).flatten = us → (allC (csOf (us ++ ts))).flatten = us ++ ts
  | [], us, h => by rw [List.append_nil]; exact h
  | b :: ts, us, h => by
    have := flat_of ts (us ++ [b]) (by
      rw [csOf_snoc]
      have key : ∀ c : CS, (allC (addC c b)).flatten = (allC c).flatten ++ [b] := fun c => by
        unfold addC
        by_cases hc : c.cur.length > 0 ∧ fitC c b = false
        · rw [if_pos hc]
          unfold allC
          rw [if_pos (show [b].length > 0 from Nat.one_pos), if_pos hc.1, List.flatten_append]
          simp
        rw [if_neg hc]
        unfold allC
        rw [if_pos (show (c.cur ++ [b]).length > 0 by simp), List.flatten_append]
        by_cases h0 : c.cur.length > 0
        · rw [if_pos h0, List.flatten_append]; simp
        rw [if_neg h0, List.length_eq_zero_iff.1 (show c.cur.length = 0 by omega)]; simp
      rw [key, h])
    rwa [List.append_assoc] at this
theorem flat_all (ts : List Txt) : (chsOf ts).flatten = ts := by
  have := flat_of ts [] rfl
  rwa [List.nil_append] at this
theorem grd_all {ts : List Txt} (hb : ∀ t ∈ ts, t.length ≤ 20000) : Grd (chsOf ts) := (cinv_all hb).grd
theorem cnt_all (ts : List Txt) : cnt (chsOf ts) = ts.length := by rw [cnt_flat, flat_all]
/-- a tape's file -/
def headF (s : Stp) : Txt := (sealR (headB s)).1
def layT (s : Stp) (ts : List Txt) : Lay := layL (headF s) (chsOf ts)
def fileL (s : Stp) (ts : List Txt) : Txt := (layT s ts).file ++ footC ts.length (layT s ts).places (layT s ts).file ++ be4 (footC ts.length (layT s ts).places (layT s ts).file).length
theorem file_all (s : Stp) (ts : List Txt) : fileT (ts.foldl addT (newT s)) = fileL s ts ∧ (ts.foldl addT (newT s)).n = ts.length := by
  have r := rep_all s ts
  obtain ⟨h1, h2⟩ := r.out
  have h3 : (ts.foldl addT (newT s)).n = ts.length := by
    rw [r.n, ← cnt_all ts]
    unfold chsOf allC
    split
    · rw [cnt_snoc]
    omega
  unfold fileT
  rw [h1, h2, h3]
  exact ⟨rfl, rfl⟩
end Go.Proofs.YtfpmnhmdphaceaaGreatDoor
namespace Go.Proofs.YtfpmnhmdphaceaaGreatDoor
open Go.EW
set_option linter.unusedVariables false
set_option linter.unusedSimpArgs false
attribute [local irreducible] crcL shaL sealL sealR openR
/-! what is laid down is scanned -/
/-- what is known behind m chunks -/
structure Sc (s : Stp) (h : Txt) (cs : List (List Txt)) (m : Nat) (x : SS) : Prop where
  stp : x.stp = s
  evs : x.evs = (cs.take m).flatten.map evOf
  pl : x.places = (layL h (cs.take m)).places
  last : ∀ i c, m = i + 1 → cs[i]? = some c → x.first = cnt (cs.take i) ∧ x.last = c
  none : m = 0 → x.last = []
theorem Sc.setR {s : Stp} {h : Txt} {cs : List (List Txt)} {m : Nat} {x : SS} (g : Sc s h cs m x) (r : Nat) : Sc s h cs m { x with right := r } := ⟨g.stp, g.evs, g.pl, g.last, g.none⟩
theorem cnt_take {cs : List (List Txt)} {i : Nat} {c : List Txt} (hc : cs[i]? = some c) : cnt (cs.take (i + 1)) = cnt (cs.take i) + c.length := by
  rw [takeS hc, cnt_snoc]
theorem cnt_mono {cs : List (List Txt)} {i : Nat} : cnt (cs.take i) ≤ cnt cs := by
  have : cnt cs = cnt (cs.take i) + cnt (cs.drop i) := by
    conv => lhs; rw [← List.take_append_drop i cs]
    unfold cnt
    rw [List.map_append, List.sum_append]
  omega
theorem headB_len {s : Stp} (hc : chkS s = 0) : (headB s).length ≤ 32756 := by
  obtain ⟨_, h2, _⟩ := chk_inv hc
  have h1 := numsB_len (hv s)
  have h3 := numsB_len s.cls
  have h4 : (hv s).length = 7 := rfl
  unfold headB
  rw [List.length_append]; omega
/-! the ends -/
end Go.Proofs.YtfpmnhmdphaceaaGreatDoor
namespace Go.Proofs.YtfpmnhmdphaceaaGreatDoor
open Go.EW
set_option linter.unusedVariables false
set_option linter.unusedSimpArgs false
attribute [local irreducible] crcL shaL sealL sealR openR
/-- texts that a tape takes -/
structure TsOk (ts : List Txt) : Prop where
  good : ∀ t ∈ ts, (getEv t).2 = 0 ∧ t.length ≤ 20000
theorem TsOk.len {ts : List Txt} (h : TsOk ts) : ∀ t ∈ ts, t.length ≤ 20000 := fun t ht => (h.good t ht).2
theorem TsOk.take {ts : List Txt} (h : TsOk ts) (n : Nat) : TsOk (ts.take n) := ⟨fun t ht => h.good t (List.mem_of_mem_take ht)⟩
end Go.Proofs.YtfpmnhmdphaceaaGreatDoor
