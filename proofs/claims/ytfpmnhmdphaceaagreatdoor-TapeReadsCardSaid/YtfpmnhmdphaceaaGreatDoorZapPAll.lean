/- A part of this claim: laws of the tape's functions and of plain lists; no conditions beyond those that the theorems name. -/
import Derived.Test.YtfpmnhmdphaceaaGreatDoorZapPBAll
import Derived.Test.YtfpmnhmdphaceaaGreatDoorZap10
import Derived.Test.YtfpmnhmdphaceaaGreatDoorZapP4
namespace Go.Proofs.YtfpmnhmdphaceaaGreatDoor
open Go.EW
set_option linter.unusedVariables false
set_option linter.unusedSimpArgs false
/-- a reader that has read these bytes of a text -/
structure Pre (b : List UInt8) (s : Rs) (x : List UInt8) : Prop where
  err : s.err = 0
  at_ : s.at_ = x.length
  pre : x <+: b
theorem Pre.start (b : List UInt8) : Pre b ⟨0, 0⟩ [] := ⟨rfl, rfl, List.nil_prefix⟩
theorem Pre.drop {b x y : List UInt8} {s : Rs} (h : Pre b s x) (hp : (x ++ y) <+: b) : ∃ rest, b.drop s.at_ = y ++ rest := by
  obtain ⟨r, rfl⟩ := hp
  exact ⟨r, by rw [h.at_, List.append_assoc, List.drop_left]⟩
theorem rInt_pre {b x : List UInt8} {m v : Nat} {s : Rs} (h : Pre b s x) (hm : m < 18446744073709551616) (hv : v ≤ m) (hp : (x ++ formL v) <+: b) : (rInt b m s).1 = v ∧ Pre b (rInt b m s).2 (x ++ formL v) := by
  obtain ⟨r, hr⟩ := h.drop hp
  rw [rInt_form h.err hm hv hr]
  exact ⟨rfl, rfl, by rw [List.length_append, h.at_], hp⟩
theorem rEnd_pre {b : List UInt8} {s : Rs} (h : Pre b s b) : rEnd b s = 0 := by
  unfold rEnd
  rw [if_neg (by have := h.err; omega), if_neg (by have := h.at_; omega)]
theorem Pre.of {b x : List UInt8} {s : Rs} (h : Pre b s x) {y : List UInt8} (e : x = y) : Pre b s y := e ▸ h
end Go.Proofs.YtfpmnhmdphaceaaGreatDoor
namespace Go.Proofs.YtfpmnhmdphaceaaGreatDoor
open Go.EW
set_option linter.unusedVariables false
set_option linter.unusedSimpArgs false
attribute [local irreducible] crcL shaL
/-! a frame that is laid down is opened -/
theorem num_be4 {n : Nat} (h : n < 4294967296) : numB (be4 n) = n := by
  have : numB (be4 n) = (((UInt8.ofNat (n / 2 ^ 24)).toNat * 256 + (UInt8.ofNat (n / 2 ^ 16)).toNat) * 256 + (UInt8.ofNat (n / 2 ^ 8)).toNat) * 256 + (UInt8.ofNat n).toNat := by simp [be4, numB]
  rw [this]
  simp only [UInt8.toNat_ofNat']
  omega
/-! the head -/
theorem natsB_app (a b : List Nat) : natsB (a ++ b) = natsB a ++ natsB b := by unfold natsB; rw [List.flatMap_append]
theorem natsB_one (v : Nat) : natsB [v] = formL v := by unfold natsB; simp
theorem rInts_pre {b : List UInt8} {s : Rs} {x : List UInt8} (h : Pre b s x) {l : List Nat} (hm : ∀ v ∈ l, v ≤ maxI) (hp : x ++ natsB l <+: b) : ∀ i, i ≤ l.length → (rInts b s i).1 = l.take i ∧ Pre b (rInts b s i).2 (x ++ natsB (l.take i))
  | 0, _ => ⟨by rw [List.take_zero]; rfl, by rw [List.take_zero]; exact h.of (by unfold natsB; simp)⟩
  | i + 1, hi => by
    obtain ⟨h1, h2⟩ := rInts_pre h hm hp i (by omega)
    have ht : l.take (i + 1) = l.take i ++ [l[i]] := List.take_succ_eq_append_getElem (by omega)
    have hpp : x ++ natsB (l.take i) ++ formL l[i] <+: b := by
      refine List.IsPrefix.trans ?_ hp
      rw [List.append_assoc, ← natsB_one, ← natsB_app, ← ht]
      refine (List.prefix_append_right_inj x).2 ?_
      conv => rhs; rw [← List.take_append_drop (i + 1) l, natsB_app]
      exact List.prefix_append _ _
    obtain ⟨a1, a2⟩ := rInt_pre (m := maxI) h2 (by decide) (hm _ (List.getElem_mem _)) hpp
    rw [rInts, h1, a1, ht]
    exact ⟨rfl, a2.of (by rw [natsB_app, natsB_one, List.append_assoc])⟩
theorem rInts_all {b : List UInt8} {s : Rs} {x : List UInt8} (h : Pre b s x) {l : List Nat} (hm : ∀ v ∈ l, v ≤ maxI) (hp : x ++ natsB l <+: b) {k : Nat} (hk : l.length = k) : (rInts b s k).1 = l ∧ Pre b (rInts b s k).2 (x ++ natsB l) := by
  subst hk
  have := rInts_pre h hm hp l.length (Nat.le_refl _)
  rwa [List.take_length] at this
theorem cls_nat : ∀ {l : List Int}, (∀ x ∈ l, 0 ≤ x) → castL (l.map Int.toNat) = l
  | [], _ => rfl
  | x :: l, h => by
    have h1 := h x (by simp)
    have := cls_nat (l := l) (fun y hy => h y (by simp [hy]))
    unfold castL at *
    rw [List.map_cons, List.map_cons, this]
    congr 1
    omega
theorem nums_nats : ∀ {l : List Int}, numsB l = natsB (l.map Int.toNat)
  | l => by unfold numsB natsB; rw [List.flatMap_map]
theorem hvN (s : Stp) : (hv s).map Int.toNat = [1, 1, s.f.toNat, s.room.toNat, s.pat.toNat, if s.ung = true then 1 else 0, s.cls.length] := by
  unfold hv plainN
  simp only [List.map_cons, List.map_nil]
  split <;> simp
theorem headR_head {s : Stp} (hc : chkS s = 0) (hso : StpOk s) : headR (headB s) = (s, true) := by
  obtain ⟨h1, h2, h3⟩ := chk_inv hc
  have hpos : ∀ x ∈ s.cls, 0 ≤ x := fun x hx => by
    obtain ⟨i, hi, rfl⟩ := List.getElem_of_mem hx
    exact any_no h3 hi
  unfold cfgOk at h1
  generalize hbb : headB s = b
  have hmx : maxI = 9223372036854775807 := rfl
  have hb : natsB ((hv s).map Int.toNat) ++ natsB (s.cls.map Int.toNat) = b := by rw [← hbb]; unfold headB; rw [nums_nats, nums_nats]
  have p2 : [] ++ natsB ((hv s).map Int.toNat) <+: b := by rw [← hb]; exact List.prefix_append _ _
  obtain ⟨a1, a2⟩ := rInts_all (Pre.start b) (l := (hv s).map Int.toNat) (fun v hv => by
    rw [hvN] at hv
    simp only [List.mem_cons, List.not_mem_nil, or_false] at hv
    rcases hv with rfl | rfl | rfl | rfl | rfl | rfl | rfl
    · omega
    · omega
    · omega
    · omega
    · omega
    · split <;> omega
    omega) p2 (k := 7) (by rw [hvN]; rfl)
  obtain ⟨c1, c2⟩ := rInts_all a2 (l := s.cls.map Int.toNat) (fun v hv => by
    obtain ⟨x, hx, rfl⟩ := List.mem_map.1 hv
    have := hso x hx
    omega) (by rw [List.nil_append, hb]; exact List.prefix_refl _) (k := s.cls.length) (by rw [List.length_map])
  have hV : ∀ j, VV b j = ((hv s).map Int.toNat).getD j 0 := fun j => by rw [← a1]; rfl
  rw [hvN] at hV
  have v0 : VV b 0 = 1 := hV 0
  have v1 : VV b 1 = 1 := hV 1
  have v2 : VV b 2 = s.f.toNat := hV 2
  have v3 : VV b 3 = s.room.toNat := hV 3
  have v4 : VV b 4 = s.pat.toNat := hV 4
  have v5 : VV b 5 = if s.ung = true then 1 else 0 := hV 5
  have v6 : VV b 6 = s.cls.length := hV 6
  have hS : headC b (VV b 6) = s := by
    unfold headC headS
    rw [v2, v3, v4, v5, v6, c1, cls_nat hpos]
    refine stp_eq ⟨by show ((s.f.toNat : Nat) : Int) = s.f; omega, by show ((s.room.toNat : Nat) : Int) = s.room; omega, by show ((s.pat.toNat : Nat) : Int) = s.pat; omega, ?_⟩ rfl
    cases s.ung <;> rfl
  unfold headR
  rw [if_neg (by
    rw [v0, v1, v5, v6]
    rintro (h | h | h | h)
    · exact h rfl
    · exact h rfl
    · split at h <;> omega
    omega), hS, hc]
  rw [v6, rEnd_pre (c2.of (by rw [List.nil_append, hb]))]
  rfl
/-! the foot -/
/-! a chunk -/
def evOf (t : List UInt8) : Evt := (getEv t).1
end Go.Proofs.YtfpmnhmdphaceaaGreatDoor
namespace Go.Proofs.YtfpmnhmdphaceaaGreatDoor
open Go.EW
set_option linter.unusedVariables false
set_option linter.unusedSimpArgs false
attribute [local irreducible] crcL shaL sealL sealR openR
/-! how a tape lays its events into chunks -/
abbrev Txt := List UInt8
/-- what is laid down: the file, the chunks' places, how many events -/
structure Lay where
  file : Txt
  places : List Nat
  n : Nat
def layC (l : Lay) (c : List Txt) : Lay := ⟨l.file ++ frameC l.n c, l.places ++ [l.file.length], l.n + c.length⟩
def layL (h : Txt) (cs : List (List Txt)) : Lay := cs.foldl layC ⟨h, [], 0⟩
theorem lay_snoc (h : Txt) (cs : List (List Txt)) (c : List Txt) : layL h (cs ++ [c]) = layC (layL h cs) c := List.foldl_append
def cnt (cs : List (List Txt)) : Nat := (cs.map List.length).sum
theorem cnt_snoc (cs : List (List Txt)) (c : List Txt) : cnt (cs ++ [c]) = cnt cs + c.length := by
  unfold cnt; rw [List.map_append, List.sum_append]; simp
theorem cnt_flat (cs : List (List Txt)) : cnt cs = cs.flatten.length := by unfold cnt; rw [List.length_flatten]
theorem lay_n (h : Txt) (cs : List (List Txt)) : (layL h cs).n = cnt cs := by
  have : ∀ (cs : List (List Txt)) (l : Lay), (cs.foldl layC l).n = l.n + cnt cs := fun cs => by
    induction cs with
    | nil => intro l; rfl
    | cons c cs ih =>
      intro l
      rw [List.foldl_cons, ih]
      show l.n + c.length + cnt cs = _
      unfold cnt
      rw [List.map_cons, List.sum_cons, Nat.add_assoc]
  have h1 := this cs ⟨h, [], 0⟩
  unfold layL
  rw [h1]; exact Nat.zero_add _
/-- the chunks that are full, the chunk at hand -/
structure CS where
  cs : List (List Txt)
  cur : List Txt
def fitC (c : CS) (b : Txt) : Bool := fitsN (cnt c.cs) c.cur.length (sizeT c.cur) b.length
def addC (c : CS) (b : Txt) : CS := if c.cur.length > 0 ∧ fitC c b = false then ⟨c.cs ++ [c.cur], [b]⟩ else ⟨c.cs, c.cur ++ [b]⟩
def csOf (ts : List Txt) : CS := ts.foldl addC ⟨[], []⟩
theorem csOf_snoc (ts : List Txt) (b : Txt) : csOf (ts ++ [b]) = addC (csOf ts) b := List.foldl_append
def allC (c : CS) : List (List Txt) := if c.cur.length > 0 then c.cs ++ [c.cur] else c.cs
def chsOf (ts : List Txt) : List (List Txt) := allC (csOf ts)
structure Rep (h : Txt) (t : TS) (c : CS) : Prop where
  file : t.file = (layL h c.cs).file
  places : t.places = (layL h c.cs).places
  first : t.first = cnt c.cs
  texts : t.texts = c.cur
  n : t.n = cnt c.cs + c.cur.length
theorem Rep.new (s : Stp) : Rep (sealR (headB s)).1 (newT s) (csOf []) := ⟨rfl, rfl, rfl, rfl, rfl⟩
theorem Rep.add {h : Txt} {t : TS} {c : CS} (r : Rep h t c) (b : Txt) : Rep h (addT t b) (addC c b) := by
  have hf : fitsT t b = fitC c b := by unfold fitsT fitC; rw [r.first, r.texts]
  unfold addT addC
  rw [hf, r.texts]
  by_cases hc : c.cur.length > 0 ∧ fitC c b = false
  · rw [if_pos hc, if_pos hc]
    refine ⟨?_, ?_, ?_, rfl, ?_⟩
    · show t.file ++ frameC t.first t.texts = _
      rw [lay_snoc, r.file, r.first, r.texts]
      show _ = _ ++ frameC (layL h c.cs).n c.cur
      rw [lay_n]
    · show t.places ++ [t.file.length] = _
      rw [lay_snoc, r.file, r.places]; rfl
    · show t.n = _
      rw [r.n, cnt_snoc]
    show t.n + 1 = _
    rw [r.n, cnt_snoc]; rfl
  rw [if_neg hc, if_neg hc]
  refine ⟨r.file, r.places, r.first, by show t.texts ++ [b] = _; rw [r.texts], ?_⟩
  show t.n + 1 = _
  rw [r.n, List.length_append]; rfl
theorem Rep.out {h : Txt} {t : TS} {c : CS} (r : Rep h t c) : outT t = (layL h (allC c)).file ∧ plT t = (layL h (allC c)).places := by
  unfold outT plT allC
  rw [r.texts]
  by_cases hc : c.cur.length > 0
  · rw [if_pos hc, if_pos hc, if_pos hc, lay_snoc, r.file, r.places, r.first]
    refine ⟨?_, rfl⟩
    show _ = _ ++ frameC (layL h c.cs).n c.cur
    rw [lay_n]
  rw [if_neg hc, if_neg hc, if_neg hc]
  exact ⟨r.file, r.places⟩
/-- a chunk that may be -/
structure OkC (f : Nat) (c : List Txt) : Prop where
  pos : 1 ≤ c.length
  cnt : c.length ≤ 32
  size : (chunkB f c).length ≤ 32756
/-- chunks that are as full as may be -/
structure Grd (cs : List (List Txt)) : Prop where
  ok : ∀ i c, cs[i]? = some c → OkC (cnt (cs.take i)) c
  full : ∀ i c d, cs[i]? = some c → cs[i + 1]? = some d → fitsN (cnt (cs.take i)) c.length (sizeT c) (d.headD []).length = false
theorem Grd.nil : Grd [] := ⟨fun i c h => by simp at h, fun i c d h _ => by simp at h⟩
theorem get_snoc {α : Type} {l : List α} {x y : α} {i : Nat} (h : (l ++ [x])[i]? = some y) : (i < l.length ∧ l[i]? = some y) ∨ (i = l.length ∧ y = x) := by
  rcases Nat.lt_or_ge i l.length with h1 | h1
  · rw [List.getElem?_append_left h1] at h; exact .inl ⟨h1, h⟩
  rw [List.getElem?_append_right h1] at h
  rcases Nat.eq_zero_or_pos (i - l.length) with h2 | h2
  · rw [h2] at h
    exact .inr ⟨by omega, by simpa using h.symm⟩
  rw [List.getElem?_eq_none_iff.2 (by simp; omega)] at h; cases h
theorem Grd.snoc {cs : List (List Txt)} {d : List Txt} (h : Grd cs) (hd : OkC (cnt cs) d) (hf : ∀ c, cs[cs.length - 1]? = some c → fitsN (cnt (cs.take (cs.length - 1))) c.length (sizeT c) (d.headD []).length = false) : Grd (cs ++ [d]) := by
  constructor
  · intro i c hi
    rcases get_snoc hi with ⟨h1, h2⟩ | ⟨rfl, rfl⟩
    · rw [List.take_append_of_le_length (by omega)]; exact h.ok i c h2
    rw [List.take_left]; exact hd
  intro i c e hi he
  rcases get_snoc hi with ⟨h1, h2⟩ | ⟨rfl, rfl⟩
  · rw [List.take_append_of_le_length (by omega)]
    rcases get_snoc he with ⟨h3, h4⟩ | ⟨h3, rfl⟩
    · exact h.full i c e h2 h4
    have : i = cs.length - 1 := by omega
    subst this
    exact hf c h2
  rcases get_snoc he with ⟨h3, h4⟩ | ⟨h3, rfl⟩ <;> omega
/-- the last chunk grows -/
theorem Grd.grow {cs : List (List Txt)} {c d : List Txt} (h : Grd (cs ++ [c])) (hd : OkC (cnt cs) d) (hh : d.headD [] = c.headD []) : Grd (cs ++ [d]) := by
  have hn : ∀ i, i < cs.length → (cs ++ [c])[i]? = cs[i]? := fun i hi => List.getElem?_append_left hi
  constructor
  · intro i x hi
    rcases get_snoc hi with ⟨h1, h2⟩ | ⟨rfl, rfl⟩
    · have := h.ok i x (by rw [hn i h1]; exact h2)
      rw [List.take_append_of_le_length (by omega)] at this ⊢
      exact this
    rw [List.take_left]; exact hd
  intro i x e hi he
  rcases get_snoc hi with ⟨h1, h2⟩ | ⟨rfl, rfl⟩
  · rcases get_snoc he with ⟨h3, h4⟩ | ⟨h3, rfl⟩
    · have := h.full i x e (by rw [hn i h1]; exact h2) (by rw [hn _ h3]; exact h4)
      rw [List.take_append_of_le_length (by omega)] at this ⊢
      exact this
    have := h.full i x c (by rw [hn i h1]; exact h2) (by rw [h3, List.getElem?_append_right (Nat.le_refl _), Nat.sub_self]; rfl)
    rw [List.take_append_of_le_length (by omega)] at this ⊢
    rw [hh]; exact this
  rcases get_snoc he with ⟨h3, h4⟩ | ⟨h3, rfl⟩ <;> omega
theorem fits_len {f : Nat} {c : List Txt} {b : Txt} (h : fitsN f c.length (sizeT c) b.length = true) : c.length < 32 ∧ (chunkB f (c ++ [b])).length ≤ 32756 := by
  unfold fitsN at h
  simp only [Bool.and_eq_true, decide_eq_true_eq] at h
  rw [chunkB_len, sizeT_snoc, List.length_append]
  exact h
theorem ok_one (f : Nat) {b : Txt} (hb : b.length ≤ 20000) : OkC f [b] := by
  refine ⟨Nat.le_refl _, (show 1 ≤ 32 by decide), ?_⟩
  rw [chunkB_len]
  have h1 := (szN_le f).2
  have h2 := (szN_le [b].length).2
  have h3 := (szN_le b.length).2
  have h4 : sizeT [b] = szN b.length + b.length := by unfold sizeT; simp
  omega
structure CInv (c : CS) : Prop where
  grd : Grd (allC c)
  emp : c.cur.length = 0 → c.cs = []
theorem CInv.add {c : CS} (h : CInv c) {b : Txt} (hb : b.length ≤ 20000) : CInv (addC c b) := by
  unfold addC
  by_cases hc : c.cur.length > 0 ∧ fitC c b = false
  · rw [if_pos hc]
    refine ⟨?_, fun h => by simp at h⟩
    have hg := h.grd
    unfold allC at hg ⊢
    rw [if_pos hc.1] at hg
    rw [if_pos (show [b].length > 0 from Nat.one_pos)]
    refine hg.snoc (ok_one _ hb) (fun x hx => ?_)
    rw [List.length_append, show c.cs.length + [c.cur].length - 1 = c.cs.length by simp] at hx ⊢
    rw [List.getElem?_append_right (Nat.le_refl _), Nat.sub_self] at hx
    obtain rfl : c.cur = x := by simpa using hx
    rw [List.take_left]
    exact hc.2
  rw [if_neg hc]
  refine ⟨?_, fun h => by simp at h⟩
  unfold allC
  rw [if_pos (show (c.cur ++ [b]).length > 0 by simp)]
  by_cases h0 : c.cur.length > 0
  · have hfit : fitC c b = true := by
      cases hf : fitC c b with
      | true => rfl
      | false => exact absurd ⟨h0, hf⟩ hc
    obtain ⟨h1, h2⟩ := fits_len (f := cnt c.cs) (c := c.cur) (b := b) hfit
    have hg := h.grd
    unfold allC at hg
    rw [if_pos h0] at hg
    refine hg.grow ⟨by simp, by rw [List.length_append]; exact h1, h2⟩ ?_
    cases hcur : c.cur with
    | nil => rw [hcur] at h0; exact absurd h0 (by decide)
    | cons x r => rfl
  have he := h.emp (by omega)
  have hce : c.cur = [] := List.length_eq_zero_iff.1 (by omega)
  rw [he, hce]
  exact Grd.nil.snoc (ok_one _ hb) (fun x hx => by simp at hx)
theorem flat_of : ∀ (ts us : List Txt), (allC (csOf us)).flatten = us → (allC (csOf (us ++ ts))).flatten = us ++ ts
  | [], us, h => by rw [List.append_nil]; exact h
  | b :: ts, us, h => by
    have := flat_of ts (us ++ [b]) (by
      rw [csOf_snoc]
      have key : ∀ c : CS, (allC (addC c b)).flatten = (allC c).flatten ++ [b] := fun c => by
        unfold addC
        by_cases hc : c.cur.length > 0 ∧ fitC c b = false
        · rw [if_pos hc]
          unfold allC
          rw [if_pos (show [b].length > 0 from Nat.one_pos), if_pos hc.1, List.flatten_append]
          simp
        rw [if_neg hc]
        unfold allC
        rw [if_pos (show (c.cur ++ [b]).length > 0 by simp), List.flatten_append]
        by_cases h0 : c.cur.length > 0
        · rw [if_pos h0, List.flatten_append]; simp
        rw [if_neg h0, List.length_eq_zero_iff.1 (show c.cur.length = 0 by omega)]; simp
      rw [key, h])
    rwa [List.append_assoc] at this
theorem flat_all (ts : List Txt) : (chsOf ts).flatten = ts := by
  have := flat_of ts [] rfl
  rwa [List.nil_append] at this
theorem cnt_all (ts : List Txt) : cnt (chsOf ts) = ts.length := by rw [cnt_flat, flat_all]
end Go.Proofs.YtfpmnhmdphaceaaGreatDoor
namespace Go.Proofs.YtfpmnhmdphaceaaGreatDoor
open Go.EW
set_option linter.unusedVariables false
set_option linter.unusedSimpArgs false
attribute [local irreducible] crcL shaL sealL sealR openR
/-! what is laid down is scanned -/
/-- what is known behind m chunks -/
structure Sc (s : Stp) (h : Txt) (cs : List (List Txt)) (m : Nat) (x : SS) : Prop where
  stp : x.stp = s
  evs : x.evs = (cs.take m).flatten.map evOf
  pl : x.places = (layL h (cs.take m)).places
  last : ∀ i c, m = i + 1 → cs[i]? = some c → x.first = cnt (cs.take i) ∧ x.last = c
  none : m = 0 → x.last = []
theorem Sc.setR {s : Stp} {h : Txt} {cs : List (List Txt)} {m : Nat} {x : SS} (g : Sc s h cs m x) (r : Nat) : Sc s h cs m { x with right := r } := ⟨g.stp, g.evs, g.pl, g.last, g.none⟩
/-! the ends -/
end Go.Proofs.YtfpmnhmdphaceaaGreatDoor
namespace Go.Proofs.YtfpmnhmdphaceaaGreatDoor
open Go.EW
set_option linter.unusedVariables false
set_option linter.unusedSimpArgs false
attribute [local irreducible] crcL shaL sealL sealR openR
/-- texts that a tape takes -/
structure TsOk (ts : List Txt) : Prop where
  good : ∀ t ∈ ts, (getEv t).2 = 0 ∧ t.length ≤ 20000
theorem TsOk.len {ts : List Txt} (h : TsOk ts) : ∀ t ∈ ts, t.length ≤ 20000 := fun t ht => (h.good t ht).2
theorem TsOk.take {ts : List Txt} (h : TsOk ts) (n : Nat) : TsOk (ts.take n) := ⟨fun t ht => h.good t (List.mem_of_mem_take ht)⟩
end Go.Proofs.YtfpmnhmdphaceaaGreatDoor
