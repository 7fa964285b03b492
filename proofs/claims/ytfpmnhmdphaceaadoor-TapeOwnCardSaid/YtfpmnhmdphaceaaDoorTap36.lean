/- The tape's Seek does what the plain function seekR says, of any bytes in memory and any two numbers. -/
import Derived.Test.YtfpmnhmdphaceaaDoorTap35
import Derived.Test.YtfpmnhmdphaceaaDoorTapP5
namespace Go.Proofs.YtfpmnhmdphaceaaDoor
open Go.EW
attribute [local irreducible] EW.W EW.L EW.fin block8 outB shaL
set_option linter.unusedVariables false
set_option linter.unusedSimpArgs false
attribute [local irreducible] crcN crcB crcL sealL openR sealR indexR
/-- the event chunk at a place -/
def chunkAtR (bs : List UInt8) (p : Nat) : Option (Nat × List Evt) := if (bodyR bs p).2.2 ≠ 0 ∨ (eventsR (bodyR bs p).1).2.2.2 = false then none else some ((eventsR (bodyR bs p).1).1, (eventsR (bodyR bs p).1).2.1)
/-- the last chunk, of the first j, that begins at or ahead of an event -/
def downR (bs : List UInt8) (l : List Nat) (fr : Nat) : Nat → Option (Nat × Nat)
  | 0 => none
  | j + 1 => match chunkAtR bs (l.getD j 0) with
    | none => none
    | some (f, _) => if f ≤ fr then some (j, f) else downR bs l fr j
/-- chunks from the i-th on, until there are enough events; m are left -/
def upR (bs : List UInt8) (l : List Nat) (f need : Nat) : Nat → Nat → List Evt → Option (List Evt)
  | 0, _, hv => if need ≤ hv.length then some hv else none
  | m + 1, i, hv => if need ≤ hv.length then some hv else match chunkAtR bs (l.getD i 0) with
    | none => none
    | some (g, more) => if g ≠ f + hv.length then none else upR bs l f need m (i + 1) (hv ++ more)
/-- some events of a file; the error -/
def seekR (bs : List UInt8) (fr cn : Int) : List Evt × Nat :=
  if (indexR bs).2.2 ≠ 0 then ([], (indexR bs).2.2) else if fr < 0 ∨ cn < 0 ∨ ((indexR bs).1 : Int) < fr ∨ ((indexR bs).1 : Int) - fr < cn then ([], 3) else if cn = 0 then ([], 0)
  else match downR bs (indexR bs).2.1 fr.toNat (indexR bs).2.1.length with
    | none => ([], 220)
    | some (j, f) => match upR bs (indexR bs).2.1 f (fr.toNat + cn.toNat - f) ((indexR bs).2.1.length - j) j [] with
      | none => ([], 220)
      | some l => ((l.drop (fr.toNat - f)).take cn.toNat, 0)
theorem chunkAt_none {bs : List UInt8} {p : Nat} (h : (bodyR bs p).2.2 ≠ 0 ∨ (eventsR (bodyR bs p).1).2.2.2 = false) : chunkAtR bs p = none := if_pos h
theorem chunkAt_some {bs : List UInt8} {p : Nat} (h1 : (bodyR bs p).2.2 = 0) (h2 : (eventsR (bodyR bs p).1).2.2.2 = true) : chunkAtR bs p = some ((eventsR (bodyR bs p).1).1, (eventsR (bodyR bs p).1).2.1) := if_neg (by rintro (h | h); exact h h1; rw [h2] at h; cases h)
theorem evs_first (b : List UInt8) : (eventsR b).1 ≤ maxI := by
  unfold eventsR
  split
  · exact Nat.zero_le _
  cases ego b (rInts b ⟨0, 0⟩ 3).2 ((rInts b ⟨0, 0⟩ 3).1.getD 2 0) with
  | none => exact Nat.zero_le _
  | some x =>
    obtain ⟨a, c, d⟩ := x
    have h := rInts_le (b := b) (s := ⟨0, 0⟩) 3
    simp only [List.getD]
    cases hg : (rInts b ⟨0, 0⟩ 3).1[1]? with
    | none => exact Nat.zero_le _
    | some x => exact h x (List.mem_of_getElem? hg)
theorem chunkAt_inv {bs : List UInt8} {p f : Nat} {l : List Evt} (h : chunkAtR bs p = some (f, l)) : f ≤ maxI ∧ 1 ≤ l.length ∧ l.length ≤ 32 ∧ ∀ e ∈ l, EvOk e := by
  unfold chunkAtR at h
  split at h
  · cases h
  rename_i hk
  obtain ⟨rfl, rfl⟩ := by simpa using h
  obtain ⟨g1, g2, g3, g4⟩ := eventsR_len (bodyR bs p).1
  have hok : (eventsR (bodyR bs p).1).2.2.2 = true := by
    cases he : (eventsR (bodyR bs p).1).2.2.2 with
    | true => rfl
    | false => exact absurd (.inr he) hk
  exact ⟨evs_first _, g4 hok, g1, eventsR_evok _⟩
theorem down_none {bs : List UInt8} {l : List Nat} {fr j : Nat} (h : chunkAtR bs (l.getD j 0) = none) : downR bs l fr (j + 1) = none := by rw [downR, h]
theorem down_here {bs : List UInt8} {l : List Nat} {fr j f : Nat} {es : List Evt} (h : chunkAtR bs (l.getD j 0) = some (f, es)) (hf : f ≤ fr) : downR bs l fr (j + 1) = some (j, f) := by rw [downR, h]; exact if_pos hf
theorem down_next {bs : List UInt8} {l : List Nat} {fr j f : Nat} {es : List Evt} (h : chunkAtR bs (l.getD j 0) = some (f, es)) (hf : ¬ f ≤ fr) : downR bs l fr (j + 1) = downR bs l fr j := by rw [downR, h]; exact if_neg hf
theorem up_done {bs : List UInt8} {l : List Nat} {f need m i : Nat} {hv : List Evt} (h : need ≤ hv.length) : upR bs l f need m i hv = some hv := by cases m <;> rw [upR, if_pos h]
theorem up_end {bs : List UInt8} {l : List Nat} {f need i : Nat} {hv : List Evt} (h : ¬ need ≤ hv.length) : upR bs l f need 0 i hv = none := by rw [upR, if_neg h]
theorem up_none {bs : List UInt8} {l : List Nat} {f need m i : Nat} {hv : List Evt} (h : ¬ need ≤ hv.length) (hc : chunkAtR bs (l.getD i 0) = none) : upR bs l f need (m + 1) i hv = none := by rw [upR, if_neg h, hc]
theorem up_bad {bs : List UInt8} {l : List Nat} {f need m i g : Nat} {hv es : List Evt} (h : ¬ need ≤ hv.length) (hc : chunkAtR bs (l.getD i 0) = some (g, es)) (hg : g ≠ f + hv.length) : upR bs l f need (m + 1) i hv = none := by rw [upR, if_neg h, hc]; exact if_pos hg
theorem up_next {bs : List UInt8} {l : List Nat} {f need m i g : Nat} {hv es : List Evt} (h : ¬ need ≤ hv.length) (hc : chunkAtR bs (l.getD i 0) = some (g, es)) (hg : g = f + hv.length) : upR bs l f need (m + 1) i hv = upR bs l f need m (i + 1) (hv ++ es) := by rw [upR, if_neg h, hc]; exact if_neg (fun h => h hg)
attribute [local semireducible] indexR in
theorem index_inv {bs : List UInt8} (h : (indexR bs).2.2 = 0) : (indexR bs).1 ≤ maxI ∧ (indexR bs).2.1.length ≤ 40000 ∧ (∀ x ∈ (indexR bs).2.1, 1 ≤ x ∧ x < bs.length) ∧ 4 ≤ bs.length := by
  unfold indexR at h ⊢
  split at h
  · cases h
  rename_i h1
  split at h
  · cases h
  rename_i h2
  rw [if_neg h1, if_neg h2]
  have h3 : (openR (idxT bs)).2 = 0 := Decidable.byContradiction fun h => h2 (.inl h)
  have h4 : ¬ footBad (footR (openR (idxT bs)).1) (bs.length - 4 - idxN bs) := fun h => h2 (.inr h)
  have hg := openR_good h3
  have hl := footR_le (openR (idxT bs)).1
  have hlen := footR_len (openR (idxT bs)).1
  generalize footR (openR (idxT bs)).1 = fo at *
  refine ⟨hl.1, by show fo.2.1.length ≤ _; omega, fun x hx => ?_, by omega⟩
  obtain ⟨i, hi, rfl⟩ := List.getElem_of_mem (show x ∈ fo.2.1 from hx)
  refine Decidable.byContradiction fun hbad => h4 (.inr (.inr (plGo_bad hi ?_)))
  omega
theorem seek_err {bs : List UInt8} {fr cn : Int} (h : (indexR bs).2.2 ≠ 0) : seekR bs fr cn = ([], (indexR bs).2.2) := by unfold seekR; rw [if_pos h]
theorem seek_arg {bs : List UInt8} {fr cn : Int} (h : (indexR bs).2.2 = 0) (h2 : fr < 0 ∨ cn < 0 ∨ ((indexR bs).1 : Int) < fr ∨ ((indexR bs).1 : Int) - fr < cn) : seekR bs fr cn = ([], 3) := by unfold seekR; rw [if_neg (fun h3 => h3 h), if_pos h2]
theorem seek_zero {bs : List UInt8} {fr cn : Int} (h : (indexR bs).2.2 = 0) (h2 : ¬ (fr < 0 ∨ cn < 0 ∨ ((indexR bs).1 : Int) < fr ∨ ((indexR bs).1 : Int) - fr < cn)) (h3 : cn = 0) : seekR bs fr cn = ([], 0) := by unfold seekR; rw [if_neg (fun h4 => h4 h), if_neg h2, if_pos h3]
theorem seek_down {bs : List UInt8} {fr cn : Int} (h : (indexR bs).2.2 = 0) (h2 : ¬ (fr < 0 ∨ cn < 0 ∨ ((indexR bs).1 : Int) < fr ∨ ((indexR bs).1 : Int) - fr < cn)) (h3 : cn ≠ 0) (h4 : downR bs (indexR bs).2.1 fr.toNat (indexR bs).2.1.length = none) : seekR bs fr cn = ([], 220) := by unfold seekR; rw [if_neg (fun h4 => h4 h), if_neg h2, if_neg h3, h4]
theorem seek_up {bs : List UInt8} {fr cn : Int} {j f : Nat} (h : (indexR bs).2.2 = 0) (h2 : ¬ (fr < 0 ∨ cn < 0 ∨ ((indexR bs).1 : Int) < fr ∨ ((indexR bs).1 : Int) - fr < cn)) (h3 : cn ≠ 0) (h4 : downR bs (indexR bs).2.1 fr.toNat (indexR bs).2.1.length = some (j, f))
    (h5 : upR bs (indexR bs).2.1 f (fr.toNat + cn.toNat - f) ((indexR bs).2.1.length - j) j [] = none) : seekR bs fr cn = ([], 220) := by unfold seekR; rw [if_neg (fun h4 => h4 h), if_neg h2, if_neg h3, h4]; simp only []; rw [h5]
theorem seek_ok {bs : List UInt8} {fr cn : Int} {j f : Nat} {l : List Evt} (h : (indexR bs).2.2 = 0) (h2 : ¬ (fr < 0 ∨ cn < 0 ∨ ((indexR bs).1 : Int) < fr ∨ ((indexR bs).1 : Int) - fr < cn)) (h3 : cn ≠ 0) (h4 : downR bs (indexR bs).2.1 fr.toNat (indexR bs).2.1.length = some (j, f))
    (h5 : upR bs (indexR bs).2.1 f (fr.toNat + cn.toNat - f) ((indexR bs).2.1.length - j) j [] = some l) : seekR bs fr cn = ((l.drop (fr.toNat - f)).take cn.toNat, 0) := by unfold seekR; rw [if_neg (fun h4 => h4 h), if_neg h2, if_neg h3, h4]; simp only []; rw [h5]
theorem St.segs_mid {W w : World} {S : List Seg} {x y z : List Seg} (H : St W w (Segs (x ++ y ++ z) :: S)) : St W w (Segs y :: S) := by
  have h1 := St.segs.1 H
  have h2 : St W w (y ++ (z ++ S)) := by
    have := h1.dropN x.length
    rw [List.append_assoc, List.append_assoc, List.drop_left] at this
    exact this
  have h3 : St W w (z ++ (y ++ S)) := h2.perm (by
    rw [← List.append_assoc, ← List.append_assoc]
    exact (List.perm_append_comm).append_right _)
  have h4 : St W w (y ++ S) := by
    have := h3.dropN z.length
    rwa [List.drop_left] at this
  exact St.segs.2 h4
theorem evsV_drop : ∀ (l : List EvM) (n : Nat), (evsV l).drop (n * 13) = evsV (l.drop n)
  | l, 0 => by rw [Nat.zero_mul, List.drop_zero, List.drop_zero]
  | [], n + 1 => by rw [List.drop_nil]; show List.drop _ [] = _; rw [List.drop_nil]; rfl
  | x :: l, n + 1 => by
    rw [List.drop_succ_cons, ← evsV_drop l n]
    show (x.cells ++ evsV l).drop _ = _
    rw [show (n + 1) * 13 = x.cells.length + n * 13 by show _ = 13 + _; omega, ← List.drop_drop, List.drop_left]
theorem evsV_take : ∀ (l : List EvM) (n : Nat), (evsV l).take (n * 13) = evsV (l.take n)
  | l, 0 => by rw [Nat.zero_mul, List.take_zero, List.take_zero]; rfl
  | [], n + 1 => by rw [List.take_nil]; show List.take _ [] = _; rw [List.take_nil]; rfl
  | x :: l, n + 1 => by
    rw [List.take_succ_cons]
    show (x.cells ++ evsV l).take _ = x.cells ++ evsV (l.take n)
    rw [← evsV_take l n, show (n + 1) * 13 = x.cells.length + n * 13 by show _ = 13 + _; omega, List.take_length_add_append]
set_option maxRecDepth 8000 in
set_option maxHeartbeats 1000000 in
theorem Seek_ok {W w : World} {F : List Seg} (hN : NibOk W) (H : St W w F) {a : Option Addr} {n c : Nat} {bs : List UInt8} {fr cn : Int} (hr : RdIn W F a (bs.map B)) (hl : bs.length = n) (hcp : bs.length ≤ c) (hn : n ≤ 140737488351232) (hfr : -9223372036854775808 ≤ fr ∧ fr ≤ 9223372036854775807) (hcn : -9223372036854775808 ≤ cn ∧ cn ≤ 9223372036854775807) :
    Ok Tryd.prog 34 [.slice a n c, I fr, I cn].toArray w (fun r w' => ∃ ea ec, ∃ es : List EvM, es.map EvM.e = (seekR bs fr cn).1 ∧ r = .tuple #[.slice ea es.length ec, I ((seekR bs fr cn).2 : Int)] ∧ St W w' (row 30 13 ea es.length ec (evsV es) :: Segs (es.map EvM.seg) :: F)) := by
  subst hl
  refine enter (n := 145) (rs := #[.tmp 6, .tmp 7]) Tryd.func34 rfl rfl rfl rfl ?_
  refine w_seq ?_
  refine w_region ?_
  refine l_pslice rfl rfl ?_
  refine l_pint rfl rfl ?_
  refine l_nil ?_
  refine w_seq ?_
  refine w_region ?_
  refine l_pslice rfl rfl ?_
  refine b_call rfl cb_79 rfl (index_ok hN H hr rfl hcp hn) (fun v w hv => ?_)
  obtain ⟨xa, xc, rfl, H⟩ := hv
  refine l_ptup rfl rfl ?_
  refine l_pint rfl rfl ?_
  refine l_pslice rfl rfl ?_
  refine l_pint rfl rfl ?_
  refine l_pint rfl rfl ?_
  refine l_pslice rfl rfl ?_
  refine l_pint rfl rfl ?_
  refine l_nil ?_
  refine w_seq ?_
  refine w_seq ?_
  refine w_region ?_
  refine l_pint rfl rfl ?_
  refine l_pbool rfl rfl ?_
  refine l_nil ?_
  refine w_cond rfl (fun c1 => ?_) (fun c1 => ?_)
  · try simp only [sH] at c1
    refine w_seq ?_
    refine w_region ?_
    refine l_pint rfl rfl ?_
    refine l_pslice rfl rfl ?_
    refine l_pint rfl rfl ?_
    refine l_nil ?_
    refine w_ret ?_
    refine fin2 rfl rfl ?_
    rw [seek_err (bs := bs) (by omega)]
    exact ⟨none, 0, [], rfl, rfl, St.pick [1, 0] (pre := [_, _]) rfl (St.nilseg.2 (St.newRow (T := 30) (sz := 13) (H.drop1))) rfl⟩
  try simp only [sH] at c1
  have hix := index_inv (bs := bs) (by omega)
  have hmx : maxI = 9223372036854775807 := rfl
  refine w_skip ?_
  refine w_seq ?_
  refine w_seq ?_
  refine w_region ?_
  refine l_pint rfl rfl ?_
  refine l_pbool rfl rfl ?_
  refine l_pbool rfl rfl ?_
  refine l_split 35 rfl (fun h35 => ?_) (fun h35 => ?_)
  · try simp only [sH] at h35
    refine l_no rfl ?_
    refine l_no rfl ?_
    refine l_pickT (v := .bool _) rfl rfl rfl ?_
    refine l_pbool rfl rfl ?_
    refine l_no rfl ?_
    refine l_no rfl ?_
    refine l_no rfl ?_
    refine l_pickT (v := .bool _) rfl rfl rfl ?_
    refine l_pbool rfl rfl ?_
    refine l_no rfl ?_
    refine l_no rfl ?_
    refine l_no rfl ?_
    refine l_no rfl ?_
    refine l_no rfl ?_
    refine l_pickT (v := .bool _) rfl rfl rfl ?_
    refine l_nil ?_
    refine w_cond_t rfl ?_
    refine w_seq ?_
    refine w_region ?_
    refine l_pslice rfl rfl ?_
    refine l_pint rfl rfl ?_
    refine l_nil ?_
    refine w_ret ?_
    refine fin2 rfl rfl ?_
    rw [seek_arg (bs := bs) (by omega) (by omega)]
    exact ⟨none, 0, [], rfl, rfl, St.pick [1, 0] (pre := [_, _]) rfl (St.nilseg.2 (St.newRow (T := 30) (sz := 13) (H.drop1))) rfl⟩
  try simp only [sH] at h35
  refine l_pint rfl rfl ?_
  refine l_pbool rfl rfl ?_
  refine l_pickF (v := .bool _) rfl rfl rfl ?_
  refine l_pbool rfl rfl ?_
  refine l_split 39 rfl (fun h39 => ?_) (fun h39 => ?_)
  · try simp only [sH] at h39
    refine l_no rfl ?_
    refine l_no rfl ?_
    refine l_no rfl ?_
    refine l_pickT (v := .bool _) rfl rfl rfl ?_
    refine l_pbool rfl rfl ?_
    refine l_no rfl ?_
    refine l_no rfl ?_
    refine l_no rfl ?_
    refine l_no rfl ?_
    refine l_no rfl ?_
    refine l_pickT (v := .bool _) rfl rfl rfl ?_
    refine l_nil ?_
    refine w_cond_t rfl ?_
    refine w_seq ?_
    refine w_region ?_
    refine l_pslice rfl rfl ?_
    refine l_pint rfl rfl ?_
    refine l_nil ?_
    refine w_ret ?_
    refine fin2 rfl rfl ?_
    rw [seek_arg (bs := bs) (by omega) (by omega)]
    exact ⟨none, 0, [], rfl, rfl, St.pick [1, 0] (pre := [_, _]) rfl (St.nilseg.2 (St.newRow (T := 30) (sz := 13) (H.drop1))) rfl⟩
  try simp only [sH] at h39
  refine l_pint rfl rfl ?_
  refine l_pint rfl rfl ?_
  refine l_pbool rfl rfl ?_
  refine l_pickF (v := .bool _) rfl rfl rfl ?_
  refine l_pbool rfl rfl ?_
  refine l_split 44 rfl (fun h44 => ?_) (fun h44 => ?_)
  · try simp only [sH] at h44
    refine l_no rfl ?_
    refine l_no rfl ?_
    refine l_no rfl ?_
    refine l_no rfl ?_
    refine l_no rfl ?_
    refine l_pickT (v := .bool _) rfl rfl rfl ?_
    refine l_nil ?_
    refine w_cond_t rfl ?_
    refine w_seq ?_
    refine w_region ?_
    refine l_pslice rfl rfl ?_
    refine l_pint rfl rfl ?_
    refine l_nil ?_
    refine w_ret ?_
    refine fin2 rfl rfl ?_
    rw [seek_arg (bs := bs) (by omega) (by omega)]
    exact ⟨none, 0, [], rfl, rfl, St.pick [1, 0] (pre := [_, _]) rfl (St.nilseg.2 (St.newRow (T := 30) (sz := 13) (H.drop1))) rfl⟩
  try simp only [sH] at h44
  refine l_pint rfl rfl ?_
  refine l_pint rfl rfl ?_
  refine l_pint rfl rfl ?_
  first | refine l_v rfl (q_sub rfl rfl rfl (by simp only [inK]; omega)) ?_ | refine l_pint rfl rfl ?_
  refine l_pbool rfl rfl ?_
  refine l_pickF (v := .bool _) rfl rfl rfl ?_
  refine l_nil ?_
  refine w_cond rfl (fun c2 => ?_) (fun c2 => ?_)
  · try simp only [sH] at c2
    refine w_seq ?_
    refine w_region ?_
    refine l_pslice rfl rfl ?_
    refine l_pint rfl rfl ?_
    refine l_nil ?_
    refine w_ret ?_
    refine fin2 rfl rfl ?_
    rw [seek_arg (bs := bs) (by omega) (by omega)]
    exact ⟨none, 0, [], rfl, rfl, St.pick [1, 0] (pre := [_, _]) rfl (St.nilseg.2 (St.newRow (T := 30) (sz := 13) (H.drop1))) rfl⟩
  try simp only [sH] at c2
  obtain ⟨fr, rfl⟩ := Int.eq_ofNat_of_zero_le (show 0 ≤ fr by omega)
  obtain ⟨cn, rfl⟩ := Int.eq_ofNat_of_zero_le (show 0 ≤ cn by omega)
  refine w_skip ?_
  refine w_seq ?_
  refine w_seq ?_
  refine w_region ?_
  refine l_pint rfl rfl ?_
  refine l_pbool rfl rfl ?_
  refine l_nil ?_
  refine w_cond rfl (fun c3 => ?_) (fun c3 => ?_)
  · try simp only [sH] at c3
    refine w_seq ?_
    refine w_region ?_
    refine l_pslice rfl rfl ?_
    refine l_pint rfl rfl ?_
    refine l_nil ?_
    refine w_ret ?_
    refine fin2 rfl rfl ?_
    rw [seek_zero (bs := bs) (by omega) (by omega) (by omega)]
    exact ⟨none, 0, [], rfl, rfl, St.pick [1, 0] (pre := [_, _]) rfl (St.nilseg.2 (St.newRow (T := 30) (sz := 13) (H.drop1))) rfl⟩
  try simp only [sH] at c3
  have hcn0 : cn ≠ 0 := by omega
  refine w_skip ?_
  refine w_seq ?_
  refine w_region ?_
  refine l_pslice rfl rfl ?_
  refine l_v rfl (q_lenSlice rfl el_66 rfl) ?_
  first | refine l_v rfl (q_sub rfl rfl rfl (by simp only [inK]; omega)) ?_ | refine l_pint rfl rfl ?_
  refine l_pint rfl rfl ?_
  refine l_nil ?_
  refine w_seq ?_
  refine w_region ?_
  refine l_pint rfl rfl ?_
  refine l_nil ?_
  refine w_seq ?_
  refine w_region ?_
  refine l_pslice rfl rfl ?_
  refine l_nil ?_
  refine w_cutG (G := Nat × Nat × Option Addr × Nat × List EvM) [6, 7, 11, 12, 13, 14, 15, 16, 17, 56, 57, 58, 59, 60, 61, 62, 63, 64, 65, 66, 67, 68, 69, 70, 71, 72, 73, 74, 75, 76, 77, 78, 79, 80, 81, 82, 83] (fun ⟨j, fs, ea, ec, es⟩ => [(11, I ((j : Int) - 1)), (12, I (fs : Int)), (13, .slice ea es.length ec)]) (fun ⟨j, fs, ea, ec, es⟩ w => ((j = 0 ∧ downR bs (indexR bs).2.1 fr (indexR bs).2.1.length = none) ∨ (0 < j ∧ j ≤ (indexR bs).2.1.length ∧ downR bs (indexR bs).2.1 fr (indexR bs).2.1.length = some (j - 1, fs) ∧ fs ≤ fr ∧ chunkAtR bs ((indexR bs).2.1.getD (j - 1) 0) = some (fs, es.map EvM.e))) ∧ St W w (row 30 13 ea es.length ec (evsV es) :: Segs (es.map EvM.seg) :: row 3 1 xa (indexR bs).2.1.length xc (natsV (indexR bs).2.1) :: F)) (fun _ => rfl) ?_ ?_
  · refine w_block ?_
    refine w_loopG (G := Nat × Nat × Option Addr × Nat × List EvM) [6, 7, 11, 12, 13, 14, 15, 16, 17, 56, 57, 58, 59, 60, 61, 62, 63, 64, 65, 66, 67, 68, 69, 70, 71, 72, 73, 74, 75, 76, 77, 78, 79, 80, 81, 82, 83] (fun ⟨j, fs, ea, ec, es⟩ => [(11, I ((j : Int) - 1)), (12, I (fs : Int)), (13, .slice ea es.length ec)]) (fun m ⟨j, fs, ea, ec, es⟩ w => m = j ∧ j ≤ (indexR bs).2.1.length ∧ downR bs (indexR bs).2.1 fr j = downR bs (indexR bs).2.1 fr (indexR bs).2.1.length ∧ St W w (row 30 13 ea es.length ec (evsV es) :: Segs (es.map EvM.seg) :: row 3 1 xa (indexR bs).2.1.length xc (natsV (indexR bs).2.1) :: F)) (fun _ => rfl) ?_ ?_
    · exact ⟨(indexR bs).2.1.length, ((indexR bs).2.1.length, 0, none, 0, []), ⟨rfl, rfl, rfl, trivial⟩, rfl, Nat.le_refl _, rfl, St.pick [1, 0] (pre := [_, _]) rfl (St.nilseg.2 (St.newRow (T := 30) (sz := 13) H)) rfl⟩
    rintro m ⟨j, fs, ea, ec, es⟩ ρ1 w ⟨hmj, hjl, hdn, H⟩
    refine w_seq ?_
    refine w_seq ?_
    refine w_region ?_
    refine l_pint rfl rfl ?_
    refine l_pbool rfl rfl ?_
    refine l_nil ?_
    refine w_cond rfl (fun c4 => ?_) (fun c4 => ?_)
    · try simp only [sH] at c4
      obtain ⟨j, rfl⟩ : ∃ k, j = k + 1 := ⟨j - 1, by omega⟩
      have hj : j < (indexR bs).2.1.length := by omega
      obtain ⟨pb, po, hpa, hpc⟩ := nat_at ((RdIn.row (W := W) 2 rfl).use H 0 rfl) hj
      have hgd : (indexR bs).2.1.getD j 0 = (indexR bs).2.1[j] := by simp [List.getD, hj]
      refine w_skip ?_
      refine w_seq ?_
      refine w_block ?_
      refine w_seq ?_
      refine w_region ?_
      refine l_pbool rfl rfl ?_
      refine l_nil ?_
      refine w_seq ?_
      refine w_seq ?_
      refine w_region ?_
      refine l_pslice rfl rfl ?_
      refine l_pslice rfl rfl ?_
      refine l_pint rfl rfl ?_
      refine l_v rfl (q_indexSliceE j rfl el_66 rfl hpa rfl (by omega) hj) ?_
      refine l_v rfl (q_load1 rfl c1_3 rfl hpc) ?_
      refine b_call rfl cb_81 rfl (body_ok hN H (hr.up 3 rfl) rfl hcp (by omega) (by have := (hix.2.2.1 _ (List.getElem_mem hj)).2; omega)) (fun v w hv => ?_)
      obtain ⟨ya, yc, rfl, H⟩ := hv
      refine l_ptup rfl rfl ?_
      refine l_pslice rfl rfl ?_
      refine l_pint rfl rfl ?_
      refine l_pint rfl rfl ?_
      refine l_pslice rfl rfl ?_
      refine l_pint rfl rfl ?_
      refine l_pint rfl rfl ?_
      refine l_nil ?_
      refine w_seq ?_
      refine w_region ?_
      refine l_pint rfl rfl ?_
      refine l_pbool rfl rfl ?_
      refine l_nil ?_
      refine w_cond rfl (fun c5 => ?_) (fun c5 => ?_)
      · try simp only [sH] at c5
        refine w_region ?_
        refine l_pslice rfl rfl ?_
        refine b_call rfl cb_82 rfl (events_ok H (RdIn.row 0 rfl) rfl (by have := (bodyR_le bs (indexR bs).2.1[j]).1; omega)) (fun v w hv => ?_)
        obtain ⟨la, lc, es2, ta, tc, txs, rfl, hes, htxs, H⟩ := hv
        have H := (H.erase 2).erase 2
        have hel2 : es2.length ≤ 32 := by rw [← List.length_map (f := EvM.e), hes]; exact (eventsR_len _).1
        have H : St W w (row 30 13 la es2.length lc (evsV es2) :: Segs (es2.map EvM.seg) :: row 3 1 xa (indexR bs).2.1.length xc (natsV (indexR bs).2.1) :: F) := ((H.erase 2).erase 2)
        refine l_ptup rfl rfl ?_
        refine l_pint rfl rfl ?_
        refine l_pslice rfl rfl ?_
        refine l_pslice rfl rfl ?_
        refine l_pbool rfl rfl ?_
        refine l_pint rfl rfl ?_
        refine l_pslice rfl rfl ?_
        refine l_pbool rfl rfl ?_
        refine l_nil ?_
        refine w_seq ?_
        refine w_seq ?_
        refine w_region ?_
        refine l_pbool rfl rfl ?_
        refine l_pbool rfl rfl ?_
        refine l_nil ?_
        refine w_cond rfl (fun c6 => ?_) (fun c6 => ?_)
        · try simp only [sH] at c6
          refine w_seq ?_
          refine w_region ?_
          refine l_pslice rfl rfl ?_
          refine l_pint rfl rfl ?_
          refine l_nil ?_
          refine w_ret ?_
          refine fin2 rfl rfl ?_
          rw [seek_down (bs := bs) (by omega) (by omega) (by omega) (by rw [Int.toNat_natCast, ← hdn]; exact down_none (by rw [hgd]; exact chunkAt_none (.inr (by simpa using c6))))]
          exact ⟨none, 0, [], rfl, rfl, St.pick [1, 0] (pre := [_, _]) rfl (St.nilseg.2 (St.newRow (T := 30) (sz := 13) (H.drop1.drop1.drop1))) rfl⟩
        try simp only [sH] at c6
        have hch := chunkAt_some (bs := bs) (p := (indexR bs).2.1[j]) (by omega) (by simpa using c6)
        refine w_skip ?_
        refine w_seq ?_
        refine w_region ?_
        refine l_pint rfl rfl ?_
        refine l_pint rfl rfl ?_
        refine l_pbool rfl rfl ?_
        refine l_nil ?_
        refine w_cond rfl (fun c7 => ?_) (fun c7 => ?_)
        · try simp only [sH] at c7
          refine w_exit ?_
          refine ⟨by repeat' first | exact aM | exact aR | refine aI rfl ?_ | refine aU rfl ?_ | refine aL rfl ?_, ?_⟩
          exact ⟨(j + 1, (eventsR (bodyR bs (indexR bs).2.1[j]).1).1, la, lc, es2), ⟨rfl, rfl, rfl, trivial⟩, .inr ⟨by omega, by omega, by rw [← hdn]; exact down_here (by rw [hgd]; exact hch) (by omega), by omega, by rw [Nat.add_sub_cancel, hgd, hes]; exact hch⟩, H⟩
        try simp only [sH] at c7
        refine w_skip ?_
        refine w_region ?_
        refine l_pint rfl rfl ?_
        first | refine l_v rfl (q_sub rfl rfl rfl (by simp only [inK]; omega)) ?_ | refine l_pint rfl rfl ?_
        refine l_pint rfl rfl ?_
        refine l_nil ?_
        refine ⟨by repeat' first | exact aM | exact aR | refine aI rfl ?_ | refine aU rfl ?_ | refine aL rfl ?_, ?_⟩
        exact ⟨j, (j, (eventsR (bodyR bs (indexR bs).2.1[j]).1).1, la, lc, es2), by omega, ⟨congrArg (Value.int IntKind.i64) (by omega), rfl, rfl, trivial⟩, rfl, by omega, by rw [← hdn, down_next (by rw [hgd]; exact hch) (by omega)], H⟩
      try simp only [sH] at c5
      refine w_skip ?_
      refine w_seq ?_
      refine w_seq ?_
      refine w_region ?_
      refine l_pbool rfl rfl ?_
      refine l_pbool rfl rfl ?_
      refine l_nil ?_
      refine w_cond rfl (fun c8 => ?_) (fun c8 => ?_)
      · try simp only [sH] at c8
        refine w_seq ?_
        refine w_region ?_
        refine l_pslice rfl rfl ?_
        refine l_pint rfl rfl ?_
        refine l_nil ?_
        refine w_ret ?_
        refine fin2 rfl rfl ?_
        rw [seek_down (bs := bs) (by omega) (by omega) (by omega) (by rw [Int.toNat_natCast, ← hdn]; exact down_none (by rw [hgd]; exact chunkAt_none (.inl (by omega))))]
        exact ⟨none, 0, [], rfl, rfl, St.pick [1, 0] (pre := [_, _]) rfl (St.nilseg.2 (St.newRow (T := 30) (sz := 13) (H.drop1.drop1.drop1.drop1))) rfl⟩
      try simp only [sH] at c8
      exact absurd c8 (by simp)
    try simp only [sH] at c4
    refine w_exit ?_
    refine ⟨by repeat' first | exact aM | exact aR | refine aI rfl ?_ | refine aU rfl ?_ | refine aL rfl ?_, ?_⟩
    obtain rfl : j = 0 := by omega
    exact ⟨(0, fs, ea, ec, es), ⟨rfl, rfl, rfl, trivial⟩, .inl ⟨rfl, by rw [← hdn]; rfl⟩, H⟩
  rintro ⟨j, fs, ea, ec, es⟩ ρ1 w ⟨hj, H⟩
  refine w_seq ?_
  refine w_seq ?_
  refine w_region ?_
  refine l_pint rfl rfl ?_
  refine l_pbool rfl rfl ?_
  refine l_nil ?_
  refine w_cond rfl (fun c9 => ?_) (fun c9 => ?_)
  · try simp only [sH] at c9
    refine w_seq ?_
    refine w_region ?_
    refine l_pslice rfl rfl ?_
    refine l_pint rfl rfl ?_
    refine l_nil ?_
    refine w_ret ?_
    refine fin2 rfl rfl ?_
    have hj0 : downR bs (indexR bs).2.1 fr (indexR bs).2.1.length = none := by
      rcases hj with h | h
      · exact h.2
      omega
    rw [seek_down (bs := bs) (fr := (fr : Int)) (cn := (cn : Int)) (by omega) (by omega) (by omega) hj0]
    exact ⟨none, 0, [], rfl, rfl, St.pick [1, 0] (pre := [_, _]) rfl (St.nilseg.2 (St.newRow (T := 30) (sz := 13) (H.drop1.drop1.drop1))) rfl⟩
  try simp only [sH] at c9
  obtain ⟨hj1, hj2, hdn, hff, hch⟩ : 0 < j ∧ j ≤ (indexR bs).2.1.length ∧ downR bs (indexR bs).2.1 fr (indexR bs).2.1.length = some (j - 1, fs) ∧ fs ≤ fr ∧ chunkAtR bs ((indexR bs).2.1.getD (j - 1) 0) = some (fs, es.map EvM.e) := by
    rcases hj with h | h
    · omega
    exact h
  have hci := chunkAt_inv hch
  rw [List.length_map] at hci
  have hup : upR bs (indexR bs).2.1 fs (fr + cn - fs) ((indexR bs).2.1.length - j) (j) (es.map EvM.e) = upR bs (indexR bs).2.1 fs (fr + cn - fs) ((indexR bs).2.1.length - (j - 1)) (j - 1) ([]) := by
    rw [show (indexR bs).2.1.length - (j - 1) = ((indexR bs).2.1.length - j) + 1 by omega, up_next (by show ¬ _ ≤ 0; omega) hch (Nat.add_zero _).symm]
    rw [show j - 1 + 1 = j by omega, List.nil_append]
  refine w_skip ?_
  refine w_seq ?_
  refine w_block ?_
  refine w_loopG (G := Nat × Option Addr × Nat × List EvM) [6, 7, 11, 13, 18, 19, 20, 21, 22, 23, 86, 87, 88, 89, 90, 91, 92, 93, 94, 95, 96, 97, 98, 99, 100, 101, 102, 103, 104, 105, 106, 107, 108, 109, 110, 111, 112, 113, 114, 115, 116, 117, 118, 119, 120, 121, 122, 123, 124, 125, 126, 127, 128, 129, 130, 131, 132, 133] (fun ⟨i, ea, ec, es⟩ => [(11, I (i : Int)), (13, .slice ea es.length ec)]) (fun m ⟨i, ea, ec, es⟩ w => m + i + 1 = (indexR bs).2.1.length ∧ es.length ≤ 32 * (i + 1) ∧ upR bs (indexR bs).2.1 fs (fr + cn - fs) (m) (i + 1) (es.map EvM.e) = upR bs (indexR bs).2.1 fs (fr + cn - fs) ((indexR bs).2.1.length - (j - 1)) (j - 1) ([]) ∧ St W w (row 30 13 ea es.length ec (evsV es) :: Segs (es.map EvM.seg) :: row 3 1 xa (indexR bs).2.1.length xc (natsV (indexR bs).2.1) :: F)) (fun _ => rfl) ?_ ?_
  · have hup0 := hup
    exact ⟨(indexR bs).2.1.length - j, (j - 1, ea, ec, es), ⟨congrArg (Value.int IntKind.i64) (by omega), rfl, trivial⟩, by omega, by omega, by rw [show j - 1 + 1 = j by omega]; exact hup, H⟩
  rintro m ⟨i, ea, ec, es⟩ ρ1 w ⟨hmi, hel, hup, H⟩
  refine w_seq ?_
  refine w_seq ?_
  refine w_region ?_
  refine l_pslice rfl rfl ?_
  refine l_v rfl (q_lenSlice rfl el_57 rfl) ?_
  refine l_pint rfl rfl ?_
  refine l_pint rfl rfl ?_
  first | refine l_v rfl (q_add rfl rfl rfl (by simp only [inK]; omega)) ?_ | refine l_pint rfl rfl ?_
  refine l_pint rfl rfl ?_
  first | refine l_v rfl (q_sub rfl rfl rfl (by simp only [inK]; omega)) ?_ | refine l_pint rfl rfl ?_
  refine l_pbool rfl rfl ?_
  refine l_nil ?_
  refine w_cond rfl (fun c10 => ?_) (fun c10 => ?_)
  · try simp only [sH] at c10
    refine w_skip ?_
    refine w_block ?_
    refine w_seq ?_
    refine w_region ?_
    refine l_pint rfl rfl ?_
    first | refine l_v rfl (q_add rfl rfl rfl (by simp only [inK]; omega)) ?_ | refine l_pint rfl rfl ?_
    refine l_pint rfl rfl ?_
    refine l_nil ?_
    refine w_seq ?_
    refine w_region ?_
    refine l_pint rfl rfl ?_
    refine l_pslice rfl rfl ?_
    refine l_v rfl (q_lenSlice rfl el_66 rfl) ?_
    refine l_pbool rfl rfl ?_
    refine l_pbool rfl rfl ?_
    refine l_nil ?_
    refine w_seq ?_
    refine w_region ?_
    refine l_pint rfl rfl ?_
    refine l_nil ?_
    refine w_seq ?_
    refine w_region ?_
    refine l_pslice rfl rfl ?_
    refine l_nil ?_
    refine w_cutG (G := Bool × Nat × Option Addr × Nat × List EvM) [18, 19, 20, 21, 22, 23, 100, 101, 102, 103, 104, 105, 106, 107, 108, 109, 110, 111, 112, 113, 114, 115, 116, 117, 118, 119, 120] (fun ⟨ok, nx, ma, mc, ms⟩ => [(18, .bool ok), (19, I (nx : Int)), (20, .slice ma ms.length mc)]) (fun ⟨ok, nx, ma, mc, ms⟩ w => (ok = true → 0 < m ∧ chunkAtR bs ((indexR bs).2.1.getD (i + 1) 0) = some (nx, ms.map EvM.e)) ∧ (ok = false → m = 0 ∨ chunkAtR bs ((indexR bs).2.1.getD (i + 1) 0) = none) ∧ ms.length ≤ 32 ∧ nx ≤ maxI ∧ St W w (row 30 13 ma ms.length mc (evsV ms) :: Segs (ms.map EvM.seg) :: row 30 13 ea es.length ec (evsV es) :: Segs (es.map EvM.seg) :: row 3 1 xa (indexR bs).2.1.length xc (natsV (indexR bs).2.1) :: F)) (fun _ => rfl) ?_ ?_
    · refine w_seq ?_
      refine w_region ?_
      refine l_pbool rfl rfl ?_
      refine l_nil ?_
      refine w_cond rfl (fun c11 => ?_) (fun c11 => ?_)
      · try simp only [sH] at c11
        have hj : i + 1 < (indexR bs).2.1.length := by omega
        obtain ⟨pb, po, hpa, hpc⟩ := nat_at ((RdIn.row (W := W) 2 rfl).use H 0 rfl) hj
        have hgd : (indexR bs).2.1.getD (i + 1) 0 = (indexR bs).2.1[i + 1] := by simp [List.getD, hj]
        refine w_seq ?_
        refine w_region ?_
        refine l_pslice rfl rfl ?_
        refine l_pslice rfl rfl ?_
        refine l_pint rfl rfl ?_
        refine l_v rfl (q_indexSliceE (i + 1) rfl el_66 rfl hpa rfl (by omega) hj) ?_
        refine l_v rfl (q_load1 rfl c1_3 rfl hpc) ?_
        refine b_call rfl cb_81 rfl (body_ok hN H (hr.up 3 rfl) rfl hcp (by omega) (by have := (hix.2.2.1 _ (List.getElem_mem hj)).2; omega)) (fun v w hv => ?_)
        obtain ⟨ya, yc, rfl, H⟩ := hv
        refine l_ptup rfl rfl ?_
        refine l_pslice rfl rfl ?_
        refine l_pint rfl rfl ?_
        refine l_pint rfl rfl ?_
        refine l_pslice rfl rfl ?_
        refine l_pint rfl rfl ?_
        refine l_pint rfl rfl ?_
        refine l_nil ?_
        refine w_seq ?_
        refine w_region ?_
        refine l_pint rfl rfl ?_
        refine l_pbool rfl rfl ?_
        refine l_pbool rfl rfl ?_
        refine l_nil ?_
        refine w_seq ?_
        refine w_region ?_
        refine l_pbool rfl rfl ?_
        refine l_nil ?_
        refine w_cond rfl (fun c12 => ?_) (fun c12 => ?_)
        · try simp only [sH] at c12
          refine w_region ?_
          refine l_pslice rfl rfl ?_
          refine b_call rfl cb_82 rfl (events_ok H (RdIn.row 0 rfl) rfl (by have := (bodyR_le bs (indexR bs).2.1[i + 1]).1; omega)) (fun v w hv => ?_)
          obtain ⟨la, lc, es2, ta, tc, txs, rfl, hes, htxs, H⟩ := hv
          have H := (H.erase 2).erase 2
          have hel2 : es2.length ≤ 32 := by rw [← List.length_map (f := EvM.e), hes]; exact (eventsR_len _).1
          have hfm := evs_first (bodyR bs (indexR bs).2.1[i + 1]).1
          refine l_ptup rfl rfl ?_
          refine l_pint rfl rfl ?_
          refine l_pslice rfl rfl ?_
          refine l_pslice rfl rfl ?_
          refine l_pbool rfl rfl ?_
          refine l_pint rfl rfl ?_
          refine l_pslice rfl rfl ?_
          refine l_pbool rfl rfl ?_
          refine l_nil ?_
          refine ⟨by repeat' first | exact aM | exact aR | refine aI rfl ?_ | refine aU rfl ?_ | refine aL rfl ?_, ?_⟩
          refine ⟨((eventsR (bodyR bs (indexR bs).2.1[i + 1]).1).2.2.2, (eventsR (bodyR bs (indexR bs).2.1[i + 1]).1).1, la, lc, es2), ⟨rfl, rfl, rfl, trivial⟩, fun h => ⟨by omega, by rw [hgd, hes]; exact chunkAt_some (by omega) h⟩, fun h => .inr (by rw [hgd]; exact chunkAt_none (.inr h)), hel2, hfm, H⟩
        try simp only [sH] at c12
        refine w_skip ?_
        refine ⟨by repeat' first | exact aM | exact aR | refine aI rfl ?_ | refine aU rfl ?_ | refine aL rfl ?_, ?_⟩
        exact ⟨(false, 0, none, 0, []), ⟨congrArg Value.bool (by rw [Bool.eq_false_iff]; intro hh; exact c12 (by simpa using hh)), rfl, rfl, trivial⟩, fun h => by (cases h), fun _ => .inr (by rw [hgd]; exact chunkAt_none (.inl (by omega))), Nat.zero_le _, Nat.zero_le _, St.pick [1, 0] (pre := [_, _]) rfl (St.nilseg.2 (St.newRow (T := 30) (sz := 13) H.drop1)) rfl⟩
      try simp only [sH] at c11
      refine w_skip ?_
      refine ⟨by repeat' first | exact aM | exact aR | refine aI rfl ?_ | refine aU rfl ?_ | refine aL rfl ?_, ?_⟩
      exact ⟨(false, 0, none, 0, []), ⟨congrArg Value.bool (by rw [Bool.eq_false_iff]; intro hh; have := of_decide_eq_true hh; omega), rfl, rfl, trivial⟩, fun h => by (cases h), fun _ => .inl (by omega), Nat.zero_le _, Nat.zero_le _, St.pick [1, 0] (pre := [_, _]) rfl (St.nilseg.2 (St.newRow (T := 30) (sz := 13) H)) rfl⟩
    rintro ⟨ok, nx, ma, mc, ms⟩ ρ1 w ⟨hok1, hok0, hml, hnx, H⟩
    refine w_seq ?_
    refine w_seq ?_
    refine w_region ?_
    refine l_pbool rfl rfl ?_
    refine l_pbool rfl rfl ?_
    refine l_pbool rfl rfl ?_
    refine l_split 123 rfl (fun h123 => ?_) (fun h123 => ?_)
    · try simp only [sH] at h123
      refine l_no rfl ?_
      refine l_no rfl ?_
      refine l_no rfl ?_
      refine l_no rfl ?_
      refine l_no rfl ?_
      refine l_no rfl ?_
      refine l_pickT (v := .bool _) rfl rfl rfl ?_
      refine l_nil ?_
      refine w_cond_t rfl ?_
      refine w_seq ?_
      refine w_region ?_
      refine l_pslice rfl rfl ?_
      refine l_pint rfl rfl ?_
      refine l_nil ?_
      refine w_ret ?_
      refine fin2 rfl rfl ?_
      have hu : upR bs (indexR bs).2.1 fs (fr + cn - fs) ((indexR bs).2.1.length - (j - 1)) (j - 1) ([]) = none := by
        rw [← hup]
        rcases hok0 (by simpa using h123) with h | h
        · subst h; exact up_end (by rw [List.length_map]; omega)
        rcases Nat.eq_zero_or_pos m with h0 | h0
        · subst h0; exact up_end (by rw [List.length_map]; omega)
        obtain ⟨m', rfl⟩ : ∃ m', m = m' + 1 := ⟨m - 1, by omega⟩
        exact up_none (by rw [List.length_map]; omega) h
      rw [seek_up (bs := bs) (fr := (fr : Int)) (cn := (cn : Int)) (by omega) (by omega) (by omega) hdn hu]
      exact ⟨none, 0, [], rfl, rfl, St.pick [1, 0] (pre := [_, _]) rfl (St.nilseg.2 (St.newRow (T := 30) (sz := 13) (H.drop1.drop1.drop1.drop1.drop1))) rfl⟩
    try simp only [sH] at h123
    refine l_pint rfl rfl ?_
    refine l_pint rfl rfl ?_
    refine l_pslice rfl rfl ?_
    refine l_v rfl (q_lenSlice rfl el_57 rfl) ?_
    first | refine l_v rfl (q_add rfl rfl rfl (by simp only [inK]; omega)) ?_ | refine l_pint rfl rfl ?_
    refine l_pbool rfl rfl ?_
    refine l_pickF (v := .bool _) rfl rfl rfl ?_
    refine l_nil ?_
    refine w_cond rfl (fun c13 => ?_) (fun c13 => ?_)
    · try simp only [sH] at c13
      refine w_seq ?_
      refine w_region ?_
      refine l_pslice rfl rfl ?_
      refine l_pint rfl rfl ?_
      refine l_nil ?_
      refine w_ret ?_
      refine fin2 rfl rfl ?_
      have hu : upR bs (indexR bs).2.1 fs (fr + cn - fs) ((indexR bs).2.1.length - (j - 1)) (j - 1) ([]) = none := by
        rw [← hup]
        have hok2 := hok1 (by simpa using h123)
        obtain ⟨m', rfl⟩ : ∃ m', m = m' + 1 := ⟨m - 1, by omega⟩
        exact up_bad (by rw [List.length_map]; omega) hok2.2 (by rw [List.length_map]; omega)
      rw [seek_up (bs := bs) (fr := (fr : Int)) (cn := (cn : Int)) (by omega) (by omega) (by omega) hdn hu]
      exact ⟨none, 0, [], rfl, rfl, St.pick [1, 0] (pre := [_, _]) rfl (St.nilseg.2 (St.newRow (T := 30) (sz := 13) (H.drop1.drop1.drop1.drop1.drop1))) rfl⟩
    try simp only [sH] at c13
    refine w_skip ?_
    refine w_region ?_
    refine l_pslice rfl rfl ?_
    refine l_pslice rfl rfl ?_
    have hok2 := hok1 (by simpa using h123)
    refine b_append rfl el_57 ze_30 rfl rfl rfl H 2 rfl (ys := evsV ms) ((H.rowInv (i := 0) rfl).2.2.2.2) (by rw [evsV_len, Nat.mul_comm]) (oneEv _) ⟨by omega, by simp only [maxLen]; omega⟩ (fun a133 c133 w H => ?_)
    refine l_pslice rfl rfl ?_
    refine l_nil ?_
    refine ⟨by repeat' first | exact aM | exact aR | refine aI rfl ?_ | refine aU rfl ?_ | refine aL rfl ?_, ?_⟩
    refine ⟨m - 1, (i + 1, a133, c133, es ++ ms), by omega, ⟨congrArg (Value.int IntKind.i64) (by omega), by rw [List.length_append]; rfl, trivial⟩, by omega, by rw [List.length_append]; omega, ?_, ?_⟩
    · rw [← hup]
      obtain ⟨m', rfl⟩ : ∃ m', m = m' + 1 := ⟨m - 1, by omega⟩
      rw [up_next (by rw [List.length_map]; omega) hok2.2 (by rw [List.length_map]; omega), List.map_append]
      rfl
    rw [List.length_append, evsV_app, List.map_append]
    exact St.pick [1, 0] (pre := [_, _]) rfl (St.twosegs.1 (St.pick [3, 1, 2, 4] (pre := [_, _, _, _, _]) rfl H rfl)) rfl
  try simp only [sH] at c10
  have hec := (H.rowInv (i := 0) rfl).2.1
  refine w_exit ?_
  refine w_seq ?_
  refine w_region ?_
  refine l_pslice rfl rfl ?_
  refine l_pint rfl rfl ?_
  refine l_pint rfl rfl ?_
  first | refine l_v rfl (q_sub rfl rfl rfl (by simp only [inK]; omega)) ?_ | refine l_pint rfl rfl ?_
  refine l_pint rfl rfl ?_
  refine l_pint rfl rfl ?_
  first | refine l_v rfl (q_sub rfl rfl rfl (by simp only [inK]; omega)) ?_ | refine l_pint rfl rfl ?_
  refine l_pint rfl rfl ?_
  first | refine l_v rfl (q_add rfl rfl rfl (by simp only [inK]; omega)) ?_ | refine l_pint rfl rfl ?_
  refine l_v rfl (q_slice (l := fr - fs) (h := fr - fs + cn) (m := ec) rfl el_57 rfl Bnd.none (by have h := @Bnd.mk .i64 ((fr : Int) - (fs : Int) + (cn : Int)) es.length ec ⟨by omega, by omega⟩; rwa [show ((fr : Int) - (fs : Int) + (cn : Int)).toNat = fr - fs + cn by omega] at h) (by have h := @Bnd.mk .i64 ((fr : Int) - (fs : Int)) 0 (fr - fs + cn) ⟨by omega, by omega⟩; rwa [show ((fr : Int) - (fs : Int)).toNat = fr - fs by omega] at h) (by simp)) ?_
  have hle : ((es.drop (fr - fs)).take cn).length = cn := by rw [List.length_take, List.length_drop]; omega
  have hrd := ((H.rowInv (i := 0) rfl).2.2.2.2).subA (sz := 13) (l := fr - fs) (m := ec) (j := cn * 13) (fun e => by omega)
  rw [evsV_drop, evsV_take] at hrd
  refine b_append rfl el_57 ze_30 rfl rfl rfl (St.newRow (T := 30) (sz := 13) H) 0 rfl (ys := evsV ((es.drop (fr - fs)).take cn)) hrd (by rw [evsV_len, hle]; omega) (oneEv _) ⟨by omega, by simp only [maxLen]; omega⟩ (fun a144 c144 w H => ?_)
  rw [show 0 + (fr - fs + cn - (fr - fs)) = cn by omega] at H ⊢
  refine l_pslice rfl rfl ?_
  refine l_pint rfl rfl ?_
  refine l_nil ?_
  refine w_ret ?_
  refine fin2 rfl rfl ?_
  have hu : upR bs (indexR bs).2.1 fs (fr + cn - fs) ((indexR bs).2.1.length - (j - 1)) (j - 1) ([]) = some (es.map EvM.e) := by
    rw [← hup]
    exact up_done (by rw [List.length_map]; omega)
  rw [seek_ok (bs := bs) (fr := (fr : Int)) (cn := (cn : Int)) (by omega) (by omega) (by omega) hdn hu]
  refine ⟨a144, c144, (es.drop (fr - fs)).take cn, by rw [List.map_take, List.map_drop]; rfl, ?_, ?_⟩
  · rw [hle]; rfl
  have hs : Segs (es.map EvM.seg) = Segs ((es.take (fr - fs)).map EvM.seg ++ ((es.drop (fr - fs)).take cn).map EvM.seg ++ ((es.drop (fr - fs)).drop cn).map EvM.seg) := by
    rw [← List.map_append, ← List.map_append, List.append_assoc, List.take_append_drop, List.take_append_drop]
  have H := St.pick [2, 0, 1] (pre := [_, _, _]) rfl H rfl
  rw [hs] at H
  rw [hle]
  exact St.pick [1, 0] (pre := [_, _, _, _]) rfl (St.segs_mid H) rfl
end Go.Proofs.YtfpmnhmdphaceaaDoor
