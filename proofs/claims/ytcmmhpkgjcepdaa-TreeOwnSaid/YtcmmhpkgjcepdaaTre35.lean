/- Tree's HeadAt, Inclusion and Consistency answer as the plain functions do. -/
import Derived.Test.YtcmmhpkgjcepdaaTre34
namespace Go.Proofs.Ytcmmhpkgjcepdaa
open Go.EW
attribute [local irreducible] EW.W EW.L EW.fin block8 outB shaL
set_option linter.unusedVariables false
set_option linter.unusedSimpArgs false
attribute [local irreducible] swp headH leafH nodeH inclN sidesN bothN lenN splitN upN incdR extR incR conR unlikeN oneB metB

def badN (es : List Ent) (x : Int) : Prop := x < 0 ∨ x > (es.length : Int)
instance (es : List Ent) (x : Int) : Decidable (badN es x) := by unfold badN; infer_instance
def h0L : List UInt8 := List.replicate 32 0
def hatT (es : List Ent) (x : Int) : List UInt8 × Int := if badN es x then (h0L, 200) else (headH (es.take x.toNat), 0)
def inclT (es : List Ent) (p x : Int) : List (List UInt8) × Int := if badN es x then ([], 200) else incR (es.take x.toNat) p
def conT (es : List Ent) (m x : Int) : List (List UInt8) × Int := if badN es x then ([], 200) else conR (es.take x.toNat) m
theorem hatT_len (es : List Ent) (x : Int) : (hatT es x).1.length = 32 := by
  unfold hatT
  split
  · rfl
  · exact headH_len _

theorem TBeg_ok {W w : World} {F : List Seg} {b : Nat} {a : Option Addr} {c : Nat} {es : List Ent} {E : List (List UInt8)} (H : St W w (treeL b a c es E F)) (he : EdgeOk E es) (hn : es.length ≤ 140737488355328) (x : Int) :
    Ok Try.prog 79 [.pointer (some ⟨b, 0, none⟩), .int .i64 x].toArray w (fun r w' => ∃ a' n' c', r = .tuple #[.slice a' n' c', .int .i64 (if badN es x then 200 else 0)] ∧ (¬ badN es x → (es.take x.toNat).length = n' ∧ n' ≤ c' ∧ RdIn W (treeL b a c es E F) a' (entsV (es.take x.toNat))) ∧ St W w' (treeL b a c es E F)) := by
  have hc := (H.rowInv (i := 1) rfl).2.1
  refine enter (n := 22) (rs := #[.tmp 4, .tmp 5]) Try.func79 rfl rfl rfl rfl ?_
  refine w_seq ?_
  refine w_region ?_
  refine l_pslice rfl rfl ?_
  refine l_pint rfl rfl ?_
  refine l_nil ?_
  refine w_seq ?_
  refine w_seq ?_
  refine w_region ?_
  refine l_pint rfl rfl ?_
  refine l_pbool rfl rfl ?_
  refine l_pbool rfl rfl ?_
  refine l_split 8 rfl (fun h8 => ?_) (fun h8 => ?_)
  · try simp only [decide_eq_true_eq, decide_eq_false_iff_not, Bool.not_eq_true', Bool.not_eq_false', beq_iff_eq, beq_eq_false_iff_ne, bne_iff_ne, bne_eq_false_iff_eq, ne_eq, Int.not_lt, Int.not_le] at h8
    refine l_no rfl ?_
    refine l_no rfl ?_
    refine l_no rfl ?_
    refine l_no rfl ?_
    refine l_pickT (v := .bool _) rfl rfl rfl ?_
    refine l_nil ?_
    refine w_cond_t rfl ?_
    refine w_seq ?_
    refine w_region ?_
    refine l_pslice rfl rfl ?_
    refine l_pint rfl rfl ?_
    refine l_nil ?_
    refine w_ret ?_
    refine fin2 rfl rfl ?_
    have hb : badN es x := by unfold badN; omega
    exact ⟨none, 0, 0, by rw [if_pos hb]; rfl, fun h => absurd hb h, H⟩
  · try simp only [decide_eq_true_eq, decide_eq_false_iff_not, Bool.not_eq_true', Bool.not_eq_false', beq_iff_eq, beq_eq_false_iff_ne, bne_iff_ne, bne_eq_false_iff_eq, ne_eq, Int.not_lt, Int.not_le] at h8
    refine l_pint rfl rfl ?_
    refine l_pptr rfl rfl ?_
    refine b_call rfl cb_44 rfl (TSize_ok H he hn) (fun v w hv => ?_)
    obtain ⟨rfl, H⟩ := hv
    refine l_pbool rfl rfl ?_
    refine l_pickF (v := .bool _) rfl rfl rfl ?_
    refine l_nil ?_
    refine w_cond rfl (fun c1 => ?_) (fun c1 => ?_)
    · try simp only [decide_eq_true_eq, decide_eq_false_iff_not, Bool.not_eq_true', Bool.not_eq_false', beq_iff_eq, beq_eq_false_iff_ne, bne_iff_ne, bne_eq_false_iff_eq, ne_eq, Int.not_lt, Int.not_le] at c1
      refine w_seq ?_
      refine w_region ?_
      refine l_pslice rfl rfl ?_
      refine l_pint rfl rfl ?_
      refine l_nil ?_
      refine w_ret ?_
      refine fin2 rfl rfl ?_
      have hb : badN es x := by unfold badN; omega
      exact ⟨none, 0, 0, by rw [if_pos hb]; rfl, fun h => absurd hb h, H⟩
    · try simp only [decide_eq_true_eq, decide_eq_false_iff_not, Bool.not_eq_true', Bool.not_eq_false', beq_iff_eq, beq_eq_false_iff_ne, bne_iff_ne, bne_eq_false_iff_eq, ne_eq, Int.not_lt, Int.not_le] at c1
      refine w_skip ?_
      refine w_seq ?_
      refine w_seq ?_
      refine w_region ?_
      refine l_pint rfl rfl ?_
      refine l_pbool rfl rfl ?_
      refine l_nil ?_
      refine w_cond rfl (fun c2 => ?_) (fun c2 => ?_)
      · try simp only [decide_eq_true_eq, decide_eq_false_iff_not, Bool.not_eq_true', Bool.not_eq_false', beq_iff_eq, beq_eq_false_iff_ne, bne_iff_ne, bne_eq_false_iff_eq, ne_eq, Int.not_lt, Int.not_le] at c2
        refine w_seq ?_
        refine w_region ?_
        refine l_pslice rfl rfl ?_
        refine l_pint rfl rfl ?_
        refine l_nil ?_
        refine w_ret ?_
        refine fin2 rfl rfl ?_
        have hb : ¬ badN es x := by unfold badN; omega
        have hx0 : x = 0 := by omega
        subst hx0
        exact ⟨none, 0, 0, by rw [if_neg hb]; rfl, fun _ => ⟨rfl, Nat.le_refl _, RdIn.nil⟩, H⟩
      · try simp only [decide_eq_true_eq, decide_eq_false_iff_not, Bool.not_eq_true', Bool.not_eq_false', beq_iff_eq, beq_eq_false_iff_ne, bne_iff_ne, bne_eq_false_iff_eq, ne_eq, Int.not_lt, Int.not_le] at c2
        refine w_skip ?_
        refine w_seq ?_
        refine w_region ?_
        refine l_pptr rfl rfl ?_
        refine l_pptr rfl rfl ?_
        refine l_v rfl (q_fieldAddr rfl fo79_0 rfl) ?_
        refine l_v rfl (q_load1 rfl c1_22 rfl (H.cell 0 rfl rfl)) ?_
        refine l_pint rfl rfl ?_
        refine l_v rfl (q_slice (h := x.toNat) rfl el_22 rfl Bnd.none (Bnd.mk (by omega)) Bnd.none (by simp)) ?_
        refine l_pslice rfl rfl ?_
        refine l_pint rfl rfl ?_
        refine l_nil ?_
        refine w_ret ?_
        refine fin2 rfl rfl ?_
        have hb : ¬ badN es x := by unfold badN; omega
        exact ⟨subA a 5 0 c, x.toNat, c, by rw [if_neg hb]; rfl, fun _ => ⟨by rw [List.length_take]; omega, by omega, rdin_take5 (RdIn.row 1 rfl) x.toNat c⟩, H⟩

theorem THeadAt_ok {W w : World} {F : List Seg} {b : Nat} {a : Option Addr} {c : Nat} {es : List Ent} {E : List (List UInt8)} (H : St W w (treeL b a c es E F)) (he : EdgeOk E es) (hn : es.length ≤ 140737488355328) (hok : EntsOk es) (x : Int) :
    Ok Try.prog 48 [.pointer (some ⟨b, 0, none⟩), .int .i64 x].toArray w (fun r w' => r = .tuple #[.agg ((hatT es x).1.map B).toArray, .int .i64 (hatT es x).2] ∧ St W w' (treeL b a c es E F)) := by
  refine enter (n := 20) (rs := #[.cell 4 24, .tmp 5]) Try.func48 rfl rfl rfl rfl ?_
  refine w_seq ?_
  refine w_region ?_
  refine b_alloc rfl ze_24 rfl H (fun b4 w H => ?_)
  have H : St W w (treeL b a c es E (blk b4 z32 24 :: F)) := H.pick [1, 2, 0] (pre := [_, _, _]) rfl rfl
  refine l_pint rfl rfl ?_
  refine l_nil ?_
  refine w_seq ?_
  refine w_region ?_
  refine l_pptr rfl rfl ?_
  refine l_pint rfl rfl ?_
  refine b_call rfl cb_79 rfl (TBeg_ok (F := blk b4 z32 24 :: F) H he hn x) (fun v w hv => ?_)
  obtain ⟨a', n', c', rfl, hgd, H⟩ := hv
  refine l_ptup rfl rfl ?_
  refine l_pslice rfl rfl ?_
  refine l_pint rfl rfl ?_
  refine l_pslice rfl rfl ?_
  refine l_pint rfl rfl ?_
  refine l_nil ?_
  refine w_seq ?_
  refine w_seq ?_
  refine w_region ?_
  refine l_pint rfl rfl ?_
  refine l_pbool rfl rfl ?_
  refine l_nil ?_
  refine w_cond rfl (fun c1 => ?_) (fun c1 => ?_)
  · try simp only [decide_eq_true_eq, decide_eq_false_iff_not, Bool.not_eq_true', Bool.not_eq_false', beq_iff_eq, beq_eq_false_iff_ne, bne_iff_ne, bne_eq_false_iff_eq, ne_eq, Int.not_lt, Int.not_le] at c1
    have hb : badN es x := Classical.byContradiction fun h => by rw [if_neg h] at c1; exact absurd c1 (by decide)
    refine w_seq ?_
    refine w_region ?_
    refine l_v rfl (q_buildArr (cs := h0L.map B) rfl ar_24 ze_24 rfl) ?_
    refine l_pint rfl rfl ?_
    have hvl : ((h0L).map B).length = 32 := by rw [List.length_map, show h0L.length = 32 from rfl]
    refine b_store (vs := (h0L).map B) rfl sz_24 rfl rfl rfl (by rw [hvl]; rfl) (all1 _) H 2 rfl (by rw [hvl]; rfl) (putL_all (by rw [hvl]; rfl)) (fun w H => ?_)
    refine l_pint rfl rfl ?_
    refine l_nil ?_
    refine w_ret ?_
    refine finc2 (vs := h0L.map B) rfl ag_24 rfl (H.cells 2 rfl) rfl ?_
    refine ⟨?_, H.erase 2⟩
    rw [show hatT es x = (h0L, 200) from if_pos hb]
    first | (rw [if_pos hb]; done) | (rw [if_pos hb]; rfl)
  · try simp only [decide_eq_true_eq, decide_eq_false_iff_not, Bool.not_eq_true', Bool.not_eq_false', beq_iff_eq, beq_eq_false_iff_ne, bne_iff_ne, bne_eq_false_iff_eq, ne_eq, Int.not_lt, Int.not_le] at c1
    have hb : ¬ badN es x := fun h => by rw [if_pos h] at c1; exact absurd c1 (by decide)
    obtain ⟨hlb, hcb, hrb⟩ := hgd hb
    refine w_skip ?_
    refine w_seq ?_
    refine w_region ?_
    refine l_pslice rfl rfl ?_
    refine b_call rfl cb_14 rfl (Head_ok n' H hrb hlb hcb (hok.take _) rfl (by rw [← hlb, List.length_take]; omega)) (fun v w hv => ?_)
    obtain ⟨rfl, H⟩ := hv
    have hvl : ((headH (es.take x.toNat)).map B).length = 32 := by rw [List.length_map, headH_len]
    refine b_store (vs := (headH (es.take x.toNat)).map B) rfl sz_24 rfl rfl rfl (by rw [hvl]; rfl) (all1 _) H 2 rfl (by rw [hvl]; rfl) (putL_all (by rw [hvl]; rfl)) (fun w H => ?_)
    refine l_pint rfl rfl ?_
    refine l_nil ?_
    refine w_ret ?_
    refine finc2 (vs := (headH (es.take x.toNat)).map B) rfl ag_24 (by rw [hvl]; rfl) (H.cells 2 rfl) rfl ?_
    refine ⟨?_, H.erase 2⟩
    rw [show hatT es x = (headH (es.take x.toNat), 0) from if_neg hb]
    rfl

theorem TIncl_ok {W w : World} {F : List Seg} {b : Nat} {a : Option Addr} {c : Nat} {es : List Ent} {E : List (List UInt8)} (H : St W w (treeL b a c es E F)) (he : EdgeOk E es) (hnb : es.length ≤ 4398046511000) (hok : EntsOk es) (p x : Int) :
    Ok Try.prog 45 [.pointer (some ⟨b, 0, none⟩), .int .i64 p, .int .i64 x].toArray w (fun r w' => ∃ a' c', r = .tuple #[.slice a' (inclT es p x).1.length c', .int .i64 (inclT es p x).2] ∧ St W w' (row 24 32 a' (inclT es p x).1.length c' (pathV (inclT es p x).1) :: treeL b a c es E F)) := by
  have hn : es.length ≤ 140737488355328 := by omega
  refine enter (n := 24) (rs := #[.tmp 6, .tmp 7]) Try.func45 rfl rfl rfl rfl ?_
  refine w_seq ?_
  refine w_region ?_
  refine l_pslice rfl rfl ?_
  refine l_pint rfl rfl ?_
  refine l_nil ?_
  refine w_seq ?_
  refine w_region ?_
  refine l_pptr rfl rfl ?_
  refine l_pint rfl rfl ?_
  refine b_call rfl cb_79 rfl (TBeg_ok H he hn x) (fun v w hv => ?_)
  obtain ⟨a', n', c', rfl, hgd, H⟩ := hv
  refine l_ptup rfl rfl ?_
  refine l_pslice rfl rfl ?_
  refine l_pint rfl rfl ?_
  refine l_pslice rfl rfl ?_
  refine l_pint rfl rfl ?_
  refine l_nil ?_
  refine w_seq ?_
  refine w_seq ?_
  refine w_region ?_
  refine l_pint rfl rfl ?_
  refine l_pbool rfl rfl ?_
  refine l_nil ?_
  refine w_cond rfl (fun c1 => ?_) (fun c1 => ?_)
  · try simp only [decide_eq_true_eq, decide_eq_false_iff_not, Bool.not_eq_true', Bool.not_eq_false', beq_iff_eq, beq_eq_false_iff_ne, bne_iff_ne, bne_eq_false_iff_eq, ne_eq, Int.not_lt, Int.not_le] at c1
    have hb : badN es x := Classical.byContradiction fun h => by rw [if_neg h] at c1; exact absurd c1 (by decide)
    refine w_seq ?_
    refine w_region ?_
    refine l_pint rfl rfl ?_
    refine l_pslice rfl rfl ?_
    refine l_pint rfl rfl ?_
    refine l_nil ?_
    refine w_ret ?_
    refine fin2 rfl rfl ?_
    refine ⟨none, 0, ?_, ?_⟩
    · rw [show inclT es p x = ([], 200) from if_pos hb]
      first | (rw [if_pos hb]; done) | (rw [if_pos hb]; rfl)
    · rw [show inclT es p x = ([], 200) from if_pos hb]
      exact St.newRow H
  · try simp only [decide_eq_true_eq, decide_eq_false_iff_not, Bool.not_eq_true', Bool.not_eq_false', beq_iff_eq, beq_eq_false_iff_ne, bne_iff_ne, bne_eq_false_iff_eq, ne_eq, Int.not_lt, Int.not_le] at c1
    have hb : ¬ badN es x := fun h => by rw [if_pos h] at c1; exact absurd c1 (by decide)
    obtain ⟨hlb, hcb, hrb⟩ := hgd hb
    refine w_skip ?_
    refine w_seq ?_
    refine w_region ?_
    refine l_pslice rfl rfl ?_
    refine l_pint rfl rfl ?_
    refine b_call rfl cb_31 rfl (Inclusion_ok H hrb hlb hcb (hok.take _) (by rw [← hlb, List.length_take]; omega) p) (fun v w hv => ?_)
    obtain ⟨a1, c1', rfl, H⟩ := hv
    refine l_pslice rfl rfl ?_
    refine l_pint rfl rfl ?_
    refine l_pslice rfl rfl ?_
    refine l_pint rfl rfl ?_
    refine l_nil ?_
    refine w_ret ?_
    refine fin2 rfl rfl ?_
    refine ⟨a1, c1', ?_, ?_⟩
    · rw [show inclT es p x = incR (es.take x.toNat) p from if_neg hb]; rfl
    · rw [show inclT es p x = incR (es.take x.toNat) p from if_neg hb]; exact H

theorem TCons_ok {W w : World} {F : List Seg} {b : Nat} {a : Option Addr} {c : Nat} {es : List Ent} {E : List (List UInt8)} (H : St W w (treeL b a c es E F)) (he : EdgeOk E es) (hnb : es.length ≤ 4398046511000) (hok : EntsOk es) (p x : Int) :
    Ok Try.prog 46 [.pointer (some ⟨b, 0, none⟩), .int .i64 p, .int .i64 x].toArray w (fun r w' => ∃ a' c', r = .tuple #[.slice a' (conT es p x).1.length c', .int .i64 (conT es p x).2] ∧ St W w' (row 24 32 a' (conT es p x).1.length c' (pathV (conT es p x).1) :: treeL b a c es E F)) := by
  have hn : es.length ≤ 140737488355328 := by omega
  refine enter (n := 24) (rs := #[.tmp 6, .tmp 7]) Try.func46 rfl rfl rfl rfl ?_
  refine w_seq ?_
  refine w_region ?_
  refine l_pslice rfl rfl ?_
  refine l_pint rfl rfl ?_
  refine l_nil ?_
  refine w_seq ?_
  refine w_region ?_
  refine l_pptr rfl rfl ?_
  refine l_pint rfl rfl ?_
  refine b_call rfl cb_79 rfl (TBeg_ok H he hn x) (fun v w hv => ?_)
  obtain ⟨a', n', c', rfl, hgd, H⟩ := hv
  refine l_ptup rfl rfl ?_
  refine l_pslice rfl rfl ?_
  refine l_pint rfl rfl ?_
  refine l_pslice rfl rfl ?_
  refine l_pint rfl rfl ?_
  refine l_nil ?_
  refine w_seq ?_
  refine w_seq ?_
  refine w_region ?_
  refine l_pint rfl rfl ?_
  refine l_pbool rfl rfl ?_
  refine l_nil ?_
  refine w_cond rfl (fun c1 => ?_) (fun c1 => ?_)
  · try simp only [decide_eq_true_eq, decide_eq_false_iff_not, Bool.not_eq_true', Bool.not_eq_false', beq_iff_eq, beq_eq_false_iff_ne, bne_iff_ne, bne_eq_false_iff_eq, ne_eq, Int.not_lt, Int.not_le] at c1
    have hb : badN es x := Classical.byContradiction fun h => by rw [if_neg h] at c1; exact absurd c1 (by decide)
    refine w_seq ?_
    refine w_region ?_
    refine l_pint rfl rfl ?_
    refine l_pslice rfl rfl ?_
    refine l_pint rfl rfl ?_
    refine l_nil ?_
    refine w_ret ?_
    refine fin2 rfl rfl ?_
    refine ⟨none, 0, ?_, ?_⟩
    · rw [show conT es p x = ([], 200) from if_pos hb]
      first | (rw [if_pos hb]; done) | (rw [if_pos hb]; rfl)
    · rw [show conT es p x = ([], 200) from if_pos hb]
      exact St.newRow H
  · try simp only [decide_eq_true_eq, decide_eq_false_iff_not, Bool.not_eq_true', Bool.not_eq_false', beq_iff_eq, beq_eq_false_iff_ne, bne_iff_ne, bne_eq_false_iff_eq, ne_eq, Int.not_lt, Int.not_le] at c1
    have hb : ¬ badN es x := fun h => by rw [if_pos h] at c1; exact absurd c1 (by decide)
    obtain ⟨hlb, hcb, hrb⟩ := hgd hb
    refine w_skip ?_
    refine w_seq ?_
    refine w_region ?_
    refine l_pslice rfl rfl ?_
    refine l_pint rfl rfl ?_
    refine b_call rfl cb_37 rfl (Consistency_ok H hrb hlb hcb (hok.take _) (by rw [← hlb, List.length_take]; omega) p) (fun v w hv => ?_)
    obtain ⟨a1, c1', rfl, H⟩ := hv
    refine l_pslice rfl rfl ?_
    refine l_pint rfl rfl ?_
    refine l_pslice rfl rfl ?_
    refine l_pint rfl rfl ?_
    refine l_nil ?_
    refine w_ret ?_
    refine fin2 rfl rfl ?_
    refine ⟨a1, c1', ?_, ?_⟩
    · rw [show conT es p x = conR (es.take x.toNat) p from if_neg hb]; rfl
    · rw [show conT es p x = conR (es.take x.toNat) p from if_neg hb]; exact H

end Go.Proofs.Ytcmmhpkgjcepdaa
