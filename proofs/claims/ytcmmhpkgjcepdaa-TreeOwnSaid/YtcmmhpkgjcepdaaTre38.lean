/- The methods of a nil Tree answer; the law TreeNil answers true. -/
import Derived.Test.YtcmmhpkgjcepdaaTre37
namespace Go.Proofs.Ytcmmhpkgjcepdaa
open Go.EW
attribute [local irreducible] EW.W EW.L EW.fin block8 outB shaL
set_option linter.unusedVariables false
set_option linter.unusedSimpArgs false
attribute [local irreducible] swp headH leafH nodeH inclN sidesN bothN lenN splitN upN incdR extR incR conR unlikeN oneB metB hatT inclT conT askT
theorem Size_nil {w : World} :
    Ok Try.prog 44 [.pointer none].toArray w (fun r w' => r = .int .i64 0 ∧ w' = w) := by
  refine enter (n := 10) (rs := #[.tmp 2]) Try.func44 rfl rfl rfl rfl ?_
  refine w_seq ?_
  refine w_region ?_
  refine l_pint rfl rfl ?_
  refine l_nil ?_
  refine w_seq ?_
  refine w_seq ?_
  refine w_region ?_
  refine l_pptr rfl rfl ?_
  refine l_v rfl (q_eqlNilT rfl pt_68 rfl rfl) ?_
  refine l_nil ?_
  refine w_cond_t rfl ?_
  refine w_seq ?_
  refine w_region ?_
  refine l_pint rfl rfl ?_
  refine l_nil ?_
  refine w_ret ?_
  refine fin1 (v := .int _ _) rfl ?_
  exact ⟨rfl, rfl⟩

theorem TBeg_nil {w : World} (x : Int) :
    Ok Try.prog 79 [.pointer none, .int .i64 x].toArray w (fun r w' => r = .tuple #[.slice none 0 0, .int .i64 (if badN [] x then 200 else 0)] ∧ w' = w) := by
  refine enter (n := 22) (rs := #[.tmp 4, .tmp 5]) Try.func79 rfl rfl rfl rfl ?_
  refine w_seq ?_
  refine w_region ?_
  refine l_pslice rfl rfl ?_
  refine l_pint rfl rfl ?_
  refine l_nil ?_
  refine w_seq ?_
  refine w_seq ?_
  refine w_region ?_
  refine l_pint rfl rfl ?_
  refine l_pbool rfl rfl ?_
  refine l_pbool rfl rfl ?_
  refine l_split 8 rfl (fun h8 => ?_) (fun h8 => ?_)
  · try simp only [decide_eq_true_eq, decide_eq_false_iff_not, Bool.not_eq_true', Bool.not_eq_false', beq_iff_eq, beq_eq_false_iff_ne, bne_iff_ne, bne_eq_false_iff_eq, ne_eq, Int.not_lt, Int.not_le] at h8
    refine l_no rfl ?_
    refine l_no rfl ?_
    refine l_no rfl ?_
    refine l_no rfl ?_
    refine l_pickT (v := .bool _) rfl rfl rfl ?_
    refine l_nil ?_
    refine w_cond_t rfl ?_
    refine w_seq ?_
    refine w_region ?_
    refine l_pslice rfl rfl ?_
    refine l_pint rfl rfl ?_
    refine l_nil ?_
    refine w_ret ?_
    refine fin2 rfl rfl ?_
    have hb : badN [] x := by unfold badN; simp; omega
    exact ⟨by rw [if_pos hb]; rfl, rfl⟩
  · try simp only [decide_eq_true_eq, decide_eq_false_iff_not, Bool.not_eq_true', Bool.not_eq_false', beq_iff_eq, beq_eq_false_iff_ne, bne_iff_ne, bne_eq_false_iff_eq, ne_eq, Int.not_lt, Int.not_le] at h8
    refine l_pint rfl rfl ?_
    refine l_pptr rfl rfl ?_
    refine b_call rfl cb_44 rfl (Size_nil) (fun v w hv => ?_)
    obtain ⟨rfl, rfl⟩ := hv
    refine l_pbool rfl rfl ?_
    refine l_pickF (v := .bool _) rfl rfl rfl ?_
    refine l_nil ?_
    refine w_cond rfl (fun c1 => ?_) (fun c1 => ?_)
    · try simp only [decide_eq_true_eq, decide_eq_false_iff_not, Bool.not_eq_true', Bool.not_eq_false', beq_iff_eq, beq_eq_false_iff_ne, bne_iff_ne, bne_eq_false_iff_eq, ne_eq, Int.not_lt, Int.not_le] at c1
      refine w_seq ?_
      refine w_region ?_
      refine l_pslice rfl rfl ?_
      refine l_pint rfl rfl ?_
      refine l_nil ?_
      refine w_ret ?_
      refine fin2 rfl rfl ?_
      have hb : badN [] x := by unfold badN; simp; omega
      exact ⟨by rw [if_pos hb]; rfl, rfl⟩
    · try simp only [decide_eq_true_eq, decide_eq_false_iff_not, Bool.not_eq_true', Bool.not_eq_false', beq_iff_eq, beq_eq_false_iff_ne, bne_iff_ne, bne_eq_false_iff_eq, ne_eq, Int.not_lt, Int.not_le] at c1
      refine w_skip ?_
      refine w_seq ?_
      refine w_seq ?_
      refine w_region ?_
      refine l_pint rfl rfl ?_
      refine l_pbool rfl rfl ?_
      refine l_nil ?_
      refine w_cond rfl (fun c2 => ?_) (fun c2 => ?_)
      · try simp only [decide_eq_true_eq, decide_eq_false_iff_not, Bool.not_eq_true', Bool.not_eq_false', beq_iff_eq, beq_eq_false_iff_ne, bne_iff_ne, bne_eq_false_iff_eq, ne_eq, Int.not_lt, Int.not_le] at c2
        refine w_seq ?_
        refine w_region ?_
        refine l_pslice rfl rfl ?_
        refine l_pint rfl rfl ?_
        refine l_nil ?_
        refine w_ret ?_
        refine fin2 rfl rfl ?_
        have hb : ¬ badN [] x := by unfold badN; simp; omega
        exact ⟨by rw [if_neg hb]; rfl, rfl⟩
      · try simp only [decide_eq_true_eq, decide_eq_false_iff_not, Bool.not_eq_true', Bool.not_eq_false', beq_iff_eq, beq_eq_false_iff_ne, bne_iff_ne, bne_eq_false_iff_eq, ne_eq, Int.not_lt, Int.not_le] at c2
        exact absurd c2 (by omega)

theorem HeadAt_nil {W w : World} {F : List Seg} (H : St W w F) (x : Int) :
    Ok Try.prog 48 [.pointer none, .int .i64 x].toArray w (fun r w' => r = .tuple #[.agg ((hatT [] x).1.map B).toArray, .int .i64 (hatT [] x).2] ∧ St W w' F) := by
  refine enter (n := 20) (rs := #[.cell 4 24, .tmp 5]) Try.func48 rfl rfl rfl rfl ?_
  refine w_seq ?_
  refine w_region ?_
  refine b_alloc rfl ze_24 rfl H (fun b4 w H => ?_)
  refine l_pint rfl rfl ?_
  refine l_nil ?_
  refine w_seq ?_
  refine w_region ?_
  refine l_pptr rfl rfl ?_
  refine l_pint rfl rfl ?_
  refine b_call rfl cb_79 rfl (TBeg_nil x) (fun v w hv => ?_)
  obtain ⟨rfl, rfl⟩ := hv
  refine l_ptup rfl rfl ?_
  refine l_pslice rfl rfl ?_
  refine l_pint rfl rfl ?_
  refine l_pslice rfl rfl ?_
  refine l_pint rfl rfl ?_
  refine l_nil ?_
  refine w_seq ?_
  refine w_seq ?_
  refine w_region ?_
  refine l_pint rfl rfl ?_
  refine l_pbool rfl rfl ?_
  refine l_nil ?_
  refine w_cond rfl (fun c1 => ?_) (fun c1 => ?_)
  · try simp only [decide_eq_true_eq, decide_eq_false_iff_not, Bool.not_eq_true', Bool.not_eq_false', beq_iff_eq, beq_eq_false_iff_ne, bne_iff_ne, bne_eq_false_iff_eq, ne_eq, Int.not_lt, Int.not_le] at c1
    have hb : badN [] x := Classical.byContradiction fun h => by rw [if_neg h] at c1; exact absurd c1 (by decide)
    refine w_seq ?_
    refine w_region ?_
    refine l_v rfl (q_buildArr (cs := h0L.map B) rfl ar_24 ze_24 rfl) ?_
    refine l_pint rfl rfl ?_
    have hvl : ((h0L).map B).length = 32 := by rw [List.length_map, show h0L.length = 32 from rfl]
    refine b_store (vs := (h0L).map B) rfl sz_24 rfl rfl rfl (by rw [hvl]; rfl) (all1 _) H 0 rfl (by rw [hvl]; rfl) (putL_all (by rw [hvl]; rfl)) (fun w H => ?_)
    refine l_pint rfl rfl ?_
    refine l_nil ?_
    refine w_ret ?_
    refine finc2 (vs := h0L.map B) rfl ag_24 rfl (H.cells 0 rfl) rfl ?_
    refine ⟨?_, H.erase 0⟩
    rw [hatT_bad hb]
    first | (rw [if_pos hb]; done) | (rw [if_pos hb]; rfl)
  · try simp only [decide_eq_true_eq, decide_eq_false_iff_not, Bool.not_eq_true', Bool.not_eq_false', beq_iff_eq, beq_eq_false_iff_ne, bne_iff_ne, bne_eq_false_iff_eq, ne_eq, Int.not_lt, Int.not_le] at c1
    have hb : ¬ badN [] x := fun h => by rw [if_pos h] at c1; exact absurd c1 (by decide)
    have hx0 : x = 0 := by unfold badN at hb; simp at hb; omega
    subst hx0
    refine w_skip ?_
    refine w_seq ?_
    refine w_region ?_
    refine l_pslice rfl rfl ?_
    refine b_call rfl cb_14 rfl (Head_ok 0 (n := 0) (c := 0) (es := []) H RdIn.nil rfl (Nat.le_refl _) (fun e he => absurd he (by simp)) rfl (by decide)) (fun v w hv => ?_)
    obtain ⟨rfl, H⟩ := hv
    have hvl : ((headH []).map B).length = 32 := by rw [List.length_map, headH_len]
    refine b_store (vs := (headH []).map B) rfl sz_24 rfl rfl rfl (by rw [hvl]; rfl) (all1 _) H 0 rfl (by rw [hvl]; rfl) (putL_all (by rw [hvl]; rfl)) (fun w H => ?_)
    refine l_pint rfl rfl ?_
    refine l_nil ?_
    refine w_ret ?_
    refine finc2 (vs := (headH []).map B) rfl ag_24 (by rw [hvl]; rfl) (H.cells 0 rfl) rfl ?_
    refine ⟨?_, H.erase 0⟩
    rw [hatT_ok hb]
    rfl

theorem Incl_nil {W w : World} {F : List Seg} (H : St W w F) (p x : Int) :
    Ok Try.prog 45 [.pointer none, .int .i64 p, .int .i64 x].toArray w (fun r w' => ∃ a' c', r = .tuple #[.slice a' (inclT [] p x).1.length c', .int .i64 (inclT [] p x).2] ∧ St W w' (row 24 32 a' (inclT [] p x).1.length c' (pathV (inclT [] p x).1) :: F)) := by
  refine enter (n := 24) (rs := #[.tmp 6, .tmp 7]) Try.func45 rfl rfl rfl rfl ?_
  refine w_seq ?_
  refine w_region ?_
  refine l_pslice rfl rfl ?_
  refine l_pint rfl rfl ?_
  refine l_nil ?_
  refine w_seq ?_
  refine w_region ?_
  refine l_pptr rfl rfl ?_
  refine l_pint rfl rfl ?_
  refine b_call rfl cb_79 rfl (TBeg_nil x) (fun v w hv => ?_)
  obtain ⟨rfl, rfl⟩ := hv
  refine l_ptup rfl rfl ?_
  refine l_pslice rfl rfl ?_
  refine l_pint rfl rfl ?_
  refine l_pslice rfl rfl ?_
  refine l_pint rfl rfl ?_
  refine l_nil ?_
  refine w_seq ?_
  refine w_seq ?_
  refine w_region ?_
  refine l_pint rfl rfl ?_
  refine l_pbool rfl rfl ?_
  refine l_nil ?_
  refine w_cond rfl (fun c1 => ?_) (fun c1 => ?_)
  · try simp only [decide_eq_true_eq, decide_eq_false_iff_not, Bool.not_eq_true', Bool.not_eq_false', beq_iff_eq, beq_eq_false_iff_ne, bne_iff_ne, bne_eq_false_iff_eq, ne_eq, Int.not_lt, Int.not_le] at c1
    have hb : badN [] x := Classical.byContradiction fun h => by rw [if_neg h] at c1; exact absurd c1 (by decide)
    refine w_seq ?_
    refine w_region ?_
    refine l_pint rfl rfl ?_
    refine l_pslice rfl rfl ?_
    refine l_pint rfl rfl ?_
    refine l_nil ?_
    refine w_ret ?_
    refine fin2 rfl rfl ?_
    refine ⟨none, 0, ?_, ?_⟩
    · rw [inclT_bad hb]
      first | (rw [if_pos hb]; done) | (rw [if_pos hb]; rfl)
    · rw [inclT_bad hb]
      exact St.newRow H
  · try simp only [decide_eq_true_eq, decide_eq_false_iff_not, Bool.not_eq_true', Bool.not_eq_false', beq_iff_eq, beq_eq_false_iff_ne, bne_iff_ne, bne_eq_false_iff_eq, ne_eq, Int.not_lt, Int.not_le] at c1
    have hb : ¬ badN [] x := fun h => by rw [if_pos h] at c1; exact absurd c1 (by decide)
    have hx0 : x = 0 := by unfold badN at hb; simp at hb; omega
    subst hx0
    refine w_skip ?_
    refine w_seq ?_
    refine w_region ?_
    refine l_pslice rfl rfl ?_
    refine l_pint rfl rfl ?_
    refine b_call rfl cb_31 rfl (Inclusion_ok (n := 0) (c := 0) (es := []) H RdIn.nil rfl (Nat.le_refl _) (fun e he => absurd he (by simp)) (by decide) p) (fun v w hv => ?_)
    obtain ⟨a1, c1', rfl, H⟩ := hv
    refine l_pslice rfl rfl ?_
    refine l_pint rfl rfl ?_
    refine l_pslice rfl rfl ?_
    refine l_pint rfl rfl ?_
    refine l_nil ?_
    refine w_ret ?_
    refine fin2 rfl rfl ?_
    refine ⟨a1, c1', ?_, ?_⟩
    · rw [inclT_ok hb]; rfl
    · rw [inclT_ok hb]; exact H

theorem Cons_nil {W w : World} {F : List Seg} (H : St W w F) (p x : Int) :
    Ok Try.prog 46 [.pointer none, .int .i64 p, .int .i64 x].toArray w (fun r w' => ∃ a' c', r = .tuple #[.slice a' (conT [] p x).1.length c', .int .i64 (conT [] p x).2] ∧ St W w' (row 24 32 a' (conT [] p x).1.length c' (pathV (conT [] p x).1) :: F)) := by
  refine enter (n := 24) (rs := #[.tmp 6, .tmp 7]) Try.func46 rfl rfl rfl rfl ?_
  refine w_seq ?_
  refine w_region ?_
  refine l_pslice rfl rfl ?_
  refine l_pint rfl rfl ?_
  refine l_nil ?_
  refine w_seq ?_
  refine w_region ?_
  refine l_pptr rfl rfl ?_
  refine l_pint rfl rfl ?_
  refine b_call rfl cb_79 rfl (TBeg_nil x) (fun v w hv => ?_)
  obtain ⟨rfl, rfl⟩ := hv
  refine l_ptup rfl rfl ?_
  refine l_pslice rfl rfl ?_
  refine l_pint rfl rfl ?_
  refine l_pslice rfl rfl ?_
  refine l_pint rfl rfl ?_
  refine l_nil ?_
  refine w_seq ?_
  refine w_seq ?_
  refine w_region ?_
  refine l_pint rfl rfl ?_
  refine l_pbool rfl rfl ?_
  refine l_nil ?_
  refine w_cond rfl (fun c1 => ?_) (fun c1 => ?_)
  · try simp only [decide_eq_true_eq, decide_eq_false_iff_not, Bool.not_eq_true', Bool.not_eq_false', beq_iff_eq, beq_eq_false_iff_ne, bne_iff_ne, bne_eq_false_iff_eq, ne_eq, Int.not_lt, Int.not_le] at c1
    have hb : badN [] x := Classical.byContradiction fun h => by rw [if_neg h] at c1; exact absurd c1 (by decide)
    refine w_seq ?_
    refine w_region ?_
    refine l_pint rfl rfl ?_
    refine l_pslice rfl rfl ?_
    refine l_pint rfl rfl ?_
    refine l_nil ?_
    refine w_ret ?_
    refine fin2 rfl rfl ?_
    refine ⟨none, 0, ?_, ?_⟩
    · rw [conT_bad hb]
      first | (rw [if_pos hb]; done) | (rw [if_pos hb]; rfl)
    · rw [conT_bad hb]
      exact St.newRow H
  · try simp only [decide_eq_true_eq, decide_eq_false_iff_not, Bool.not_eq_true', Bool.not_eq_false', beq_iff_eq, beq_eq_false_iff_ne, bne_iff_ne, bne_eq_false_iff_eq, ne_eq, Int.not_lt, Int.not_le] at c1
    have hb : ¬ badN [] x := fun h => by rw [if_pos h] at c1; exact absurd c1 (by decide)
    have hx0 : x = 0 := by unfold badN at hb; simp at hb; omega
    subst hx0
    refine w_skip ?_
    refine w_seq ?_
    refine w_region ?_
    refine l_pslice rfl rfl ?_
    refine l_pint rfl rfl ?_
    refine b_call rfl cb_37 rfl (Consistency_ok (n := 0) (c := 0) (es := []) H RdIn.nil rfl (Nat.le_refl _) (fun e he => absurd he (by simp)) (by decide) p) (fun v w hv => ?_)
    obtain ⟨a1, c1', rfl, H⟩ := hv
    refine l_pslice rfl rfl ?_
    refine l_pint rfl rfl ?_
    refine l_pslice rfl rfl ?_
    refine l_pint rfl rfl ?_
    refine l_nil ?_
    refine w_ret ?_
    refine fin2 rfl rfl ?_
    refine ⟨a1, c1', ?_, ?_⟩
    · rw [conT_ok hb]; rfl
    · rw [conT_ok hb]; exact H

theorem THead_nil {W w : World} {F : List Seg} (H : St W w F) :
    Ok Try.prog 43 [.pointer none].toArray w (fun r w' => r = .agg ((headH []).map B).toArray ∧ St W w' F) := by
  refine enter (n := 39) (rs := #[.cell 2 24]) Try.func43 rfl rfl rfl rfl ?_
  refine w_seq ?_
  refine w_region ?_
  refine b_alloc rfl ze_24 rfl H (fun b2 w H => ?_)
  refine l_nil ?_
  refine w_seq ?_
  refine w_seq ?_
  refine w_region ?_
  refine l_pptr rfl rfl ?_
  refine b_call rfl cb_44 rfl (Size_nil) (fun v w hv => ?_)
  obtain ⟨rfl, rfl⟩ := hv
  refine l_pbool rfl rfl ?_
  refine l_nil ?_
  refine w_cond_t rfl ?_
  refine w_seq ?_
  refine w_region ?_
  refine b_call rfl cb_50 rfl (SumB_to H (bs := []) RdIn.nil rfl (Nat.le_refl _) (by decide)) (fun v w hv => ?_)
  obtain ⟨rfl, H⟩ := hv
  have hvl : ((shaL []).map B).length = 32 := by rw [List.length_map, shaL_len]
  refine b_store (vs := (shaL []).map B) rfl sz_24 rfl rfl rfl (by rw [hvl]; rfl) (all1 _) H 0 rfl (by rw [hvl]; rfl) (putL_all (by rw [hvl]; rfl)) (fun w H => ?_)
  refine l_nil ?_
  refine w_ret ?_
  refine finc (vs := (shaL []).map B) rfl ag_24 (by rw [hvl]; rfl) (H.cells 0 rfl) ?_
  exact ⟨by rw [headH_nil], H.erase 0⟩

theorem TAdd_nil {W w : World} {F : List Seg} (H : St W w F) (e : Ent) :
    Ok Try.prog 42 [.pointer none, .agg e.cells.toArray].toArray w (fun r w' => r = .int .i64 0 ∧ St W w' F) := by
  refine enter (n := 53) (rs := #[.tmp 4]) Try.func42 rfl rfl rfl rfl ?_
  refine w_seq ?_
  refine w_region ?_
  refine b_box rfl rfl rfl H (fun b3 w H => ?_)
  refine l_pint rfl rfl ?_
  refine l_nil ?_
  refine w_seq ?_
  refine w_seq ?_
  refine w_region ?_
  refine l_pptr rfl rfl ?_
  refine l_v rfl (q_eqlNilT rfl pt_68 rfl rfl) ?_
  refine l_nil ?_
  refine w_cond_t rfl ?_
  refine w_seq ?_
  refine w_region ?_
  refine l_pint rfl rfl ?_
  refine l_nil ?_
  refine w_ret ?_
  refine fin1 (v := .int _ _) rfl ?_
  exact ⟨rfl, H.erase 0⟩

def ent1 : Ent := ⟨0, 1, 0, 0, ⟨#[]⟩⟩
theorem nil_ok : EntsOk [] := fun e he => absurd he (by simp)
set_option maxRecDepth 8000 in
set_option maxHeartbeats 1000000 in
theorem TreeNil_ok {W w : World} {F : List Seg} (H : St W w F) :
    Ok Try.prog 12 [].toArray w (fun r w' => r = .bool true ∧ ∃ S, St W w' S) := by
  have f1 : hatT [] 0 = (headH [], 0) := hatT_ok (by unfold badN; simp)
  have f2 : hatT [] 1 = (h0L, 200) := hatT_bad (by unfold badN; simp)
  have f3 : inclT [] 1 0 = ([], 61) := by rw [inclT_ok (by unfold badN; simp)]; unfold incR; simp
  have f4 : conT [] 0 0 = ([], 0) := by rw [conT_ok (by unfold badN; simp)]; unfold conR; simp
  have f5 : inclT [] 1 1 = ([], 200) := inclT_bad (by unfold badN; simp)
  have f6 : conT [] 1 0 = ([], 200) := by rw [conT_ok (by unfold badN; simp)]; unfold conR; simp
  refine enter (n := 122) (rs := #[.tmp 0]) Try.func12 rfl rfl rfl rfl ?_
  refine w_seq ?_
  refine w_region ?_
  refine l_pbool rfl rfl ?_
  refine l_nil ?_
  refine w_seq ?_
  refine w_region ?_
  refine l_v rfl (q_build (cs := treeZ) rfl sp_79 rfl) ?_
  refine b_box (cs := treeZ) rfl rfl rfl H (fun b17 w H => ?_)
  have H : St W w (treeL b17 none 0 [] edge0 F) := by
    rw [treeZ_eq] at H
    exact (St.newRow (T := 28) (sz := 5) H).swap01
  refine l_pptr rfl rfl ?_
  refine l_nil ?_
  refine w_seq ?_
  refine w_region ?_
  refine l_pptr rfl rfl ?_
  refine b_call rfl cb_48 rfl (THeadAt_ok (F := F) H edge_new (by decide) nil_ok 0) (fun v w hv => ?_)
  obtain ⟨rfl, H⟩ := hv
  refine l_nil ?_
  refine w_seq ?_
  refine w_region ?_
  refine l_pptr rfl rfl ?_
  refine b_call rfl cb_45 rfl (TIncl_ok (F := F) H edge_new (by decide) nil_ok 1 1) (fun v w hv => ?_)
  obtain ⟨p1, k1, rfl, H⟩ := hv
  have H := H.erase 0
  refine l_nil ?_
  refine w_seq ?_
  refine w_region ?_
  refine l_pptr rfl rfl ?_
  refine b_call rfl cb_46 rfl (TCons_ok (F := F) H edge_new (by decide) nil_ok 0 0) (fun v w hv => ?_)
  obtain ⟨p2, k2, rfl, H⟩ := hv
  have H := H.erase 0
  refine l_nil ?_
  refine w_seq ?_
  refine w_region ?_
  refine l_pptr rfl rfl ?_
  refine l_v rfl (q_build (cs := ent0.cells) rfl sp_28 rfl) ?_
  refine b_call rfl cb_42 rfl (TAdd_ok (F := F) H edge_new (by decide) (by decide) ent0 (by decide)) (fun v w hv => ?_)
  obtain ⟨rfl, a1, c1, E1, he1, H⟩ := hv
  refine l_nil ?_
  refine w_seq ?_
  refine w_region ?_
  refine l_pptr rfl rfl ?_
  refine l_v rfl (q_build (cs := ent1.cells) rfl sp_28 rfl) ?_
  refine b_call rfl cb_42 rfl (TAdd_ok (F := F) H he1 (by decide) (by decide) ent1 (by decide)) (fun v w hv => ?_)
  obtain ⟨rfl, a2, c2, E2, he2, H⟩ := hv
  refine l_nil ?_
  refine w_seq ?_
  refine w_region ?_
  refine l_pptr rfl rfl ?_
  refine b_call rfl cb_44 rfl (TSize_ok (F := F) H he2 (by decide)) (fun v w hv => ?_)
  obtain ⟨rfl, H⟩ := hv
  refine l_nil ?_
  refine w_seq ?_
  refine w_region ?_
  refine l_pptr rfl rfl ?_
  refine b_call rfl cb_43 rfl (THead_ok (F := F) H he2 (by decide)) (fun v w hv => ?_)
  obtain ⟨rfl, H⟩ := hv
  refine l_nil ?_
  refine w_seq ?_
  refine w_region ?_
  refine l_pptr rfl rfl ?_
  refine l_nil ?_
  refine w_seq ?_
  refine w_region ?_
  refine b_call rfl cb_14 rfl (Head_ok 0 (n := 0) (c := 0) (es := []) H RdIn.nil rfl (Nat.le_refl _) (fun e he => absurd he (by simp)) rfl (by decide)) (fun v w hv => ?_)
  obtain ⟨rfl, H⟩ := hv
  refine b_alloc rfl ze_24 rfl H (fun b3 w H => ?_)
  have hvl : ((headH []).map B).length = 32 := by rw [List.length_map, headH_len]
  refine b_store (vs := (headH []).map B) rfl sz_24 rfl rfl rfl (by rw [hvl]; rfl) (all1 _) H 0 rfl (by rw [hvl]; rfl) (putL_all (by rw [hvl]; rfl)) (fun w H => ?_)
  refine l_nil ?_
  refine w_seq ?_
  refine w_region ?_
  refine l_pptr rfl rfl ?_
  refine b_call rfl cb_48 rfl (HeadAt_nil H 0) (fun v w hv => ?_)
  obtain ⟨rfl, H⟩ := hv
  refine l_ptup rfl rfl ?_
  refine l_pagg rfl rfl ?_
  refine l_pint rfl rfl ?_
  refine b_alloc rfl ze_24 rfl H (fun b4 w H => ?_)
  have hvl : (((hatT [] 0).1).map B).length = 32 := by rw [List.length_map, hatT_len]
  refine b_store (vs := ((hatT [] 0).1).map B) rfl sz_24 rfl rfl rfl (by rw [hvl]; rfl) (all1 _) H 0 rfl (by rw [hvl]; rfl) (putL_all (by rw [hvl]; rfl)) (fun w H => ?_)
  refine l_pint rfl rfl ?_
  refine l_nil ?_
  refine w_seq ?_
  refine w_region ?_
  refine l_pptr rfl rfl ?_
  refine b_call rfl cb_48 rfl (HeadAt_nil H 1) (fun v w hv => ?_)
  obtain ⟨rfl, H⟩ := hv
  refine l_ptup rfl rfl ?_
  refine l_pagg rfl rfl ?_
  refine l_pint rfl rfl ?_
  refine b_alloc rfl ze_24 rfl H (fun b6 w H => ?_)
  have hvl : (((hatT [] 1).1).map B).length = 32 := by rw [List.length_map, hatT_len]
  refine b_store (vs := ((hatT [] 1).1).map B) rfl sz_24 rfl rfl rfl (by rw [hvl]; rfl) (all1 _) H 0 rfl (by rw [hvl]; rfl) (putL_all (by rw [hvl]; rfl)) (fun w H => ?_)
  refine l_pint rfl rfl ?_
  refine l_nil ?_
  refine w_seq ?_
  refine w_region ?_
  refine l_pptr rfl rfl ?_
  refine b_call rfl cb_45 rfl (Incl_nil H 1 0) (fun v w hv => ?_)
  obtain ⟨p3, k3, rfl, H⟩ := hv
  have H := H.erase 0
  refine l_ptup rfl rfl ?_
  refine l_pslice rfl rfl ?_
  refine l_pint rfl rfl ?_
  refine l_pslice rfl rfl ?_
  refine l_pint rfl rfl ?_
  refine l_nil ?_
  refine w_seq ?_
  refine w_region ?_
  refine l_pptr rfl rfl ?_
  refine b_call rfl cb_46 rfl (Cons_nil H 0 0) (fun v w hv => ?_)
  obtain ⟨p4, k4, rfl, H⟩ := hv
  have H := H.erase 0
  refine l_ptup rfl rfl ?_
  refine l_pslice rfl rfl ?_
  refine l_pint rfl rfl ?_
  refine l_pslice rfl rfl ?_
  refine l_pint rfl rfl ?_
  refine l_nil ?_
  refine w_seq ?_
  refine w_region ?_
  refine l_pptr rfl rfl ?_
  refine b_call rfl cb_45 rfl (Incl_nil H 1 1) (fun v w hv => ?_)
  obtain ⟨p5, k5, rfl, H⟩ := hv
  have H := H.erase 0
  refine l_ptup rfl rfl ?_
  refine l_pslice rfl rfl ?_
  refine l_pint rfl rfl ?_
  refine l_pslice rfl rfl ?_
  refine l_pint rfl rfl ?_
  refine l_nil ?_
  refine w_seq ?_
  refine w_region ?_
  refine l_pptr rfl rfl ?_
  refine b_call rfl cb_46 rfl (Cons_nil H 1 0) (fun v w hv => ?_)
  obtain ⟨p6, k6, rfl, H⟩ := hv
  have H := H.erase 0
  refine l_ptup rfl rfl ?_
  refine l_pslice rfl rfl ?_
  refine l_pint rfl rfl ?_
  refine l_pslice rfl rfl ?_
  refine l_pint rfl rfl ?_
  refine l_nil ?_
  refine w_seq ?_
  refine w_drawT [] [15, 19, 20] [(0, 2), (1, 0), (2, 0), (3, 0), (4, 2), (5, 0), (6, 0), (7, 0), (8, 0), (9, 2), (10, 0), (11, 0), (12, 0), (13, 0), (15, 1), (14, 2), (16, 0), (17, 0), (18, 0), (19, 1), (20, 1), (21, 0), (22, 0), (23, 0), (24, 0), (25, 0), (26, 0), (27, 0), (28, 0), (29, 0), (30, 0), (31, 0), (32, 0), (33, 0), (34, 0), (35, 0), (36, 0), (37, 0), (38, 0), (39, 0), (40, 0), (41, 0), (42, 0), (43, 0), (44, 0), (45, 0), (46, 0), (47, 0), (48, 0), (49, 0), (50, 0), (51, 0), (52, 0), (53, 0), (54, 0), (55, 0), (56, 0), (57, 0)] mixed (by kernel_rfl) (fun _ _ _ h => fin_panic h) H (fun H => ?_)
  refine r_do rfl ?_
  refine b_call rfl cb_22 rfl (works_ok H) (fun v w hv => ?_)
  obtain ⟨rfl, H⟩ := hv
  refine l_nil ⟨fun _ _ => (by first | exact H | exact H.drop1 | exact H.drop1.drop1 | exact H.drop1.drop1.drop1), ?_⟩
  refine r_pbool rfl rfl rfl ?_
  refine r_split 66 rfl (fun h66 => ?_) (fun h66 => absurd h66 (by simp [f1, f2, f3, f4, f5, f6]))
  try simp only [decide_eq_true_eq, decide_eq_false_iff_not, Bool.not_eq_true', Bool.not_eq_false', beq_iff_eq, beq_eq_false_iff_ne, bne_iff_ne, bne_eq_false_iff_eq, ne_eq, Int.not_lt, Int.not_le] at h66
  refine r_pptr rfl rfl rfl ?_
  refine r_w rfl rfl (fun w => q_build (cs := ent0.cells) rfl sp_28 rfl) ?_
  refine r_do rfl ?_
  refine b_call rfl cb_42 rfl (TAdd_nil H ent0) (fun v w hv => ?_)
  obtain ⟨rfl, H⟩ := hv
  refine l_nil ⟨fun _ _ => (by first | exact H | exact H.drop1 | exact H.drop1.drop1 | exact H.drop1.drop1.drop1), ?_⟩
  refine r_pbool rfl rfl rfl ?_
  refine r_pickT (v := .bool _) rfl rfl rfl rfl ?_
  refine r_pbool rfl rfl rfl ?_
  refine r_split 72 rfl (fun h72 => ?_) (fun h72 => absurd h72 (by simp [f1, f2, f3, f4, f5, f6]))
  try simp only [decide_eq_true_eq, decide_eq_false_iff_not, Bool.not_eq_true', Bool.not_eq_false', beq_iff_eq, beq_eq_false_iff_ne, bne_iff_ne, bne_eq_false_iff_eq, ne_eq, Int.not_lt, Int.not_le] at h72
  refine r_pptr rfl rfl rfl ?_
  refine r_do rfl ?_
  refine b_call rfl cb_44 rfl (Size_nil) (fun v w hv => ?_)
  obtain ⟨rfl, rfl⟩ := hv
  refine l_nil ⟨fun _ _ => (by first | exact H | exact H.drop1 | exact H.drop1.drop1 | exact H.drop1.drop1.drop1), ?_⟩
  refine r_pbool rfl rfl rfl ?_
  refine r_pickT (v := .bool _) rfl rfl rfl rfl ?_
  refine r_pbool rfl rfl rfl ?_
  refine r_split 77 rfl (fun h77 => ?_) (fun h77 => absurd h77 (by simp [f1, f2, f3, f4, f5, f6]))
  try simp only [decide_eq_true_eq, decide_eq_false_iff_not, Bool.not_eq_true', Bool.not_eq_false', beq_iff_eq, beq_eq_false_iff_ne, bne_iff_ne, bne_eq_false_iff_eq, ne_eq, Int.not_lt, Int.not_le] at h77
  refine r_pptr rfl rfl rfl ?_
  refine r_v rfl rfl (fun w hS => q_loadN (vs := (headH []).map B) rfl ag_24 rfl (by rw [List.length_map, headH_len]) (hS.cells 2 rfl)) ?_
  refine r_do rfl ?_
  refine b_call rfl cb_43 rfl (THead_nil H) (fun v w hv => ?_)
  obtain ⟨rfl, H⟩ := hv
  refine l_nil ⟨fun _ _ => (by first | exact H | exact H.drop1 | exact H.drop1.drop1 | exact H.drop1.drop1.drop1), ?_⟩
  refine r_w rfl rfl (fun w => q_eqlHash rfl rfl rfl (headH_len _) (headH_len _)) ?_
  refine r_pickT (v := .bool _) rfl rfl rfl rfl ?_
  refine r_pbool rfl rfl rfl ?_
  refine r_split 83 rfl (fun h83 => ?_) (fun h83 => absurd h83 (by simp [f1, f2, f3, f4, f5, f6]))
  try simp only [decide_eq_true_eq, decide_eq_false_iff_not, Bool.not_eq_true', Bool.not_eq_false', beq_iff_eq, beq_eq_false_iff_ne, bne_iff_ne, bne_eq_false_iff_eq, ne_eq, Int.not_lt, Int.not_le] at h83
  refine r_v rfl rfl (fun w hS => q_loadN (vs := (hatT [] 0).1.map B) rfl ag_24 rfl (by rw [List.length_map, hatT_len]) (hS.cells 1 rfl)) ?_
  refine r_v rfl rfl (fun w hS => q_loadN (vs := (headH []).map B) rfl ag_24 rfl (by rw [List.length_map, headH_len]) (hS.cells 2 rfl)) ?_
  refine r_w rfl rfl (fun w => q_eqlHash rfl rfl rfl (hatT_len _ _) (headH_len _)) ?_
  refine r_pickT (v := .bool _) rfl rfl rfl rfl ?_
  refine r_pbool rfl rfl rfl ?_
  refine r_split 88 rfl (fun h88 => ?_) (fun h88 => absurd h88 (by simp [f1, f2, f3, f4, f5, f6]))
  try simp only [decide_eq_true_eq, decide_eq_false_iff_not, Bool.not_eq_true', Bool.not_eq_false', beq_iff_eq, beq_eq_false_iff_ne, bne_iff_ne, bne_eq_false_iff_eq, ne_eq, Int.not_lt, Int.not_le] at h88
  refine r_pint rfl rfl rfl ?_
  refine r_pbool rfl rfl rfl ?_
  refine r_pickT (v := .bool _) rfl rfl rfl rfl ?_
  refine r_pbool rfl rfl rfl ?_
  refine r_split 92 rfl (fun h92 => ?_) (fun h92 => absurd h92 (by simp [f1, f2, f3, f4, f5, f6]))
  try simp only [decide_eq_true_eq, decide_eq_false_iff_not, Bool.not_eq_true', Bool.not_eq_false', beq_iff_eq, beq_eq_false_iff_ne, bne_iff_ne, bne_eq_false_iff_eq, ne_eq, Int.not_lt, Int.not_le] at h92
  refine r_pint rfl rfl rfl ?_
  refine r_pbool rfl rfl rfl ?_
  refine r_pickT (v := .bool _) rfl rfl rfl rfl ?_
  refine r_pbool rfl rfl rfl ?_
  refine r_split 96 rfl (fun h96 => ?_) (fun h96 => absurd h96 (by simp [f1, f2, f3, f4, f5, f6]))
  try simp only [decide_eq_true_eq, decide_eq_false_iff_not, Bool.not_eq_true', Bool.not_eq_false', beq_iff_eq, beq_eq_false_iff_ne, bne_iff_ne, bne_eq_false_iff_eq, ne_eq, Int.not_lt, Int.not_le] at h96
  refine r_pslice rfl rfl rfl ?_
  refine r_w rfl rfl (fun w => q_lenSlice rfl el_42 rfl) ?_
  refine r_pbool rfl rfl rfl ?_
  refine r_pickT (v := .bool _) rfl rfl rfl rfl ?_
  refine r_pbool rfl rfl rfl ?_
  refine r_split 101 rfl (fun h101 => ?_) (fun h101 => absurd h101 (by simp [f1, f2, f3, f4, f5, f6]))
  try simp only [decide_eq_true_eq, decide_eq_false_iff_not, Bool.not_eq_true', Bool.not_eq_false', beq_iff_eq, beq_eq_false_iff_ne, bne_iff_ne, bne_eq_false_iff_eq, ne_eq, Int.not_lt, Int.not_le] at h101
  refine r_pint rfl rfl rfl ?_
  refine r_pbool rfl rfl rfl ?_
  refine r_pickT (v := .bool _) rfl rfl rfl rfl ?_
  refine r_pbool rfl rfl rfl ?_
  refine r_split 105 rfl (fun h105 => ?_) (fun h105 => absurd h105 (by simp [f1, f2, f3, f4, f5, f6]))
  try simp only [decide_eq_true_eq, decide_eq_false_iff_not, Bool.not_eq_true', Bool.not_eq_false', beq_iff_eq, beq_eq_false_iff_ne, bne_iff_ne, bne_eq_false_iff_eq, ne_eq, Int.not_lt, Int.not_le] at h105
  refine r_pslice rfl rfl rfl ?_
  refine r_w rfl rfl (fun w => q_lenSlice rfl el_42 rfl) ?_
  refine r_pbool rfl rfl rfl ?_
  refine r_pickT (v := .bool _) rfl rfl rfl rfl ?_
  refine r_pbool rfl rfl rfl ?_
  refine r_split 110 rfl (fun h110 => ?_) (fun h110 => absurd h110 (by simp [f1, f2, f3, f4, f5, f6]))
  try simp only [decide_eq_true_eq, decide_eq_false_iff_not, Bool.not_eq_true', Bool.not_eq_false', beq_iff_eq, beq_eq_false_iff_ne, bne_iff_ne, bne_eq_false_iff_eq, ne_eq, Int.not_lt, Int.not_le] at h110
  refine r_pint rfl rfl rfl ?_
  refine r_pbool rfl rfl rfl ?_
  refine r_pickT (v := .bool _) rfl rfl rfl rfl ?_
  refine r_pbool rfl rfl rfl ?_
  refine r_split 114 rfl (fun h114 => ?_) (fun h114 => absurd h114 (by simp [f1, f2, f3, f4, f5, f6]))
  try simp only [decide_eq_true_eq, decide_eq_false_iff_not, Bool.not_eq_true', Bool.not_eq_false', beq_iff_eq, beq_eq_false_iff_ne, bne_iff_ne, bne_eq_false_iff_eq, ne_eq, Int.not_lt, Int.not_le] at h114
  refine r_pint rfl rfl rfl ?_
  refine r_pbool rfl rfl rfl ?_
  refine r_pickT (v := .bool _) rfl rfl rfl rfl ?_
  refine r_pbool rfl rfl rfl ?_
  refine r_split 118 rfl (fun h118 => ?_) (fun h118 => absurd h118 (by simp [f1, f2, f3, f4, f5, f6]))
  try simp only [decide_eq_true_eq, decide_eq_false_iff_not, Bool.not_eq_true', Bool.not_eq_false', beq_iff_eq, beq_eq_false_iff_ne, bne_iff_ne, bne_eq_false_iff_eq, ne_eq, Int.not_lt, Int.not_le] at h118
  refine r_pint rfl rfl rfl ?_
  refine r_pbool rfl rfl rfl ?_
  refine r_pickT (v := .bool _) rfl rfl rfl rfl ?_
  refine r_pbool rfl rfl rfl ?_
  refine r_nil ?_
  refine w_ret ?_
  refine fin1 (v := .bool _) rfl ?_
  exact ⟨congrArg Value.bool (by simp [f1, f2, f3, f4, f5, f6]), _, H⟩

end Go.Proofs.Ytcmmhpkgjcepdaa
