/- The laws' helper does answers true of a tree and of the log of its entries. -/
import Derived.Test.YtcmmhpkgjcepdaaTre35
namespace Go.Proofs.Ytcmmhpkgjcepdaa
open Go.EW
attribute [local irreducible] EW.W EW.L EW.fin block8 outB shaL
set_option linter.unusedVariables false
set_option linter.unusedSimpArgs false
attribute [local irreducible] swp headH leafH nodeH inclN sidesN bothN lenN splitN upN incdR extR incR conR unlikeN oneB metB hatT inclT conT

def opV (kd A Bq : Int) (e : Ent) : List Value := [.int .i64 kd, .int .i64 e.cl, .int .i64 e.nu, .int .i64 e.ki, .int .i64 e.sl, .string e.va, .int .i64 A, .int .i64 Bq]
theorem hatT_bad {es : List Ent} {x : Int} (h : badN es x) : hatT es x = (h0L, 200) := by unfold hatT; exact if_pos h
theorem hatT_ok {es : List Ent} {x : Int} (h : ¬ badN es x) : hatT es x = (headH (es.take x.toNat), 0) := by unfold hatT; exact if_neg h
theorem inclT_bad {es : List Ent} {p x : Int} (h : badN es x) : inclT es p x = ([], 200) := by unfold inclT; exact if_pos h
theorem inclT_ok {es : List Ent} {p x : Int} (h : ¬ badN es x) : inclT es p x = incR (es.take x.toNat) p := by unfold inclT; exact if_neg h
theorem conT_bad {es : List Ent} {p x : Int} (h : badN es x) : conT es p x = ([], 200) := by unfold conT; exact if_pos h
theorem conT_ok {es : List Ent} {p x : Int} (h : ¬ badN es x) : conT es p x = conR (es.take x.toNat) p := by unfold conT; exact if_neg h
theorem inclT_path (es : List Ent) (p x : Int) : PathOk (inclT es p x).1 ∧ (inclT es p x).1.length ≤ es.length := by
  unfold inclT
  split
  · exact ⟨fun h hh => absurd hh (by simp), Nat.zero_le _⟩
  · have := incR_ok (es.take x.toNat) p
    exact ⟨this.1, Nat.le_trans this.2 (by rw [List.length_take]; omega)⟩
theorem conT_path (es : List Ent) (p x : Int) : PathOk (conT es p x).1 ∧ (conT es p x).1.length ≤ es.length := by
  unfold conT
  split
  · exact ⟨fun h hh => absurd hh (by simp), Nat.zero_le _⟩
  · have := conR_ok (es.take x.toNat) p
    exact ⟨this.1, Nat.le_trans this.2 (by rw [List.length_take]; omega)⟩
/-- what the fourth and fifth question answer -/
def askT (es : List Ent) (kd A Bq : Int) : List (List UInt8) × Int := if kd = 4 then inclT es A Bq else conT es A Bq
theorem askT_path (es : List Ent) (kd A Bq : Int) : PathOk (askT es kd A Bq).1 ∧ (askT es kd A Bq).1.length ≤ es.length := by
  unfold askT
  split
  · exact inclT_path _ _ _
  · exact conT_path _ _ _
theorem askT_bad {es : List Ent} {kd A Bq : Int} (h : badN es Bq) : askT es kd A Bq = ([], 200) := by
  unfold askT
  split
  · exact inclT_bad h
  · exact conT_bad h
def nineL : List UInt8 := 9 :: List.replicate 31 0

set_option maxRecDepth 8000 in
set_option maxHeartbeats 1000000 in
theorem does_ok {W w : World} {F : List Seg} {b : Nat} {a : Option Addr} {c : Nat} {es : List Ent} {E : List (List UInt8)} (H : St W w (treeL b a c es E F)) (he : EdgeOk E es) (hnb : es.length ≤ 4398046511000) (hok : EntsOk es) {la : Option Addr} {lc : Nat} (hrl : RdIn W F la (entsV es)) (hlc : es.length ≤ lc) (kd A Bq : Int) (e : Ent) :
    Ok Try.prog 49 [.pointer (some ⟨b, 0, none⟩), .slice la es.length lc, .agg (opV kd A Bq e).toArray].toArray w (fun r w' => r = .bool true ∧ St W w' (treeL b a c es E F)) := by
  have hn : es.length ≤ 140737488355328 := by omega
  refine enter (n := 156) (rs := #[.tmp 6]) Try.func49 rfl rfl rfl rfl ?_
  refine w_seq ?_
  refine w_region ?_
  refine b_box rfl rfl rfl H (fun b5 w H => ?_)
  have H : St W w (treeL b a c es E (blk b5 (opV kd A Bq e) 84 :: F)) := H.pick [1, 2, 0] (pre := [_, _, _]) rfl rfl
  refine l_pbool rfl rfl ?_
  refine l_nil ?_
  refine w_seq ?_
  refine w_seq ?_
  refine w_region ?_
  refine l_v rfl (q_fieldAddr rfl fo84_0 rfl) ?_
  refine l_v rfl (q_load1 rfl c1_3 rfl (v := .int .i64 kd) (H.cell 2 rfl rfl)) ?_
  refine l_nil ?_
  refine w_block ?_
  refine w_seq ?_
  refine w_region ?_
  refine l_pbool rfl rfl ?_
  refine l_pbool rfl rfl ?_
  refine l_nil ?_
  refine w_cond rfl (fun c1 => ?_) (fun c1 => ?_)
  · try simp only [decide_eq_true_eq, decide_eq_false_iff_not, Bool.not_eq_true', Bool.not_eq_false', beq_iff_eq, beq_eq_false_iff_ne, bne_iff_ne, bne_eq_false_iff_eq, ne_eq, Int.not_lt, Int.not_le] at c1
    refine w_seq ?_
    refine w_region ?_
    refine l_pptr rfl rfl ?_
    refine b_call rfl cb_44 rfl (TSize_ok (F := blk b5 (opV kd A Bq e) 84 :: F) H he hn) (fun v w hv => ?_)
    obtain ⟨rfl, H⟩ := hv
    refine l_pslice rfl rfl ?_
    refine l_v rfl (q_lenSlice rfl el_22 rfl) ?_
    refine l_pbool rfl rfl ?_
    refine l_pbool rfl rfl ?_
    refine l_nil ?_
    refine w_ret ?_
    refine fin1 (v := .bool _) rfl ?_
    exact ⟨congrArg Value.bool (by simp), H.erase 2⟩
  · try simp only [decide_eq_true_eq, decide_eq_false_iff_not, Bool.not_eq_true', Bool.not_eq_false', beq_iff_eq, beq_eq_false_iff_ne, bne_iff_ne, bne_eq_false_iff_eq, ne_eq, Int.not_lt, Int.not_le] at c1
    refine w_seq ?_
    refine w_region ?_
    refine l_pbool rfl rfl ?_
    refine l_pbool rfl rfl ?_
    refine l_nil ?_
    refine w_cond rfl (fun c2 => ?_) (fun c2 => ?_)
    · try simp only [decide_eq_true_eq, decide_eq_false_iff_not, Bool.not_eq_true', Bool.not_eq_false', beq_iff_eq, beq_eq_false_iff_ne, bne_iff_ne, bne_eq_false_iff_eq, ne_eq, Int.not_lt, Int.not_le] at c2
      refine w_seq ?_
      refine w_region ?_
      refine l_pptr rfl rfl ?_
      refine b_call rfl cb_43 rfl (THead_ok (F := blk b5 (opV kd A Bq e) 84 :: F) H he hn) (fun v w hv => ?_)
      obtain ⟨rfl, H⟩ := hv
      refine l_pslice rfl rfl ?_
      refine b_call rfl cb_16 rfl (rHead_ok es.length H (hrl.up 3 rfl) rfl hlc hok rfl hn) (fun v w hv => ?_)
      obtain ⟨rfl, H⟩ := hv
      refine l_v rfl (q_eqlHash rfl rfl rfl (headH_len _) (headH_len _)) ?_
      refine l_pbool rfl rfl ?_
      refine l_nil ?_
      refine w_ret ?_
      refine fin1 (v := .bool _) rfl ?_
      exact ⟨congrArg Value.bool (by simp), H.erase 2⟩
    · try simp only [decide_eq_true_eq, decide_eq_false_iff_not, Bool.not_eq_true', Bool.not_eq_false', beq_iff_eq, beq_eq_false_iff_ne, bne_iff_ne, bne_eq_false_iff_eq, ne_eq, Int.not_lt, Int.not_le] at c2
      refine w_seq ?_
      refine w_region ?_
      refine l_pbool rfl rfl ?_
      refine l_pbool rfl rfl ?_
      refine l_nil ?_
      refine w_cond rfl (fun c3 => ?_) (fun c3 => ?_)
      · try simp only [decide_eq_true_eq, decide_eq_false_iff_not, Bool.not_eq_true', Bool.not_eq_false', beq_iff_eq, beq_eq_false_iff_ne, bne_iff_ne, bne_eq_false_iff_eq, ne_eq, Int.not_lt, Int.not_le] at c3
        refine w_seq ?_
        refine w_region ?_
        refine l_pptr rfl rfl ?_
        refine l_v rfl (q_fieldAddr rfl fo84_2 rfl) ?_
        refine l_v rfl (q_load1 rfl c1_3 rfl (v := .int .i64 A) (H.cell 2 rfl rfl)) ?_
        refine b_call rfl cb_48 rfl (THeadAt_ok (F := blk b5 (opV kd A Bq e) 84 :: F) H he hn hok A) (fun v w hv => ?_)
        obtain ⟨rfl, H⟩ := hv
        refine l_ptup rfl rfl ?_
        refine l_pagg rfl rfl ?_
        refine l_pint rfl rfl ?_
        refine b_alloc rfl ze_24 rfl H (fun b7 w H => ?_)
        have hvl : ((hatT es A).1.map B).length = 32 := by rw [List.length_map, hatT_len]
        refine b_store (vs := (hatT es A).1.map B) rfl sz_24 rfl rfl rfl (by rw [hvl]; rfl) (all1 _) H 0 rfl (by rw [hvl]; rfl) (putL_all (by rw [hvl]; rfl)) (fun w H => ?_)
        refine l_pint rfl rfl ?_
        refine l_nil ?_
        refine w_seq ?_
        refine w_seq ?_
        refine w_region ?_
        refine l_v rfl (q_fieldAddr rfl fo84_2 rfl) ?_
        refine l_v rfl (q_load1 rfl c1_3 rfl (v := .int .i64 A) (H.cell 3 rfl rfl)) ?_
        refine l_pbool rfl rfl ?_
        refine l_pbool rfl rfl ?_
        refine l_split 43 rfl (fun h43 => ?_) (fun h43 => ?_)
        · try simp only [decide_eq_true_eq, decide_eq_false_iff_not, Bool.not_eq_true', Bool.not_eq_false', beq_iff_eq, beq_eq_false_iff_ne, bne_iff_ne, bne_eq_false_iff_eq, ne_eq, Int.not_lt, Int.not_le] at h43
          refine l_no rfl ?_
          refine l_no rfl ?_
          refine l_no rfl ?_
          refine l_no rfl ?_
          refine l_no rfl ?_
          refine l_pickT (v := .bool _) rfl rfl rfl ?_
          refine l_nil ?_
          refine w_cond_t rfl ?_
          refine w_seq ?_
          refine w_region ?_
          refine l_v rfl (q_loadN (vs := (hatT es A).1.map B) rfl ag_24 rfl (by rw [List.length_map, hatT_len]) (H.cells 0 rfl)) ?_
          refine l_v rfl (q_buildArr (cs := h0L.map B) rfl ar_24 ze_24 rfl) ?_
          refine l_v rfl (q_eqlHash rfl rfl rfl (hatT_len _ _) (show h0L.length = 32 from rfl)) ?_
          refine l_pbool rfl rfl ?_
          refine l_split 53 rfl (fun h53 => ?_) (fun h53 => absurd h53 (by rw [hatT_bad (by unfold badN; omega)]; simp))
          try simp only [decide_eq_true_eq, decide_eq_false_iff_not, Bool.not_eq_true', Bool.not_eq_false', beq_iff_eq, beq_eq_false_iff_ne, bne_iff_ne, bne_eq_false_iff_eq, ne_eq, Int.not_lt, Int.not_le] at h53
          refine l_pint rfl rfl ?_
          refine l_pbool rfl rfl ?_
          refine l_pickT (v := .bool _) rfl rfl rfl ?_
          refine l_pbool rfl rfl ?_
          refine l_nil ?_
          refine w_ret ?_
          refine fin1 (v := .bool _) rfl ?_
          exact ⟨congrArg Value.bool (by rw [hatT_bad (by unfold badN; omega)]; rfl), (H.erase 0).erase 2⟩
        · try simp only [decide_eq_true_eq, decide_eq_false_iff_not, Bool.not_eq_true', Bool.not_eq_false', beq_iff_eq, beq_eq_false_iff_ne, bne_iff_ne, bne_eq_false_iff_eq, ne_eq, Int.not_lt, Int.not_le] at h43
          refine l_v rfl (q_fieldAddr rfl fo84_2 rfl) ?_
          refine l_v rfl (q_load1 rfl c1_3 rfl (v := .int .i64 A) (H.cell 3 rfl rfl)) ?_
          refine l_pslice rfl rfl ?_
          refine l_v rfl (q_lenSlice rfl el_22 rfl) ?_
          refine l_pbool rfl rfl ?_
          refine l_pickF (v := .bool _) rfl rfl rfl ?_
          refine l_nil ?_
          refine w_cond rfl (fun c4 => ?_) (fun c4 => ?_)
          · try simp only [decide_eq_true_eq, decide_eq_false_iff_not, Bool.not_eq_true', Bool.not_eq_false', beq_iff_eq, beq_eq_false_iff_ne, bne_iff_ne, bne_eq_false_iff_eq, ne_eq, Int.not_lt, Int.not_le] at c4
            refine w_seq ?_
            refine w_region ?_
            refine l_v rfl (q_loadN (vs := (hatT es A).1.map B) rfl ag_24 rfl (by rw [List.length_map, hatT_len]) (H.cells 0 rfl)) ?_
            refine l_v rfl (q_buildArr (cs := h0L.map B) rfl ar_24 ze_24 rfl) ?_
            refine l_v rfl (q_eqlHash rfl rfl rfl (hatT_len _ _) (show h0L.length = 32 from rfl)) ?_
            refine l_pbool rfl rfl ?_
            refine l_split 53 rfl (fun h53 => ?_) (fun h53 => absurd h53 (by rw [hatT_bad (by unfold badN; omega)]; simp))
            try simp only [decide_eq_true_eq, decide_eq_false_iff_not, Bool.not_eq_true', Bool.not_eq_false', beq_iff_eq, beq_eq_false_iff_ne, bne_iff_ne, bne_eq_false_iff_eq, ne_eq, Int.not_lt, Int.not_le] at h53
            refine l_pint rfl rfl ?_
            refine l_pbool rfl rfl ?_
            refine l_pickT (v := .bool _) rfl rfl rfl ?_
            refine l_pbool rfl rfl ?_
            refine l_nil ?_
            refine w_ret ?_
            refine fin1 (v := .bool _) rfl ?_
            exact ⟨congrArg Value.bool (by rw [hatT_bad (by unfold badN; omega)]; rfl), (H.erase 0).erase 2⟩
          · try simp only [decide_eq_true_eq, decide_eq_false_iff_not, Bool.not_eq_true', Bool.not_eq_false', beq_iff_eq, beq_eq_false_iff_ne, bne_iff_ne, bne_eq_false_iff_eq, ne_eq, Int.not_lt, Int.not_le] at c4
            refine w_skip ?_
            refine w_seq ?_
            refine w_drawT [] [3, 6] [(0, 0), (1, 0), (2, 0), (3, 1), (4, 0), (5, 0), (6, 1), (7, 0), (8, 2), (9, 0), (10, 0), (11, 0)] mixed (by kernel_rfl) (fun _ _ _ h => fin_panic h) H (fun H => ?_)
            refine r_pint rfl rfl rfl ?_
            refine r_pbool rfl rfl rfl ?_
            refine r_pbool rfl rfl rfl ?_
            refine r_split 59 rfl (fun h59 => ?_) (fun h59 => absurd h59 (by rw [hatT_ok (by unfold badN; omega)]; simp))
            try simp only [decide_eq_true_eq, decide_eq_false_iff_not, Bool.not_eq_true', Bool.not_eq_false', beq_iff_eq, beq_eq_false_iff_ne, bne_iff_ne, bne_eq_false_iff_eq, ne_eq, Int.not_lt, Int.not_le] at h59
            refine r_v rfl rfl (fun w hS => q_loadN (vs := (hatT es A).1.map B) rfl ag_24 rfl (by rw [List.length_map, hatT_len]) (hS.cells 0 rfl)) ?_
            refine r_pslice rfl rfl rfl ?_
            refine r_w rfl rfl (fun w => q_fieldAddr rfl fo84_2 rfl) ?_
            refine r_v rfl rfl (fun w hS => q_load1 rfl c1_3 rfl (v := .int .i64 A) (hS.cell 3 rfl rfl)) ?_
            refine r_w rfl rfl (fun w => q_slice (h := A.toNat) rfl el_22 rfl Bnd.none (Bnd.mk (by omega)) Bnd.none (by simp)) ?_
            refine r_do rfl ?_
            refine b_call rfl cb_16 rfl (rHead_ok A.toNat (es := es.take A.toNat) H (rdin_take5 (hrl.up 4 rfl) A.toNat lc) (by rw [List.length_take]; omega) (by omega) (hok.take _) rfl (by omega)) (fun v w hv => ?_)
            obtain ⟨rfl, H⟩ := hv
            refine l_nil ⟨fun _ _ => (by first | exact H | exact H.drop1 | exact H.drop1.drop1 | exact H.drop1.drop1.drop1), ?_⟩
            refine r_w rfl rfl (fun w => q_eqlHash rfl rfl rfl (hatT_len _ _) (headH_len _)) ?_
            refine r_pickT (v := .bool _) rfl rfl rfl rfl ?_
            refine r_pbool rfl rfl rfl ?_
            refine r_nil ?_
            refine w_ret ?_
            refine fin1 (v := .bool _) rfl ?_
            exact ⟨congrArg Value.bool (by rw [hatT_ok (by unfold badN; omega)]; simp), (H.erase 0).erase 2⟩
      · try simp only [decide_eq_true_eq, decide_eq_false_iff_not, Bool.not_eq_true', Bool.not_eq_false', beq_iff_eq, beq_eq_false_iff_ne, bne_iff_ne, bne_eq_false_iff_eq, ne_eq, Int.not_lt, Int.not_le] at c3
        refine w_cutG (G := Unit) [68, 69, 70] (fun _ => [(68, .bool (decide (kd = 4 ∨ kd = 5)))]) (fun _ w => St W w (treeL b a c es E (blk b5 (opV kd A Bq e) 84 :: F))) (fun _ => rfl) ?_ ?_
        · refine w_seq ?_
          refine w_region ?_
          refine l_pbool rfl rfl ?_
          refine l_pbool rfl rfl ?_
          refine l_nil ?_
          refine w_cond rfl (fun c5 => ?_) (fun c5 => ?_)
          · try simp only [decide_eq_true_eq, decide_eq_false_iff_not, Bool.not_eq_true', Bool.not_eq_false', beq_iff_eq, beq_eq_false_iff_ne, bne_iff_ne, bne_eq_false_iff_eq, ne_eq, Int.not_lt, Int.not_le] at c5
            refine w_skip ?_
            refine ⟨by repeat' first | exact Agr.mix _ _ _ | exact Agr.refl _ _ | refine Agr.inner rfl ?_ | refine Agr.upd rfl ?_ | refine Agr.updL' rfl ?_, ?_⟩
            exact ⟨(), ⟨congrArg Value.bool (by simp [c5]), trivial⟩, H⟩
          · try simp only [decide_eq_true_eq, decide_eq_false_iff_not, Bool.not_eq_true', Bool.not_eq_false', beq_iff_eq, beq_eq_false_iff_ne, bne_iff_ne, bne_eq_false_iff_eq, ne_eq, Int.not_lt, Int.not_le] at c5
            refine w_region ?_
            refine l_pbool rfl rfl ?_
            refine l_pbool rfl rfl ?_
            refine l_nil ?_
            refine ⟨by repeat' first | exact Agr.mix _ _ _ | exact Agr.refl _ _ | refine Agr.inner rfl ?_ | refine Agr.upd rfl ?_ | refine Agr.updL' rfl ?_, ?_⟩
            exact ⟨(), ⟨congrArg Value.bool (by simp [c5]; rfl), trivial⟩, H⟩
        · rintro _ ρ1 w H
          refine w_cond rfl (fun c6 => ?_) (fun c6 => ?_)
          · try simp only [decide_eq_true_eq, decide_eq_false_iff_not, Bool.not_eq_true', Bool.not_eq_false', beq_iff_eq, beq_eq_false_iff_ne, bne_iff_ne, bne_eq_false_iff_eq, ne_eq, Int.not_lt, Int.not_le] at c6
            refine w_seq ?_
            refine w_region ?_
            refine l_pslice rfl rfl ?_
            refine l_pslice rfl rfl ?_
            refine l_nil ?_
            refine w_seq ?_
            refine w_region ?_
            refine l_pint rfl rfl ?_
            refine l_nil ?_
            refine w_seq ?_
            refine w_region ?_
            refine l_pint rfl rfl ?_
            refine l_nil ?_
            refine w_cutG (G := Option Addr × Nat) [9, 11, 71, 72, 73, 74, 75, 76, 77, 78, 79, 80, 81, 82, 83, 84, 85, 86, 87, 88, 89, 90, 91] (fun ⟨pa, pc⟩ => [(9, .slice pa (askT es kd A Bq).1.length pc), (11, .int .i64 (askT es kd A Bq).2)]) (fun ⟨pa, pc⟩ w => St W w (row 24 32 pa (askT es kd A Bq).1.length pc (pathV (askT es kd A Bq).1) :: treeL b a c es E (blk b5 (opV kd A Bq e) 84 :: F))) (fun _ => rfl) ?_ ?_
            · refine w_seq ?_
              refine w_region ?_
              refine l_v rfl (q_fieldAddr rfl fo84_0 rfl) ?_
              refine l_v rfl (q_load1 rfl c1_3 rfl (v := .int .i64 kd) (H.cell 2 rfl rfl)) ?_
              refine l_pbool rfl rfl ?_
              refine l_nil ?_
              refine w_cond rfl (fun c7 => ?_) (fun c7 => ?_)
              · try simp only [decide_eq_true_eq, decide_eq_false_iff_not, Bool.not_eq_true', Bool.not_eq_false', beq_iff_eq, beq_eq_false_iff_ne, bne_iff_ne, bne_eq_false_iff_eq, ne_eq, Int.not_lt, Int.not_le] at c7
                refine w_region ?_
                refine l_pptr rfl rfl ?_
                refine l_v rfl (q_fieldAddr rfl fo84_2 rfl) ?_
                refine l_v rfl (q_load1 rfl c1_3 rfl (v := .int .i64 A) (H.cell 2 rfl rfl)) ?_
                refine l_v rfl (q_fieldAddr rfl fo84_3 rfl) ?_
                refine l_v rfl (q_load1 rfl c1_3 rfl (v := .int .i64 Bq) (H.cell 2 rfl rfl)) ?_
                refine b_call rfl cb_45 rfl (TIncl_ok (F := blk b5 (opV kd A Bq e) 84 :: F) H he hnb hok A Bq) (fun v w hv => ?_)
                obtain ⟨pa, pc, rfl, H⟩ := hv
                refine l_ptup rfl rfl ?_
                refine l_pslice rfl rfl ?_
                refine l_pint rfl rfl ?_
                refine l_pslice rfl rfl ?_
                refine l_pint rfl rfl ?_
                refine l_nil ?_
                refine ⟨by repeat' first | exact Agr.mix _ _ _ | exact Agr.refl _ _ | refine Agr.inner rfl ?_ | refine Agr.upd rfl ?_ | refine Agr.updL' rfl ?_, ?_⟩
                have ha : askT es kd A Bq = inclT es A Bq := if_pos (by omega)
                exact ⟨(pa, pc), ⟨by rw [ha]; rfl, by rw [ha]; rfl, trivial⟩, by rw [ha]; exact H⟩
              · try simp only [decide_eq_true_eq, decide_eq_false_iff_not, Bool.not_eq_true', Bool.not_eq_false', beq_iff_eq, beq_eq_false_iff_ne, bne_iff_ne, bne_eq_false_iff_eq, ne_eq, Int.not_lt, Int.not_le] at c7
                refine w_region ?_
                refine l_pptr rfl rfl ?_
                refine l_v rfl (q_fieldAddr rfl fo84_2 rfl) ?_
                refine l_v rfl (q_load1 rfl c1_3 rfl (v := .int .i64 A) (H.cell 2 rfl rfl)) ?_
                refine l_v rfl (q_fieldAddr rfl fo84_3 rfl) ?_
                refine l_v rfl (q_load1 rfl c1_3 rfl (v := .int .i64 Bq) (H.cell 2 rfl rfl)) ?_
                refine b_call rfl cb_46 rfl (TCons_ok (F := blk b5 (opV kd A Bq e) 84 :: F) H he hnb hok A Bq) (fun v w hv => ?_)
                obtain ⟨pa, pc, rfl, H⟩ := hv
                refine l_ptup rfl rfl ?_
                refine l_pslice rfl rfl ?_
                refine l_pint rfl rfl ?_
                refine l_pslice rfl rfl ?_
                refine l_pint rfl rfl ?_
                refine l_nil ?_
                refine ⟨by repeat' first | exact Agr.mix _ _ _ | exact Agr.refl _ _ | refine Agr.inner rfl ?_ | refine Agr.upd rfl ?_ | refine Agr.updL' rfl ?_, ?_⟩
                have ha : askT es kd A Bq = conT es A Bq := if_neg (by omega)
                exact ⟨(pa, pc), ⟨by rw [ha]; rfl, by rw [ha]; rfl, trivial⟩, by rw [ha]; exact H⟩
            · rintro ⟨pa, pc⟩ ρ1 w H
              have hpk := askT_path es kd A Bq
              refine w_cutG (G := Option Addr × Nat) [10, 12, 92, 93, 94, 95, 96, 97, 98, 99, 100, 101, 102, 103, 104, 105, 106, 107, 108, 109, 110, 111, 112, 113, 114, 115, 116, 117, 118, 119, 120, 121, 122, 123, 124, 125, 126, 127, 128, 129, 130, 131, 132, 133, 134, 135, 136] (fun ⟨qa, qc⟩ => [(10, .slice qa (askT es kd A Bq).1.length qc), (12, .int .i64 (askT es kd A Bq).2)]) (fun ⟨qa, qc⟩ w => St W w (row 24 32 qa (askT es kd A Bq).1.length qc (pathV (askT es kd A Bq).1) :: row 24 32 pa (askT es kd A Bq).1.length pc (pathV (askT es kd A Bq).1) :: treeL b a c es E (blk b5 (opV kd A Bq e) 84 :: F))) (fun _ => rfl) ?_ ?_
              · refine w_seq ?_
                refine w_region ?_
                refine l_v rfl (q_fieldAddr rfl fo84_3 rfl) ?_
                refine l_v rfl (q_load1 rfl c1_3 rfl (v := .int .i64 Bq) (H.cell 3 rfl rfl)) ?_
                refine l_pbool rfl rfl ?_
                refine l_pbool rfl rfl ?_
                refine l_split 95 rfl (fun h95 => ?_) (fun h95 => ?_)
                · try simp only [decide_eq_true_eq, decide_eq_false_iff_not, Bool.not_eq_true', Bool.not_eq_false', beq_iff_eq, beq_eq_false_iff_ne, bne_iff_ne, bne_eq_false_iff_eq, ne_eq, Int.not_lt, Int.not_le] at h95
                  refine l_v rfl (q_fieldAddr rfl fo84_3 rfl) ?_
                  refine l_v rfl (q_load1 rfl c1_3 rfl (v := .int .i64 Bq) (H.cell 3 rfl rfl)) ?_
                  refine l_pslice rfl rfl ?_
                  refine l_v rfl (q_lenSlice rfl el_22 rfl) ?_
                  refine l_pbool rfl rfl ?_
                  refine l_pickT (v := .bool _) rfl rfl rfl ?_
                  refine l_pbool rfl rfl ?_
                  refine l_split 102 rfl (fun h102 => ?_) (fun h102 => ?_)
                  · try simp only [decide_eq_true_eq, decide_eq_false_iff_not, Bool.not_eq_true', Bool.not_eq_false', beq_iff_eq, beq_eq_false_iff_ne, bne_iff_ne, bne_eq_false_iff_eq, ne_eq, Int.not_lt, Int.not_le] at h102
                    refine l_v rfl (q_fieldAddr rfl fo84_0 rfl) ?_
                    refine l_v rfl (q_load1 rfl c1_3 rfl (v := .int .i64 kd) (H.cell 3 rfl rfl)) ?_
                    refine l_pbool rfl rfl ?_
                    refine l_pickT (v := .bool _) rfl rfl rfl ?_
                    refine l_nil ?_
                    refine w_cond rfl (fun c8 => ?_) (fun c8 => ?_)
                    · try simp only [decide_eq_true_eq, decide_eq_false_iff_not, Bool.not_eq_true', Bool.not_eq_false', beq_iff_eq, beq_eq_false_iff_ne, bne_iff_ne, bne_eq_false_iff_eq, ne_eq, Int.not_lt, Int.not_le] at c8
                      refine w_drawT [6] [2, 5] [(0, 0), (1, 0), (2, 1), (3, 0), (4, 0), (5, 1), (6, 2), (7, 0), (8, 0), (9, 0), (10, 0), (11, 0)] mixed (by kernel_rfl) (fun _ _ _ h => fin_panic h) H (fun H => ?_)
                      refine r_pslice rfl rfl rfl ?_
                      refine r_w rfl rfl (fun w => q_fieldAddr rfl fo84_3 rfl) ?_
                      refine r_v rfl rfl (fun w hS => q_load1 rfl c1_3 rfl (v := .int .i64 Bq) (hS.cell 3 rfl rfl)) ?_
                      refine r_w rfl rfl (fun w => q_slice (h := Bq.toNat) rfl el_22 rfl Bnd.none (Bnd.mk (by omega)) Bnd.none (by simp)) ?_
                      refine r_w rfl rfl (fun w => q_fieldAddr rfl fo84_2 rfl) ?_
                      refine r_v rfl rfl (fun w hS => q_load1 rfl c1_3 rfl (v := .int .i64 A) (hS.cell 3 rfl rfl)) ?_
                      refine r_do rfl ?_
                      refine b_call rfl cb_36 rfl (rInclusion_ok Bq.toNat (es := es.take Bq.toNat) H (rdin_take5 (hrl.up 4 rfl) Bq.toNat lc) (by rw [List.length_take]; omega) (by omega) (hok.take _) rfl (by omega) A) (fun v w hv => ?_)
                      obtain ⟨qa, qc, rfl, H⟩ := hv
                      refine l_nil ⟨(fun h => nomatch h), ?_⟩
                      refine r_ptup rfl rfl rfl ?_
                      refine r_pslice rfl rfl rfl ?_
                      refine r_pint rfl rfl rfl ?_
                      refine r_pslice rfl rfl rfl ?_
                      refine r_pint rfl rfl rfl ?_
                      refine r_nil ?_
                      refine ⟨by repeat' first | exact Agr.mix _ _ _ | exact Agr.refl _ _ | refine Agr.inner rfl ?_ | refine Agr.upd rfl ?_ | refine Agr.updL' rfl ?_, ?_⟩
                      first
                      | (exfalso; omega)
                      | (have ha : askT es kd A Bq = incR (es.take Bq.toNat) A := by rw [show askT es kd A Bq = inclT es A Bq from if_pos (by omega), inclT_ok (by unfold badN; omega)]
                         rw [← ha] at H
                         exact ⟨(qa, qc), ⟨by rw [ha]; rfl, by rw [ha]; rfl, trivial⟩, H⟩)
                    · try simp only [decide_eq_true_eq, decide_eq_false_iff_not, Bool.not_eq_true', Bool.not_eq_false', beq_iff_eq, beq_eq_false_iff_ne, bne_iff_ne, bne_eq_false_iff_eq, ne_eq, Int.not_lt, Int.not_le] at c8
                      refine w_seq ?_
                      refine w_region ?_
                      refine l_v rfl (q_fieldAddr rfl fo84_3 rfl) ?_
                      refine l_v rfl (q_load1 rfl c1_3 rfl (v := .int .i64 Bq) (H.cell 3 rfl rfl)) ?_
                      refine l_pbool rfl rfl ?_
                      refine l_pbool rfl rfl ?_
                      refine l_split 120 rfl (fun h120 => ?_) (fun h120 => ?_)
                      · try simp only [decide_eq_true_eq, decide_eq_false_iff_not, Bool.not_eq_true', Bool.not_eq_false', beq_iff_eq, beq_eq_false_iff_ne, bne_iff_ne, bne_eq_false_iff_eq, ne_eq, Int.not_lt, Int.not_le] at h120
                        refine l_v rfl (q_fieldAddr rfl fo84_3 rfl) ?_
                        refine l_v rfl (q_load1 rfl c1_3 rfl (v := .int .i64 Bq) (H.cell 3 rfl rfl)) ?_
                        refine l_pslice rfl rfl ?_
                        refine l_v rfl (q_lenSlice rfl el_22 rfl) ?_
                        refine l_pbool rfl rfl ?_
                        refine l_pickT (v := .bool _) rfl rfl rfl ?_
                        refine l_nil ?_
                        refine w_cond rfl (fun c9 => ?_) (fun c9 => ?_)
                        · try simp only [decide_eq_true_eq, decide_eq_false_iff_not, Bool.not_eq_true', Bool.not_eq_false', beq_iff_eq, beq_eq_false_iff_ne, bne_iff_ne, bne_eq_false_iff_eq, ne_eq, Int.not_lt, Int.not_le] at c9
                          refine w_drawT [6] [2, 5] [(0, 0), (1, 0), (2, 1), (3, 0), (4, 0), (5, 1), (6, 2), (7, 0), (8, 0), (9, 0), (10, 0), (11, 0)] mixed (by kernel_rfl) (fun _ _ _ h => fin_panic h) H (fun H => ?_)
                          refine r_pslice rfl rfl rfl ?_
                          refine r_w rfl rfl (fun w => q_fieldAddr rfl fo84_3 rfl) ?_
                          refine r_v rfl rfl (fun w hS => q_load1 rfl c1_3 rfl (v := .int .i64 Bq) (hS.cell 3 rfl rfl)) ?_
                          refine r_w rfl rfl (fun w => q_slice (h := Bq.toNat) rfl el_22 rfl Bnd.none (Bnd.mk (by omega)) Bnd.none (by simp)) ?_
                          refine r_w rfl rfl (fun w => q_fieldAddr rfl fo84_2 rfl) ?_
                          refine r_v rfl rfl (fun w hS => q_load1 rfl c1_3 rfl (v := .int .i64 A) (hS.cell 3 rfl rfl)) ?_
                          refine r_do rfl ?_
                          refine b_call rfl cb_38 rfl (rConsistency_ok (es := es.take Bq.toNat) (n := Bq.toNat) H (rdin_take5 (hrl.up 4 rfl) Bq.toNat lc) (by rw [List.length_take]; omega) (by omega) (hok.take _) (by omega) A) (fun v w hv => ?_)
                          obtain ⟨qa, qc, rfl, H⟩ := hv
                          refine l_nil ⟨(fun h => nomatch h), ?_⟩
                          refine r_ptup rfl rfl rfl ?_
                          refine r_pslice rfl rfl rfl ?_
                          refine r_pint rfl rfl rfl ?_
                          refine r_pslice rfl rfl rfl ?_
                          refine r_pint rfl rfl rfl ?_
                          refine r_nil ?_
                          refine ⟨by repeat' first | exact Agr.mix _ _ _ | exact Agr.refl _ _ | refine Agr.inner rfl ?_ | refine Agr.upd rfl ?_ | refine Agr.updL' rfl ?_, ?_⟩
                          first
                          | (exfalso; omega)
                          | (have ha : askT es kd A Bq = conR (es.take Bq.toNat) A := by rw [show askT es kd A Bq = conT es A Bq from if_neg (by omega), conT_ok (by unfold badN; omega)]
                             rw [← ha] at H
                             exact ⟨(qa, qc), ⟨by rw [ha]; rfl, by rw [ha]; rfl, trivial⟩, H⟩)
                        · try simp only [decide_eq_true_eq, decide_eq_false_iff_not, Bool.not_eq_true', Bool.not_eq_false', beq_iff_eq, beq_eq_false_iff_ne, bne_iff_ne, bne_eq_false_iff_eq, ne_eq, Int.not_lt, Int.not_le] at c9
                          refine w_skip ?_
                          refine ⟨by repeat' first | exact Agr.mix _ _ _ | exact Agr.refl _ _ | refine Agr.inner rfl ?_ | refine Agr.upd rfl ?_ | refine Agr.updL' rfl ?_, ?_⟩
                          first
                          | (exfalso; omega)
                          | (have ha := askT_bad (kd := kd) (A := A) (show badN es Bq by unfold badN; omega)
                             rw [ha] at H ⊢
                             exact ⟨(none, 0), ⟨rfl, rfl, trivial⟩, St.newRow H⟩)
                      · try simp only [decide_eq_true_eq, decide_eq_false_iff_not, Bool.not_eq_true', Bool.not_eq_false', beq_iff_eq, beq_eq_false_iff_ne, bne_iff_ne, bne_eq_false_iff_eq, ne_eq, Int.not_lt, Int.not_le] at h120
                        refine l_no rfl ?_
                        refine l_no rfl ?_
                        refine l_no rfl ?_
                        refine l_no rfl ?_
                        refine l_no rfl ?_
                        refine l_pickF (v := .bool _) rfl rfl rfl ?_
                        refine l_nil ?_
                        refine w_cond_f rfl ?_
                        refine w_skip ?_
                        refine ⟨by repeat' first | exact Agr.mix _ _ _ | exact Agr.refl _ _ | refine Agr.inner rfl ?_ | refine Agr.upd rfl ?_ | refine Agr.updL' rfl ?_, ?_⟩
                        first
                        | (exfalso; omega)
                        | (have ha := askT_bad (kd := kd) (A := A) (show badN es Bq by unfold badN; omega)
                           rw [ha] at H ⊢
                           exact ⟨(none, 0), ⟨rfl, rfl, trivial⟩, St.newRow H⟩)
                  · try simp only [decide_eq_true_eq, decide_eq_false_iff_not, Bool.not_eq_true', Bool.not_eq_false', beq_iff_eq, beq_eq_false_iff_ne, bne_iff_ne, bne_eq_false_iff_eq, ne_eq, Int.not_lt, Int.not_le] at h102
                    refine l_no rfl ?_
                    refine l_no rfl ?_
                    refine l_no rfl ?_
                    refine l_pickF (v := .bool _) rfl rfl rfl ?_
                    refine l_nil ?_
                    refine w_cond_f rfl ?_
                    refine w_seq ?_
                    refine w_region ?_
                    refine l_v rfl (q_fieldAddr rfl fo84_3 rfl) ?_
                    refine l_v rfl (q_load1 rfl c1_3 rfl (v := .int .i64 Bq) (H.cell 3 rfl rfl)) ?_
                    refine l_pbool rfl rfl ?_
                    refine l_pbool rfl rfl ?_
                    refine l_split 120 rfl (fun h120 => ?_) (fun h120 => ?_)
                    · try simp only [decide_eq_true_eq, decide_eq_false_iff_not, Bool.not_eq_true', Bool.not_eq_false', beq_iff_eq, beq_eq_false_iff_ne, bne_iff_ne, bne_eq_false_iff_eq, ne_eq, Int.not_lt, Int.not_le] at h120
                      refine l_v rfl (q_fieldAddr rfl fo84_3 rfl) ?_
                      refine l_v rfl (q_load1 rfl c1_3 rfl (v := .int .i64 Bq) (H.cell 3 rfl rfl)) ?_
                      refine l_pslice rfl rfl ?_
                      refine l_v rfl (q_lenSlice rfl el_22 rfl) ?_
                      refine l_pbool rfl rfl ?_
                      refine l_pickT (v := .bool _) rfl rfl rfl ?_
                      refine l_nil ?_
                      refine w_cond rfl (fun c10 => ?_) (fun c10 => ?_)
                      · try simp only [decide_eq_true_eq, decide_eq_false_iff_not, Bool.not_eq_true', Bool.not_eq_false', beq_iff_eq, beq_eq_false_iff_ne, bne_iff_ne, bne_eq_false_iff_eq, ne_eq, Int.not_lt, Int.not_le] at c10
                        refine w_drawT [6] [2, 5] [(0, 0), (1, 0), (2, 1), (3, 0), (4, 0), (5, 1), (6, 2), (7, 0), (8, 0), (9, 0), (10, 0), (11, 0)] mixed (by kernel_rfl) (fun _ _ _ h => fin_panic h) H (fun H => ?_)
                        refine r_pslice rfl rfl rfl ?_
                        refine r_w rfl rfl (fun w => q_fieldAddr rfl fo84_3 rfl) ?_
                        refine r_v rfl rfl (fun w hS => q_load1 rfl c1_3 rfl (v := .int .i64 Bq) (hS.cell 3 rfl rfl)) ?_
                        refine r_w rfl rfl (fun w => q_slice (h := Bq.toNat) rfl el_22 rfl Bnd.none (Bnd.mk (by omega)) Bnd.none (by simp)) ?_
                        refine r_w rfl rfl (fun w => q_fieldAddr rfl fo84_2 rfl) ?_
                        refine r_v rfl rfl (fun w hS => q_load1 rfl c1_3 rfl (v := .int .i64 A) (hS.cell 3 rfl rfl)) ?_
                        refine r_do rfl ?_
                        refine b_call rfl cb_38 rfl (rConsistency_ok (es := es.take Bq.toNat) (n := Bq.toNat) H (rdin_take5 (hrl.up 4 rfl) Bq.toNat lc) (by rw [List.length_take]; omega) (by omega) (hok.take _) (by omega) A) (fun v w hv => ?_)
                        obtain ⟨qa, qc, rfl, H⟩ := hv
                        refine l_nil ⟨(fun h => nomatch h), ?_⟩
                        refine r_ptup rfl rfl rfl ?_
                        refine r_pslice rfl rfl rfl ?_
                        refine r_pint rfl rfl rfl ?_
                        refine r_pslice rfl rfl rfl ?_
                        refine r_pint rfl rfl rfl ?_
                        refine r_nil ?_
                        refine ⟨by repeat' first | exact Agr.mix _ _ _ | exact Agr.refl _ _ | refine Agr.inner rfl ?_ | refine Agr.upd rfl ?_ | refine Agr.updL' rfl ?_, ?_⟩
                        first
                        | (exfalso; omega)
                        | (have ha : askT es kd A Bq = conR (es.take Bq.toNat) A := by rw [show askT es kd A Bq = conT es A Bq from if_neg (by omega), conT_ok (by unfold badN; omega)]
                           rw [← ha] at H
                           exact ⟨(qa, qc), ⟨by rw [ha]; rfl, by rw [ha]; rfl, trivial⟩, H⟩)
                      · try simp only [decide_eq_true_eq, decide_eq_false_iff_not, Bool.not_eq_true', Bool.not_eq_false', beq_iff_eq, beq_eq_false_iff_ne, bne_iff_ne, bne_eq_false_iff_eq, ne_eq, Int.not_lt, Int.not_le] at c10
                        refine w_skip ?_
                        refine ⟨by repeat' first | exact Agr.mix _ _ _ | exact Agr.refl _ _ | refine Agr.inner rfl ?_ | refine Agr.upd rfl ?_ | refine Agr.updL' rfl ?_, ?_⟩
                        first
                        | (exfalso; omega)
                        | (have ha := askT_bad (kd := kd) (A := A) (show badN es Bq by unfold badN; omega)
                           rw [ha] at H ⊢
                           exact ⟨(none, 0), ⟨rfl, rfl, trivial⟩, St.newRow H⟩)
                    · try simp only [decide_eq_true_eq, decide_eq_false_iff_not, Bool.not_eq_true', Bool.not_eq_false', beq_iff_eq, beq_eq_false_iff_ne, bne_iff_ne, bne_eq_false_iff_eq, ne_eq, Int.not_lt, Int.not_le] at h120
                      refine l_no rfl ?_
                      refine l_no rfl ?_
                      refine l_no rfl ?_
                      refine l_no rfl ?_
                      refine l_no rfl ?_
                      refine l_pickF (v := .bool _) rfl rfl rfl ?_
                      refine l_nil ?_
                      refine w_cond_f rfl ?_
                      refine w_skip ?_
                      refine ⟨by repeat' first | exact Agr.mix _ _ _ | exact Agr.refl _ _ | refine Agr.inner rfl ?_ | refine Agr.upd rfl ?_ | refine Agr.updL' rfl ?_, ?_⟩
                      first
                      | (exfalso; omega)
                      | (have ha := askT_bad (kd := kd) (A := A) (show badN es Bq by unfold badN; omega)
                         rw [ha] at H ⊢
                         exact ⟨(none, 0), ⟨rfl, rfl, trivial⟩, St.newRow H⟩)
                · try simp only [decide_eq_true_eq, decide_eq_false_iff_not, Bool.not_eq_true', Bool.not_eq_false', beq_iff_eq, beq_eq_false_iff_ne, bne_iff_ne, bne_eq_false_iff_eq, ne_eq, Int.not_lt, Int.not_le] at h95
                  refine l_no rfl ?_
                  refine l_no rfl ?_
                  refine l_no rfl ?_
                  refine l_no rfl ?_
                  refine l_no rfl ?_
                  refine l_pickF (v := .bool _) rfl rfl rfl ?_
                  refine l_pbool rfl rfl ?_
                  refine l_no rfl ?_
                  refine l_no rfl ?_
                  refine l_no rfl ?_
                  refine l_pickF (v := .bool _) rfl rfl rfl ?_
                  refine l_nil ?_
                  refine w_cond_f rfl ?_
                  refine w_seq ?_
                  refine w_region ?_
                  refine l_v rfl (q_fieldAddr rfl fo84_3 rfl) ?_
                  refine l_v rfl (q_load1 rfl c1_3 rfl (v := .int .i64 Bq) (H.cell 3 rfl rfl)) ?_
                  refine l_pbool rfl rfl ?_
                  refine l_pbool rfl rfl ?_
                  refine l_split 120 rfl (fun h120 => ?_) (fun h120 => ?_)
                  · try simp only [decide_eq_true_eq, decide_eq_false_iff_not, Bool.not_eq_true', Bool.not_eq_false', beq_iff_eq, beq_eq_false_iff_ne, bne_iff_ne, bne_eq_false_iff_eq, ne_eq, Int.not_lt, Int.not_le] at h120
                    refine l_v rfl (q_fieldAddr rfl fo84_3 rfl) ?_
                    refine l_v rfl (q_load1 rfl c1_3 rfl (v := .int .i64 Bq) (H.cell 3 rfl rfl)) ?_
                    refine l_pslice rfl rfl ?_
                    refine l_v rfl (q_lenSlice rfl el_22 rfl) ?_
                    refine l_pbool rfl rfl ?_
                    refine l_pickT (v := .bool _) rfl rfl rfl ?_
                    refine l_nil ?_
                    refine w_cond rfl (fun c11 => ?_) (fun c11 => ?_)
                    · try simp only [decide_eq_true_eq, decide_eq_false_iff_not, Bool.not_eq_true', Bool.not_eq_false', beq_iff_eq, beq_eq_false_iff_ne, bne_iff_ne, bne_eq_false_iff_eq, ne_eq, Int.not_lt, Int.not_le] at c11
                      refine w_drawT [6] [2, 5] [(0, 0), (1, 0), (2, 1), (3, 0), (4, 0), (5, 1), (6, 2), (7, 0), (8, 0), (9, 0), (10, 0), (11, 0)] mixed (by kernel_rfl) (fun _ _ _ h => fin_panic h) H (fun H => ?_)
                      refine r_pslice rfl rfl rfl ?_
                      refine r_w rfl rfl (fun w => q_fieldAddr rfl fo84_3 rfl) ?_
                      refine r_v rfl rfl (fun w hS => q_load1 rfl c1_3 rfl (v := .int .i64 Bq) (hS.cell 3 rfl rfl)) ?_
                      refine r_w rfl rfl (fun w => q_slice (h := Bq.toNat) rfl el_22 rfl Bnd.none (Bnd.mk (by omega)) Bnd.none (by simp)) ?_
                      refine r_w rfl rfl (fun w => q_fieldAddr rfl fo84_2 rfl) ?_
                      refine r_v rfl rfl (fun w hS => q_load1 rfl c1_3 rfl (v := .int .i64 A) (hS.cell 3 rfl rfl)) ?_
                      refine r_do rfl ?_
                      refine b_call rfl cb_38 rfl (rConsistency_ok (es := es.take Bq.toNat) (n := Bq.toNat) H (rdin_take5 (hrl.up 4 rfl) Bq.toNat lc) (by rw [List.length_take]; omega) (by omega) (hok.take _) (by omega) A) (fun v w hv => ?_)
                      obtain ⟨qa, qc, rfl, H⟩ := hv
                      refine l_nil ⟨(fun h => nomatch h), ?_⟩
                      refine r_ptup rfl rfl rfl ?_
                      refine r_pslice rfl rfl rfl ?_
                      refine r_pint rfl rfl rfl ?_
                      refine r_pslice rfl rfl rfl ?_
                      refine r_pint rfl rfl rfl ?_
                      refine r_nil ?_
                      refine ⟨by repeat' first | exact Agr.mix _ _ _ | exact Agr.refl _ _ | refine Agr.inner rfl ?_ | refine Agr.upd rfl ?_ | refine Agr.updL' rfl ?_, ?_⟩
                      first
                      | (exfalso; omega)
                      | (have ha : askT es kd A Bq = conR (es.take Bq.toNat) A := by rw [show askT es kd A Bq = conT es A Bq from if_neg (by omega), conT_ok (by unfold badN; omega)]
                         rw [← ha] at H
                         exact ⟨(qa, qc), ⟨by rw [ha]; rfl, by rw [ha]; rfl, trivial⟩, H⟩)
                    · try simp only [decide_eq_true_eq, decide_eq_false_iff_not, Bool.not_eq_true', Bool.not_eq_false', beq_iff_eq, beq_eq_false_iff_ne, bne_iff_ne, bne_eq_false_iff_eq, ne_eq, Int.not_lt, Int.not_le] at c11
                      refine w_skip ?_
                      refine ⟨by repeat' first | exact Agr.mix _ _ _ | exact Agr.refl _ _ | refine Agr.inner rfl ?_ | refine Agr.upd rfl ?_ | refine Agr.updL' rfl ?_, ?_⟩
                      first
                      | (exfalso; omega)
                      | (have ha := askT_bad (kd := kd) (A := A) (show badN es Bq by unfold badN; omega)
                         rw [ha] at H ⊢
                         exact ⟨(none, 0), ⟨rfl, rfl, trivial⟩, St.newRow H⟩)
                  · try simp only [decide_eq_true_eq, decide_eq_false_iff_not, Bool.not_eq_true', Bool.not_eq_false', beq_iff_eq, beq_eq_false_iff_ne, bne_iff_ne, bne_eq_false_iff_eq, ne_eq, Int.not_lt, Int.not_le] at h120
                    refine l_no rfl ?_
                    refine l_no rfl ?_
                    refine l_no rfl ?_
                    refine l_no rfl ?_
                    refine l_no rfl ?_
                    refine l_pickF (v := .bool _) rfl rfl rfl ?_
                    refine l_nil ?_
                    refine w_cond_f rfl ?_
                    refine w_skip ?_
                    refine ⟨by repeat' first | exact Agr.mix _ _ _ | exact Agr.refl _ _ | refine Agr.inner rfl ?_ | refine Agr.upd rfl ?_ | refine Agr.updL' rfl ?_, ?_⟩
                    first
                    | (exfalso; omega)
                    | (have ha := askT_bad (kd := kd) (A := A) (show badN es Bq by unfold badN; omega)
                       rw [ha] at H ⊢
                       exact ⟨(none, 0), ⟨rfl, rfl, trivial⟩, St.newRow H⟩)
              · rintro ⟨qa, qc⟩ ρ1 w H
                refine w_seq ?_
                refine w_region ?_
                refine l_pint rfl rfl ?_
                refine l_pint rfl rfl ?_
                refine l_pbool rfl rfl ?_
                refine l_pbool rfl rfl ?_
                refine l_split 140 rfl (fun h140 => ?_) (fun h140 => absurd h140 (by simp))
                try simp only [decide_eq_true_eq, decide_eq_false_iff_not, Bool.not_eq_true', Bool.not_eq_false', beq_iff_eq, beq_eq_false_iff_ne, bne_iff_ne, bne_eq_false_iff_eq, ne_eq, Int.not_lt, Int.not_le] at h140
                refine l_pslice rfl rfl ?_
                refine l_pslice rfl rfl ?_
                refine b_call rfl cb_32 rfl (same_ok (p := (askT es kd A Bq).1) (q := (askT es kd A Bq).1) H hpk.1 hpk.1 (RdIn.row 1 rfl) (RdIn.row 0 rfl) (by omega)) (fun v w hv => ?_)
                obtain ⟨rfl, H⟩ := hv
                refine l_pickT (v := .bool _) rfl rfl rfl ?_
                refine l_pbool rfl rfl ?_
                refine l_nil ?_
                refine w_seq ?_
                refine w_seq ?_
                refine w_region ?_
                refine l_pint rfl rfl ?_
                refine l_nil ?_
                refine w_block ?_
                refine w_loopG (G := Nat × List (List UInt8)) [14, 145, 146, 147, 148, 149, 150, 151, 152, 153, 154] (fun ⟨i, pl⟩ => [(14, .int .i64 ((i : Nat) : Int))]) (fun m ⟨i, pl⟩ w => (m + i = (askT es kd A Bq).1.length ∧ PathOk pl ∧ pl.length = (askT es kd A Bq).1.length) ∧ St W w (row 24 32 qa (askT es kd A Bq).1.length qc (pathV (askT es kd A Bq).1) :: row 24 32 pa (askT es kd A Bq).1.length pc (pathV pl) :: treeL b a c es E (blk b5 (opV kd A Bq e) 84 :: F))) (fun _ => rfl) ?_ ?_
                · exact ⟨_, (0, (askT es kd A Bq).1), ⟨rfl, trivial⟩, ⟨rfl, hpk.1, rfl⟩, H⟩
                · rintro m ⟨i, pl⟩ ρ1 w ⟨⟨hmi, hpo, hpl⟩, H⟩
                  refine w_seq ?_
                  refine w_seq ?_
                  refine w_region ?_
                  refine l_pint rfl rfl ?_
                  refine l_pslice rfl rfl ?_
                  refine l_v rfl (q_lenSlice rfl el_42 rfl) ?_
                  refine l_pbool rfl rfl ?_
                  refine l_nil ?_
                  refine w_cond rfl (fun c12 => ?_) (fun c12 => ?_)
                  · try simp only [decide_eq_true_eq, decide_eq_false_iff_not, Bool.not_eq_true', Bool.not_eq_false', beq_iff_eq, beq_eq_false_iff_ne, bne_iff_ne, bne_eq_false_iff_eq, ne_eq, Int.not_lt, Int.not_le] at c12
                    obtain ⟨bp, hpa, _⟩ := row_addr (k := 0) H (i := 1) rfl (List.getElem?_eq_getElem (by rw [pathV_len _ hpo]; omega))
                    refine w_skip ?_
                    refine w_seq ?_
                    refine w_block ?_
                    refine w_region ?_
                    refine l_pslice rfl rfl ?_
                    refine l_pint rfl rfl ?_
                    refine l_v rfl (q_buildArr (cs := nineL.map B) rfl ar_24 ze_24 rfl) ?_
                    refine l_v rfl (q_indexSliceE i rfl el_42 rfl hpa rfl rfl (by omega)) ?_
                    refine b_storeRow (vs := nineL.map B) (k := 0 + i * 32) rfl sz_24 rfl rfl rfl rfl (all1 _) H 1 rfl hpa (by rw [pathV_len _ hpo]; simp [nineL]; omega) (path_set hpo rfl (by omega)) (fun w H => ?_)
                    refine l_nil ?_
                    refine w_region ?_
                    refine l_pint rfl rfl ?_
                    first | refine l_v rfl (q_add rfl rfl rfl (by simp only [inK]; omega)) ?_ | refine l_pint rfl rfl ?_
                    refine l_pint rfl rfl ?_
                    refine l_nil ?_
                    refine ⟨by repeat' first | exact Agr.mix _ _ _ | exact Agr.refl _ _ | refine Agr.inner rfl ?_ | refine Agr.upd rfl ?_ | refine Agr.updL' rfl ?_, ?_⟩
                    exact ⟨m - 1, (i + 1, pl.set i nineL), by omega, ⟨by exact congrArg (Value.int IntKind.i64) (Int.natCast_succ i).symm, trivial⟩, ⟨by omega, hpo.set rfl i, by rw [List.length_set]; exact hpl⟩, H⟩
                  · try simp only [decide_eq_true_eq, decide_eq_false_iff_not, Bool.not_eq_true', Bool.not_eq_false', beq_iff_eq, beq_eq_false_iff_ne, bne_iff_ne, bne_eq_false_iff_eq, ne_eq, Int.not_lt, Int.not_le] at c12
                    refine w_exit ?_
                    refine w_seq ?_
                    refine w_region ?_
                    refine l_pbool rfl rfl ?_
                    refine l_pbool rfl rfl ?_
                    refine l_nil ?_
                    refine w_ret ?_
                    refine fin1 (v := .bool _) rfl ?_
                    exact ⟨congrArg Value.bool (by simp), ((H.erase 0).erase 0).erase 2⟩
          · try simp only [decide_eq_true_eq, decide_eq_false_iff_not, Bool.not_eq_true', Bool.not_eq_false', beq_iff_eq, beq_eq_false_iff_ne, bne_iff_ne, bne_eq_false_iff_eq, ne_eq, Int.not_lt, Int.not_le] at c6
            refine w_skip ?_
            refine w_seq ?_
            refine w_region ?_
            refine l_pbool rfl rfl ?_
            refine l_nil ?_
            refine w_ret ?_
            refine fin1 (v := .bool _) rfl ?_
            exact ⟨rfl, H.erase 2⟩

end Go.Proofs.Ytcmmhpkgjcepdaa
