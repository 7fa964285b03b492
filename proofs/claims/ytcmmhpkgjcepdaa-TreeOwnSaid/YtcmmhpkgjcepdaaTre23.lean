/- What the laws hand over, as a Given that keeps one log of entries and its copy. -/
import Derived.Test.YtcmmhpkgjcepdaaTre22
namespace Go.Proofs.Ytcmmhpkgjcepdaa
open Go.EW
attribute [local irreducible] EW.W EW.L EW.fin block8 outB shaL
set_option linter.unusedVariables false
set_option linter.unusedSimpArgs false
attribute [local irreducible] swp headH leafH nodeH inclN sidesN bothN lenN splitN upN incdR extR pathV

theorem oneE (es : List Ent) : ∀ v ∈ entsV es, v.oneCell' = true := by
  intro v hv
  obtain ⟨e, _, h⟩ := List.mem_flatMap.1 hv
  unfold Ent.cells at h
  simp only [List.mem_cons, List.not_mem_nil, or_false] at h
  rcases h with rfl | rfl | rfl | rfl | rfl <;> rfl
def markE : Ent := ⟨-77, -88, 0, 0, ⟨#[]⟩⟩
theorem entsV_one (e : Ent) : entsV [e] = e.cells := by simp [entsV]
theorem EntsOk.mark {es : List Ent} (h : EntsOk es) : EntsOk (es ++ [markE]) := fun e he => by
  rcases List.mem_append.1 he with he | he
  · exact h e he
  · rw [List.mem_singleton.1 he]; decide
def nl : Value := .slice none 0 0
/-- entries that were given, with a mark behind them, and their copy, in a Given that has no others -/
def givenE (b : Nat) (o1 o2 a1 a2 : Option Addr) (c1 c2 p1 p2 : Nat) (es : List Ent) (F : List Seg) : List Seg :=
  blk b [nl, nl, nl, nl, .slice o1 1 c1, .slice o2 1 c2, nl, nl, nl, nl] 35 :: row 22 1 o1 1 c1 [.slice a1 (es.length + 1) p1] :: row 22 1 o2 1 c2 [.slice a2 (es.length + 1) p2] :: row 28 5 a1 (es.length + 1) p1 (entsV (es ++ [markE])) :: row 28 5 a2 (es.length + 1) p2 (entsV (es ++ [markE])) :: F
theorem entsV_len2 (es : List Ent) : (entsV es).length = es.length * 5 := by rw [entsV_len]; omega
theorem fill_ent (e : Ent) : fillL (fun i => some (i * 5, 5)) (repL 1 [.int .i64 0, .int .i64 0, .int .i64 0, .int .i64 0, .string ⟨#[]⟩]) [(0, Value.agg e.cells.toArray)] = some e.cells := rfl

theorem CopyEntries_ok {W w : World} {F : List Seg} (H : St W w F) {a : Option Addr} {n c : Nat} {es : List Ent} (hr : RdIn W F a (entsV es)) (hl : es.length = n) (hn : n * 48 ≤ 140737488355328) :
    Ok Try.prog 52 [.slice a n c].toArray w (fun r w' => ∃ a' c', r = .slice a' n c' ∧ St W w' (row 28 5 a' n c' (entsV es) :: F)) := by
  refine enter (n := 5) (rs := #[.tmp 2]) Try.func52 rfl rfl rfl rfl ?_
  refine w_seq ?_
  refine w_region ?_
  refine l_pslice rfl rfl ?_
  refine l_nil ?_
  refine w_seq ?_
  refine w_region ?_
  refine l_pslice rfl rfl ?_
  have H := St.newRow (T := 28) (sz := 5) H
  refine b_append rfl el_22 ze_28 rfl rfl rfl H 0 rfl (ys := entsV es) (hr.use H 1 rfl) (by rw [entsV_len2]; omega) (oneE _) ⟨by omega, by simp only [maxLen]; omega⟩ (fun a4 c4 w H => ?_)
  refine l_pslice rfl rfl ?_
  refine l_nil ?_
  refine w_ret ?_
  refine fin1 (v := .slice _ _ _) rfl ?_
  subst hl
  refine ⟨a4, c4, congrArg (fun x => Value.slice a4 x c4) (by omega), ?_⟩
  have H2 := H
  rw [Nat.zero_add] at H2
  exact H2

theorem SameEntries_ok {W w : World} {F : List Seg} (H : St W w F) {a a2 : Option Addr} {n c c2 : Nat} {es : List Ent} (h1 : RdIn W F a (entsV es)) (h2 : RdIn W F a2 (entsV es)) (hl : es.length = n) (hn : n ≤ 140737488355328) :
    Ok Try.prog 63 [.slice a n c, .slice a2 n c2].toArray w (fun r w' => r = .bool true ∧ St W w' F) := by
  refine enter (n := 26) (rs := #[.tmp 4]) Try.func63 rfl rfl rfl rfl ?_
  refine w_seq ?_
  refine w_region ?_
  refine l_pbool rfl rfl ?_
  refine l_nil ?_
  refine w_seq ?_
  refine w_seq ?_
  refine w_region ?_
  refine l_pslice rfl rfl ?_
  refine l_v rfl (q_lenSlice rfl el_22 rfl) ?_
  refine l_pslice rfl rfl ?_
  refine l_v rfl (q_lenSlice rfl el_22 rfl) ?_
  refine l_pbool rfl rfl ?_
  refine l_nil ?_
  refine w_cond rfl (fun c1 => ?_) (fun c1 => ?_)
  · try simp only [decide_eq_true_eq, decide_eq_false_iff_not, Bool.not_eq_true', Bool.not_eq_false', beq_iff_eq, beq_eq_false_iff_ne, bne_iff_ne, bne_eq_false_iff_eq, ne_eq, Int.not_lt, Int.not_le] at c1
    exact absurd c1 (by simp)
  · try simp only [decide_eq_true_eq, decide_eq_false_iff_not, Bool.not_eq_true', Bool.not_eq_false', beq_iff_eq, beq_eq_false_iff_ne, bne_iff_ne, bne_eq_false_iff_eq, ne_eq, Int.not_lt, Int.not_le] at c1
    refine w_skip ?_
    refine w_seq ?_
    refine w_seq ?_
    refine w_region ?_
    refine l_pint rfl rfl ?_
    refine l_nil ?_
    refine w_block ?_
    refine w_loopG (G := Nat) [4, 5, 11, 12, 13, 14, 15, 16, 17, 18, 19, 20, 21, 22, 23, 24, 25] (fun i => [(5, .int .i64 ((i : Nat) : Int))]) (fun m i w => m + i = es.length ∧ St W w F) (fun _ => rfl) ?_ ?_
    · exact ⟨es.length, 0, ⟨rfl, trivial⟩, by omega, H⟩
    · rintro m i ρ1 w ⟨hmi, H⟩
      refine w_seq ?_
      refine w_seq ?_
      refine w_region ?_
      refine l_pint rfl rfl ?_
      refine l_pslice rfl rfl ?_
      refine l_v rfl (q_lenSlice rfl el_22 rfl) ?_
      refine l_pbool rfl rfl ?_
      refine l_nil ?_
      refine w_cond rfl (fun c2 => ?_) (fun c2 => ?_)
      · try simp only [decide_eq_true_eq, decide_eq_false_iff_not, Bool.not_eq_true', Bool.not_eq_false', beq_iff_eq, beq_eq_false_iff_ne, bne_iff_ne, bne_eq_false_iff_eq, ne_eq, Int.not_lt, Int.not_le] at c2
        have hi : i < es.length := by omega
        obtain ⟨b1, o1, ha1, _⟩ := ent_cells (h1.use H 0 rfl) hi
        obtain ⟨b2, o2, ha2, _⟩ := ent_cells (h2.use H 0 rfl) hi
        refine w_skip ?_
        refine w_seq ?_
        refine w_block ?_
        refine w_seq ?_
        refine w_drawT [] [3, 7] [(0, 0), (1, 0), (2, 0), (3, 1), (4, 0), (5, 0), (6, 0), (7, 1), (8, 0)] mixed (by kernel_rfl) (fun _ _ _ h => fin_panic h) H (fun H => ?_)
        refine r_pslice rfl rfl rfl ?_
        refine r_pint rfl rfl rfl ?_
        refine r_w rfl rfl (fun w => q_indexSliceE i rfl el_22 rfl ha1 rfl rfl (by omega)) ?_
        refine r_v rfl rfl (fun w hS => q_loadN (vs := es[i].cells) rfl ag_28 rfl rfl (ent_at2 ha1 (h1.use hS 0 rfl) hi)) ?_
        refine r_pslice rfl rfl rfl ?_
        refine r_pint rfl rfl rfl ?_
        refine r_w rfl rfl (fun w => q_indexSliceE i rfl el_22 rfl ha2 rfl rfl (by omega)) ?_
        refine r_v rfl rfl (fun w hS => q_loadN (vs := es[i].cells) rfl ag_28 rfl rfl (ent_at2 ha2 (h2.use hS 0 rfl) hi)) ?_
        refine r_w rfl rfl (fun w => q_neqEnt rfl rfl rfl) ?_
        refine r_nil ?_
        refine w_cond rfl (fun c3 => ?_) (fun c3 => ?_)
        · try simp only [decide_eq_true_eq, decide_eq_false_iff_not, Bool.not_eq_true', Bool.not_eq_false', beq_iff_eq, beq_eq_false_iff_ne, bne_iff_ne, bne_eq_false_iff_eq, ne_eq, Int.not_lt, Int.not_le] at c3
          exact absurd (entEq_iff.2 (rfl : es[i] = es[i])) (by rw [c3]; decide)
        · try simp only [decide_eq_true_eq, decide_eq_false_iff_not, Bool.not_eq_true', Bool.not_eq_false', beq_iff_eq, beq_eq_false_iff_ne, bne_iff_ne, bne_eq_false_iff_eq, ne_eq, Int.not_lt, Int.not_le] at c3
          refine w_skip ?_
          refine w_region ?_
          refine l_pint rfl rfl ?_
          first | refine l_v rfl (q_add rfl rfl rfl (by simp only [inK]; omega)) ?_ | refine l_pint rfl rfl ?_
          refine l_pint rfl rfl ?_
          refine l_nil ?_
          refine ⟨by repeat' first | exact Agr.mix _ _ _ | exact Agr.refl _ _ | refine Agr.inner rfl ?_ | refine Agr.upd rfl ?_ | refine Agr.updL' rfl ?_, ?_⟩
          exact ⟨m - 1, i + 1, by omega, ⟨by exact congrArg (Value.int IntKind.i64) (Int.natCast_succ i).symm, trivial⟩, by omega, H⟩
      · try simp only [decide_eq_true_eq, decide_eq_false_iff_not, Bool.not_eq_true', Bool.not_eq_false', beq_iff_eq, beq_eq_false_iff_ne, bne_iff_ne, bne_eq_false_iff_eq, ne_eq, Int.not_lt, Int.not_le] at c2
        refine w_exit ?_
        refine w_seq ?_
        refine w_region ?_
        refine l_pbool rfl rfl ?_
        refine l_nil ?_
        refine w_ret ?_
        refine fin1 (v := .bool _) rfl ?_
        exact ⟨rfl, H⟩

theorem Entries_ok {W w : World} {F : List Seg} {b : Nat} (H : St W w (blk b [nl, nl, nl, nl, nl, nl, nl, nl, nl, nl] 35 :: F)) {a : Option Addr} {n c : Nat} {es : List Ent} (hr : RdIn W F a (entsV es)) (hl : es.length = n) (hn : n * 48 ≤ 140737488351232) :
    Ok Try.prog 15 [.pointer (some ⟨b, 0, none⟩), .slice a n c].toArray w (fun r w' => ∃ o1 o2 a1 a2 c1 c2 p1 p2, r = .slice a1 n p1 ∧ St W w' (givenE b o1 o2 a1 a2 c1 c2 p1 p2 es F)) := by
  refine enter (n := 36) (rs := #[.tmp 4]) Try.func15 rfl rfl rfl rfl ?_
  refine w_seq ?_
  refine w_region ?_
  refine l_pslice rfl rfl ?_
  refine l_nil ?_
  refine w_seq ?_
  refine w_region ?_
  refine l_pslice rfl rfl ?_
  refine b_call rfl cb_52 rfl (CopyEntries_ok H (hr.up 1 rfl) hl (by omega)) (fun v w hv => ?_)
  obtain ⟨a7, c7, rfl, H⟩ := hv
  refine l_v rfl (q_build (cs := markE.cells) rfl sp_28 rfl) ?_
  refine b_buildSlice (cs := markE.cells) rfl el_22 ze_28 rfl rfl (fill_ent _) H (fun b9 w H => ?_)
  refine b_append rfl el_22 ze_28 rfl rfl rfl H 1 rfl (ys := markE.cells) (Rd.mk (H.cells0 0 rfl)) rfl (by rw [← entsV_one]; exact oneE _) ⟨by omega, by simp only [maxLen]; omega⟩ (fun a10 c10 w H => ?_)
  have H : St W w (row 28 5 a10 (n + 1) c10 (entsV (es ++ [markE])) :: blk b [nl, nl, nl, nl, nl, nl, nl, nl, nl, nl] 35 :: F) := by
    rw [entsV_append, entsV_one]; exact H.drop1
  refine l_pslice rfl rfl ?_
  refine l_nil ?_
  refine w_seq ?_
  refine w_region ?_
  refine l_pptr rfl rfl ?_
  refine l_pptr rfl rfl ?_
  refine l_pptr rfl rfl ?_
  refine l_v rfl (q_fieldAddr rfl fo35_4 rfl) ?_
  refine l_v rfl (q_load1 rfl c1_31 rfl (H.cell 1 rfl rfl)) ?_
  refine l_pslice rfl rfl ?_
  refine b_buildSlice (cs := [.slice a10 (n + 1) c10]) rfl el_31 ze_22 rfl rfl rfl (St.newRow (T := 22) (sz := 1) H) (fun b17 w H => ?_)
  refine b_append rfl el_31 ze_22 rfl rfl rfl H 1 rfl (Rd.mk (H.cells0 0 rfl)) rfl (fun u hu => by obtain rfl := List.mem_singleton.1 hu; rfl) ⟨by omega, by simp only [maxLen]; omega⟩ (fun a18 c18 w H => ?_)
  refine l_pptr rfl rfl ?_
  refine l_v rfl (q_fieldAddr rfl fo35_4 rfl) ?_
  refine b_store (vs := [.slice a18 1 c18]) rfl sz_31 rfl rfl rfl rfl rfl H 3 rfl rfl rfl (fun w H => ?_)
  have H := H.drop1
  refine l_nil ?_
  refine w_seq ?_
  refine w_drawT [8, 11] [4] [(0, 0), (1, 0), (2, 0), (3, 0), (4, 1), (5, 0), (6, 2), (7, 2), (8, 2), (9, 0), (10, 0), (11, 2)] mixed (by kernel_rfl) (fun _ _ _ h => fin_panic h) H (fun H => ?_)
  refine r_pptr rfl rfl rfl ?_
  refine r_pptr rfl rfl rfl ?_
  refine r_pptr rfl rfl rfl ?_
  refine r_w rfl rfl (fun w => q_fieldAddr rfl fo35_5 rfl) ?_
  refine r_v rfl rfl (fun w hS => q_load1 rfl c1_31 rfl (hS.cell 2 rfl rfl)) ?_
  refine r_pslice rfl rfl rfl ?_
  refine r_do rfl ?_
  refine b_call rfl cb_52 rfl (CopyEntries_ok H (es := es ++ [markE]) (RdIn.row 1 rfl) (by simp [hl]) (by omega)) (fun v w hv => ?_)
  obtain ⟨a27, c27, rfl, H⟩ := hv
  refine l_nil ⟨fun _ _ => (by first | exact H | exact H.drop1 | exact H.drop1.drop1 | exact H.drop1.drop1.drop1), ?_⟩
  refine r_do rfl ?_
  refine b_buildSlice (cs := [.slice a27 (n + 1) c27]) rfl el_31 ze_22 rfl rfl rfl (St.newRow (T := 22) (sz := 1) H) (fun b28 w H => ?_)
  refine l_nil ⟨fun _ _ => (by first | exact H | exact H.drop1 | exact H.drop1.drop1 | exact H.drop1.drop1.drop1), ?_⟩
  refine r_do rfl ?_
  refine b_append rfl el_31 ze_22 rfl rfl rfl H 1 rfl (Rd.mk (H.cells0 0 rfl)) rfl (fun u hu => by obtain rfl := List.mem_singleton.1 hu; rfl) ⟨by omega, by simp only [maxLen]; omega⟩ (fun a29 c29 w H => ?_)
  refine l_nil ⟨(fun h => nomatch h), ?_⟩
  refine r_pptr rfl rfl rfl ?_
  refine r_w rfl rfl (fun w => q_fieldAddr rfl fo35_5 rfl) ?_
  refine r_do rfl ?_
  refine b_store (vs := [.slice a29 1 c29]) rfl sz_31 rfl rfl rfl rfl rfl H 5 rfl rfl rfl (fun w H => ?_)
  refine l_nil ⟨(fun h => nomatch h), ?_⟩
  refine r_nil ?_
  refine w_seq ?_
  refine w_region ?_
  refine l_pslice rfl rfl ?_
  refine l_pslice rfl rfl ?_
  refine l_v rfl (q_lenSlice rfl el_22 rfl) ?_
  refine l_v rfl (q_slice (h := n) rfl el_22 rfl Bnd.none (Bnd.nat (by have := (H.rowInv (i := 4) rfl).2.1; omega)) Bnd.none (by simp)) ?_
  refine l_pslice rfl rfl ?_
  refine l_nil ?_
  refine w_ret ?_
  refine fin1 (v := .slice _ _ _) rfl ?_
  subst hl
  refine ⟨a18, a29, a10, a27, c18, c29, c10, c27, ?_, ?_⟩
  · show Value.slice _ _ _ = _
    rw [subA_z]; rfl
  · exact H.drop1.pick [4, 2, 0, 3, 1] (pre := [_, _, _, _, _]) rfl rfl

end Go.Proofs.Ytcmmhpkgjcepdaa
