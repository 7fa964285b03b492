/- The digest's Join and Sum do what their contracts say. -/
import Derived.Test.YtcmmbjplekgihaaDig9
namespace Go.Proofs.Ytcmmbjplekgihaa
open Go.EW
attribute [local irreducible] EW.W EW.L EW.fin block8 outB parA pgo hexL shaL digitI
set_option linter.unusedVariables false
set_option linter.unusedSimpArgs false

theorem RdIn.blk0 {W : World} {S : List Seg} {b : Nat} {cs : List Value} {T : TypeId} (i : Nat) (hi : S[i]? = some (EW.blk0 b cs T)) : RdIn W S (some ⟨b, 0, none⟩) cs := fun w S' H =>
  Rd.mk (H.cells0 (S'.length + i) (by rw [List.getElem?_append_right (by omega)]; simpa using hi))
theorem rd_cell {w : World} {a : Option Addr} {xs : List Value} {k : Nat} {x : Value} (h : Rd w a xs) (hk : xs[k]? = some x) : ∃ b o, a = some ⟨b, o, none⟩ ∧ w.cell? ⟨b, o + k * 1, none⟩ = some x := by
  obtain ⟨b, o, ha, hc⟩ := h k x hk
  exact ⟨b, o, ha, by rw [Nat.mul_one]; exact hc⟩
/-- a part: where its bytes lie, how much room, the bytes -/
abbrev Part := Option Addr × Nat × List UInt8
def pv (p : Part) : Value := .slice p.1 p.2.2.length p.2.1
def joinL (ps : List Part) : List UInt8 := ps.flatMap (·.2.2)
theorem joinL_snoc {ps : List Part} {i : Nat} (hi : i < ps.length) : joinL (ps.take (i + 1)) = joinL (ps.take i) ++ ps[i].2.2 := by
  unfold joinL
  rw [List.take_add_one, List.getElem?_eq_getElem hi, List.flatMap_append]
  simp only [Option.toList_some, List.flatMap_cons, List.flatMap_nil, List.append_nil]
theorem joinL_le (ps : List Part) (i : Nat) : (joinL (ps.take i)).length ≤ (joinL ps).length := by
  conv => rhs; rw [← List.take_append_drop i ps]
  unfold joinL
  rw [List.flatMap_append, List.length_append]; omega
theorem shaL_len (l : List UInt8) : (shaL l).length = 32 := by unfold shaL; rw [outB_len]
/-- a part that can be read, and is not too long -/
def PartOk (W : World) (F : List Seg) (p : Part) : Prop := RdIn W F p.1 (p.2.2.map B) ∧ p.2.2.length ≤ p.2.1 ∧ p.2.2.length ≤ 140737488355200

theorem Join_ok {W w : World} {F : List Seg} (H : St W w F) {a : Option Addr} {n cap : Nat} {ps : List Part} (hr : RdIn W F a (ps.map pv)) (hn : n = ps.length) (hp : ∀ p ∈ ps, PartOk W F p) (ht : (joinL ps).length ≤ 576460752303423488) (hps : ps.length ≤ 140737488355328) :
    Ok Try.prog 11 [.slice a n cap].toArray w (fun v w' => v = .agg ((shaL (joinL ps)).map B).toArray ∧ St W w' F) := by
  refine enter (n := 19) (rs := #[.cell 2 32]) Try.func11 rfl rfl rfl rfl ?_
  refine w_seq ?_
  refine w_region ?_
  refine b_alloc rfl ze_32 rfl H (fun b2 w H => ?_)
  refine l_nil ?_
  refine w_seq ?_
  refine w_region ?_
  refine b_call rfl cb_15 rfl (New_ok H) (fun v w hv => ?_)
  obtain ⟨b, rfl, H⟩ := hv
  refine l_pptr rfl rfl ?_
  refine l_nil ?_
  refine w_seq ?_
  refine w_seq ?_
  refine w_region ?_
  refine l_pslice rfl rfl ?_
  refine l_v rfl (q_lenSlice rfl el_23 rfl) ?_
  refine l_pint rfl rfl ?_
  refine l_nil ?_
  refine w_block ?_
  refine w_loopG (G := Nat × HS) [5, 9, 10, 11, 12, 13, 14, 15, 16] (fun ⟨i, h⟩ => [(9, .int .i64 ((i : Nat) : Int))]) (fun m ⟨i, h⟩ w => m + i = ps.length ∧ HOk h (joinL (ps.take i)) ∧ St W w (hashL b h (blk b2 z32 32 :: F))) (fun _ => rfl) ?_ ?_
  · exact ⟨ps.length, (0, newH), ⟨rfl, trivial⟩, by omega, HOk.new, H⟩
  · rintro m ⟨i, h⟩ ρ1 w ⟨hmi, hk, H⟩
    refine w_seq ?_
    refine w_region ?_
    refine l_pbool rfl rfl ?_
    refine l_nil ?_
    refine w_seq ?_
    refine w_cond rfl (fun c1 => ?_) (fun c1 => ?_)
    · try simp only [decide_eq_true_eq, decide_eq_false_iff_not, Bool.not_eq_true', Bool.not_eq_false', beq_iff_eq, beq_eq_false_iff_ne, bne_iff_ne, bne_eq_false_iff_eq, ne_eq, Int.not_lt, Int.not_le] at c1
      have hi' : i < ps.length := by omega
      have hjl := joinL_le ps i
      obtain ⟨b0, o0, ha0, hc0⟩ := rd_cell (x := pv ps[i]) (hr.use H 3 rfl) (by rw [List.getElem?_map, List.getElem?_eq_getElem hi']; rfl)
      refine w_skip ?_
      refine w_seq ?_
      refine w_block ?_
      refine w_seq ?_
      refine w_region ?_
      refine l_v rfl (q_indexSliceE i rfl el_23 rfl ha0 rfl rfl (by omega)) ?_
      refine l_v rfl (q_load1 rfl c1_22 rfl hc0) ?_
      refine l_pslice rfl rfl ?_
      refine l_nil ?_
      refine w_region ?_
      refine l_pptr rfl rfl ?_
      refine l_pslice rfl rfl ?_
      refine b_call rfl cb_18 rfl (Write_ok H hk.rest ((hp ps[i] (List.getElem_mem hi')).1.up 1 rfl) rfl (hp ps[i] (List.getElem_mem hi')).2.1 (hp ps[i] (List.getElem_mem hi')).2.2 (by rw [hk.n]; omega)) (fun v w hv => ?_)
      obtain ⟨rfl, ra, rc, H⟩ := hv
      refine l_nil ?_
      refine w_region ?_
      first | refine l_v rfl (q_add rfl rfl rfl (by simp only [inK]; omega)) ?_ | refine l_pint rfl rfl ?_
      refine l_pint rfl rfl ?_
      refine l_nil ?_
      refine ⟨by repeat' first | exact Agr.mix _ _ _ | exact Agr.refl _ _ | refine Agr.inner rfl ?_ | refine Agr.upd rfl ?_ | refine Agr.updL' rfl ?_, ?_⟩
      exact ⟨m - 1, (i + 1, _), by omega, ⟨by exact congrArg (Value.int IntKind.i64) (Int.natCast_succ i).symm, trivial⟩, by omega, by rw [joinL_snoc hi']; exact hk.write ra rc, H⟩
    · try simp only [decide_eq_true_eq, decide_eq_false_iff_not, Bool.not_eq_true', Bool.not_eq_false', beq_iff_eq, beq_eq_false_iff_ne, bne_iff_ne, bne_eq_false_iff_eq, ne_eq, Int.not_lt, Int.not_le] at c1
      obtain rfl : i = ps.length := by omega
      rw [List.take_length] at hk
      refine w_exit ?_
      refine w_seq ?_
      refine w_region ?_
      refine l_pptr rfl rfl ?_
      refine b_call rfl cb_17 rfl (Sum_ok H hk (by omega)) (fun v w hv => ?_)
      obtain ⟨rfl, H⟩ := hv
      refine b_store (vs := (shaL (joinL ps)).map B) rfl sz_32 rfl rfl rfl (by simp [shaL_len]) (all1 _) H 2 rfl (by simp [shaL_len, z32]) (putL_all (by simp [shaL_len, z32])) (fun w H => ?_)
      refine l_nil ?_
      refine w_ret ?_
      refine finc rfl ag_32 (by simp [shaL_len]) (H.cells 2 rfl) ?_
      exact ⟨rfl, ((H.erase 2).erase 1).erase 0⟩

theorem SumB_ok {W w : World} {F : List Seg} (H : St W w F) {a : Option Addr} {cap : Nat} {bs : List UInt8} (hr : RdIn W F a (bs.map B)) (hc : bs.length ≤ cap) (hn : bs.length ≤ 140737488355200) :
    Ok Try.prog 9 [.slice a bs.length cap].toArray w (fun v w' => v = .agg ((shaL bs).map B).toArray ∧ St W w' F) := by
  refine enter (n := 6) (rs := #[.cell 2 32]) Try.func9 rfl rfl rfl rfl ?_
  refine w_seq ?_
  refine w_region ?_
  refine b_alloc rfl ze_32 rfl H (fun b2 w H => ?_)
  refine l_nil ?_
  refine w_seq ?_
  refine w_region ?_
  refine l_pslice rfl rfl ?_
  refine b_buildSlice (cs := [pv (a, cap, bs)]) rfl el_23 ze_22 rfl rfl rfl H (fun b4 w H => ?_)
  refine b_call rfl cb_11 rfl (Join_ok H (n := 1) (ps := [(a, cap, bs)]) (RdIn.blk0 0 rfl) rfl (fun p hp => by obtain rfl := List.mem_singleton.1 hp; exact ⟨hr.up 2 rfl, hc, hn⟩) (by simp [joinL]; omega) (by simp)) (fun v w hv => ?_)
  obtain ⟨rfl, H⟩ := hv
  refine b_store (vs := (shaL (joinL [(a, cap, bs)])).map B) rfl sz_32 rfl rfl rfl (by simp [shaL_len]) (all1 _) H 1 rfl (by simp [shaL_len]) (putL_all (by simp [shaL_len])) (fun w H => ?_)
  refine l_nil ?_
  refine w_ret ?_
  refine finc rfl ag_32 (by simp [shaL_len]) (H.cells 1 rfl) ?_
  refine ⟨?_, (H.erase 1).erase 0⟩
  simp [joinL]

end Go.Proofs.Ytcmmbjplekgihaa
