/- The tree's Leaf and Node do what their contracts say. -/
import Derived.Test.YtcmmhpkgjcepdaaTre1
namespace Go.Proofs.Ytcmmhpkgjcepdaa
open Go.EW
attribute [local irreducible] EW.W EW.L EW.fin block8 outB shaL
set_option linter.unusedVariables false
set_option linter.unusedSimpArgs false

/-- an entry -/
structure Ent where
  cl : Int
  nu : Int
  ki : Int
  sl : Int
  va : ByteArray
def Ent.ints (e : Ent) : List Int := [e.cl, e.nu, e.ki, e.sl]
def Ent.cells (e : Ent) : List Value := [.int .i64 e.cl, .int .i64 e.nu, .int .i64 e.ki, .int .i64 e.sl, .string e.va]
def u64of (x : Int) : Nat := (x % 18446744073709551616).toNat
theorem u64of_lt (x : Int) : u64of x < 18446744073709551616 := by unfold u64of; omega
theorem wrap_u64 (x : Int) : IntKind.wrap .u64 x = (u64of x : Int) := by
  unfold u64of
  simp only [IntKind.wrap, IntKind.signed, IntKind.bits]
  simp
  omega
theorem q_toU64 {P : Program} {w : World} {e : Operand → Value} {oo : Oper} {x : Operand} {T T' : TypeId} {k : IntKind} {a : Int} (ho : oo.op = .convert T T' x) (hs : (P.underlying T).isSome = true) (hT : intT P T' = some .u64) (hx : e x = .int k a) :
    (execOp e oo).run P w = .ok (.value (N64 (u64of a))) w := by
  rw [q_convInt ho hs hT hx, wrap_u64]; rfl
def nums (e : Ent) : Nat → List UInt8
  | 0 => []
  | i + 1 => nums e i ++ formL (u64of (e.ints.getD i 0))
def textL (e : Ent) : List UInt8 := nums e 4 ++ formL e.va.size ++ e.va.data.toList
theorem nums_len (e : Ent) : ∀ i, (nums e i).length ≤ 9 * i
  | 0 => Nat.le_refl _
  | i + 1 => by
    have h1 := nums_len e i
    have h2 := formL_len (u64of (e.ints.getD i 0))
    simp only [nums, List.length_append]; omega
theorem textL_len (e : Ent) : (textL e).length ≤ 45 + e.va.size := by
  have h1 := nums_len e 4
  have h2 := formL_len e.va.size
  have h3 : e.va.data.toList.length = e.va.size := by rw [Array.length_toList]; rfl
  unfold textL
  rw [List.length_append, List.length_append]; omega
theorem get_I {l : List Int} {j : Nat} (hj : j < l.length) : (l.map I64)[((j : Nat) : Int).toNat]? = some (I64 (l.getD j 0)) := by
  rw [Int.toNat_natCast, List.getElem?_map, List.getElem?_eq_getElem hj]; simp [List.getD, hj]
def leafH (e : Ent) : List UInt8 := shaL (0 :: textL e)
def nodeH (a b : List UInt8) : List UInt8 := shaL (1 :: (a ++ b))
theorem leafH_len (e : Ent) : (leafH e).length = 32 := shaL_len _
theorem nodeH_len (a b : List UInt8) : (nodeH a b).length = 32 := shaL_len _

theorem text_ok {W w : World} {F : List Seg} (H : St W w F) (e : Ent) (hva : e.va.size ≤ 140737488351232) :
    Ok Try.prog 57 [.agg e.cells.toArray].toArray w (fun r w' => ∃ a c, r = .slice a (textL e).length c ∧ St W w' (row 5 1 a (textL e).length c ((textL e).map B) :: F)) := by
  refine enter (n := 39) (rs := #[.tmp 2]) Try.func57 rfl rfl rfl rfl ?_
  refine w_seq ?_
  refine w_region ?_
  refine b_box rfl rfl rfl H (fun b1 w H => ?_)
  refine l_pslice rfl rfl ?_
  refine l_nil ?_
  refine w_seq ?_
  refine w_region ?_
  refine b_alloc rfl ze_133 rfl H (fun b3 w H => ?_)
  refine l_nil ?_
  refine w_seq ?_
  refine w_seq ?_
  refine w_region ?_
  refine l_v rfl (q_fieldAddr rfl fo28_0 rfl) ?_
  refine l_v rfl (q_load1 rfl c1_3 rfl (by first | exact H.cell 0 rfl rfl | exact H.cell 1 rfl rfl | exact H.cell 2 rfl rfl)) ?_
  refine l_v rfl (q_fieldAddr rfl fo28_1 rfl) ?_
  refine l_v rfl (q_load1 rfl c1_3 rfl (by first | exact H.cell 0 rfl rfl | exact H.cell 1 rfl rfl | exact H.cell 2 rfl rfl)) ?_
  refine l_v rfl (q_fieldAddr rfl fo28_2 rfl) ?_
  refine l_v rfl (q_fieldAddr rfl fo26_0 rfl) ?_
  refine l_v rfl (q_load1 rfl c1_3 rfl (by first | exact H.cell 0 rfl rfl | exact H.cell 1 rfl rfl | exact H.cell 2 rfl rfl)) ?_
  refine l_v rfl (q_fieldAddr rfl fo28_2 rfl) ?_
  refine l_v rfl (q_fieldAddr rfl fo26_1 rfl) ?_
  refine l_v rfl (q_load1 rfl c1_3 rfl (by first | exact H.cell 0 rfl rfl | exact H.cell 1 rfl rfl | exact H.cell 2 rfl rfl)) ?_
  refine l_v rfl (q_buildArr (cs := e.ints.map I64) rfl ar_134 ze_134 rfl) ?_
  refine l_pint rfl rfl ?_
  refine l_nil ?_
  refine w_block ?_
  refine w_loopG (G := Nat × Option Addr × Nat) [5, 19, 20, 21, 22, 23, 24, 25] (fun ⟨i, aw, cw⟩ => [(19, .int .i64 ((i : Nat) : Int))]) (fun m ⟨i, aw, cw⟩ w => m + i = 4 ∧ St W w (writerL b3 aw cw (nums e i) (blk b1 e.cells 28 :: F))) (fun _ => rfl) ?_ ?_
  · exact ⟨4, (0, none, 0), ⟨rfl, trivial⟩, rfl, (St.newRow (T := 5) (sz := 1) H).swap01⟩
  · rintro m ⟨i, aw, cw⟩ ρ1 w ⟨hmi, H⟩
    refine w_seq ?_
    refine w_region ?_
    refine l_pbool rfl rfl ?_
    refine l_nil ?_
    refine w_seq ?_
    refine w_cond rfl (fun c1 => ?_) (fun c1 => ?_)
    · try simp only [decide_eq_true_eq, decide_eq_false_iff_not, Bool.not_eq_true', Bool.not_eq_false', beq_iff_eq, beq_eq_false_iff_ne, bne_iff_ne, bne_eq_false_iff_eq, ne_eq, Int.not_lt, Int.not_le] at c1
      refine w_skip ?_
      refine w_seq ?_
      refine w_block ?_
      refine w_seq ?_
      refine w_region ?_
      refine l_v rfl (q_indexAgg1 (cs := e.ints.map I64) (v := I64 (e.ints.getD i 0)) rfl ar_134 c1_3 rfl rfl ⟨by omega, by omega⟩ (get_I (by show i < 4; omega))) ?_
      refine l_pint rfl rfl ?_
      refine l_nil ?_
      refine w_region ?_
      refine l_pint rfl rfl ?_
      refine l_v rfl (q_toU64 rfl (by kernel_rfl) in_136 rfl) ?_
      refine b_call rfl cb_86 rfl (Number_ok (u64of_lt _) (by have := nums_len e i; omega) H) (fun v w hv => ?_)
      obtain ⟨rfl, a1, c1, H⟩ := hv
      refine l_nil ?_
      refine w_region ?_
      first | refine l_v rfl (q_add rfl rfl rfl (by simp only [inK]; omega)) ?_ | refine l_pint rfl rfl ?_
      refine l_pint rfl rfl ?_
      refine l_nil ?_
      refine ⟨by repeat' first | exact Agr.mix _ _ _ | exact Agr.refl _ _ | refine Agr.inner rfl ?_ | refine Agr.upd rfl ?_ | refine Agr.updL' rfl ?_, ?_⟩
      exact ⟨m - 1, (i + 1, a1, c1), by omega, ⟨by exact congrArg (Value.int IntKind.i64) (Int.natCast_succ i).symm, trivial⟩, by omega, H⟩
    · try simp only [decide_eq_true_eq, decide_eq_false_iff_not, Bool.not_eq_true', Bool.not_eq_false', beq_iff_eq, beq_eq_false_iff_ne, bne_iff_ne, bne_eq_false_iff_eq, ne_eq, Int.not_lt, Int.not_le] at c1
      obtain rfl : i = 4 := by omega
      refine w_exit ?_
      refine w_seq ?_
      refine w_region ?_
      refine l_v rfl (q_fieldAddr rfl fo28_2 rfl) ?_
      refine l_v rfl (q_fieldAddr rfl fo26_2 rfl) ?_
      refine l_v rfl (q_load1 rfl c1_9 rfl (by first | exact H.cell 0 rfl rfl | exact H.cell 1 rfl rfl | exact H.cell 2 rfl rfl)) ?_
      refine l_v rfl (q_fieldAddr rfl fo28_2 rfl) ?_
      refine l_v rfl (q_fieldAddr rfl fo26_2 rfl) ?_
      refine l_v rfl (q_load1 rfl c1_9 rfl (by first | exact H.cell 0 rfl rfl | exact H.cell 1 rfl rfl | exact H.cell 2 rfl rfl)) ?_
      refine l_v rfl (q_lenStr rfl st_9 rfl) ?_
      refine b_call rfl cb_87 rfl (Text_ok (by omega) (by have := nums_len e 4; omega) H) (fun v w hv => ?_)
      obtain ⟨rfl, a2, c2, H⟩ := hv
      refine l_nil ?_
      refine w_seq ?_
      refine w_region ?_
      refine b_call rfl cb_88 rfl (Bytes_ok (by have := textL_len e; unfold textL at this; omega) H) (fun v w hv => ?_)
      obtain ⟨a3, c3, rfl, H⟩ := hv
      refine l_ptup rfl rfl ?_
      refine l_pslice rfl rfl ?_
      refine l_pint rfl rfl ?_
      refine l_pslice rfl rfl ?_
      refine l_pint rfl rfl ?_
      refine l_nil ?_
      refine w_seq ?_
      refine w_region ?_
      refine l_pslice rfl rfl ?_
      refine l_pslice rfl rfl ?_
      refine l_nil ?_
      refine w_ret ?_
      refine fin1 (v := .slice _ _ _) rfl ?_
      exact ⟨a3, c3, rfl, (((H.erase 1).erase 1).erase 1)⟩

theorem Leaf_ok {W w : World} {F : List Seg} (H : St W w F) (e : Ent) (hva : e.va.size ≤ 140737488351232) :
    Ok Try.prog 19 [.agg e.cells.toArray].toArray w (fun r w' => r = .agg ((leafH e).map B).toArray ∧ St W w' F) := by
  refine enter (n := 8) (rs := #[.cell 2 24]) Try.func19 rfl rfl rfl rfl ?_
  refine w_seq ?_
  refine w_region ?_
  refine b_box rfl rfl rfl H (fun b1 w H => ?_)
  refine b_alloc rfl ze_24 rfl H (fun b2 w H => ?_)
  refine l_nil ?_
  refine w_seq ?_
  refine w_region ?_
  refine b_buildSlice (cs := [B 0]) rfl el_90 ze_5 rfl rfl rfl H (fun b3 w H => ?_)
  refine l_v rfl (q_loadN (vs := e.cells) rfl ag_28 rfl rfl (H.cells 2 rfl)) ?_
  refine b_call rfl cb_57 rfl (text_ok H e hva) (fun v w hv => ?_)
  obtain ⟨a5, c5, rfl, H⟩ := hv
  refine b_buildSlice (cs := [pv (some ⟨b3, 0, none⟩, 1, [0]), pv (a5, c5, textL e)]) rfl el_29 ze_90 rfl rfl rfl H (fun b6 w H => ?_)
  refine b_call rfl cb_55 rfl (Join_ok H (n := 2) (ps := [(some ⟨b3, 0, none⟩, 1, [0]), (a5, c5, textL e)]) (RdIn.blk0 0 rfl) rfl (fun p hp => by
      rcases List.mem_cons.1 hp with rfl | hp
      · exact ⟨RdIn.blk0 2 rfl, by show 1 ≤ 1; omega, by show 1 ≤ _; omega⟩
      · obtain rfl := List.mem_singleton.1 hp
        exact ⟨RdIn.row 1 rfl, (H.rowInv (i := 1) rfl).2.1, by have := textL_len e; show (textL e).length ≤ _; omega⟩) (by have := textL_len e; simp [joinL]; omega) (by simp)) (fun v w hv => ?_)
  obtain ⟨rfl, H⟩ := hv
  refine b_store (vs := (shaL (joinL [(some ⟨b3, 0, none⟩, 1, [0]), (a5, c5, textL e)])).map B) rfl sz_24 rfl rfl rfl (by simp [shaL_len]) (all1 _) H 3 rfl (by simp [shaL_len]) (putL_all (by simp [shaL_len])) (fun w H => ?_)
  refine l_nil ?_
  refine w_ret ?_
  refine finc (vs := (shaL (joinL [(some ⟨b3, 0, none⟩, 1, [0]), (a5, c5, textL e)])).map B) rfl ag_24 (by simp [shaL_len]) (H.cells 3 rfl) ?_
  refine ⟨?_, ((((H.erase 0).erase 0).erase 0).erase 0).erase 0⟩
  simp [joinL, leafH]

theorem Node_ok {W w : World} {F : List Seg} (H : St W w F) {x y : List UInt8} (hx : x.length = 32) (hy : y.length = 32) :
    Ok Try.prog 17 [.agg (x.map B).toArray, .agg (y.map B).toArray].toArray w (fun r w' => r = .agg ((nodeH x y).map B).toArray ∧ St W w' F) := by
  refine enter (n := 10) (rs := #[.cell 4 24]) Try.func17 rfl rfl rfl rfl ?_
  refine w_seq ?_
  refine w_region ?_
  refine b_box rfl rfl rfl H (fun b2 w H => ?_)
  refine b_box rfl rfl rfl H (fun b3 w H => ?_)
  refine b_alloc rfl ze_24 rfl H (fun b4 w H => ?_)
  refine l_nil ?_
  refine w_seq ?_
  refine w_drawT [0, 3, 4, 5] [] [(1, 0), (2, 0), (0, 2), (3, 2), (4, 2), (5, 2)] mixed (by kernel_rfl) (fun _ _ _ h => fin_panic h) H (fun H => ?_)
  refine r_w rfl rfl (fun w => q_sliceArr rfl ar_24 rfl Bnd.none Bnd.none Bnd.none (by simp)) ?_
  refine r_w rfl rfl (fun w => q_sliceArr rfl ar_24 rfl Bnd.none Bnd.none Bnd.none (by simp)) ?_
  refine r_do rfl ?_
  refine b_buildSlice (cs := [B 1]) rfl el_90 ze_5 rfl rfl rfl H (fun b5 w H => ?_)
  refine l_nil ⟨(fun h => nomatch h), ?_⟩
  refine r_do rfl ?_
  refine b_buildSlice (cs := [.slice (some ⟨b5, 0, none⟩) 1 1, .slice (subA (some ⟨b2, 0, none⟩) 1 0 32) 32 32, .slice (subA (some ⟨b3, 0, none⟩) 1 0 32) 32 32]) rfl el_29 ze_90 rfl rfl rfl H (fun b8 w H => ?_)
  rw [show [Value.slice (some ⟨b5, 0, none⟩) 1 1, .slice (subA (some ⟨b2, 0, none⟩) 1 0 32) 32 32, .slice (subA (some ⟨b3, 0, none⟩) 1 0 32) 32 32] = ([(some ⟨b5, 0, none⟩, 1, [1]), (subA (some ⟨b2, 0, none⟩) 1 0 32, 32, x), (subA (some ⟨b3, 0, none⟩) 1 0 32, 32, y)] : List Part).map pv from by simp [pv, hx, hy]] at H
  refine l_nil ⟨(fun h => nomatch h), ?_⟩
  refine r_do rfl ?_
  refine b_call rfl cb_55 rfl (Join_ok H (n := 3) (ps := [(some ⟨b5, 0, none⟩, 1, [1]), (subA (some ⟨b2, 0, none⟩) 1 0 32, 32, x), (subA (some ⟨b3, 0, none⟩) 1 0 32, 32, y)]) (RdIn.blk0 0 rfl) rfl (fun p hp => by
      rcases List.mem_cons.1 hp with rfl | hp
      · exact ⟨RdIn.blk0 1 rfl, by show 1 ≤ 1; omega, by show 1 ≤ _; omega⟩
      · rcases List.mem_cons.1 hp with rfl | hp
        · exact ⟨by rw [subA_z]; exact RdIn.blk 4 rfl, by show x.length ≤ 32; omega, by show x.length ≤ _; omega⟩
        · obtain rfl := List.mem_singleton.1 hp
          exact ⟨by rw [subA_z]; exact RdIn.blk 3 rfl, by show y.length ≤ 32; omega, by show y.length ≤ _; omega⟩) (by simp [joinL]; omega) (by simp)) (fun v w hv => ?_)
  obtain ⟨rfl, H⟩ := hv
  refine l_nil ⟨(fun h => nomatch h), ?_⟩
  refine r_do rfl ?_
  refine b_store (vs := (shaL (joinL [(some ⟨b5, 0, none⟩, 1, [1]), (subA (some ⟨b2, 0, none⟩) 1 0 32, 32, x), (subA (some ⟨b3, 0, none⟩) 1 0 32, 32, y)])).map B) rfl sz_24 rfl rfl rfl (by simp [shaL_len]) (all1 _) H 2 rfl (by simp [shaL_len]) (putL_all (by simp [shaL_len])) (fun w H => ?_)
  refine l_nil ⟨(fun h => nomatch h), ?_⟩
  refine r_nil ?_
  refine w_ret ?_
  refine finc (vs := (shaL (joinL [(some ⟨b5, 0, none⟩, 1, [1]), (subA (some ⟨b2, 0, none⟩) 1 0 32, 32, x), (subA (some ⟨b3, 0, none⟩) 1 0 32, 32, y)])).map B) rfl ag_24 (by simp [shaL_len]) (H.cells 2 rfl) ?_
  refine ⟨?_, ((((H.erase 0).erase 0).erase 0).erase 0).erase 0⟩
  simp [joinL, nodeH]

end Go.Proofs.Ytcmmhpkgjcepdaa
