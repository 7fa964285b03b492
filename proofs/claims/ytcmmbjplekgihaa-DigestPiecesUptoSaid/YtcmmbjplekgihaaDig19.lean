/- The law DigestOwn answers true, of bytes of at most 1048576 each. -/
import Derived.Test.YtcmmbjplekgihaaDig18
import Derived.Test.YtcmmbjplekgihaaBase17
import Derived.Test.YtcmmbjplekgihaaDig12
namespace Go.Proofs.Ytcmmbjplekgihaa
open Go.EW
attribute [local irreducible] EW.W EW.L EW.fin block8 outB parA pgo hexL shaL digitI
set_option linter.unusedVariables false
set_option linter.unusedSimpArgs false

theorem Write_to {W w : World} {F : List Seg} {b : Nat} {h : HS} {all : List UInt8} (hk : HOk h all) (H : St W w (hashL b h F)) {a : Option Addr} {n cap : Nat} {bs : List UInt8} (hr : RdIn W F a (bs.map B)) (hl : bs.length = n) (hcap : n ≤ cap) (hn : n ≤ 140737488355200) (hall : all.length ≤ 2305843009213693952) :
    Ok Try.prog 18 [.pointer (some ⟨b, 0, none⟩), .slice a n cap].toArray w (fun v w' => v = .tuple #[] ∧ ∃ h', HOk h' (all ++ bs) ∧ St W w' (hashL b h' F)) := by
  refine (Write_ok H hk.rest hr hl hcap hn (by rw [hk.n]; omega)).mono ?_
  rintro v w' ⟨rfl, ra, rc, H⟩
  subst hl
  exact ⟨rfl, _, hk.write ra rc, H⟩
theorem Len_to {W w : World} {F : List Seg} {b : Nat} {h : HS} {all : List UInt8} (hk : HOk h all) (H : St W w (hashL b h F)) :
    Ok Try.prog 16 [.pointer (some ⟨b, 0, none⟩)].toArray w (fun v w' => v = .int .i64 (all.length : Int) ∧ St W w' (hashL b h F)) := by
  rw [← hk.n]; exact Len_ok H
theorem SumB_to {W w : World} {F : List Seg} (H : St W w F) {a : Option Addr} {n cap : Nat} {bs : List UInt8} (hr : RdIn W F a (bs.map B)) (hl : bs.length = n) (hc : n ≤ cap) (hn : n ≤ 140737488355200) :
    Ok Try.prog 9 [.slice a n cap].toArray w (fun v w' => v = .agg ((shaL bs).map B).toArray ∧ St W w' F) := by
  subst hl; exact SumB_ok H hr hc hn
theorem pickP (is : List Nat) {pre F : List Seg} (hb : pickB is pre.length = true) (hfull : (List.range pre.length).filter (fun i => !memb is i) = []) : (pre ++ F).Perm (is.filterMap (fun i => pre[i]?) ++ F) := by
  obtain ⟨n1, n2⟩ := pickB_spec is _ hb
  have hp := (range_split is pre.length n1 n2).filterMap (fun i => pre[i]?)
  rw [range_get, List.filterMap_append] at hp
  rw [hfull, List.filterMap_nil, List.append_nil] at hp
  exact hp.append_right F
theorem Ok_perm {f : FuncId} {args : Array Value} {W w : World} {S S' : List Seg} {R : Value → Prop} (hp : S.Perm S') (h : St W w S' → Ok Try.prog f args w (fun v w' => R v ∧ St W w' S')) (H : St W w S) : Ok Try.prog f args w (fun v w' => R v ∧ St W w' S) :=
  (h (H.perm hp)).mono (fun v w' hv => ⟨hv.1, hv.2.perm hp.symm⟩)
def xl (l : List UInt8) : Nat → List UInt8
  | 0 => l
  | i + 1 => (xl l i).set i ((xl l i).getD i 0 ^^^ 85)
theorem xl_len (l : List UInt8) : ∀ i, (xl l i).length = l.length
  | 0 => rfl
  | i + 1 => by simp [xl, xl_len l i]
theorem xl_put {l : List UInt8} {i : Nat} : putL ((xl l i).map B) (0 + i * 1) [B ((xl l i).getD i 0 ^^^ 85)] = (xl l (i + 1)).map B := by
  rw [Nat.mul_one, Nat.zero_add, xl, List.map_set]; rfl

set_option maxRecDepth 8000 in
set_option maxHeartbeats 2000000 in
theorem DigestOwn_ok {W w : World} {F : List Seg} (H : St W w F) {aa ab : Option Addr} {ca cb : Nat} {la bs : List UInt8} (hra : RdIn W F aa (la.map B)) (hrb : RdIn W F ab (bs.map B)) (hca : la.length ≤ ca) (hcb : bs.length ≤ cb) (hna : la.length ≤ 1048576) (hnb : bs.length ≤ 1048576) :
    Ok Try.prog 5 [.slice aa la.length ca, .slice ab bs.length cb].toArray w (fun v w' => v = .bool true ∧ ∃ S, St W w' S) := by
  refine enter (n := 117) (rs := #[.tmp 4]) Try.func5 rfl rfl rfl rfl ?_
  refine w_seq ?_
  refine w_region ?_
  refine l_pbool rfl rfl ?_
  refine l_nil ?_
  refine w_seq ?_
  refine w_seq ?_
  refine w_region ?_
  refine b_call rfl cb_14 rfl (alive_ok H) (fun v w hv => ?_)
  obtain ⟨rfl, H⟩ := hv
  refine l_pbool rfl rfl ?_
  refine l_nil ?_
  refine w_cond_f rfl ?_
  refine w_skip ?_
  refine w_seq ?_
  refine w_region ?_
  refine b_call rfl cb_15 rfl (New_ok H) (fun v w hv => ?_)
  obtain ⟨bx, rfl, H⟩ := hv
  refine b_call rfl cb_15 rfl (New_ok H) (fun v w hv => ?_)
  obtain ⟨bY, rfl, H⟩ := hv
  refine l_pptr rfl rfl ?_
  refine l_pptr rfl rfl ?_
  refine l_nil ?_
  refine w_seq ?_
  refine w_seq ?_
  refine w_region ?_
  refine l_pptr rfl rfl ?_
  refine l_v rfl (q_eqlNilF rfl pt_39 rfl rfl) ?_
  refine l_pbool rfl rfl ?_
  refine l_pptr rfl rfl ?_
  refine l_v rfl (q_eqlNilF rfl pt_39 rfl rfl) ?_
  refine l_pickF (v := .bool _) rfl rfl rfl ?_
  refine l_nil ?_
  refine w_cond_f rfl ?_
  refine w_skip ?_
  refine w_seq ?_
  refine w_region ?_
  refine l_pslice rfl rfl ?_
  refine b_call rfl cb_20 rfl (CopyBytes_ok H (hra.up 4 rfl) rfl (by omega)) (fun v w hv => ?_)
  obtain ⟨pa, pc, rfl, H⟩ := hv
  refine l_pslice rfl rfl ?_
  refine b_call rfl cb_20 rfl (CopyBytes_ok H (hrb.up 5 rfl) rfl (by omega)) (fun v w hv => ?_)
  obtain ⟨qa, qc, rfl, H⟩ := hv
  have hpc := (H.rowInv (i := 1) rfl).2.1
  have hqc := (H.rowInv (i := 0) rfl).2.1
  refine l_pslice rfl rfl ?_
  refine l_pslice rfl rfl ?_
  refine l_nil ?_
  refine w_seq ?_
  refine w_region ?_
  refine l_pptr rfl rfl ?_
  refine l_pslice rfl rfl ?_
  refine b_call rfl cb_18 rfl (Write_to HOk.new (b := bx) (F := row 5 1 pa la.length pc (la.map B) :: row 5 1 qa bs.length qc (bs.map B) :: hashL bY newH F) (H.pick [4, 5, 1, 0, 2, 3] (pre := [_, _, _, _, _, _]) rfl rfl) (RdIn.row 0 rfl) rfl hpc (by omega) (by decide)) (fun v w hv => ?_)
  obtain ⟨rfl, hx, hkx, H⟩ := hv
  rw [List.nil_append] at hkx
  refine l_nil ?_
  refine w_seq ?_
  refine w_region ?_
  refine l_pptr rfl rfl ?_
  refine l_pslice rfl rfl ?_
  refine b_call rfl cb_18 rfl (Write_to HOk.new (b := bY) (F := hashL bx hx (row 5 1 pa la.length pc (la.map B) :: row 5 1 qa bs.length qc (bs.map B) :: F)) (H.pick [4, 5, 0, 1, 2, 3] (pre := [_, _, _, _, _, _]) rfl rfl) (RdIn.row 3 rfl) rfl hqc (by omega) (by decide)) (fun v w hv => ?_)
  obtain ⟨rfl, hy, hky, H⟩ := hv
  rw [List.nil_append] at hky
  refine l_nil ?_
  refine w_seq ?_
  refine w_seq ?_
  refine w_region ?_
  refine l_pint rfl rfl ?_
  refine l_nil ?_
  refine w_block ?_
  refine w_loopG (G := Nat) [9, 33, 34, 35, 36, 37, 38, 39, 40, 41, 42, 43, 44, 45, 46] (fun i => [(9, .int .i64 ((i : Nat) : Int))]) (fun m i w => m + i = la.length ∧ St W w (hashL bY hy (hashL bx hx (row 5 1 pa la.length pc ((xl la i).map B) :: row 5 1 qa bs.length qc (bs.map B) :: F)))) (fun _ => rfl) ?_ ?_
  · exact ⟨la.length, 0, ⟨rfl, trivial⟩, rfl, H⟩
  · rintro m i ρ1 w ⟨hmi, H⟩
    refine w_seq ?_
    refine w_seq ?_
    refine w_region ?_
    refine l_pint rfl rfl ?_
    refine l_pslice rfl rfl ?_
    refine l_v rfl (q_lenSlice rfl el_22 rfl) ?_
    refine l_pbool rfl rfl ?_
    refine l_nil ?_
    refine w_cond rfl (fun c1 => ?_) (fun c1 => ?_)
    · try simp only [decide_eq_true_eq, decide_eq_false_iff_not, Bool.not_eq_true', Bool.not_eq_false', beq_iff_eq, beq_eq_false_iff_ne, bne_iff_ne, bne_eq_false_iff_eq, ne_eq, Int.not_lt, Int.not_le] at c1
      obtain ⟨bp, hpa, hcp⟩ := row_addr (k := i) H (i := 4) rfl (get_B (by rw [xl_len]; omega))
      refine w_skip ?_
      refine w_seq ?_
      refine w_block ?_
      refine w_region ?_
      refine l_pslice rfl rfl ?_
      refine l_pint rfl rfl ?_
      refine l_pslice rfl rfl ?_
      refine l_pint rfl rfl ?_
      refine l_v rfl (q_indexSliceE i rfl el_22 rfl hpa rfl rfl (by omega)) ?_
      refine l_v rfl (q_load1 rfl c1_5 rfl hcp) ?_
      refine l_v rfl (q_pure (v_xor (d := 85) rfl rfl)) ?_
      refine l_v rfl (q_indexSliceE i rfl el_22 rfl hpa rfl rfl (by omega)) ?_
      refine b_storeRow (vs := [B ((xl la i).getD i 0 ^^^ 85)]) rfl sz_5 rfl rfl rfl rfl rfl H 4 rfl hpa (by simp [xl_len]; omega) xl_put (fun w H => ?_)
      refine l_nil ?_
      refine w_region ?_
      refine l_pint rfl rfl ?_
      first | refine l_v rfl (q_add rfl rfl rfl (by simp only [inK]; omega)) ?_ | refine l_pint rfl rfl ?_
      refine l_pint rfl rfl ?_
      refine l_nil ?_
      refine ⟨by repeat' first | exact Agr.mix _ _ _ | exact Agr.refl _ _ | refine Agr.inner rfl ?_ | refine Agr.upd rfl ?_ | refine Agr.updL' rfl ?_, ?_⟩
      exact ⟨m - 1, i + 1, by omega, ⟨by exact congrArg (Value.int IntKind.i64) (Int.natCast_succ i).symm, trivial⟩, by omega, H⟩
    · try simp only [decide_eq_true_eq, decide_eq_false_iff_not, Bool.not_eq_true', Bool.not_eq_false', beq_iff_eq, beq_eq_false_iff_ne, bne_iff_ne, bne_eq_false_iff_eq, ne_eq, Int.not_lt, Int.not_le] at c1
      obtain rfl : i = la.length := by omega
      refine w_exit ?_
      refine w_seq ?_
      refine w_region ?_
      refine l_pptr rfl rfl ?_
      refine l_pslice rfl rfl ?_
      refine b_call rfl cb_18 rfl (Write_to hkx (b := bx) (F := hashL bY hy (row 5 1 pa la.length pc ((xl la la.length).map B) :: row 5 1 qa bs.length qc (bs.map B) :: F)) (H.pick [2, 3, 0, 1, 4, 5] (pre := [_, _, _, _, _, _]) rfl rfl) (RdIn.row 3 rfl) rfl hqc (by omega) (by omega)) (fun v w hv => ?_)
      obtain ⟨rfl, hz, hkz, H⟩ := hv
      refine l_nil ?_
      refine w_seq ?_
      refine w_region ?_
      refine l_pslice rfl rfl ?_
      refine l_nil ?_
      refine w_seq ?_
      refine w_region ?_
      refine l_pslice rfl rfl ?_
      refine l_pslice rfl rfl ?_
      refine b_append rfl el_22 ze_5 rfl rfl rfl (St.newRow H) 0 rfl (ys := la.map B) (hra.use H 6 rfl) (by simp) (oneB _) ⟨by omega, by simp only [maxLen]; omega⟩ (fun a52 c52 w H => ?_)
      refine l_pslice rfl rfl ?_
      refine l_nil ?_
      refine w_seq ?_
      refine w_region ?_
      refine l_pslice rfl rfl ?_
      refine l_pslice rfl rfl ?_
      refine b_append rfl el_22 ze_5 rfl rfl rfl H 0 rfl (ys := bs.map B) (hrb.use H 7 rfl) (by simp) (oneB _) ⟨by omega, by simp only [maxLen]; omega⟩ (fun a55 c55 w H => ?_)
      have H : St W w (row 5 1 a55 (0 + la.length + bs.length) c55 ((la ++ bs).map B) :: hashL bx hz (hashL bY hy (row 5 1 pa la.length pc ((xl la la.length).map B) :: row 5 1 qa bs.length qc (bs.map B) :: F))) := by
        have e : (la ++ bs).map B = [] ++ la.map B ++ bs.map B := by simp
        rw [e]; exact H
      refine l_pslice rfl rfl ?_
      refine l_nil ?_
      refine w_seq ?_
      refine w_region ?_
      refine l_pptr rfl rfl ?_
      refine l_nil ?_
      refine w_seq ?_
      refine w_region ?_
      refine b_alloc rfl ze_49 rfl H (fun b12 w H => ?_)
      refine l_nil ?_
      refine w_seq ?_
      refine w_region ?_
      refine l_pptr rfl rfl ?_
      refine l_pslice rfl rfl ?_
      refine b_call rfl cb_18 rfl (Write_bad bad_nil) (fun v w hv => ?_)
      obtain ⟨rfl, rfl⟩ := hv
      refine l_nil ?_
      refine w_seq ?_
      refine w_region ?_
      refine l_pptr rfl rfl ?_
      refine b_call rfl cb_19 rfl (Reset_bad bad_nil) (fun v w hv => ?_)
      obtain ⟨rfl, rfl⟩ := hv
      refine l_nil ?_
      refine w_seq ?_
      refine w_region ?_
      refine l_pslice rfl rfl ?_
      refine b_call rfl cb_18 rfl (Write_bad (bad_zero H (i := 0) rfl rfl)) (fun v w hv => ?_)
      obtain ⟨rfl, rfl⟩ := hv
      refine l_nil ?_
      refine w_seq ?_
      refine w_region ?_
      refine b_call rfl cb_19 rfl (Reset_bad (bad_zero H (i := 0) rfl rfl)) (fun v w hv => ?_)
      obtain ⟨rfl, rfl⟩ := hv
      refine l_nil ?_
      refine w_seq ?_
      refine w_region ?_
      refine l_pptr rfl rfl ?_
      refine b_call rfl cb_17 rfl (Ok_perm (pickP [2, 3, 0, 1, 4, 5, 6, 7] (pre := [_, _, _, _, _, _, _, _]) rfl rfl) (fun H => Sum_ok (h := hz) H hkz (by rw [List.length_append]; omega)) H) (fun v w hv => ?_)
      obtain ⟨rfl, H⟩ := hv
      refine l_pslice rfl rfl ?_
      refine b_call rfl cb_9 rfl (SumB_to H (bs := la ++ bs) (RdIn.row 1 rfl) (by simp) (H.rowInv (i := 1) rfl).2.1 (by omega)) (fun v w hv => ?_)
      obtain ⟨rfl, H⟩ := hv
      refine l_v rfl (q_eqlHash rfl rfl rfl (shaL_len _) (shaL_len _)) ?_
      refine l_pbool rfl rfl ?_
      refine l_split 69 rfl (fun h69 => ?_) (fun h69 => absurd h69 (by first | (simp; done) | (simp; omega)))
      try simp only [decide_eq_true_eq, decide_eq_false_iff_not, Bool.not_eq_true', Bool.not_eq_false', beq_iff_eq, beq_eq_false_iff_ne, bne_iff_ne, bne_eq_false_iff_eq, ne_eq, Int.not_lt, Int.not_le] at h69
      refine l_pptr rfl rfl ?_
      refine b_call rfl cb_17 rfl (Ok_perm (pickP [4, 5, 0, 1, 2, 3, 6, 7] (pre := [_, _, _, _, _, _, _, _]) rfl rfl) (fun H => Sum_ok (h := hy) H hky (by omega)) H) (fun v w hv => ?_)
      obtain ⟨rfl, H⟩ := hv
      refine l_pslice rfl rfl ?_
      refine b_call rfl cb_9 rfl (SumB_to H (hrb.up 8 rfl) rfl hcb (by omega)) (fun v w hv => ?_)
      obtain ⟨rfl, H⟩ := hv
      refine l_v rfl (q_eqlHash rfl rfl rfl (shaL_len _) (shaL_len _)) ?_
      refine l_pickT (v := .bool _) rfl rfl rfl ?_
      refine l_pbool rfl rfl ?_
      refine l_split 76 rfl (fun h76 => ?_) (fun h76 => absurd h76 (by first | (simp; done) | (simp; omega)))
      try simp only [decide_eq_true_eq, decide_eq_false_iff_not, Bool.not_eq_true', Bool.not_eq_false', beq_iff_eq, beq_eq_false_iff_ne, bne_iff_ne, bne_eq_false_iff_eq, ne_eq, Int.not_lt, Int.not_le] at h76
      refine l_pptr rfl rfl ?_
      refine b_call rfl cb_16 rfl (Ok_perm (pickP [2, 3, 0, 1, 4, 5, 6, 7] (pre := [_, _, _, _, _, _, _, _]) rfl rfl) (fun H => Len_to (h := hz) hkz H) H) (fun v w hv => ?_)
      obtain ⟨rfl, H⟩ := hv
      refine l_pslice rfl rfl ?_
      refine l_v rfl (q_lenSlice rfl el_22 rfl) ?_
      refine l_pbool rfl rfl ?_
      refine l_pickT (v := .bool _) rfl rfl rfl ?_
      refine l_pbool rfl rfl ?_
      refine l_split 83 rfl (fun h83 => ?_) (fun h83 => absurd h83 (by first | (simp; done) | (simp; omega)))
      try simp only [decide_eq_true_eq, decide_eq_false_iff_not, Bool.not_eq_true', Bool.not_eq_false', beq_iff_eq, beq_eq_false_iff_ne, bne_iff_ne, bne_eq_false_iff_eq, ne_eq, Int.not_lt, Int.not_le] at h83
      refine l_pptr rfl rfl ?_
      refine b_call rfl cb_16 rfl (Ok_perm (pickP [4, 5, 0, 1, 2, 3, 6, 7] (pre := [_, _, _, _, _, _, _, _]) rfl rfl) (fun H => Len_to (h := hy) hky H) H) (fun v w hv => ?_)
      obtain ⟨rfl, H⟩ := hv
      refine l_pslice rfl rfl ?_
      refine l_v rfl (q_lenSlice rfl el_22 rfl) ?_
      refine l_pbool rfl rfl ?_
      refine l_pickT (v := .bool _) rfl rfl rfl ?_
      refine l_pbool rfl rfl ?_
      refine l_split 90 rfl (fun h90 => ?_) (fun h90 => absurd h90 (by first | (simp; done) | (simp; omega)))
      try simp only [decide_eq_true_eq, decide_eq_false_iff_not, Bool.not_eq_true', Bool.not_eq_false', beq_iff_eq, beq_eq_false_iff_ne, bne_iff_ne, bne_eq_false_iff_eq, ne_eq, Int.not_lt, Int.not_le] at h90
      refine l_pslice rfl rfl ?_
      refine b_call rfl cb_9 rfl (SumB_to H (bs := xl la la.length) (RdIn.row 6 rfl) (xl_len _ _) hpc (by omega)) (fun v w hv => ?_)
      obtain ⟨rfl, H⟩ := hv
      refine l_pslice rfl rfl ?_
      refine b_call rfl cb_10 rfl (rSum_ok H (bs := xl la la.length) (RdIn.row 6 rfl) (xl_len _ _) (by omega)) (fun v w hv => ?_)
      obtain ⟨rfl, H⟩ := hv
      refine l_v rfl (q_eqlHash rfl rfl rfl (shaL_len _) (shaL_len _)) ?_
      refine l_pickT (v := .bool _) rfl rfl rfl ?_
      refine l_pbool rfl rfl ?_
      refine l_split 97 rfl (fun h97 => ?_) (fun h97 => absurd h97 (by first | (simp; done) | (simp; omega)))
      try simp only [decide_eq_true_eq, decide_eq_false_iff_not, Bool.not_eq_true', Bool.not_eq_false', beq_iff_eq, beq_eq_false_iff_ne, bne_iff_ne, bne_eq_false_iff_eq, ne_eq, Int.not_lt, Int.not_le] at h97
      refine l_pptr rfl rfl ?_
      refine b_call rfl cb_17 rfl (Sum_bad H (fun _ _ _ => bad_nil)) (fun v w hv => ?_)
      obtain ⟨rfl, H⟩ := hv
      refine l_v rfl (q_buildArr rfl ar_32 ze_32 (by kernel_rfl : fillL _ _ _ = some ((List.replicate 32 (0 : UInt8)).map B))) ?_
      refine l_v rfl (q_eqlHash (xs := List.replicate 32 0) (ys := List.replicate 32 0) rfl rfl rfl (by simp) (by simp)) ?_
      refine l_pickT (v := .bool _) rfl rfl rfl ?_
      refine l_pbool rfl rfl ?_
      refine l_split 103 rfl (fun h103 => ?_) (fun h103 => absurd h103 (by first | (simp; done) | (simp; omega)))
      try simp only [decide_eq_true_eq, decide_eq_false_iff_not, Bool.not_eq_true', Bool.not_eq_false', beq_iff_eq, beq_eq_false_iff_ne, bne_iff_ne, bne_eq_false_iff_eq, ne_eq, Int.not_lt, Int.not_le] at h103
      refine b_call rfl cb_17 rfl (Sum_bad H (fun _ _ h => bad_zero h (i := 1) rfl rfl)) (fun v w hv => ?_)
      obtain ⟨rfl, H⟩ := hv
      refine l_v rfl (q_buildArr rfl ar_32 ze_32 (by kernel_rfl : fillL _ _ _ = some ((List.replicate 32 (0 : UInt8)).map B))) ?_
      refine l_v rfl (q_eqlHash (xs := List.replicate 32 0) (ys := List.replicate 32 0) rfl rfl rfl (by simp) (by simp)) ?_
      refine l_pickT (v := .bool _) rfl rfl rfl ?_
      refine l_pbool rfl rfl ?_
      refine l_split 108 rfl (fun h108 => ?_) (fun h108 => absurd h108 (by first | (simp; done) | (simp; omega)))
      try simp only [decide_eq_true_eq, decide_eq_false_iff_not, Bool.not_eq_true', Bool.not_eq_false', beq_iff_eq, beq_eq_false_iff_ne, bne_iff_ne, bne_eq_false_iff_eq, ne_eq, Int.not_lt, Int.not_le] at h108
      refine l_pptr rfl rfl ?_
      refine b_call rfl cb_16 rfl (Len_bad bad_nil) (fun v w hv => ?_)
      obtain ⟨rfl, rfl⟩ := hv
      refine l_pbool rfl rfl ?_
      refine l_pickT (v := .bool _) rfl rfl rfl ?_
      refine l_pbool rfl rfl ?_
      refine l_split 113 rfl (fun h113 => ?_) (fun h113 => absurd h113 (by first | (simp; done) | (simp; omega)))
      try simp only [decide_eq_true_eq, decide_eq_false_iff_not, Bool.not_eq_true', Bool.not_eq_false', beq_iff_eq, beq_eq_false_iff_ne, bne_iff_ne, bne_eq_false_iff_eq, ne_eq, Int.not_lt, Int.not_le] at h113
      refine b_call rfl cb_16 rfl (Len_bad (bad_zero H (i := 0) rfl rfl)) (fun v w hv => ?_)
      obtain ⟨rfl, rfl⟩ := hv
      refine l_pbool rfl rfl ?_
      refine l_pickT (v := .bool _) rfl rfl rfl ?_
      refine l_pbool rfl rfl ?_
      refine l_nil ?_
      refine w_ret ?_
      refine fin1 (v := .bool _) rfl ?_
      exact ⟨congrArg Value.bool (by simp), _, H⟩

end Go.Proofs.Ytcmmbjplekgihaa
