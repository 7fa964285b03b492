/- The law NetworkPlays on nil nets and on sizes that are refused; for scripts of at most 1048576 calls. -/
import Derived.Test.YtmgcmgfjaimlnaaNet33
namespace Go.Proofs.Ytmgcmgfjaimlnaa
open Go.EW
attribute [local irreducible] EW.W EW.L EW.fin
set_option linter.unusedVariables false
set_option linter.unusedSimpArgs false
set_option maxRecDepth 8000 in
set_option maxHeartbeats 2000000 in
theorem plays_nil {W w : World} {F : List Seg} (H : St W w F) (nodes clients : Int) (hval : NVal nodes clients) {oa : Option Addr} {oc : Nat} {os : List OpS} (hro : RdIn W [] oa (opsL os)) (hgo : OpGood W os) (hon : os.length ≤ 1048576) :
    Ok Try.prog 8 [.int .i64 nodes, .int .i64 clients, .bool true, .slice oa os.length oc].toArray w (fun v w' => v = .bool true ∧ ∃ S, St W w' S) := by
  refine enter (n := 144) (rs := #[.tmp 8]) Try.func8 rfl rfl rfl rfl ?_
  refine w_seq ?_
  refine w_region ?_
  refine l_pbool rfl rfl ?_
  refine l_nil ?_
  refine w_seq ?_
  refine w_region ?_
  refine l_pint rfl rfl ?_
  refine l_pint rfl rfl ?_
  refine b_call rfl cb_34 rfl (New_ok H nodes clients) (fun v w hv => ?_)
  obtain ⟨_, b, pm, cm, rfl, H⟩ := hv.resolve_left (fun h => h.1 hval)
  refine l_ptup rfl rfl ?_
  refine l_pptr rfl rfl ?_
  refine l_pint rfl rfl ?_
  refine l_pptr rfl rfl ?_
  refine l_pint rfl rfl ?_
  refine l_nil ?_
  refine w_seq ?_
  refine w_region ?_
  refine l_pint rfl rfl ?_
  refine l_pint rfl rfl ?_
  refine b_call rfl cb_35 rfl (rNew_ok H nodes clients) (fun v w hv => ?_)
  obtain ⟨x, y, rfl, hv⟩ := hv
  obtain ⟨_, rfl, b', rfl, H⟩ := hv.resolve_left (fun h => h.1 hval)
  refine l_ptup rfl rfl ?_
  refine l_pptr rfl rfl ?_
  refine l_pint rfl rfl ?_
  refine l_pptr rfl rfl ?_
  refine l_pint rfl rfl ?_
  refine l_nil ?_
  refine w_seq ?_
  refine w_seq ?_
  refine w_region ?_
  refine l_pint rfl rfl ?_
  refine l_pint rfl rfl ?_
  refine l_pbool rfl rfl ?_
  refine l_pbool rfl rfl ?_
  refine l_split 39 rfl (fun h39 => absurd h39 (by simp)) (fun h39 => ?_)
  try simp only [sH] at h39
  refine l_pptr rfl rfl ?_
  refine l_v rfl (q_eqlNilF rfl pt_24 rfl rfl) ?_
  refine l_pptr rfl rfl ?_
  refine l_v rfl (q_eqlNilF rfl pt_61 rfl rfl) ?_
  refine l_v rfl (q_neqBool rfl bo_4 rfl rfl) ?_
  refine l_pickF (v := .bool _) rfl rfl rfl ?_
  refine l_nil ?_
  refine w_cond rfl (fun c1 => ?_) (fun c1 => ?_)
  · try simp only [sH] at c1
    exact absurd c1 (by simp)
  try simp only [sH] at c1
  refine w_skip ?_
  refine w_cutG (G := Unit) [9, 11, 46] (fun ⟨⟩ => [(9, .pointer none), (11, .pointer none)]) (fun ⟨⟩ w => St W w F) (fun _ => rfl) ?_ ?_
  · refine w_seq ?_
    refine w_region ?_
    refine l_pbool rfl rfl ?_
    refine l_nil ?_
    refine w_cond_t rfl ?_
    refine w_seq ?_
    refine w_region ?_
    refine l_pptr rfl rfl ?_
    refine l_nil ?_
    refine w_region ?_
    refine l_pptr rfl rfl ?_
    refine l_nil ?_
    refine ⟨by repeat' first | exact aM | exact aR | refine aI rfl ?_ | refine aU rfl ?_ | refine aL rfl ?_, ?_⟩
    exact ⟨⟨⟩, ⟨rfl, rfl, trivial⟩, H.dropN 12⟩
  rintro ⟨⟩ ρ1 w H
  refine w_seq ?_
  refine w_seq ?_
  refine w_region ?_
  refine l_pptr rfl rfl ?_
  refine l_v rfl (q_eqlNilT rfl pt_61 rfl rfl) ?_
  refine l_pbool rfl rfl ?_
  refine l_pbool rfl rfl ?_
  refine l_pbool rfl rfl ?_
  refine l_pickT (v := .bool _) rfl rfl rfl ?_
  refine l_nil ?_
  refine w_cond rfl (fun c2 => ?_) (fun c2 => ?_)
  · try simp only [sH] at c2
    exact absurd c2 (by simp)
  try simp only [sH] at c2
  refine w_skip ?_
  refine w_seq ?_
  refine w_region ?_
  refine b_alloc (cs := bookC [] none 0 [] none 0) rfl ze_75 rfl H (fun b13 w H => ?_)
  have H := bk_new H
  refine l_nil ?_
  refine w_seq ?_
  refine w_seq ?_
  refine w_region ?_
  refine l_pint rfl rfl ?_
  refine l_nil ?_
  refine w_block ?_
  refine w_loopG (G := Nat) [8, 14, 54, 55, 56, 57, 58, 59, 60, 61, 62, 63, 64, 65, 66, 67] (fun i => [(14, I64 ((i : Nat) : Int))]) (fun m i w => m + i = os.length ∧ St W w (bkX b13 i :: F)) (fun _ => rfl) ?_ ?_
  · exact ⟨os.length, 0, ⟨rfl, trivial⟩, rfl, H⟩
  rintro m i ρ1 w ⟨hmi, H⟩
  refine w_seq ?_
  refine w_seq ?_
  refine w_region ?_
  refine l_pint rfl rfl ?_
  refine l_pslice rfl rfl ?_
  refine l_v rfl (q_lenSlice rfl el_39 rfl) ?_
  refine l_pbool rfl rfl ?_
  refine l_nil ?_
  refine w_cond rfl (fun c3 => ?_) (fun c3 => ?_)
  · try simp only [sH] at c3
    obtain ⟨o, ho⟩ : ∃ o, os[i]? = some o := ⟨_, List.getElem?_eq_getElem (by omega)⟩
    obtain ⟨b0, o0, hoa, hoc⟩ := op_cells ((RdIn.ro hro).use H 0 rfl) ho
    have hop := hgo o (List.mem_of_getElem? ho)
    have hii : i * i ≤ 1048576 * 1048576 := Nat.mul_le_mul (by omega) (by omega)
    refine w_skip ?_
    refine w_seq ?_
    refine w_block ?_
    refine w_seq ?_
    refine w_region ?_
    refine l_pptr rfl rfl ?_
    refine l_pptr rfl rfl ?_
    refine l_pslice rfl rfl ?_
    refine l_pint rfl rfl ?_
    refine l_v rfl (q_indexSliceA rfl el_39 rfl hoa rfl (by omega)) ?_
    refine l_v rfl (q_loadN (vs := o.cells) rfl ag_41 rfl rfl hoc) ?_
    refine b_call rfl cb_36 rfl (does_nil H (by omega) (RdIn.ro hop.1) hop.2.1 hop.2.2) (fun v w hv => ?_)
    obtain ⟨rfl, H⟩ := hv
    refine l_pbool rfl rfl ?_
    refine l_nil ?_
    refine w_cond rfl (fun c4 => ?_) (fun c4 => ?_)
    · try simp only [sH] at c4
      exact absurd c4 (by simp)
    try simp only [sH] at c4
    refine w_skip ?_
    refine w_region ?_
    refine l_pint rfl rfl ?_
    first | refine l_v rfl (q_add rfl rfl rfl (by simp only [inK]; omega)) ?_ | refine l_pint rfl rfl ?_
    refine l_pint rfl rfl ?_
    refine l_nil ?_
    refine ⟨by repeat' first | exact aM | exact aR | refine aI rfl ?_ | refine aU rfl ?_ | refine aL rfl ?_, ?_⟩
    exact ⟨m - 1, i + 1, by omega, ⟨by exact congrArg (Value.int IntKind.i64) (Int.natCast_succ i).symm, trivial⟩, by omega, H⟩
  try simp only [sH] at c3
  obtain rfl : i = os.length := by omega
  refine w_exit ?_
  refine w_seq ?_
  refine w_seq ?_
  refine w_region ?_
  refine l_pptr rfl rfl ?_
  refine l_pptr rfl rfl ?_
  refine l_v rfl (q_build (cs := (zop 13 0).cells) rfl sp_41 rfl) ?_
  refine b_call rfl cb_36 rfl (does_nil (o := zop 13 0) H (by omega) RdIn.nil rfl (Nat.zero_le _)) (fun v w hv => ?_)
  obtain ⟨rfl, H⟩ := hv
  refine l_pbool rfl rfl ?_
  refine l_pbool rfl rfl ?_
  refine l_split 73 rfl (fun h73 => absurd h73 (by simp)) (fun h73 => ?_)
  try simp only [sH] at h73
  refine l_pptr rfl rfl ?_
  refine l_pptr rfl rfl ?_
  refine l_v rfl (q_build (cs := (zop 10 0).cells) rfl sp_41 rfl) ?_
  refine b_call rfl cb_36 rfl (does_nil (o := zop 10 0) H (by omega) RdIn.nil rfl (Nat.zero_le _)) (fun v w hv => ?_)
  obtain ⟨rfl, H⟩ := hv
  refine l_pbool rfl rfl ?_
  refine l_pickF (v := .bool _) rfl rfl rfl ?_
  refine l_pbool rfl rfl ?_
  refine l_split 80 rfl (fun h80 => absurd h80 (by simp)) (fun h80 => ?_)
  try simp only [sH] at h80
  refine l_pptr rfl rfl ?_
  refine l_pptr rfl rfl ?_
  refine b_call rfl cb_37 rfl (each_nil H) (fun v w hv => ?_)
  obtain ⟨rfl, H⟩ := hv
  refine l_pbool rfl rfl ?_
  refine l_pickF (v := .bool _) rfl rfl rfl ?_
  refine l_nil ?_
  refine w_cond rfl (fun c5 => ?_) (fun c5 => ?_)
  · try simp only [sH] at c5
    exact absurd c5 (by simp)
  try simp only [sH] at c5
  refine w_skip ?_
  refine w_seq ?_
  refine w_seq ?_
  refine w_region ?_
  refine l_pint rfl rfl ?_
  refine l_nil ?_
  refine w_block ?_
  refine w_loopG (G := Nat) [8, 15, 86, 87, 88, 89, 90, 91, 92, 93, 94, 95, 96, 97] (fun j => [(15, I64 ((j : Nat) : Int))]) (fun m j w => m + j = 0 ∧ St W w (bkX b13 (os.length + 1 + 1) :: F)) (fun _ => rfl) ?_ ?_
  · exact ⟨0, 0, ⟨rfl, trivial⟩, rfl, H⟩
  rintro m j ρ1 w ⟨hmj, H⟩
  refine w_seq ?_
  refine w_seq ?_
  refine w_region ?_
  refine l_pint rfl rfl ?_
  refine l_pptr rfl rfl ?_
  refine b_call rfl cb_38 rfl (rSent_nil H) (fun v w hv => ?_)
  obtain ⟨rfl, H⟩ := hv
  refine l_pbool rfl rfl ?_
  refine l_nil ?_
  refine w_cond rfl (fun c6 => ?_) (fun c6 => ?_)
  · try simp only [sH] at c6
    exact absurd c6 (by simp)
  try simp only [sH] at c6
  refine w_exit ?_
  refine w_seq ?_
  refine w_seq ?_
  refine w_region ?_
  refine b_call rfl cb_39 rfl (bkApart_ok H (by omega)) (fun v w hv => ?_)
  obtain ⟨rfl, H⟩ := hv
  refine l_pbool rfl rfl ?_
  refine l_nil ?_
  refine w_cond rfl (fun c7 => ?_) (fun c7 => ?_)
  · try simp only [sH] at c7
    exact absurd c7 (by simp)
  try simp only [sH] at c7
  refine w_skip ?_
  refine w_seq ?_
  refine w_seq ?_
  refine w_region ?_
  refine l_pint rfl rfl ?_
  refine l_nil ?_
  refine w_block ?_
  refine w_loopG (G := Nat) [8, 16, 17, 18, 19, 20, 100, 101, 102, 103, 104, 105, 106, 107, 108, 109, 110, 111, 112, 113, 114, 115, 116, 117, 118, 119, 120, 121, 122, 123, 124, 125, 126] (fun k => [(16, I64 ((k : Nat) : Int))]) (fun m k w => m + k = 0 ∧ St W w F) (fun _ => rfl) ?_ ?_
  · exact ⟨0, 0, ⟨rfl, trivial⟩, rfl, H⟩
  rintro m k ρ1 w ⟨hmk, H⟩
  refine w_seq ?_
  refine w_seq ?_
  refine w_region ?_
  refine l_pint rfl rfl ?_
  refine l_pptr rfl rfl ?_
  refine b_call rfl cb_40 rfl (rLen_nil H) (fun v w hv => ?_)
  obtain ⟨rfl, H⟩ := hv
  refine l_pbool rfl rfl ?_
  refine l_nil ?_
  refine w_cond rfl (fun c8 => ?_) (fun c8 => ?_)
  · try simp only [sH] at c8
    exact absurd c8 (by simp)
  try simp only [sH] at c8
  refine w_exit ?_
  refine w_seq ?_
  refine w_seq ?_
  refine w_region ?_
  refine l_pint rfl rfl ?_
  refine l_nil ?_
  refine w_block ?_
  refine w_loopG (G := Nat) [8, 21, 22, 23, 127, 128, 129, 130, 131, 132, 133, 134, 135, 136, 137, 138, 139, 140, 141, 142] (fun u => [(21, I64 ((u : Nat) : Int))]) (fun m u w => m + u = 0 ∧ St W w F) (fun _ => rfl) ?_ ?_
  · exact ⟨0, 0, ⟨rfl, trivial⟩, rfl, H⟩
  rintro m u ρ1 w ⟨hmu, H⟩
  refine w_seq ?_
  refine w_seq ?_
  refine w_region ?_
  refine l_pint rfl rfl ?_
  refine l_pptr rfl rfl ?_
  refine b_call rfl cb_38 rfl (rSent_nil H) (fun v w hv => ?_)
  obtain ⟨rfl, H⟩ := hv
  refine l_pbool rfl rfl ?_
  refine l_nil ?_
  refine w_cond rfl (fun c9 => ?_) (fun c9 => ?_)
  · try simp only [sH] at c9
    exact absurd c9 (by simp)
  try simp only [sH] at c9
  refine w_exit ?_
  refine w_seq ?_
  refine w_region ?_
  refine b_call rfl cb_11 rfl (works_ok H) (fun v w hv => ?_)
  obtain ⟨rfl, H⟩ := hv
  refine l_pbool rfl rfl ?_
  refine l_nil ?_
  refine w_ret ?_
  refine fin1 (v := .bool _) rfl ?_
  exact ⟨rfl, _, H⟩
set_option maxRecDepth 8000 in
set_option maxHeartbeats 2000000 in
theorem plays_bad {W w : World} {F : List Seg} (H : St W w F) (nodes clients : Int) (hval : ¬ NVal nodes clients) {oa : Option Addr} {oc : Nat} {os : List OpS} (hro : RdIn W [] oa (opsL os)) (hgo : OpGood W os) (hon : os.length ≤ 1048576) :
    Ok Try.prog 8 [.int .i64 nodes, .int .i64 clients, .bool true, .slice oa os.length oc].toArray w (fun v w' => v = .bool true ∧ ∃ S, St W w' S) := by
  refine enter (n := 144) (rs := #[.tmp 8]) Try.func8 rfl rfl rfl rfl ?_
  refine w_seq ?_
  refine w_region ?_
  refine l_pbool rfl rfl ?_
  refine l_nil ?_
  refine w_seq ?_
  refine w_region ?_
  refine l_pint rfl rfl ?_
  refine l_pint rfl rfl ?_
  refine b_call rfl cb_34 rfl (New_ok H nodes clients) (fun v w hv => ?_)
  obtain ⟨_, rfl, H⟩ := hv.resolve_right (fun h => hval h.1)
  refine l_ptup rfl rfl ?_
  refine l_pptr rfl rfl ?_
  refine l_pint rfl rfl ?_
  refine l_pptr rfl rfl ?_
  refine l_pint rfl rfl ?_
  refine l_nil ?_
  refine w_seq ?_
  refine w_region ?_
  refine l_pint rfl rfl ?_
  refine l_pint rfl rfl ?_
  refine b_call rfl cb_35 rfl (rNew_ok H nodes clients) (fun v w hv => ?_)
  obtain ⟨x, y, rfl, hv⟩ := hv
  obtain ⟨_, rfl, rfl, H⟩ := hv.resolve_right (fun h => hval h.1)
  refine l_ptup rfl rfl ?_
  refine l_pptr rfl rfl ?_
  refine l_pint rfl rfl ?_
  refine l_pptr rfl rfl ?_
  refine l_pint rfl rfl ?_
  refine l_nil ?_
  refine w_seq ?_
  refine w_seq ?_
  refine w_region ?_
  refine l_pint rfl rfl ?_
  refine l_pint rfl rfl ?_
  refine l_pbool rfl rfl ?_
  refine l_pbool rfl rfl ?_
  refine l_split 39 rfl (fun h39 => absurd h39 (by simp)) (fun h39 => ?_)
  try simp only [sH] at h39
  refine l_pptr rfl rfl ?_
  refine l_v rfl (q_eqlNilT rfl pt_24 rfl rfl) ?_
  refine l_pptr rfl rfl ?_
  refine l_v rfl (q_eqlNilT rfl pt_61 rfl rfl) ?_
  refine l_v rfl (q_neqBool rfl bo_4 rfl rfl) ?_
  refine l_pickF (v := .bool _) rfl rfl rfl ?_
  refine l_nil ?_
  refine w_cond rfl (fun c1 => ?_) (fun c1 => ?_)
  · try simp only [sH] at c1
    exact absurd c1 (by simp)
  try simp only [sH] at c1
  refine w_skip ?_
  refine w_cutG (G := Unit) [9, 11, 46] (fun ⟨⟩ => [(9, .pointer none), (11, .pointer none)]) (fun ⟨⟩ w => St W w F) (fun _ => rfl) ?_ ?_
  · refine w_seq ?_
    refine w_region ?_
    refine l_pbool rfl rfl ?_
    refine l_nil ?_
    refine w_cond_t rfl ?_
    refine w_seq ?_
    refine w_region ?_
    refine l_pptr rfl rfl ?_
    refine l_nil ?_
    refine w_region ?_
    refine l_pptr rfl rfl ?_
    refine l_nil ?_
    refine ⟨by repeat' first | exact aM | exact aR | refine aI rfl ?_ | refine aU rfl ?_ | refine aL rfl ?_, ?_⟩
    exact ⟨⟨⟩, ⟨rfl, rfl, trivial⟩, H⟩
  rintro ⟨⟩ ρ1 w H
  refine w_seq ?_
  refine w_seq ?_
  refine w_region ?_
  refine l_pptr rfl rfl ?_
  refine l_v rfl (q_eqlNilT rfl pt_61 rfl rfl) ?_
  refine l_pbool rfl rfl ?_
  refine l_pbool rfl rfl ?_
  refine l_pbool rfl rfl ?_
  refine l_pickT (v := .bool _) rfl rfl rfl ?_
  refine l_nil ?_
  refine w_cond rfl (fun c2 => ?_) (fun c2 => ?_)
  · try simp only [sH] at c2
    exact absurd c2 (by simp)
  try simp only [sH] at c2
  refine w_skip ?_
  refine w_seq ?_
  refine w_region ?_
  refine b_alloc (cs := bookC [] none 0 [] none 0) rfl ze_75 rfl H (fun b13 w H => ?_)
  have H := bk_new H
  refine l_nil ?_
  refine w_seq ?_
  refine w_seq ?_
  refine w_region ?_
  refine l_pint rfl rfl ?_
  refine l_nil ?_
  refine w_block ?_
  refine w_loopG (G := Nat) [8, 14, 54, 55, 56, 57, 58, 59, 60, 61, 62, 63, 64, 65, 66, 67] (fun i => [(14, I64 ((i : Nat) : Int))]) (fun m i w => m + i = os.length ∧ St W w (bkX b13 i :: F)) (fun _ => rfl) ?_ ?_
  · exact ⟨os.length, 0, ⟨rfl, trivial⟩, rfl, H⟩
  rintro m i ρ1 w ⟨hmi, H⟩
  refine w_seq ?_
  refine w_seq ?_
  refine w_region ?_
  refine l_pint rfl rfl ?_
  refine l_pslice rfl rfl ?_
  refine l_v rfl (q_lenSlice rfl el_39 rfl) ?_
  refine l_pbool rfl rfl ?_
  refine l_nil ?_
  refine w_cond rfl (fun c3 => ?_) (fun c3 => ?_)
  · try simp only [sH] at c3
    obtain ⟨o, ho⟩ : ∃ o, os[i]? = some o := ⟨_, List.getElem?_eq_getElem (by omega)⟩
    obtain ⟨b0, o0, hoa, hoc⟩ := op_cells ((RdIn.ro hro).use H 0 rfl) ho
    have hop := hgo o (List.mem_of_getElem? ho)
    have hii : i * i ≤ 1048576 * 1048576 := Nat.mul_le_mul (by omega) (by omega)
    refine w_skip ?_
    refine w_seq ?_
    refine w_block ?_
    refine w_seq ?_
    refine w_region ?_
    refine l_pptr rfl rfl ?_
    refine l_pptr rfl rfl ?_
    refine l_pslice rfl rfl ?_
    refine l_pint rfl rfl ?_
    refine l_v rfl (q_indexSliceA rfl el_39 rfl hoa rfl (by omega)) ?_
    refine l_v rfl (q_loadN (vs := o.cells) rfl ag_41 rfl rfl hoc) ?_
    refine b_call rfl cb_36 rfl (does_nil H (by omega) (RdIn.ro hop.1) hop.2.1 hop.2.2) (fun v w hv => ?_)
    obtain ⟨rfl, H⟩ := hv
    refine l_pbool rfl rfl ?_
    refine l_nil ?_
    refine w_cond rfl (fun c4 => ?_) (fun c4 => ?_)
    · try simp only [sH] at c4
      exact absurd c4 (by simp)
    try simp only [sH] at c4
    refine w_skip ?_
    refine w_region ?_
    refine l_pint rfl rfl ?_
    first | refine l_v rfl (q_add rfl rfl rfl (by simp only [inK]; omega)) ?_ | refine l_pint rfl rfl ?_
    refine l_pint rfl rfl ?_
    refine l_nil ?_
    refine ⟨by repeat' first | exact aM | exact aR | refine aI rfl ?_ | refine aU rfl ?_ | refine aL rfl ?_, ?_⟩
    exact ⟨m - 1, i + 1, by omega, ⟨by exact congrArg (Value.int IntKind.i64) (Int.natCast_succ i).symm, trivial⟩, by omega, H⟩
  try simp only [sH] at c3
  obtain rfl : i = os.length := by omega
  refine w_exit ?_
  refine w_seq ?_
  refine w_seq ?_
  refine w_region ?_
  refine l_pptr rfl rfl ?_
  refine l_pptr rfl rfl ?_
  refine l_v rfl (q_build (cs := (zop 13 0).cells) rfl sp_41 rfl) ?_
  refine b_call rfl cb_36 rfl (does_nil (o := zop 13 0) H (by omega) RdIn.nil rfl (Nat.zero_le _)) (fun v w hv => ?_)
  obtain ⟨rfl, H⟩ := hv
  refine l_pbool rfl rfl ?_
  refine l_pbool rfl rfl ?_
  refine l_split 73 rfl (fun h73 => absurd h73 (by simp)) (fun h73 => ?_)
  try simp only [sH] at h73
  refine l_pptr rfl rfl ?_
  refine l_pptr rfl rfl ?_
  refine l_v rfl (q_build (cs := (zop 10 0).cells) rfl sp_41 rfl) ?_
  refine b_call rfl cb_36 rfl (does_nil (o := zop 10 0) H (by omega) RdIn.nil rfl (Nat.zero_le _)) (fun v w hv => ?_)
  obtain ⟨rfl, H⟩ := hv
  refine l_pbool rfl rfl ?_
  refine l_pickF (v := .bool _) rfl rfl rfl ?_
  refine l_pbool rfl rfl ?_
  refine l_split 80 rfl (fun h80 => absurd h80 (by simp)) (fun h80 => ?_)
  try simp only [sH] at h80
  refine l_pptr rfl rfl ?_
  refine l_pptr rfl rfl ?_
  refine b_call rfl cb_37 rfl (each_nil H) (fun v w hv => ?_)
  obtain ⟨rfl, H⟩ := hv
  refine l_pbool rfl rfl ?_
  refine l_pickF (v := .bool _) rfl rfl rfl ?_
  refine l_nil ?_
  refine w_cond rfl (fun c5 => ?_) (fun c5 => ?_)
  · try simp only [sH] at c5
    exact absurd c5 (by simp)
  try simp only [sH] at c5
  refine w_skip ?_
  refine w_seq ?_
  refine w_seq ?_
  refine w_region ?_
  refine l_pint rfl rfl ?_
  refine l_nil ?_
  refine w_block ?_
  refine w_loopG (G := Nat) [8, 15, 86, 87, 88, 89, 90, 91, 92, 93, 94, 95, 96, 97] (fun j => [(15, I64 ((j : Nat) : Int))]) (fun m j w => m + j = 0 ∧ St W w (bkX b13 (os.length + 1 + 1) :: F)) (fun _ => rfl) ?_ ?_
  · exact ⟨0, 0, ⟨rfl, trivial⟩, rfl, H⟩
  rintro m j ρ1 w ⟨hmj, H⟩
  refine w_seq ?_
  refine w_seq ?_
  refine w_region ?_
  refine l_pint rfl rfl ?_
  refine l_pptr rfl rfl ?_
  refine b_call rfl cb_38 rfl (rSent_nil H) (fun v w hv => ?_)
  obtain ⟨rfl, H⟩ := hv
  refine l_pbool rfl rfl ?_
  refine l_nil ?_
  refine w_cond rfl (fun c6 => ?_) (fun c6 => ?_)
  · try simp only [sH] at c6
    exact absurd c6 (by simp)
  try simp only [sH] at c6
  refine w_exit ?_
  refine w_seq ?_
  refine w_seq ?_
  refine w_region ?_
  refine b_call rfl cb_39 rfl (bkApart_ok H (by omega)) (fun v w hv => ?_)
  obtain ⟨rfl, H⟩ := hv
  refine l_pbool rfl rfl ?_
  refine l_nil ?_
  refine w_cond rfl (fun c7 => ?_) (fun c7 => ?_)
  · try simp only [sH] at c7
    exact absurd c7 (by simp)
  try simp only [sH] at c7
  refine w_skip ?_
  refine w_seq ?_
  refine w_seq ?_
  refine w_region ?_
  refine l_pint rfl rfl ?_
  refine l_nil ?_
  refine w_block ?_
  refine w_loopG (G := Nat) [8, 16, 17, 18, 19, 20, 100, 101, 102, 103, 104, 105, 106, 107, 108, 109, 110, 111, 112, 113, 114, 115, 116, 117, 118, 119, 120, 121, 122, 123, 124, 125, 126] (fun k => [(16, I64 ((k : Nat) : Int))]) (fun m k w => m + k = 0 ∧ St W w F) (fun _ => rfl) ?_ ?_
  · exact ⟨0, 0, ⟨rfl, trivial⟩, rfl, H⟩
  rintro m k ρ1 w ⟨hmk, H⟩
  refine w_seq ?_
  refine w_seq ?_
  refine w_region ?_
  refine l_pint rfl rfl ?_
  refine l_pptr rfl rfl ?_
  refine b_call rfl cb_40 rfl (rLen_nil H) (fun v w hv => ?_)
  obtain ⟨rfl, H⟩ := hv
  refine l_pbool rfl rfl ?_
  refine l_nil ?_
  refine w_cond rfl (fun c8 => ?_) (fun c8 => ?_)
  · try simp only [sH] at c8
    exact absurd c8 (by simp)
  try simp only [sH] at c8
  refine w_exit ?_
  refine w_seq ?_
  refine w_seq ?_
  refine w_region ?_
  refine l_pint rfl rfl ?_
  refine l_nil ?_
  refine w_block ?_
  refine w_loopG (G := Nat) [8, 21, 22, 23, 127, 128, 129, 130, 131, 132, 133, 134, 135, 136, 137, 138, 139, 140, 141, 142] (fun u => [(21, I64 ((u : Nat) : Int))]) (fun m u w => m + u = 0 ∧ St W w F) (fun _ => rfl) ?_ ?_
  · exact ⟨0, 0, ⟨rfl, trivial⟩, rfl, H⟩
  rintro m u ρ1 w ⟨hmu, H⟩
  refine w_seq ?_
  refine w_seq ?_
  refine w_region ?_
  refine l_pint rfl rfl ?_
  refine l_pptr rfl rfl ?_
  refine b_call rfl cb_38 rfl (rSent_nil H) (fun v w hv => ?_)
  obtain ⟨rfl, H⟩ := hv
  refine l_pbool rfl rfl ?_
  refine l_nil ?_
  refine w_cond rfl (fun c9 => ?_) (fun c9 => ?_)
  · try simp only [sH] at c9
    exact absurd c9 (by simp)
  try simp only [sH] at c9
  refine w_exit ?_
  refine w_seq ?_
  refine w_region ?_
  refine b_call rfl cb_11 rfl (works_ok H) (fun v w hv => ?_)
  obtain ⟨rfl, H⟩ := hv
  refine l_pbool rfl rfl ?_
  refine l_nil ?_
  refine w_ret ?_
  refine fin1 (v := .bool _) rfl ?_
  exact ⟨rfl, _, H⟩
set_option maxRecDepth 8000 in
set_option maxHeartbeats 2000000 in
theorem plays_works {W w : World} {F : List Seg} (H : St W w F) (nodes clients : Int) (hval : ¬ NVal nodes clients) {oa : Option Addr} {oc : Nat} {os : List OpS} (hro : RdIn W [] oa (opsL os)) (hgo : OpGood W os) (hon : os.length ≤ 1048576) :
    Ok Try.prog 8 [.int .i64 nodes, .int .i64 clients, .bool false, .slice oa os.length oc].toArray w (fun v w' => v = .bool true ∧ ∃ S, St W w' S) := by
  refine enter (n := 144) (rs := #[.tmp 8]) Try.func8 rfl rfl rfl rfl ?_
  refine w_seq ?_
  refine w_region ?_
  refine l_pbool rfl rfl ?_
  refine l_nil ?_
  refine w_seq ?_
  refine w_region ?_
  refine l_pint rfl rfl ?_
  refine l_pint rfl rfl ?_
  refine b_call rfl cb_34 rfl (New_ok H nodes clients) (fun v w hv => ?_)
  obtain ⟨_, rfl, H⟩ := hv.resolve_right (fun h => hval h.1)
  refine l_ptup rfl rfl ?_
  refine l_pptr rfl rfl ?_
  refine l_pint rfl rfl ?_
  refine l_pptr rfl rfl ?_
  refine l_pint rfl rfl ?_
  refine l_nil ?_
  refine w_seq ?_
  refine w_region ?_
  refine l_pint rfl rfl ?_
  refine l_pint rfl rfl ?_
  refine b_call rfl cb_35 rfl (rNew_ok H nodes clients) (fun v w hv => ?_)
  obtain ⟨x, y, rfl, hv⟩ := hv
  obtain ⟨_, rfl, rfl, H⟩ := hv.resolve_right (fun h => hval h.1)
  refine l_ptup rfl rfl ?_
  refine l_pptr rfl rfl ?_
  refine l_pint rfl rfl ?_
  refine l_pptr rfl rfl ?_
  refine l_pint rfl rfl ?_
  refine l_nil ?_
  refine w_seq ?_
  refine w_seq ?_
  refine w_region ?_
  refine l_pint rfl rfl ?_
  refine l_pint rfl rfl ?_
  refine l_pbool rfl rfl ?_
  refine l_pbool rfl rfl ?_
  refine l_split 39 rfl (fun h39 => absurd h39 (by simp)) (fun h39 => ?_)
  try simp only [sH] at h39
  refine l_pptr rfl rfl ?_
  refine l_v rfl (q_eqlNilT rfl pt_24 rfl rfl) ?_
  refine l_pptr rfl rfl ?_
  refine l_v rfl (q_eqlNilT rfl pt_61 rfl rfl) ?_
  refine l_v rfl (q_neqBool rfl bo_4 rfl rfl) ?_
  refine l_pickF (v := .bool _) rfl rfl rfl ?_
  refine l_nil ?_
  refine w_cond rfl (fun c1 => ?_) (fun c1 => ?_)
  · try simp only [sH] at c1
    exact absurd c1 (by simp)
  try simp only [sH] at c1
  refine w_skip ?_
  refine w_seq ?_
  refine w_seq ?_
  refine w_region ?_
  refine l_pbool rfl rfl ?_
  refine l_nil ?_
  refine w_cond_f rfl ?_
  refine w_skip ?_
  refine w_seq ?_
  refine w_seq ?_
  refine w_region ?_
  refine l_pptr rfl rfl ?_
  refine l_v rfl (q_eqlNilT rfl pt_61 rfl rfl) ?_
  refine l_pbool rfl rfl ?_
  refine l_pbool rfl rfl ?_
  refine l_pbool rfl rfl ?_
  refine l_pickT (v := .bool _) rfl rfl rfl ?_
  refine l_nil ?_
  refine w_cond rfl (fun c2 => ?_) (fun c2 => ?_)
  · try simp only [sH] at c2
    refine w_seq ?_
    refine w_region ?_
    refine b_call rfl cb_11 rfl (works_ok H) (fun v w hv => ?_)
    obtain ⟨rfl, H⟩ := hv
    refine l_pbool rfl rfl ?_
    refine l_nil ?_
    refine w_ret ?_
    refine fin1 (v := .bool _) rfl ?_
    exact ⟨rfl, _, H⟩
  try simp only [sH] at c2
  exact absurd c2 (by simp)
end Go.Proofs.Ytmgcmgfjaimlnaa
