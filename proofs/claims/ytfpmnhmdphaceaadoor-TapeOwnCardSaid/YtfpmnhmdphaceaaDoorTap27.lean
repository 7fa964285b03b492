/- Walks through the tape's functions. -/
import Derived.Test.YtfpmnhmdphaceaaDoorTap26
import Derived.Test.YtfpmnhmdphaceaaDoorTapMAll
namespace Go.Proofs.YtfpmnhmdphaceaaDoor
open Go.EW
attribute [local irreducible] EW.W EW.L EW.fin block8 outB shaL
set_option linter.unusedVariables false
set_option linter.unusedSimpArgs false
attribute [local irreducible] crcN crcB crcL sealL openR sealR
def ss0 : SS := ⟨stp0, [], [], 0, [], 0⟩
def sp0 : SP := ⟨none, 0, 0, none, 0, none, 0, [], none, 0, none, 0, []⟩
def SP.at (p : SP) (a : Option Addr) (n c : Nat) : SP := { p with ba := a, bn := n, bc := c }
/-- what stands behind the chunks; the foot's body, its frame's length are handed -/
def tailR (bs : List UInt8) (s : SS) (q : Nat) (fb : List UInt8) (n : Nat) : Nat × Nat × SS :=
  if (footR fb).2.2 = false then (220, q, s) else if footC s.evs.length s.places (bs.take q) ≠ (bs.drop q).take n then (221, q, s)
  else if bs.length - (q + n) < 4 then (222, q + n, { s with right := q + n }) else if (bs.drop (q + n)).take 4 ≠ be4 n then (221, q + n, { s with right := q + n })
  else if q + n + 4 < bs.length then (220, q + n + 4, { s with right := q + n + 4 }) else (0, q + n + 4, { s with right := q + n + 4 })
/-- the chunks from a place on -/
def loopR (bs : List UInt8) : Nat → SS → Nat → Nat × Nat × SS
  | 0, s, q => (0, q, s)
  | k + 1, s, q =>
    if (bodyR bs q).2.2 ≠ 0 then ((bodyR bs q).2.2, q, { s with right := q })
    else if numberR (bodyR bs q).1 = 3 then tailR bs { s with right := q } q (bodyR bs q).1 (bodyR bs q).2.1
    else if (chunkR { s with right := q } (bodyR bs q).1 q).1 = false then (220, q, { s with right := q })
    else loopR bs k (chunkR { s with right := q } (bodyR bs q).1 q).2 (q + (bodyR bs q).2.1)
/-- a file: the error, its place, what is known -/
def runR (bs : List UInt8) : Nat × Nat × SS :=
  if (bodyR bs 0).2.2 ≠ 0 then ((bodyR bs 0).2.2, 0, ss0) else if (headR (bodyR bs 0).1).2 = false then (220, 0, ss0)
  else loopR bs (bs.length + 1) { ss0 with stp := (headR (bodyR bs 0).1).1 } (bodyR bs 0).2.1
attribute [local semireducible] openR in
theorem openR_le (x : List UInt8) : (openR x).1.length ≤ x.length := by
  unfold openR
  repeat' split
  all_goals first | exact Nat.zero_le _ | (rw [List.length_take, List.length_drop]; omega)
theorem bodyR_le (bs : List UInt8) (p : Nat) : (bodyR bs p).1.length ≤ 32768 ∧ ((bodyR bs p).2.2 = 0 → p ≤ bs.length → p + (bodyR bs p).2.1 ≤ bs.length ∧ 12 ≤ (bodyR bs p).2.1 ∧ (bodyR bs p).2.1 ≤ 32768) := by
  unfold bodyR
  split
  · exact ⟨Nat.zero_le _, by simp⟩
  split
  · exact ⟨Nat.zero_le _, by simp⟩
  split
  · exact ⟨Nat.zero_le _, by simp⟩
  split
  · exact ⟨Nat.zero_le _, by simp⟩
  split
  · exact ⟨Nat.zero_le _, by simp⟩
  refine ⟨?_, fun _ hp => ?_⟩
  · have h := openR_le ((bs.drop p).take (numB ((bs.drop (p + 4)).take 4) + 12))
    rw [List.length_take] at h
    simp only []; omega
  simp only []; omega
theorem chunkR_false {s : SS} {b : List UInt8} {p : Nat} (h : (chunkR s b p).1 = false) : (chunkR s b p).2 = s := by
  unfold chunkR at *
  split at h
  · rename_i hc; rw [if_pos hc]
  cases h
theorem chunkR_pl {s : SS} {b : List UInt8} {p m : Nat} (h : ∀ x ∈ s.places, x ≤ m) (hp : p ≤ m) : ∀ x ∈ (chunkR s b p).2.places, x ≤ m := by
  unfold chunkR
  split
  · exact h
  intro x hx
  rcases List.mem_append.1 hx with hx | hx
  · exact h x hx
  rw [List.mem_singleton.1 hx]; exact hp
theorem SOk.setR {s : SS} (h : SOk s) (q : Nat) : SOk { s with right := q } := ⟨h.evs, h.places, h.first, h.cnt, h.each⟩
theorem SPOk.setR {p : SP} {s : SS} (h : SPOk p s) (q : Nat) : SPOk p { s with right := q } := ⟨h.evs, h.last⟩
theorem SPOk.at_ {p : SP} {s : SS} (h : SPOk p s) (a : Option Addr) (n c : Nat) : SPOk (p.at a n c) s := ⟨h.evs, h.last⟩
theorem at_of {p : SP} {a : Option Addr} {n c : Nat} (h1 : p.ba = a) (h2 : p.bn = n) (h3 : p.bc = c) : p = p.at a n c := by
  subst h1 h2 h3; rfl
set_option maxRecDepth 8000 in
set_option maxHeartbeats 1000000 in
theorem run_ok {W w : World} {F : List Seg} (hN : NibOk W) {sb : Nat} {a : Option Addr} {n c : Nat} {bs : List UInt8} (H : St W w (scanL sb (sp0.at a n c) ss0 (F))) (hr : RdIn W F a (bs.map B)) (hl : bs.length = n) (hcp : bs.length ≤ c) (hn : n ≤ 140737488351232) :
    Ok Tryd.prog 66 [.pointer (some ⟨sb, 0, none⟩)].toArray w (fun r w' => ∃ P, r = .tuple #[I ((runR bs).1 : Int), I ((runR bs).2.1 : Int)] ∧ SPOk P (runR bs).2.2 ∧ St W w' (scanL sb (P.at a bs.length c) (runR bs).2.2 (F))) := by
  subst hl
  refine enter (n := 145) (rs := #[.tmp 2, .tmp 3]) Tryd.func66 rfl rfl rfl rfl ?_
  refine w_seq ?_
  refine w_region ?_
  refine l_pint rfl rfl ?_
  refine l_pint rfl rfl ?_
  refine l_nil ?_
  refine w_scopeG (G := Nat × Nat × SP × SS) 0 [2, 3, 4, 5, 6, 7, 8, 9, 10, 11, 12, 13, 14, 15, 16, 17, 18, 19, 20, 21, 22, 23, 24, 25, 26, 27, 28, 29, 30, 31, 32, 33, 34, 35, 36, 37, 38, 39, 40, 41, 42, 43, 44, 45, 46, 47, 48, 49, 50, 51, 52, 53, 54, 55, 56, 57, 58, 59, 60, 61, 62, 63, 64, 65, 66, 67, 68, 69, 70, 71, 72, 73, 74, 75, 76, 77, 78, 79, 80, 81, 82, 83, 84, 85, 86, 87, 88, 89, 90, 91, 92, 93, 94, 95, 96, 97, 98, 99, 100, 101, 102, 103, 104, 105, 106, 107, 108, 109, 110, 111, 112, 113, 114, 115, 116, 117, 118, 119, 120, 121, 122, 123, 124, 125, 126, 127, 128, 129, 130, 131, 132, 133, 134, 135, 136, 137, 138, 139, 140, 141, 142, 143, 144] (fun ⟨e, p, P, s⟩ => [(4, .int .i64 ((e : Nat) : Int)), (8, .int .i64 ((p : Nat) : Int))]) (fun ⟨e, p, P, s⟩ w => runR bs = (e, p, s) ∧ SPOk P s ∧ St W w (scanL sb (P.at a bs.length c) s (F))) rfl (fun _ => rfl) ?_ ?_
  · refine w_seq ?_
    refine w_region ?_
    refine l_pint rfl rfl ?_
    refine l_nil ?_
    refine w_seq ?_
    refine w_region ?_
    refine l_pslice rfl rfl ?_
    refine l_nil ?_
    refine w_seq ?_
    refine w_region ?_
    refine l_pptr rfl rfl ?_
    refine l_pptr rfl rfl ?_
    refine l_v rfl (q_fieldAddr rfl fo146_0 rfl) ?_
    refine l_v rfl (q_load1 (v := .slice a bs.length c) rfl c1_28 rfl (H.cell 0 rfl rfl)) ?_
    refine b_call rfl cb_81 rfl (body_ok (p := 0) hN H (hr.up 6 rfl) rfl hcp (by omega) (Nat.zero_le _)) (fun v w hv => ?_)
    obtain ⟨ba, bc, rfl, H⟩ := hv
    have H : St W w (scanL sb (sp0.at a bs.length c) ss0 (row 5 1 ba (bodyR bs 0).1.length bc ((bodyR bs 0).1.map B) :: F)) := St.pick [1, 2, 3, 4, 5, 6, 0] (pre := [_, _, _, _, _, _, _]) rfl H rfl
    refine l_ptup rfl rfl ?_
    refine l_pslice rfl rfl ?_
    refine l_pint rfl rfl ?_
    refine l_pint rfl rfl ?_
    refine l_pslice rfl rfl ?_
    refine l_pint rfl rfl ?_
    refine l_pint rfl rfl ?_
    refine l_nil ?_
    refine w_seq ?_
    refine w_region ?_
    refine l_pint rfl rfl ?_
    refine l_nil ?_
    refine w_seq ?_
    refine w_seq ?_
    refine w_region ?_
    refine l_pint rfl rfl ?_
    refine l_pbool rfl rfl ?_
    refine l_nil ?_
    refine w_cond rfl (fun c1 => ?_) (fun c1 => ?_)
    · try simp only [sH] at c1
      refine w_goto ?_
      refine ⟨by repeat' first | exact aM | exact aR | refine aI rfl ?_ | refine aU rfl ?_ | refine aL rfl ?_, ?_⟩
      exact ⟨((bodyR bs 0).2.2, 0, sp0, ss0), ⟨rfl, rfl, trivial⟩, if_pos (by omega), ⟨rfl, rfl⟩, H.erase 6⟩
    try simp only [sH] at c1
    have hb0 := (bodyR_le bs 0).2 (by omega) (Nat.zero_le _)
    refine w_skip ?_
    refine w_seq ?_
    refine w_seq ?_
    refine w_region ?_
    refine l_pslice rfl rfl ?_
    refine b_call rfl cb_105 rfl (head_ok H (RdIn.row 6 rfl) rfl (by have := (bodyR_le bs 0).1; omega)) (fun v w hv => ?_)
    obtain ⟨ca, cc, rfl, H⟩ := hv
    refine l_ptup rfl rfl ?_
    refine l_pagg rfl rfl ?_
    refine l_pbool rfl rfl ?_
    refine b_alloc (cs := stp0.cells none 0) rfl ze_56 rfl H (fun b9 w H => ?_)
    refine b_store (cs' := (headR (bodyR bs 0).1).1.cells ca cc) rfl sz_56 rfl rfl rfl rfl rfl H 0 rfl rfl (putL_all rfl) (fun w H => ?_)
    refine l_pbool rfl rfl ?_
    refine l_nil ?_
    refine w_seq ?_
    refine w_region ?_
    refine l_pbool rfl rfl ?_
    refine l_nil ?_
    refine w_cond rfl (fun c2 => ?_) (fun c2 => ?_)
    · try simp only [sH] at c2
      refine w_region ?_
      refine l_pptr rfl rfl ?_
      refine l_v rfl (q_loadN (vs := (headR (bodyR bs 0).1).1.cells ca cc) rfl ag_56 rfl rfl (H.cells 0 rfl)) ?_
      refine l_pptr rfl rfl ?_
      refine l_v rfl (q_fieldAddr rfl fo146_1 rfl) ?_
      refine b_store (cs' := scells ({ sp0 with ca := ca, cc := cc }.at a bs.length c) { ss0 with stp := (headR (bodyR bs 0).1).1 }) rfl sz_56 rfl rfl rfl rfl rfl H 2 rfl rfl rfl (fun w H => ?_)
      refine l_nil ?_
      refine w_seq ?_
      refine w_block ?_
      refine w_loopG (G := Nat × Nat × SP × SS) [4, 6, 7, 8, 35, 36, 37, 38, 39, 40, 41, 42, 43, 44, 45, 46, 47, 48, 49, 50, 51, 52, 53, 54, 55, 56, 57, 58, 59, 60, 61] (fun ⟨p, n, P, s⟩ => [(7, .int .i64 ((n : Nat) : Int)), (8, .int .i64 ((p : Nat) : Int))]) (fun m ⟨p, n, P, s⟩ w => 12 ≤ n ∧ p + n ≤ bs.length ∧ bs.length < m + (p + n) ∧ SPOk P s ∧ SOk s ∧ (∀ x ∈ s.places, x ≤ bs.length) ∧ runR bs = loopR bs m s (p + n) ∧ St W w (scanL sb (P.at a bs.length c) s (F))) (fun _ => rfl) ?_ ?_
      · exact ⟨bs.length + 1, (0, (bodyR bs 0).2.1, { sp0 with ca := ca, cc := cc }, { ss0 with stp := (headR (bodyR bs 0).1).1 }), ⟨rfl, rfl, trivial⟩, hb0.2.1, hb0.1, by omega, ⟨rfl, rfl⟩, ⟨Nat.zero_le _, Nat.zero_le _, Nat.zero_le _, Nat.zero_le _, by simp [ss0]⟩, by simp [ss0], by rw [Nat.zero_add]; unfold runR; rw [if_neg (by omega), if_neg (by rw [c2]; decide)], St.pick [2, 3, 4, 5, 6, 1] (pre := [_, _, _, _, _, _, _, _, _]) rfl H rfl⟩
      rintro m ⟨p, n, P, s⟩ ρ1 w ⟨hn12, hpn, hmp, hsp, hso, hpl, hrun, H⟩
      obtain ⟨k, rfl⟩ : ∃ k, m = k + 1 := ⟨m - 1, by omega⟩
      have hbl := bodyR_le bs (p + n)
      have hel : P.es.length = s.evs.length := by rw [← hsp.evs, List.length_map]
      have hevb := hso.evs
      have hplb := hso.places
      refine w_block ?_
      refine w_seq ?_
      refine w_region ?_
      refine l_pint rfl rfl ?_
      refine l_pint rfl rfl ?_
      first | refine l_v rfl (q_add rfl rfl rfl (by simp only [inK]; omega)) ?_ | refine l_pint rfl rfl ?_
      refine l_pint rfl rfl ?_
      refine l_nil ?_
      refine w_seq ?_
      refine w_region ?_
      refine l_pptr rfl rfl ?_
      refine l_pint rfl rfl ?_
      refine l_pptr rfl rfl ?_
      refine l_v rfl (q_fieldAddr rfl fo146_5 rfl) ?_
      refine b_store (cs' := scells (P.at a bs.length c) { s with right := p + n }) rfl sz_3 rfl rfl rfl rfl rfl H 0 rfl rfl rfl (fun w H => ?_)
      have H : St W w (scanL sb (P.at a bs.length c) { s with right := p + n } (F)) := H
      refine l_nil ?_
      refine w_seq ?_
      refine w_region ?_
      refine l_pptr rfl rfl ?_
      refine l_pptr rfl rfl ?_
      refine l_v rfl (q_fieldAddr rfl fo146_0 rfl) ?_
      refine l_v rfl (q_load1 (v := .slice a bs.length c) rfl c1_28 rfl (H.cell 0 rfl rfl)) ?_
      refine l_pint rfl rfl ?_
      refine b_call rfl cb_81 rfl (body_ok (p := p + n) hN H (hr.up 6 rfl) rfl hcp (by omega) hpn) (fun v w hv => ?_)
      obtain ⟨ba, bc, rfl, H⟩ := hv
      have H : St W w (scanL sb (P.at a bs.length c) { s with right := p + n } (row 5 1 ba (bodyR bs (p + n)).1.length bc ((bodyR bs (p + n)).1.map B) :: F)) := St.pick [1, 2, 3, 4, 5, 6, 0] (pre := [_, _, _, _, _, _, _]) rfl H rfl
      refine l_ptup rfl rfl ?_
      refine l_pslice rfl rfl ?_
      refine l_pint rfl rfl ?_
      refine l_pint rfl rfl ?_
      refine l_pslice rfl rfl ?_
      refine l_pint rfl rfl ?_
      refine l_pint rfl rfl ?_
      refine l_nil ?_
      refine w_seq ?_
      refine w_seq ?_
      refine w_region ?_
      refine l_pint rfl rfl ?_
      refine l_pbool rfl rfl ?_
      refine l_nil ?_
      refine w_cond rfl (fun c3 => ?_) (fun c3 => ?_)
      · try simp only [sH] at c3
        refine w_goto ?_
        refine ⟨by repeat' first | exact aM | exact aR | refine aI rfl ?_ | refine aU rfl ?_ | refine aL rfl ?_, ?_⟩
        exact ⟨((bodyR bs (p + n)).2.2, p + n, P, { s with right := p + n }), ⟨rfl, rfl, trivial⟩, by rw [hrun, loopR, if_pos (by omega)], hsp.setR _, H.erase 6⟩
      try simp only [sH] at c3
      have hbe := hbl.2 (by omega) hpn
      refine w_skip ?_
      refine w_seq ?_
      refine w_seq ?_
      refine w_region ?_
      refine l_pslice rfl rfl ?_
      refine b_call rfl cb_106 rfl (number_ok H (RdIn.row 6 rfl) rfl (by omega)) (fun v w hv => ?_)
      obtain ⟨rfl, H⟩ := hv
      refine l_pbool rfl rfl ?_
      refine l_nil ?_
      refine w_cond rfl (fun c4 => ?_) (fun c4 => ?_)
      · try simp only [sH] at c4
        refine w_exit ?_
        refine w_seq ?_
        refine w_seq ?_
        refine w_region ?_
        refine l_pslice rfl rfl ?_
        refine b_call rfl cb_108 rfl (footOf_ok H (RdIn.row 6 rfl) rfl (by omega)) (fun v w hv => ?_)
        obtain ⟨fa, fc, rfl, H⟩ := hv
        have H := H.drop1
        refine l_ptup rfl rfl ?_
        refine l_pint rfl rfl ?_
        refine l_pslice rfl rfl ?_
        refine l_pbool rfl rfl ?_
        refine l_pint rfl rfl ?_
        refine l_pslice rfl rfl ?_
        refine l_pbool rfl rfl ?_
        refine l_nil ?_
        refine w_seq ?_
        refine w_region ?_
        refine l_pbool rfl rfl ?_
        refine l_pbool rfl rfl ?_
        refine l_nil ?_
        refine w_cond rfl (fun c5 => ?_) (fun c5 => ?_)
        · try simp only [sH] at c5
          refine w_seq ?_
          refine w_region ?_
          refine l_pint rfl rfl ?_
          refine l_nil ?_
          refine w_goto ?_
          refine ⟨by repeat' first | exact aM | exact aR | refine aI rfl ?_ | refine aU rfl ?_ | refine aL rfl ?_, ?_⟩
          exact ⟨(220, p + n, P, { s with right := p + n }), ⟨rfl, rfl, trivial⟩, by rw [hrun, loopR, if_neg (by omega), if_pos c4, tailR, if_pos c5], hsp.setR _, H.erase 6⟩
        try simp only [sH] at c5
        have hrf := rdin_3 (p := 0) (n := p + n) (hr.up (S := scanL sb (P.at a bs.length c) { s with right := p + n } (row 5 1 ba (bodyR bs (p + n)).1.length bc ((bodyR bs (p + n)).1.map B) :: F)) 7 rfl) (by omega)
        rw [Nat.zero_add, List.drop_zero] at hrf
        refine w_skip ?_
        refine w_seq ?_
        refine w_drawT [16] [3, 8, 12] [(0, 0), (1, 0), (2, 0), (3, 1), (4, 0), (5, 0), (6, 0), (7, 0), (8, 1), (9, 0), (10, 0), (11, 0), (12, 1), (13, 0), (14, 0), (15, 0), (16, 2), (17, 0)] mixed (by kernel_rfl) (fun _ _ _ h => fin_panic h) H (fun H => ?_)
        refine r_pptr rfl rfl rfl ?_
        refine r_pptr rfl rfl rfl ?_
        refine r_w rfl rfl (fun w => q_fieldAddr rfl fo146_2 rfl) ?_
        refine r_v rfl rfl (fun w hS => q_load1 rfl c1_57 rfl (by first | exact hS.cell 0 rfl rfl | exact hS.cell 1 rfl rfl | exact hS.cell 2 rfl rfl | exact hS.cell 3 rfl rfl)) ?_
        refine r_w rfl rfl (fun w => q_lenSlice rfl el_57 rfl) ?_
        refine r_pptr rfl rfl rfl ?_
        refine r_pptr rfl rfl rfl ?_
        refine r_w rfl rfl (fun w => q_fieldAddr rfl fo146_3 rfl) ?_
        refine r_v rfl rfl (fun w hS => q_load1 rfl c1_66 rfl (by first | exact hS.cell 0 rfl rfl | exact hS.cell 1 rfl rfl | exact hS.cell 2 rfl rfl | exact hS.cell 3 rfl rfl)) ?_
        refine r_pptr rfl rfl rfl ?_
        refine r_pptr rfl rfl rfl ?_
        refine r_w rfl rfl (fun w => q_fieldAddr rfl fo146_0 rfl) ?_
        refine r_v rfl rfl (fun w hS => q_load1 (v := .slice a bs.length c) rfl c1_28 rfl (hS.cell 0 rfl rfl)) ?_
        refine r_pint rfl rfl rfl ?_
        refine r_pint rfl rfl rfl ?_
        refine r_w rfl rfl (fun w => q_slice (l := 0) (h := p + n) (m := p + n) rfl el_28 rfl (by have h := @Bnd.mk .i64 (((p : Int) + (n : Int))) c c ⟨by omega, by omega⟩; rwa [show (((p : Int) + (n : Int))).toNat = p + n by omega] at h) (by have h := @Bnd.mk .i64 (((p : Int) + (n : Int))) bs.length (p + n) ⟨by omega, by omega⟩; rwa [show (((p : Int) + (n : Int))).toNat = p + n by omega] at h) Bnd.none (by simp)) ?_
        refine r_do rfl ?_
        refine b_call rfl cb_68 rfl (foot_ok (n := P.es.length) (ps := s.places) (fs := bs.take (p + n)) hN H (RdIn.row 3 rfl) rfl hrf (by rw [List.length_take]; omega) (by rw [List.length_take]; omega) (by rw [List.length_take]; omega) (by omega) (by omega) (fun x hx => by have := hpl x hx; omega)) (fun v w hv => ?_)
        obtain ⟨fa2, fc2, rfl, H⟩ := hv
        refine l_nil ⟨(fun h => nomatch h), ?_⟩
        refine r_pslice rfl rfl rfl ?_
        refine r_nil ?_
        refine w_seq ?_
        refine w_seq ?_
        refine w_drawT [] [1, 5, 11] [(0, 0), (1, 1), (2, 0), (3, 0), (4, 0), (5, 1), (6, 0), (7, 0), (8, 0), (9, 0), (10, 0), (11, 1), (12, 0)] mixed (by kernel_rfl) (fun _ _ _ h => fin_panic h) H (fun H => ?_)
        refine r_pslice rfl rfl rfl ?_
        refine r_v rfl rfl (fun w hS => q_bytesStr (bs := footC P.es.length s.places (bs.take (p + n))) rfl by_28 st_9 rfl ((hS.rowInv (i := 0) rfl).2.2.2.2) rfl) ?_
        refine r_pptr rfl rfl rfl ?_
        refine r_pptr rfl rfl rfl ?_
        refine r_w rfl rfl (fun w => q_fieldAddr rfl fo146_0 rfl) ?_
        refine r_v rfl rfl (fun w hS => q_load1 (v := .slice a bs.length c) rfl c1_28 rfl (hS.cell 1 rfl rfl)) ?_
        refine r_pint rfl rfl rfl ?_
        refine r_pint rfl rfl rfl ?_
        refine r_pint rfl rfl rfl ?_
        first | refine r_w rfl rfl (fun w => q_add rfl rfl rfl (by simp only [inK]; omega)) ?_ | refine r_pint rfl rfl rfl ?_
        refine r_w rfl rfl (fun w => q_slice (l := p + n) (h := p + n + (bodyR bs (p + n)).2.1) (m := c) rfl el_28 rfl Bnd.none (by have h := @Bnd.mk .i64 ((((p : Int) + (n : Int)) + ((bodyR bs (p + n)).2.1 : Int))) bs.length c ⟨by omega, by omega⟩; rwa [show ((((p : Int) + (n : Int)) + ((bodyR bs (p + n)).2.1 : Int))).toNat = p + n + (bodyR bs (p + n)).2.1 by omega] at h) (by have h := @Bnd.mk .i64 (((p : Int) + (n : Int))) 0 (p + n + (bodyR bs (p + n)).2.1) ⟨by omega, by omega⟩; rwa [show (((p : Int) + (n : Int))).toNat = p + n by omega] at h) (by simp)) ?_
        refine r_v rfl rfl (fun w hS => q_bytesStr (bs := (bs.drop (p + n)).take (bodyR bs (p + n)).2.1) rfl by_28 st_9 rfl (rd_part (p := p + n) (n := (bodyR bs (p + n)).2.1) (hr.use hS 8 rfl) hcp hbe.1) (by rw [List.length_take, List.length_drop]; omega)) ?_
        refine r_w rfl rfl (fun w => q_pure (s_neq rfl rfl)) ?_
        refine r_nil ?_
        refine w_cond rfl (fun c6 => ?_) (fun c6 => ?_)
        · try simp only [sH] at c6
          refine w_seq ?_
          refine w_region ?_
          refine l_pint rfl rfl ?_
          refine l_nil ?_
          refine w_goto ?_
          refine ⟨by repeat' first | exact aM | exact aR | refine aI rfl ?_ | refine aU rfl ?_ | refine aL rfl ?_, ?_⟩
          exact ⟨(221, p + n, P, { s with right := p + n }), ⟨rfl, rfl, trivial⟩, by rw [hrun, loopR, if_neg (by omega), if_pos c4, tailR, if_neg (by rw [c5]; decide), if_pos (by rw [← hel]; exact c6)], hsp.setR _, H.drop1.erase 6⟩
        try simp only [sH] at c6
        have H := H.drop1
        refine w_skip ?_
        refine w_seq ?_
        refine w_region ?_
        refine l_pint rfl rfl ?_
        refine l_pint rfl rfl ?_
        first | refine l_v rfl (q_add rfl rfl rfl (by simp only [inK]; omega)) ?_ | refine l_pint rfl rfl ?_
        refine l_pint rfl rfl ?_
        refine l_nil ?_
        refine w_seq ?_
        refine w_region ?_
        refine l_pptr rfl rfl ?_
        refine l_pint rfl rfl ?_
        refine l_pptr rfl rfl ?_
        refine l_v rfl (q_fieldAddr rfl fo146_5 rfl) ?_
        refine b_store (cs' := scells (P.at a bs.length c) { s with right := p + n + (bodyR bs (p + n)).2.1 }) rfl sz_3 rfl rfl rfl rfl rfl H 0 rfl rfl rfl (fun w H => ?_)
        have H : St W w (scanL sb (P.at a bs.length c) { s with right := p + n + (bodyR bs (p + n)).2.1 } (row 5 1 ba (bodyR bs (p + n)).1.length bc ((bodyR bs (p + n)).1.map B) :: F)) := H
        refine l_nil ?_
        refine w_seq ?_
        refine w_block ?_
        refine w_seq ?_
        refine w_region ?_
        refine l_pptr rfl rfl ?_
        refine l_pptr rfl rfl ?_
        refine l_v rfl (q_fieldAddr rfl fo146_0 rfl) ?_
        refine l_v rfl (q_load1 (v := .slice a bs.length c) rfl c1_28 rfl (H.cell 0 rfl rfl)) ?_
        refine l_v rfl (q_lenSlice rfl el_28 rfl) ?_
        refine l_pint rfl rfl ?_
        first | refine l_v rfl (q_sub rfl rfl rfl (by simp only [inK]; omega)) ?_ | refine l_pint rfl rfl ?_
        refine l_pbool rfl rfl ?_
        refine l_pbool rfl rfl ?_
        refine l_nil ?_
        refine w_cond rfl (fun c7 => ?_) (fun c7 => ?_)
        · try simp only [sH] at c7
          refine w_region ?_
          refine l_pint rfl rfl ?_
          refine l_nil ?_
          refine w_seq ?_
          refine w_label ?_
          refine w_seq ?_
          refine w_region ?_
          refine l_pint rfl rfl ?_
          refine l_pint rfl rfl ?_
          refine l_pint rfl rfl ?_
          refine l_pint rfl rfl ?_
          refine l_nil ?_
          refine w_ret ?_
          refine fin2 rfl rfl ?_
          have e : runR bs = (222, p + n + (bodyR bs (p + n)).2.1, { s with right := p + n + (bodyR bs (p + n)).2.1 }) := by
            rw [hrun, loopR, if_neg (by omega), if_pos c4, tailR, if_neg (by rw [c5]; decide), if_neg (fun h => h (by rw [← hel]; exact c6)), if_pos (by omega)]
          rw [e]
          exact ⟨P, rfl, hsp.setR _, H.erase 6⟩
        try simp only [sH] at c7
        refine w_seq ?_
        refine w_drawT [] [3, 8] [(0, 0), (1, 0), (2, 0), (3, 1), (4, 0), (5, 0), (6, 0), (7, 0), (8, 1), (9, 0), (10, 2), (11, 2), (12, 0), (13, 0)] mixed (by kernel_rfl) (fun _ _ _ h => fin_panic h) H (fun H => ?_)
        refine r_pptr rfl rfl rfl ?_
        refine r_pptr rfl rfl rfl ?_
        refine r_w rfl rfl (fun w => q_fieldAddr rfl fo146_0 rfl) ?_
        refine r_v rfl rfl (fun w hS => q_load1 (v := .slice a bs.length c) rfl c1_28 rfl (hS.cell 0 rfl rfl)) ?_
        refine r_pint rfl rfl rfl ?_
        refine r_pint rfl rfl rfl ?_
        first | refine r_w rfl rfl (fun w => q_add rfl rfl rfl (by simp only [inK]; omega)) ?_ | refine r_pint rfl rfl rfl ?_
        refine r_w rfl rfl (fun w => q_slice (l := p + n + (bodyR bs (p + n)).2.1) (h := p + n + (bodyR bs (p + n)).2.1 + 4) (m := c) rfl el_28 rfl Bnd.none (by have h := @Bnd.mk .i64 (((((p : Int) + (n : Int)) + ((bodyR bs (p + n)).2.1 : Int)) + 4)) bs.length c ⟨by omega, by omega⟩; rwa [show (((((p : Int) + (n : Int)) + ((bodyR bs (p + n)).2.1 : Int)) + 4)).toNat = p + n + (bodyR bs (p + n)).2.1 + 4 by omega] at h) (by have h := @Bnd.mk .i64 ((((p : Int) + (n : Int)) + ((bodyR bs (p + n)).2.1 : Int))) 0 (p + n + (bodyR bs (p + n)).2.1 + 4) ⟨by omega, by omega⟩; rwa [show ((((p : Int) + (n : Int)) + ((bodyR bs (p + n)).2.1 : Int))).toNat = p + n + (bodyR bs (p + n)).2.1 by omega] at h) (by simp)) ?_
        refine r_v rfl rfl (fun w hS => q_bytesStr (bs := (bs.drop (p + n + (bodyR bs (p + n)).2.1)).take 4) rfl by_28 st_9 rfl (rd_part (p := p + n + (bodyR bs (p + n)).2.1) (n := 4) (hr.use hS 7 rfl) hcp (by omega)) (by rw [List.length_take, List.length_drop]; omega)) ?_
        refine r_pint rfl rfl rfl ?_
        refine r_do rfl ?_
        refine b_call rfl cb_69 rfl (four_ok H (bodyR bs (p + n)).2.1) (fun v w hv => ?_)
        obtain ⟨b140, rfl, H⟩ := hv
        refine l_nil ⟨fun _ _ => (by first | exact H | exact H.drop1 | exact H.drop1.drop1 | exact H.drop1.drop1.drop1), ?_⟩
        refine r_do rfl ?_
        refine l_v rfl (q_bytesStr (bs := be4 (bodyR bs (p + n)).2.1) rfl by_28 st_9 rfl ((H.rowInv (i := 0) rfl).2.2.2.2) rfl) ?_
        refine l_nil ⟨fun _ _ => (by first | exact H | exact H.drop1 | exact H.drop1.drop1 | exact H.drop1.drop1.drop1), ?_⟩
        refine r_w rfl rfl (fun w => q_pure (s_neq rfl rfl)) ?_
        refine r_pbool rfl rfl rfl ?_
        refine r_nil ?_
        refine w_cond rfl (fun c8 => ?_) (fun c8 => ?_)
        · try simp only [sH] at c8
          refine w_region ?_
          refine l_pint rfl rfl ?_
          refine l_nil ?_
          refine w_seq ?_
          refine w_label ?_
          refine w_seq ?_
          refine w_region ?_
          refine l_pint rfl rfl ?_
          refine l_pint rfl rfl ?_
          refine l_pint rfl rfl ?_
          refine l_pint rfl rfl ?_
          refine l_nil ?_
          refine w_ret ?_
          refine fin2 rfl rfl ?_
          have e : runR bs = (221, p + n + (bodyR bs (p + n)).2.1, { s with right := p + n + (bodyR bs (p + n)).2.1 }) := by
            rw [hrun, loopR, if_neg (by omega), if_pos c4, tailR, if_neg (by rw [c5]; decide), if_neg (fun h => h (by rw [← hel]; exact c6)), if_neg (by omega), if_pos c8]
          rw [e]
          exact ⟨P, rfl, hsp.setR _, H.drop1.erase 6⟩
        try simp only [sH] at c8
        have H := H.drop1
        refine w_seq ?_
        refine w_region ?_
        refine l_pint rfl rfl ?_
        first | refine l_v rfl (q_add rfl rfl rfl (by simp only [inK]; omega)) ?_ | refine l_pint rfl rfl ?_
        refine l_pint rfl rfl ?_
        refine l_nil ?_
        refine w_seq ?_
        refine w_region ?_
        refine l_pptr rfl rfl ?_
        refine l_pint rfl rfl ?_
        refine l_pptr rfl rfl ?_
        refine l_v rfl (q_fieldAddr rfl fo146_5 rfl) ?_
        refine b_store (cs' := scells (P.at a bs.length c) { s with right := p + n + (bodyR bs (p + n)).2.1 + 4 }) rfl sz_3 rfl rfl rfl rfl rfl H 0 rfl rfl rfl (fun w H => ?_)
        have H : St W w (scanL sb (P.at a bs.length c) { s with right := p + n + (bodyR bs (p + n)).2.1 + 4 } (row 5 1 ba (bodyR bs (p + n)).1.length bc ((bodyR bs (p + n)).1.map B) :: F)) := H
        refine l_nil ?_
        refine w_seq ?_
        refine w_region ?_
        refine l_pptr rfl rfl ?_
        refine l_pptr rfl rfl ?_
        refine l_v rfl (q_fieldAddr rfl fo146_0 rfl) ?_
        refine l_v rfl (q_load1 (v := .slice a bs.length c) rfl c1_28 rfl (H.cell 0 rfl rfl)) ?_
        refine l_v rfl (q_lenSlice rfl el_28 rfl) ?_
        refine l_pint rfl rfl ?_
        refine l_pbool rfl rfl ?_
        refine l_nil ?_
        refine w_cond rfl (fun c9 => ?_) (fun c9 => ?_)
        · try simp only [sH] at c9
          refine w_region ?_
          refine l_pint rfl rfl ?_
          refine l_nil ?_
          refine w_seq ?_
          refine w_label ?_
          refine w_seq ?_
          refine w_region ?_
          refine l_pint rfl rfl ?_
          refine l_pint rfl rfl ?_
          refine l_pint rfl rfl ?_
          refine l_pint rfl rfl ?_
          refine l_nil ?_
          refine w_ret ?_
          refine fin2 rfl rfl ?_
          have e : runR bs = (220, p + n + (bodyR bs (p + n)).2.1 + 4, { s with right := p + n + (bodyR bs (p + n)).2.1 + 4 }) := by
            rw [hrun, loopR, if_neg (by omega), if_pos c4, tailR, if_neg (by rw [c5]; decide), if_neg (fun h => h (by rw [← hel]; exact c6)), if_neg (by omega), if_neg (fun h => h c8), if_pos (by omega)]
          rw [e]
          exact ⟨P, rfl, hsp.setR _, H.erase 6⟩
        try simp only [sH] at c9
        refine w_skip ?_
        refine w_seq ?_
        refine w_label ?_
        refine w_seq ?_
        refine w_region ?_
        refine l_pint rfl rfl ?_
        refine l_pint rfl rfl ?_
        refine l_pint rfl rfl ?_
        refine l_pint rfl rfl ?_
        refine l_nil ?_
        refine w_ret ?_
        refine fin2 rfl rfl ?_
        have hz : (bodyR bs (p + n)).2.2 = 0 := by omega
        have e : runR bs = ((bodyR bs (p + n)).2.2, p + n + (bodyR bs (p + n)).2.1 + 4, { s with right := p + n + (bodyR bs (p + n)).2.1 + 4 }) := by
          rw [hrun, loopR, if_neg (by omega), if_pos c4, tailR, if_neg (by rw [c5]; decide), if_neg (fun h => h (by rw [← hel]; exact c6)), if_neg (by omega), if_neg (fun h => h c8), if_neg (by omega), hz]
        rw [e]
        exact ⟨P, rfl, hsp.setR _, H.erase 6⟩
      try simp only [sH] at c4
      refine w_skip ?_
      refine w_seq ?_
      refine w_region ?_
      refine l_pptr rfl rfl ?_
      refine l_pslice rfl rfl ?_
      refine l_pint rfl rfl ?_
      refine b_call rfl cb_107 rfl (chunk_ok (q := p + n) H (hso.setR _) ((hsp.at_ a bs.length c).setR _) (RdIn.row 0 rfl) rfl (by omega) (by omega)) (fun v w hv => ?_)
      obtain ⟨p2, hsp2, hp1, hp2, hp3, rfl, H⟩ := hv
      rw [at_of (a := a) (n := bs.length) (c := c) hp1 hp2 hp3] at H
      refine l_pbool rfl rfl ?_
      refine l_nil ?_
      refine w_cond rfl (fun c10 => ?_) (fun c10 => ?_)
      · try simp only [sH] at c10
        refine w_seq ?_
        refine w_region ?_
        refine l_pint rfl rfl ?_
        refine l_nil ?_
        refine w_goto ?_
        refine ⟨by repeat' first | exact aM | exact aR | refine aI rfl ?_ | refine aU rfl ?_ | refine aL rfl ?_, ?_⟩
        exact ⟨(220, p + n, p2, (chunkR { s with right := p + n } (bodyR bs (p + n)).1 (p + n)).2), ⟨rfl, rfl, trivial⟩, by rw [hrun, loopR, if_neg (by omega), if_neg c4, if_pos c10, chunkR_false c10], hsp2, H.erase 6⟩
      try simp only [sH] at c10
      refine w_skip ?_
      refine ⟨by repeat' first | exact aM | exact aR | refine aI rfl ?_ | refine aU rfl ?_ | refine aL rfl ?_, ?_⟩
      exact ⟨k, (p + n, (bodyR bs (p + n)).2.1, p2, (chunkR { s with right := p + n } (bodyR bs (p + n)).1 (p + n)).2), by omega, ⟨rfl, rfl, trivial⟩, hbe.2.1, hbe.1, by omega, hsp2, chunkR_ok (hso.setR _) _ _, chunkR_pl hpl hpn, by rw [hrun, loopR, if_neg (by omega), if_neg c4, if_neg (by rw [c10]; decide)], H.erase 6⟩
    try simp only [sH] at c2
    refine w_seq ?_
    refine w_region ?_
    refine l_pint rfl rfl ?_
    refine l_nil ?_
    refine w_goto ?_
    refine ⟨by repeat' first | exact aM | exact aR | refine aI rfl ?_ | refine aU rfl ?_ | refine aL rfl ?_, ?_⟩
    exact ⟨(220, 0, sp0, ss0), ⟨rfl, rfl, trivial⟩, by unfold runR; rw [if_neg (by omega), if_pos c2], ⟨rfl, rfl⟩, St.pick [2, 3, 4, 5, 6, 7] (pre := [_, _, _, _, _, _, _, _, _]) rfl H rfl⟩
  rintro ⟨e, p, P, s⟩ ρ1 w ⟨hrun, hsp, H⟩
  refine w_seq ?_
  refine w_skip ?_
  refine w_seq ?_
  refine w_region ?_
  refine l_pint rfl rfl ?_
  refine l_pint rfl rfl ?_
  refine l_pint rfl rfl ?_
  refine l_pint rfl rfl ?_
  refine l_nil ?_
  refine w_ret ?_
  refine fin2 rfl rfl ?_
  rw [hrun]
  exact ⟨P, rfl, hsp, H⟩
end Go.Proofs.YtfpmnhmdphaceaaDoor
