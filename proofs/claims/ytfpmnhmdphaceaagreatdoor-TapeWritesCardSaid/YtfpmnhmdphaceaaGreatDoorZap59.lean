/- The walk of the law TapeWrites ends in true for a setup that may be, where the table of nibbles is laid. -/
import Derived.Test.YtfpmnhmdphaceaaGreatDoorZap58
import Derived.Test.YtfpmnhmdphaceaaGreatDoorZap33
namespace Go.Proofs.YtfpmnhmdphaceaaGreatDoor
open Go.EW
attribute [local irreducible] EW.W EW.L EW.fin block8 outB shaL
set_option linter.unusedVariables false
set_option linter.unusedSimpArgs false
attribute [local irreducible] crcN crcB crcL sealL openR sealR bodyR headR tailR eventsR chunkR numberR putEv getEv
theorem given0w {W w : World} {F : List Seg} {b : Nat} (H : St W w (blk b (gcells gp0) 43 :: F)) : St W w (givenL b gp0 F) :=
  St.pick [4, 0, 1, 2, 3] (pre := [_, _, _, _, _]) rfl (St.newRow (T := 50) (sz := 1) (St.newRow (T := 50) (sz := 1) (St.nilseg.2 (St.nilseg.2 H)))) rfl
theorem rdin_markw {W : World} {S : List Seg} {a : Option Addr} {c : Nat} {bs xs : List UInt8} (e : xs = bs ++ [90]) (h : RdIn W S a (xs.map B)) : RdIn W S (subA a 1 0 c) (bs.map B) := by
  have h2 := rdin_head (c := c) (n := bs.length) h
  rwa [e, List.take_left' rfl] at h2
/-- the tape that holds these texts -/
def tapT (s : Stp) (ts : List Txt) : TS := ts.foldl addT (newT s)
theorem tapT_snoc (s : Stp) (ts : List Txt) (b : Txt) : tapT s (ts ++ [b]) = addT (tapT s ts) b := List.foldl_append
theorem tapT_file (s : Stp) (ts : List Txt) : fileT (tapT s ts) = fileL s ts := (file_all s ts).1
theorem tapT_n (s : Stp) (ts : List Txt) : (tapT s ts).n = ts.length := (file_all s ts).2
/-- what is answered to an event -/
def hOf (e : Evt) (n : Nat) : Nat := if (putEv e).2 = 0 ∧ n = 4096 then 151 else (putEv e).2
def nextL (ts : List Txt) (e : Evt) : List Txt := if hOf e ts.length = 0 then ts ++ [(putEv e).1] else ts
theorem add_h {s : Stp} {ts : List Txt} {e : Evt} (h4 : ts.length ≤ 4096) : addRT (tapT s ts) e = (hOf e ts.length, tapT s (nextL ts e)) := by
  unfold addRT nextL hOf
  rw [tapT_n]
  by_cases h1 : (putEv e).2 = 0
  · rw [if_neg (fun h => h h1)]
    by_cases h2 : ts.length = 4096
    · rw [if_pos (by omega), if_pos ⟨h1, h2⟩, if_neg (by decide)]
    rw [if_neg (by omega), if_neg (fun h => h2 h.2), h1, if_pos rfl, tapT_snoc]
  rw [if_pos h1, if_neg (fun h => h1 h.1), if_neg h1]
theorem next_len {ts : List Txt} {e : Evt} (h4 : ts.length ≤ 4096) : (nextL ts e).length ≤ 4096 := by
  unfold nextL hOf
  by_cases h1 : (putEv e).2 = 0 ∧ ts.length = 4096
  · rw [if_pos h1, if_neg (by decide)]; exact h4
  rw [if_neg h1]
  by_cases h2 : (putEv e).2 = 0
  · rw [if_pos h2, List.length_append, List.length_singleton]
    have : ts.length ≠ 4096 := fun h => h1 ⟨h2, h⟩
    omega
  rw [if_neg h2]; exact h4
attribute [local irreducible] tapT hOf
theorem tapT_nil (s : Stp) : tapT s [] = newT s := by unfold tapT; rfl
theorem hOf_full {e : Evt} {n : Nat} (h : (putEv e).2 = 0) (hn : n = 4096) : hOf e n = 151 := by unfold hOf; rw [if_pos ⟨h, hn⟩]
theorem hOf_not {e : Evt} {n : Nat} (h : ¬ ((putEv e).2 = 0 ∧ n = 4096)) : hOf e n = (putEv e).2 := by unfold hOf; rw [if_neg h]
set_option maxRecDepth 8000 in
set_option maxHeartbeats 2000000 in
theorem TapeWrites_yes {W w : World} {F : List Seg} (hN : NibOk W) (H : St W w F) (s : Stp) (hso : StpOk s) (hc : chkS s = 0) {a : Option Addr} {c : Nat} (hr : RdIn W F a (intsV s.cls)) (hcl : s.cls.length ≤ 17592186043904) {va : Option Addr} {n vc : Nat} {es : List EvM} (hre : RdIn W F va (evsV es)) (hel : es.length = n) (hes : EvsIn W F es) (hn : n ≤ 1099511627744) :
    Ok Tryz.prog 3 [.agg (s.cells a c).toArray, .slice va n vc].toArray w (fun r w' => r = .bool true ∧ ∃ S, St W w' S) := by
  subst hel
  refine enter (n := 142) (rs := #[.tmp 4]) Tryz.func3 rfl rfl rfl rfl ?_
  refine w_seq ?_
  refine w_region ?_
  refine b_box (cs := s.cells a c) rfl rfl rfl H (fun b2 w H => ?_)
  refine l_pbool rfl rfl ?_
  refine l_nil ?_
  refine w_seq ?_
  refine w_region ?_
  refine l_v rfl (q_loadN (vs := s.cells a c) rfl ag_26 rfl rfl (H.cells 0 rfl)) ?_
  refine b_call rfl cb_5 rfl (CopySetup_ok H s (hr.up 1 rfl) (by omega)) (fun v w hv => ?_)
  obtain ⟨oa, oc, rfl, H⟩ := hv
  refine b_alloc (cs := stp0.cells none 0) rfl ze_26 rfl H (fun b5 w H => ?_)
  refine b_store (cs' := s.cells oa oc) rfl sz_26 rfl rfl rfl rfl rfl H 0 rfl rfl (putL_all rfl) (fun w H => ?_)
  refine l_nil ?_
  refine w_seq ?_
  refine w_region ?_
  refine l_v rfl (q_loadN (vs := s.cells oa oc) rfl ag_26 rfl rfl (H.cells 0 rfl)) ?_
  refine b_call rfl cb_6 rfl (TNew_ok hN H s hso (RdIn.row 1 rfl)) (fun v w hv => ?_)
  rcases hv with ⟨h0, _⟩ | ⟨_, tb, p, hp, rfl, H⟩
  · exact absurd hc h0
  have hp0 : p.ts = (newT s).texts := by unfold TP.ts; rw [hp]; rfl
  refine l_ptup rfl rfl ?_
  refine l_pptr rfl rfl ?_
  refine l_pint rfl rfl ?_
  refine l_pptr rfl rfl ?_
  refine l_pint rfl rfl ?_
  refine l_nil ?_
  refine w_seq ?_
  refine w_seq ?_
  refine w_region ?_
  refine l_pint rfl rfl ?_
  refine l_v rfl (q_loadN (vs := s.cells a c) rfl ag_26 rfl rfl (H.cells 7 rfl)) ?_
  refine b_call rfl cb_7 rfl (Setup_r H s (hr.up 8 rfl)) (fun v w hv => ?_)
  obtain ⟨hv1, H⟩ := hv
  rw [hc] at hv1
  subst hv1
  refine l_pbool rfl rfl ?_
  refine l_pbool rfl rfl ?_
  refine l_split 32 rfl (fun h32 => absurd h32 (by simp)) (fun h32 => ?_)
  try simp only [sH] at h32
  refine l_pptr rfl rfl ?_
  refine l_v rfl (q_eqlNilF rfl pt_29 rfl rfl) ?_
  refine l_pint rfl rfl ?_
  refine l_pbool rfl rfl ?_
  refine l_v rfl (q_neqBool rfl bo_4 rfl rfl) ?_
  refine l_pickF (v := .bool _) rfl rfl rfl ?_
  refine l_nil ?_
  refine w_cond rfl (fun c1 => ?_) (fun c1 => ?_)
  · try simp only [sH] at c1
    exact absurd c1 (by simp)
  try simp only [sH] at c1
  refine w_skip ?_
  refine w_seq ?_
  refine w_seq ?_
  refine w_region ?_
  refine l_pptr rfl rfl ?_
  refine l_v rfl (q_eqlNilF rfl pt_29 rfl rfl) ?_
  refine l_nil ?_
  refine w_cond_f rfl ?_
  refine w_skip ?_
  refine w_cutG (G := Unit) [8, 42, 43, 44, 45, 46, 47, 48, 49, 50, 51, 52, 53] (fun ⟨⟩ => []) (fun ⟨⟩ w => St W w (tapeL tb p (newT s) (blk b2 (s.cells a c) 26 :: F))) (fun _ => rfl) ?_ ?_
  · refine w_seq ?_
    refine w_region ?_
    refine l_pint rfl rfl ?_
    refine l_nil ?_
    refine w_block ?_
    refine w_loopG (G := Nat × List Int) [8, 42, 43, 44, 45, 46, 47, 48, 49, 50, 51, 52, 53] (fun ⟨i, zs⟩ => [(8, I ((i : Nat) : Int))]) (fun m ⟨i, zs⟩ w => m + i = s.cls.length ∧ zs.length = s.cls.length ∧ St W w (tapeL tb p (newT s) (blk b5 (s.cells oa oc) 26 :: row 36 1 oa s.cls.length oc (intsV zs) :: blk b2 (s.cells a c) 26 :: F))) (fun _ => rfl) ?_ ?_
    · exact ⟨s.cls.length, (0, s.cls), ⟨rfl, trivial⟩, rfl, rfl, H⟩
    rintro m ⟨i, zs⟩ ρ1 w ⟨hmi, hzl, H⟩
    refine w_seq ?_
    refine w_seq ?_
    refine w_region ?_
    refine l_pint rfl rfl ?_
    refine l_v rfl (q_fieldAddr rfl fo26_1 rfl) ?_
    refine l_v rfl (q_load1 rfl c1_24 rfl (by first | exact H.cell 0 rfl rfl | exact H.cell 1 rfl rfl | exact H.cell 2 rfl rfl | exact H.cell 3 rfl rfl | exact H.cell 4 rfl rfl | exact H.cell 5 rfl rfl | exact H.cell 6 rfl rfl | exact H.cell 7 rfl rfl | exact H.cell 8 rfl rfl)) ?_
    refine l_v rfl (q_lenSlice rfl el_24 rfl) ?_
    refine l_pbool rfl rfl ?_
    refine l_nil ?_
    refine w_cond rfl (fun c2 => ?_) (fun c2 => ?_)
    · try simp only [sH] at c2
      have hi : i < s.cls.length := by omega
      obtain ⟨zb, hza, _⟩ := row_addr (i := 6) (k := i) (v := I (zs[i]'(by omega))) H rfl (by unfold intsV; rw [List.getElem?_map, List.getElem?_eq_getElem (by omega)]; rfl)
      refine w_skip ?_
      refine w_seq ?_
      refine w_block ?_
      refine w_region ?_
      refine l_v rfl (q_fieldAddr rfl fo26_1 rfl) ?_
      refine l_v rfl (q_load1 rfl c1_24 rfl (by first | exact H.cell 0 rfl rfl | exact H.cell 1 rfl rfl | exact H.cell 2 rfl rfl | exact H.cell 3 rfl rfl | exact H.cell 4 rfl rfl | exact H.cell 5 rfl rfl | exact H.cell 6 rfl rfl | exact H.cell 7 rfl rfl | exact H.cell 8 rfl rfl)) ?_
      refine l_pint rfl rfl ?_
      refine l_v rfl (q_indexSliceE i rfl el_24 rfl hza rfl rfl hi) ?_
      refine l_v rfl (q_fieldAddr rfl fo36_0 rfl) ?_
      refine b_storeRow (vs := [I 99]) (xs' := intsV (zs.set i 99)) rfl sz_3 rfl rfl rfl rfl rfl H 6 rfl hza (by unfold intsV; rw [List.length_map]; simp; omega) (by unfold intsV; rw [List.map_set, Nat.zero_add, Nat.mul_one]; rfl) (fun w H => ?_)
      refine l_nil ?_
      refine w_region ?_
      refine l_pint rfl rfl ?_
      first | refine l_v rfl (q_add rfl rfl rfl (by simp only [inK]; omega)) ?_ | refine l_pint rfl rfl ?_
      refine l_pint rfl rfl ?_
      refine l_nil ?_
      refine ⟨by repeat' first | exact aM | exact aR | refine aI rfl ?_ | refine aU rfl ?_ | refine aL rfl ?_, ?_⟩
      exact ⟨m - 1, (i + 1, zs.set i 99), by omega, ⟨by exact congrArg (Value.int IntKind.i64) (Int.natCast_succ i).symm, trivial⟩, by omega, by rw [List.length_set]; exact hzl, H⟩
    try simp only [sH] at c2
    refine w_exit ?_
    refine ⟨by repeat' first | exact aM | exact aR | refine aI rfl ?_ | refine aU rfl ?_ | refine aL rfl ?_, ?_⟩
    exact ⟨⟨⟩, trivial, (H.erase 5).erase 5⟩
  rintro ⟨⟩ ρ1 w H
  refine w_seq ?_
  refine w_region ?_
  refine l_pslice rfl rfl ?_
  refine l_nil ?_
  refine w_seq ?_
  refine w_seq ?_
  refine w_region ?_
  refine l_pint rfl rfl ?_
  refine l_nil ?_
  refine w_block ?_
  refine w_loopG (G := Nat × TP × Option Addr × Nat × List Tx) [4, 9, 10, 11, 12, 13, 14, 15, 16, 17, 18, 54, 55, 56, 57, 58, 59, 60, 61, 62, 63, 64, 65, 66, 67, 68, 69, 70, 71, 72, 73, 74, 75, 76, 77, 78, 79, 80, 81, 82, 83, 84, 85, 86, 87, 88, 89, 90, 91, 92, 93, 94, 95, 96, 97, 98, 99, 100, 101, 102, 103, 104, 105, 106, 107, 108, 109, 110, 111, 112, 113, 114, 115, 116, 117, 118, 119, 120, 121, 122, 123, 124, 125, 126] (fun ⟨i, p, la, lc, ls⟩ => [(9, .slice la ls.length lc), (10, I ((i : Nat) : Int))]) (fun m ⟨i, p, la, lc, ls⟩ w => m + i = es.length ∧ p.ts = (tapT s (ls.map Tx.bs)).texts ∧ TOk2 (tapT s (ls.map Tx.bs)) ∧ ls.length ≤ 4096 ∧ (∀ t ∈ ls, t.bs.length ≤ 20000) ∧ St W w (tapeL tb p (tapT s (ls.map Tx.bs)) (row 50 1 la ls.length lc (ls.map Tx.v) :: Segs (ls.map Tx.seg) :: blk b2 (s.cells a c) 26 :: F))) (fun _ => rfl) ?_ ?_
  · exact ⟨es.length, (0, p, none, 0, []), ⟨rfl, rfl, trivial⟩, rfl, by rw [List.map_nil, tapT_nil]; exact hp0, by rw [List.map_nil, tapT_nil]; exact TOk2.new s, Nat.zero_le _, fun t h => (by cases h), by rw [List.map_nil, tapT_nil]; exact St.pick [2, 3, 4, 5, 6, 0, 1] (pre := [_, _, _, _, _, _, _]) rfl (St.newRow (T := 50) (sz := 1) (St.nilseg.2 H)) rfl⟩
  rintro m ⟨i, p, la, lc, ls⟩ ρ1 w ⟨hmi, hpt, hok, h4k, htb, H⟩
  refine w_seq ?_
  refine w_seq ?_
  refine w_region ?_
  refine l_pint rfl rfl ?_
  refine l_pslice rfl rfl ?_
  refine l_v rfl (q_lenSlice rfl el_27 rfl) ?_
  refine l_pbool rfl rfl ?_
  refine l_nil ?_
  refine w_cond rfl (fun c3 => ?_) (fun c3 => ?_)
  · try simp only [sH] at c3
    have hi : i < es.length := by omega
    have hei := hes es[i] (List.getElem_mem hi)
    have hlm : (ls.map Tx.bs).length ≤ 4096 := by rw [List.length_map]; exact h4k
    obtain ⟨eb, eo, hea⟩ := evs_ex (hre.use H 8 rfl) hi
    refine w_skip ?_
    refine w_seq ?_
    refine w_block ?_
    refine w_seq ?_
    refine w_region ?_
    refine b_alloc (cs := gcells gp0) rfl ze_43 rfl H (fun b11 w H => ?_)
    have H := given0w H
    refine l_nil ?_
    refine w_seq ?_
    refine w_region ?_
    refine l_pslice rfl rfl ?_
    refine l_pint rfl rfl ?_
    refine l_v rfl (q_indexSliceE i rfl el_27 rfl hea rfl rfl hi) ?_
    refine l_v rfl (q_loadN (vs := es[i].cells) rfl ag_52 rfl rfl (evs_at hea (hre.use H 13 rfl) hi)) ?_
    refine b_call rfl cb_9 rfl (GEvent_ok H (Nat.zero_le _) (Nat.zero_le _) es[i].e (hei.1.up 8 rfl) (by have := hei.2.bs; omega)) (fun v w hv => ?_)
    obtain ⟨ga, gc, wa, wc, x, y, hx, hy, hxc, rfl, H⟩ := hv
    have hgo : GOk ⟨ga, gc, wa, wc, [] ++ [x], [] ++ [y]⟩ := by
      show [x.bs] = [y.bs]
      rw [hx, hy]
    refine b_alloc (cs := evt0.cells none 0) rfl ze_52 rfl H (fun b12 w H => ?_)
    refine b_store (cs' := es[i].e.cells (subA x.a 1 0 x.c) x.c) rfl sz_52 rfl rfl rfl rfl rfl H 0 rfl rfl (putL_all rfl) (fun w H => ?_)
    have H := St.pick [6, 7, 8, 9, 10, 0, 1, 2, 3, 4, 5] (pre := [_, _, _, _, _, _, _, _, _, _, _]) rfl H rfl
    refine l_nil ?_
    refine w_seq ?_
    refine w_region ?_
    refine l_pptr rfl rfl ?_
    refine l_v rfl (q_loadN (vs := es[i].e.cells (subA x.a 1 0 x.c) x.c) rfl ag_52 rfl rfl (H.cells 5 rfl)) ?_
    refine b_call rfl cb_10 rfl (TAdd_ok hN H hok.ok hpt es[i].e hei.2 (rdin_markw hx (RdIn.segs 4 rfl 0 rfl))) (fun v w hv => ?_)
    obtain ⟨q, hq, hr2, H⟩ := hv
    rw [add_h hlm] at hq hr2 H
    subst hr2
    refine l_pint rfl rfl ?_
    refine l_nil ?_
    refine w_seq ?_
    refine w_region ?_
    refine l_pslice rfl rfl ?_
    refine l_pint rfl rfl ?_
    refine l_v rfl (q_indexSliceE i rfl el_27 rfl hea rfl rfl hi) ?_
    refine l_v rfl (q_loadN (vs := es[i].cells) rfl ag_52 rfl rfl (evs_at hea (hre.use H 14 rfl) hi)) ?_
    refine b_call rfl cb_11 rfl (rPutEvent_ok H es[i].e hei.2 (hei.1.up 14 rfl)) (fun v w hv => ?_)
    obtain ⟨ra, rc, rfl, H⟩ := hv
    refine l_ptup rfl rfl ?_
    refine l_pslice rfl rfl ?_
    refine l_pint rfl rfl ?_
    refine l_pslice rfl rfl ?_
    refine l_pint rfl rfl ?_
    refine l_nil ?_
    refine w_cutG (G := Unit) [15, 76, 77, 78, 79, 80, 81, 82] (fun ⟨⟩ => [(15, I (((hOf es[i].e (ls.map Tx.bs).length) : Nat) : Int))]) (fun ⟨⟩ w => St W w (row 5 1 ra (putEv es[i].e).1.length rc ((putEv es[i].e).1.map B) :: tapeL tb q (tapT s (nextL (ls.map Tx.bs) es[i].e)) (blk b12 (es[i].e.cells (subA x.a 1 0 x.c) x.c) 52 :: givenL b11 ⟨ga, gc, wa, wc, [] ++ [x], [] ++ [y]⟩ (row 50 1 la ls.length lc (ls.map Tx.v) :: Segs (ls.map Tx.seg) :: blk b2 (s.cells a c) 26 :: F)))) (fun _ => rfl) ?_ ?_
    · refine w_seq ?_
      refine w_region ?_
      refine l_pint rfl rfl ?_
      refine l_pbool rfl rfl ?_
      refine l_pbool rfl rfl ?_
      refine l_split 78 rfl (fun h78 => ?_) (fun h78 => ?_)
      · try simp only [sH] at h78
        refine l_pslice rfl rfl ?_
        refine l_v rfl (q_lenSlice rfl el_37 rfl) ?_
        refine l_pbool rfl rfl ?_
        refine l_pickT (v := .bool _) rfl rfl rfl ?_
        refine l_nil ?_
        refine w_cond rfl (fun c4 => ?_) (fun c4 => ?_)
        · try simp only [sH] at c4
          refine w_region ?_
          refine l_pint rfl rfl ?_
          refine l_nil ?_
          refine ⟨by repeat' first | exact aM | exact aR | refine aI rfl ?_ | refine aU rfl ?_ | refine aL rfl ?_, ?_⟩
          exact ⟨⟨⟩, ⟨by rw [hOf_full (by omega) (by rw [List.length_map]; omega)]; rfl, trivial⟩, H⟩
        try simp only [sH] at c4
        refine w_skip ?_
        refine ⟨by repeat' first | exact aM | exact aR | refine aI rfl ?_ | refine aU rfl ?_ | refine aL rfl ?_, ?_⟩
        exact ⟨⟨⟩, ⟨by rw [hOf_not (fun h => by rw [List.length_map] at h; omega)]; rfl, trivial⟩, H⟩
      try simp only [sH] at h78
      refine l_no rfl ?_
      refine l_no rfl ?_
      refine l_no rfl ?_
      refine l_pickF (v := .bool _) rfl rfl rfl ?_
      refine l_nil ?_
      refine w_cond_f rfl ?_
      refine w_skip ?_
      refine ⟨by repeat' first | exact aM | exact aR | refine aI rfl ?_ | refine aU rfl ?_ | refine aL rfl ?_, ?_⟩
      exact ⟨⟨⟩, ⟨by rw [hOf_not (fun h => by omega)]; rfl, trivial⟩, H⟩
    rintro ⟨⟩ ρ1 w H
    refine w_seq ?_
    refine w_seq ?_
    refine w_region ?_
    refine l_pint rfl rfl ?_
    refine l_pint rfl rfl ?_
    refine l_pbool rfl rfl ?_
    refine l_pbool rfl rfl ?_
    refine l_split 86 rfl (fun h86 => absurd h86 (by simp)) (fun h86 => ?_)
    try simp only [sH] at h86
    refine b_call rfl cb_12 rfl (Ok_perm (pickP [7, 8, 9, 10, 11, 0, 1, 2, 3, 4, 5, 6] (pre := [_, _, _, _, _, _, _, _, _, _, _, _]) rfl rfl) (fun H => Intact_ok H hgo (by show 1 ≤ 1000000; decide)) H) (fun v w hv => ?_)
    obtain ⟨rfl, H⟩ := hv
    refine l_pbool rfl rfl ?_
    refine l_pickF (v := .bool _) rfl rfl rfl ?_
    refine l_nil ?_
    refine w_cond rfl (fun c5 => ?_) (fun c5 => ?_)
    · try simp only [sH] at c5
      exact absurd c5 (by simp)
    try simp only [sH] at c5
    refine w_skip ?_
    refine w_cutG (G := Unit) [16, 90, 91, 92, 93, 94, 95, 96, 97, 98, 99, 100] (fun ⟨⟩ => []) (fun ⟨⟩ w => St W w (row 5 1 ra (putEv es[i].e).1.length rc ((putEv es[i].e).1.map B) :: tapeL tb q (tapT s (nextL (ls.map Tx.bs) es[i].e)) (row 50 1 la ls.length lc (ls.map Tx.v) :: Segs (ls.map Tx.seg) :: blk b2 (s.cells a c) 26 :: F))) (fun _ => rfl) ?_ ?_
    · refine w_seq ?_
      refine w_region ?_
      refine l_pint rfl rfl ?_
      refine l_nil ?_
      refine w_block ?_
      refine w_loopG (G := Nat × List UInt8) [16, 90, 91, 92, 93, 94, 95, 96, 97, 98, 99, 100] (fun ⟨k, zs⟩ => [(16, I ((k : Nat) : Int))]) (fun m' ⟨k, zs⟩ w => m' + k = es[i].e.bs.length ∧ zs.length = x.bs.length ∧ St W w (row 5 1 x.a x.bs.length x.c (zs.map B) :: row 5 1 ra (putEv es[i].e).1.length rc ((putEv es[i].e).1.map B) :: tapeL tb q (tapT s (nextL (ls.map Tx.bs) es[i].e)) (blk b12 (es[i].e.cells (subA x.a 1 0 x.c) x.c) 52 :: row 50 1 la ls.length lc (ls.map Tx.v) :: Segs (ls.map Tx.seg) :: blk b2 (s.cells a c) 26 :: F))) (fun _ => rfl) ?_ ?_
      · exact ⟨es[i].e.bs.length, (0, x.bs), ⟨rfl, trivial⟩, rfl, rfl, (St.consseg.1 (St.pick [10, 0, 1, 2, 3, 4, 5, 6] (pre := [_, _, _, _, _, _, _, _, _, _, _, _]) rfl H rfl)).erase 1⟩
      rintro m' ⟨k, zs⟩ ρ1 w ⟨hmk, hzl, H⟩
      refine w_seq ?_
      refine w_seq ?_
      refine w_region ?_
      refine l_pint rfl rfl ?_
      refine l_v rfl (q_fieldAddr rfl fo52_9 rfl) ?_
      refine l_v rfl (q_load1 rfl c1_50 rfl (by first | exact H.cell 0 rfl rfl | exact H.cell 1 rfl rfl | exact H.cell 2 rfl rfl | exact H.cell 3 rfl rfl | exact H.cell 4 rfl rfl | exact H.cell 5 rfl rfl | exact H.cell 6 rfl rfl | exact H.cell 7 rfl rfl | exact H.cell 8 rfl rfl)) ?_
      refine l_v rfl (q_lenSlice rfl el_50 rfl) ?_
      refine l_pbool rfl rfl ?_
      refine l_nil ?_
      refine w_cond rfl (fun c6 => ?_) (fun c6 => ?_)
      · try simp only [sH] at c6
        have hbl := hei.2.bs
        have hk : k < es[i].e.bs.length := by omega
        have hxl : x.bs.length = es[i].e.bs.length + 1 := by rw [hx, List.length_append]; rfl
        obtain ⟨xb, hxa, _⟩ := row_addr (i := 0) (k := k) (v := B (zs[k]'(by omega))) H rfl (by rw [List.getElem?_map, List.getElem?_eq_getElem (by omega)]; rfl)
        have hsa : subA x.a 1 0 x.c = some ⟨xb, 0 + 0 * 1, none⟩ := by unfold subA; rw [if_neg (by omega), hxa]; rfl
        refine w_skip ?_
        refine w_seq ?_
        refine w_block ?_
        refine w_region ?_
        refine l_v rfl (q_fieldAddr rfl fo52_9 rfl) ?_
        refine l_v rfl (q_load1 rfl c1_50 rfl (by first | exact H.cell 0 rfl rfl | exact H.cell 1 rfl rfl | exact H.cell 2 rfl rfl | exact H.cell 3 rfl rfl | exact H.cell 4 rfl rfl | exact H.cell 5 rfl rfl | exact H.cell 6 rfl rfl | exact H.cell 7 rfl rfl | exact H.cell 8 rfl rfl)) ?_
        refine l_pint rfl rfl ?_
        refine l_v rfl (q_indexSliceE k rfl el_50 rfl hsa rfl rfl hk) ?_
        refine b_storeRow (vs := [B 119]) (xs' := (zs.set k 119).map B) rfl sz_5 rfl rfl rfl rfl rfl H 0 rfl hxa (by rw [List.length_map]; simp; omega) (by rw [List.map_set, Nat.zero_mul, Nat.zero_add, Nat.mul_one]; rfl) (fun w H => ?_)
        refine l_nil ?_
        refine w_region ?_
        refine l_pint rfl rfl ?_
        first | refine l_v rfl (q_add rfl rfl rfl (by simp only [inK]; omega)) ?_ | refine l_pint rfl rfl ?_
        refine l_pint rfl rfl ?_
        refine l_nil ?_
        refine ⟨by repeat' first | exact aM | exact aR | refine aI rfl ?_ | refine aU rfl ?_ | refine aL rfl ?_, ?_⟩
        exact ⟨m' - 1, (k + 1, zs.set k 119), by omega, ⟨by exact congrArg (Value.int IntKind.i64) (Int.natCast_succ k).symm, trivial⟩, by omega, by rw [List.length_set]; exact hzl, H⟩
      try simp only [sH] at c6
      refine w_exit ?_
      refine ⟨by repeat' first | exact aM | exact aR | refine aI rfl ?_ | refine aU rfl ?_ | refine aL rfl ?_, ?_⟩
      exact ⟨⟨⟩, trivial, St.pick [1, 2, 3, 4, 5, 6] (pre := [_, _, _, _, _, _, _, _]) rfl H rfl⟩
    rintro ⟨⟩ ρ1 w H
    refine w_cutG (G := Option Addr × Nat × List Tx) [9, 101, 102, 103, 104, 105, 106] (fun ⟨la2, lc2, ls2⟩ => [(9, .slice la2 ls2.length lc2)]) (fun ⟨la2, lc2, ls2⟩ w => ls2.map Tx.bs = (nextL (ls.map Tx.bs) es[i].e) ∧ (∀ t ∈ ls2, t.bs.length ≤ 20000) ∧ St W w (tapeL tb q (tapT s (nextL (ls.map Tx.bs) es[i].e)) (row 50 1 la2 ls2.length lc2 (ls2.map Tx.v) :: Segs (ls2.map Tx.seg) :: blk b2 (s.cells a c) 26 :: F))) (fun _ => rfl) ?_ ?_
    · refine w_seq ?_
      refine w_region ?_
      refine l_pint rfl rfl ?_
      refine l_pbool rfl rfl ?_
      refine l_nil ?_
      refine w_cond rfl (fun c7 => ?_) (fun c7 => ?_)
      · try simp only [sH] at c7
        refine w_region ?_
        refine l_pslice rfl rfl ?_
        refine l_pslice rfl rfl ?_
        refine b_buildSlice (cs := [.slice ra (putEv es[i].e).1.length rc]) rfl el_37 ze_50 rfl rfl rfl H (fun b105 w H => ?_)
        refine b_append rfl el_37 ze_50 rfl rfl rfl H 7 rfl (Rd.mk (H.cells0 0 rfl)) rfl (fun u hu => by obtain rfl := List.mem_singleton.1 hu; rfl) ⟨by omega, by simp only [maxLen]; omega⟩ (fun a106 c106 w H => ?_)
        have H := H.drop1
        refine l_pslice rfl rfl ?_
        refine l_nil ?_
        refine ⟨by repeat' first | exact aM | exact aR | refine aI rfl ?_ | refine aU rfl ?_ | refine aL rfl ?_, ?_⟩
        have hnl : nextL (ls.map Tx.bs) es[i].e = ls.map Tx.bs ++ [(putEv es[i].e).1] := by unfold nextL; rw [if_pos (by omega)]
        refine ⟨(a106, c106, ls ++ [⟨ra, rc, (putEv es[i].e).1⟩]), ⟨by rw [List.length_append]; rfl, trivial⟩, ?_, ?_, ?_⟩
        · rw [List.map_append, hnl]; rfl
        · intro t ht
          rcases List.mem_append.1 ht with ht | ht
          · exact htb t ht
          rw [List.mem_singleton.1 ht]; have := putEv_len es[i].e; show (putEv es[i].e).1.length ≤ 20000; omega
        rw [List.length_append, List.map_append, List.map_append]
        exact St.pick [1, 2, 3, 4, 5, 6, 0] (pre := [_, _, _, _, _, _, _]) rfl (St.snocseg.1 (St.pick [7, 0, 1, 2, 3, 4, 5, 6] (pre := [_, _, _, _, _, _, _, _]) rfl H rfl)) rfl
      try simp only [sH] at c7
      refine w_skip ?_
      refine ⟨by repeat' first | exact aM | exact aR | refine aI rfl ?_ | refine aU rfl ?_ | refine aL rfl ?_, ?_⟩
      have hnl : nextL (ls.map Tx.bs) es[i].e = ls.map Tx.bs := by unfold nextL; rw [if_neg (by omega)]
      exact ⟨(la, lc, ls), ⟨rfl, trivial⟩, hnl.symm, htb, H.drop1⟩
    rintro ⟨la2, lc2, ls2⟩ ρ1 w ⟨hl2, htb2, H⟩
    rw [← hl2] at hq H
    have hq2 := hq
    have h4k2 : ls2.length ≤ 4096 := by rw [← List.length_map (f := Tx.bs), hl2]; exact next_len hlm
    have hok2 : TOk2 (tapT s (ls2.map Tx.bs)) := by have := hok.add es[i].e; rw [add_h hlm, ← hl2] at this; exact this
    refine w_seq ?_
    refine w_seq ?_
    refine w_region ?_
    refine l_pptr rfl rfl ?_
    refine b_call rfl cb_13 rfl (TLen_ok H) (fun v w hv => ?_)
    obtain ⟨hv1, H⟩ := hv
    rw [tapT_n, List.length_map] at hv1
    subst hv1
    refine l_pslice rfl rfl ?_
    refine l_v rfl (q_lenSlice rfl el_37 rfl) ?_
    refine l_pbool rfl rfl ?_
    refine l_nil ?_
    refine w_cond rfl (fun c8 => ?_) (fun c8 => ?_)
    · try simp only [sH] at c8
      exact absurd c8 (by simp)
    try simp only [sH] at c8
    refine w_skip ?_
    refine w_seq ?_
    refine w_region ?_
    refine l_pint rfl rfl ?_
    refine l_v rfl (q_rem rfl rfl rfl (by omega)) ?_
    refine l_pbool rfl rfl ?_
    refine l_nil ?_
    refine w_cond rfl (fun c9 => ?_) (fun c9 => ?_)
    · try simp only [sH] at c9
      refine w_seq ?_
      refine w_region ?_
      refine l_v rfl (q_loadN (vs := s.cells a c) rfl ag_26 rfl rfl (H.cells 7 rfl)) ?_
      refine l_pslice rfl rfl ?_
      refine b_call rfl cb_14 rfl (Write_r H s hso hc (hr.up 8 rfl) (RdIn.row 5 rfl) rfl ((H.rowInv (i := 5) rfl).2.1) (txs_segs 6 rfl (fun t h => by have := htb2 t h; omega)) (fun t ht => by obtain ⟨u, hu, rfl⟩ := List.mem_map.1 ht; exact htb2 u hu) (by omega)) (fun v w hv => ?_)
      obtain ⟨fa, fc, pa, pc, rfl, H⟩ := hv
      have H := St.pick [2, 3, 4, 5, 6, 0, 1, 7, 8, 9] (pre := [_, _, _, _, _, _, _, _, _, _]) rfl H rfl
      have H : St W w (tapeL tb q (tapT s (ls2.map Tx.bs)) (row 5 1 fa (fileL s (ls2.map Tx.bs)).length fc ((fileL s (ls2.map Tx.bs)).map B) :: row 3 1 pa (posW s (ls2.map Tx.bs)).length pc (natsV (posW s (ls2.map Tx.bs))) :: row 50 1 la2 ls2.length lc2 (ls2.map Tx.v) :: Segs (ls2.map Tx.seg) :: blk b2 (s.cells a c) 26 :: F)) := H
      refine l_ptup rfl rfl ?_
      refine l_pslice rfl rfl ?_
      refine l_pslice rfl rfl ?_
      refine l_pslice rfl rfl ?_
      refine l_pslice rfl rfl ?_
      refine l_nil ?_
      refine w_seq ?_
      refine w_drawT [] [4] [(0, 0), (3, 0), (4, 1), (1, 2), (2, 2), (5, 0)] mixed (by kernel_rfl) (fun _ _ _ h => fin_panic h) H (fun H => ?_)
      refine r_pptr rfl rfl rfl ?_
      refine r_pslice rfl rfl rfl ?_
      refine r_v rfl rfl (fun w hS => q_bytesStr (bs := fileL s (ls2.map Tx.bs)) rfl by_50 st_9 rfl ((RdIn.row (W := W) 5 rfl).use hS 0 rfl) rfl) ?_
      refine r_do rfl ?_
      refine b_call rfl cb_15 rfl (TBytes_ok hN H hok2.ok hq2 hok2.pl) (fun v w hv => ?_)
      obtain ⟨ga, gc, hr2, H⟩ := hv
      rw [tapT_file] at hr2 H
      subst hr2
      refine l_nil ⟨fun _ _ => (by first | exact H | exact H.drop1 | exact H.drop1.drop1 | exact H.drop1.drop1.drop1), ?_⟩
      refine r_do rfl ?_
      refine l_v rfl (q_bytesStr (bs := fileL s (ls2.map Tx.bs)) rfl by_50 st_9 rfl ((H.rowInv (i := 0) rfl).2.2.2.2) rfl) ?_
      refine l_nil ⟨fun _ _ => (by first | exact H | exact H.drop1 | exact H.drop1.drop1 | exact H.drop1.drop1.drop1), ?_⟩
      refine r_w rfl rfl (fun w => q_pure (s_neq rfl rfl)) ?_
      refine r_nil ?_
      refine w_cond rfl (fun c10 => ?_) (fun c10 => ?_)
      · try simp only [sH] at c10
        exact absurd c10 (by simp)
      try simp only [sH] at c10
      refine w_skip ?_
      refine w_region ?_
      refine l_pint rfl rfl ?_
      first | refine l_v rfl (q_add rfl rfl rfl (by simp only [inK]; omega)) ?_ | refine l_pint rfl rfl ?_
      refine l_pint rfl rfl ?_
      refine l_nil ?_
      refine ⟨by repeat' first | exact aM | exact aR | refine aI rfl ?_ | refine aU rfl ?_ | refine aL rfl ?_, ?_⟩
      exact ⟨m - 1, (i + 1, q, la2, lc2, ls2), by omega, ⟨rfl, by exact congrArg (Value.int IntKind.i64) (Int.natCast_succ i).symm, trivial⟩, by omega, hq2, hok2, h4k2, htb2, St.pick [1, 2, 3, 4, 5, 8, 9, 10] (pre := [_, _, _, _, _, _, _, _, _, _, _]) rfl H rfl⟩
    try simp only [sH] at c9
    refine w_skip ?_
    refine w_region ?_
    refine l_pint rfl rfl ?_
    first | refine l_v rfl (q_add rfl rfl rfl (by simp only [inK]; omega)) ?_ | refine l_pint rfl rfl ?_
    refine l_pint rfl rfl ?_
    refine l_nil ?_
    refine ⟨by repeat' first | exact aM | exact aR | refine aI rfl ?_ | refine aU rfl ?_ | refine aL rfl ?_, ?_⟩
    exact ⟨m - 1, (i + 1, q, la2, lc2, ls2), by omega, ⟨rfl, by exact congrArg (Value.int IntKind.i64) (Int.natCast_succ i).symm, trivial⟩, by omega, hq2, hok2, h4k2, htb2, H⟩
  try simp only [sH] at c3
  refine w_exit ?_
  refine w_seq ?_
  refine w_region ?_
  refine l_v rfl (q_loadN (vs := s.cells a c) rfl ag_26 rfl rfl (H.cells 7 rfl)) ?_
  refine l_pslice rfl rfl ?_
  refine b_call rfl cb_14 rfl (Write_r H s hso hc (hr.up 8 rfl) (RdIn.row 5 rfl) rfl ((H.rowInv (i := 5) rfl).2.1) (txs_segs 6 rfl (fun t h => by have := htb t h; omega)) (fun t ht => by obtain ⟨u, hu, rfl⟩ := List.mem_map.1 ht; exact htb u hu) (by omega)) (fun v w hv => ?_)
  obtain ⟨fa, fc, pa, pc, rfl, H⟩ := hv
  have H := St.pick [2, 3, 4, 5, 6, 0, 1, 7, 8, 9] (pre := [_, _, _, _, _, _, _, _, _, _]) rfl H rfl
  have H : St W w (tapeL tb p (tapT s (ls.map Tx.bs)) (row 5 1 fa (fileL s (ls.map Tx.bs)).length fc ((fileL s (ls.map Tx.bs)).map B) :: row 3 1 pa (posW s (ls.map Tx.bs)).length pc (natsV (posW s (ls.map Tx.bs))) :: row 50 1 la ls.length lc (ls.map Tx.v) :: Segs (ls.map Tx.seg) :: blk b2 (s.cells a c) 26 :: F)) := H
  refine l_ptup rfl rfl ?_
  refine l_pslice rfl rfl ?_
  refine l_pslice rfl rfl ?_
  refine l_pslice rfl rfl ?_
  refine l_pslice rfl rfl ?_
  refine l_nil ?_
  refine w_seq ?_
  refine w_drawT [7] [4] [(0, 0), (3, 0), (4, 1), (1, 2), (2, 2), (5, 0), (6, 0), (7, 2), (8, 0), (9, 0)] mixed (by kernel_rfl) (fun _ _ _ h => fin_panic h) H (fun H => ?_)
  refine r_pptr rfl rfl rfl ?_
  refine r_pslice rfl rfl rfl ?_
  refine r_v rfl rfl (fun w hS => q_bytesStr (bs := fileL s (ls.map Tx.bs)) rfl by_50 st_9 rfl ((RdIn.row (W := W) 5 rfl).use hS 0 rfl) rfl) ?_
  refine r_do rfl ?_
  refine b_call rfl cb_15 rfl (TBytes_ok hN H hok.ok hpt hok.pl) (fun v w hv => ?_)
  obtain ⟨ga, gc, hr2, H⟩ := hv
  rw [tapT_file] at hr2 H
  subst hr2
  refine l_nil ⟨fun _ _ => (by first | exact H | exact H.drop1 | exact H.drop1.drop1 | exact H.drop1.drop1.drop1), ?_⟩
  refine r_do rfl ?_
  refine l_v rfl (q_bytesStr (bs := fileL s (ls.map Tx.bs)) rfl by_50 st_9 rfl ((H.rowInv (i := 0) rfl).2.2.2.2) rfl) ?_
  refine l_nil ⟨fun _ _ => (by first | exact H | exact H.drop1 | exact H.drop1.drop1 | exact H.drop1.drop1.drop1), ?_⟩
  refine r_w rfl rfl (fun w => q_pure (s_eql rfl rfl)) ?_
  refine r_pbool rfl rfl rfl ?_
  refine r_split 139 rfl (fun h139 => ?_) (fun h139 => absurd h139 (by simp))
  try simp only [sH] at h139
  refine r_do rfl ?_
  refine b_call rfl cb_8 rfl (works_ok hN H) (fun v w hv => ?_)
  obtain ⟨rfl, H⟩ := hv
  refine l_nil ⟨(fun h => nomatch h), ?_⟩
  refine r_pickT (v := .bool _) rfl rfl rfl rfl ?_
  refine r_pbool rfl rfl rfl ?_
  refine r_nil ?_
  refine w_ret ?_
  refine fin1 (v := .bool _) rfl ?_
  exact ⟨rfl, _, H⟩
end Go.Proofs.YtfpmnhmdphaceaaGreatDoor
