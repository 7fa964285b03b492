/- A book of at most N lists as one segment; what Given's packet, same and SameInts answer; for books of at most 2000000000000 lists. -/
import Derived.Test.YtmgcmgfjaimlnaaNet26
namespace Go.Proofs.Ytmgcmgfjaimlnaa
open Go.EW
attribute [local irreducible] EW.W EW.L EW.fin
set_option linter.unusedVariables false
set_option linter.unusedSimpArgs false
theorem rowLen {W w : World} {S : List Seg} {T : TypeId} {a : Option Addr} {n c : Nat} {xs : List Value} (h : xs.length = n) (H : St W w (row T 1 a n c xs :: S)) : St W w (rowF T 1 a xs.length c xs :: S) := by
  subst h; exact H.toF
/-- a book: what it holds -/
structure BkT where
  rs : List LR
  qs : List LR
  ka : Option Addr
  ia : Option Addr
  kc : Nat
  ic : Nat
def BkT.ok (t : BkT) (N : Nat) : Prop := (t.rs.length ≤ N ∧ ∀ r ∈ t.rs, r.p.length ≤ 1000000000) ∧ (t.qs.length ≤ N ∧ ∀ r ∈ t.qs, r.p.length ≤ 1000000000)
/-- a book of at most N lists of each kind -/
def bkX (bk N : Nat) : Seg := ex fun t : BkT => star (pr (t.ok N)) (Segs (bookL bk t.rs t.ka t.kc t.qs t.ia t.ic []))
theorem bk_open {W w : World} {F : List Seg} {bk N : Nat} (H : St W w (bkX bk N :: F)) : ∃ t : BkT, t.ok N ∧ St W w (bookL bk t.rs t.ka t.kc t.qs t.ia t.ic F) := by
  obtain ⟨t, H⟩ := St.ex.1 H
  obtain ⟨h, H⟩ := St.pr.1 (St.star.1 H)
  exact ⟨t, h, St.segs.1 H⟩
theorem bk_pack {W w : World} {F : List Seg} {bk N : Nat} {rs qs : List LR} {ka ia : Option Addr} {kc ic : Nat} (H : St W w (bookL bk rs ka kc qs ia ic F)) (h : BkT.ok ⟨rs, qs, ka, ia, kc, ic⟩ N) : St W w (bkX bk N :: F) :=
  St.ex.2 ⟨⟨rs, qs, ka, ia, kc, ic⟩, St.star.2 (St.pr.2 ⟨h, St.segs.2 H⟩)⟩
theorem bk_mono {W w : World} {F : List Seg} {bk N M : Nat} (H : St W w (bkX bk N :: F)) (h : N ≤ M) : St W w (bkX bk M :: F) := by
  obtain ⟨t, ht, H⟩ := bk_open H
  exact bk_pack H ⟨⟨Nat.le_trans ht.1.1 h, ht.1.2⟩, ⟨Nat.le_trans ht.2.1 h, ht.2.2⟩⟩
theorem bk_new {W w : World} {F : List Seg} {bk : Nat} (H : St W w (blk bk (bookC [] none 0 [] none 0) 75 :: F)) : St W w (bkX bk 0 :: F) :=
  bk_pack (rs := []) (qs := []) (ka := none) (ia := none) (kc := 0) (ic := 0) (St.pick [3, 1, 4, 0, 2] (pre := [_, _, _, _, _]) rfl (St.newRow (T := 23) (sz := 1) (St.nilseg.2 (St.nilseg.2 (St.newRow (T := 29) (sz := 1) H)))) rfl) ⟨⟨Nat.le_refl _, fun _ h => (by cases h)⟩, ⟨Nat.le_refl _, fun _ h => (by cases h)⟩⟩
theorem bkBytes_ok {W w : World} {F : List Seg} {bk N n c : Nat} {a : Option Addr} {bs : List UInt8} (H : St W w (row 5 1 a n c (bs.map B) :: bkX bk N :: F)) (hl : bs.length = n) (hn : n ≤ 1000000000) (hN : N ≤ 2000000000000) :
    Ok Try.prog 69 [.pointer (some ⟨bk, 0, none⟩), .slice a n c].toArray w (fun v w' => St W w' (bkX bk (N + 1) :: F)) := by
  obtain ⟨t, ht, H⟩ := bk_open (St.pick [1, 0] (pre := [_, _]) rfl H rfl)
  have H := rowLen (by simpa using hl) (St.pick [5, 0, 1, 2, 3, 4] (pre := [_, _, _, _, _, _]) rfl H rfl)
  refine Ok.mono (BBytes_ok H (by simpa using hl) (Nat.le_trans ht.1.1 hN)) ?_
  rintro v w ⟨ka, kc, H⟩
  exact bk_pack H ⟨⟨Nat.le_trans (putB_len _ _) (Nat.succ_le_succ ht.1.1), putB_ok (r := ⟨a, c, bs.map B⟩) ht.1.2 (by simpa using (by omega : bs.length ≤ 1000000000))⟩, ⟨Nat.le_succ_of_le ht.2.1, ht.2.2⟩⟩
theorem bkInts_ok {W w : World} {F : List Seg} {bk N n c : Nat} {a : Option Addr} {xs : List Value} (H : St W w (row 3 1 a n c xs :: bkX bk N :: F)) (hl : xs.length = n) (hn : n ≤ 1000000000) (hN : N ≤ 2000000000000) :
    Ok Try.prog 66 [.pointer (some ⟨bk, 0, none⟩), .slice a n c].toArray w (fun v w' => St W w' (bkX bk (N + 1) :: F)) := by
  obtain ⟨t, ht, H⟩ := bk_open (St.pick [1, 0] (pre := [_, _]) rfl H rfl)
  have H := rowLen hl (St.pick [5, 0, 1, 2, 3, 4] (pre := [_, _, _, _, _, _]) rfl H rfl)
  refine Ok.mono (BInts_ok H hl (Nat.le_trans ht.2.1 hN)) ?_
  rintro v w ⟨ka, kc, H⟩
  exact bk_pack H ⟨⟨Nat.le_succ_of_le ht.1.1, ht.1.2⟩, ⟨Nat.le_trans (putB_len _ _) (Nat.succ_le_succ ht.2.1), putB_ok (r := ⟨a, c, xs⟩) ht.2.2 (by show xs.length ≤ _; omega)⟩⟩
theorem bkApart_ok {W w : World} {F : List Seg} {bk N : Nat} (H : St W w (bkX bk N :: F)) (hN : N ≤ 2000000000000) :
    Ok Try.prog 39 [.pointer (some ⟨bk, 0, none⟩)].toArray w (fun v w' => v = .bool true ∧ St W w' F) := by
  obtain ⟨t, ht, H⟩ := bk_open H
  exact Apart_ok H ⟨Nat.le_trans ht.1.1 hN, ht.1.2⟩ ⟨Nat.le_trans ht.2.1 hN, ht.2.2⟩
theorem given0 {W w : World} {F : List Seg} {b : Nat} (H : St W w (blk b (gcells gp0) 100 :: F)) : St W w (givenL b gp0 F) :=
  St.pick [4, 2, 3, 0, 1] (pre := [_, _, _, _, _]) rfl (St.nilseg.2 (St.nilseg.2 (St.newRow (T := 29) (sz := 1) (St.newRow (T := 29) (sz := 1) H)))) rfl
theorem GPacket_ok {W w : World} {F : List Seg} {gb : Nat} (H : St W w (givenL gb gp0 F)) (fr to : Int) {a : Option Addr} {n cap : Nat} {bs : List UInt8} (hr : RdIn W F a (bs.map B)) (hl : bs.length = n) (hn : n ≤ 140737488355328) :
    Ok Try.prog 54 [.pointer (some ⟨gb, 0, none⟩), .agg #[.int .i64 fr, .int .i64 to, .slice a n cap]].toArray w (fun v w' => ∃ ga gc wa wc, ∃ x y : Tx, x.bs = bs ++ [90] ∧ y.bs = bs ++ [90] ∧ v = .agg #[.int .i64 fr, .int .i64 to, .slice (subA x.a 1 0 x.c) n x.c] ∧ bs.length ≤ x.c ∧ St W w' (givenL gb ⟨ga, gc, wa, wc, [x], [y]⟩ F)) := by
  refine enter (n := 11) (rs := #[.cell 4 31]) Try.func54 rfl rfl rfl rfl ?_
  refine w_seq ?_
  refine w_region ?_
  refine b_box (cs := [.int .i64 fr, .int .i64 to, .slice a n cap]) rfl rfl rfl H (fun b3 w H => ?_)
  refine b_alloc rfl ze_31 rfl H (fun b4 w H => ?_)
  refine l_nil ?_
  refine w_seq ?_
  refine w_region ?_
  refine l_pptr rfl rfl ?_
  refine l_v rfl (q_fieldAddr rfl fo31_2 rfl) ?_
  refine l_v rfl (q_load1 rfl c1_29 rfl (by first | exact H.cell 0 rfl rfl | exact H.cell 1 rfl rfl | exact H.cell 2 rfl rfl | exact H.cell 3 rfl rfl | exact H.cell 4 rfl rfl | exact H.cell 5 rfl rfl | exact H.cell 6 rfl rfl)) ?_
  refine b_call rfl cb_84 rfl (GBytes_ok (gb := gb) (g := gp0) (F := _ :: _ :: F) (St.pick [2, 3, 4, 5, 6, 0, 1] (pre := [_, _, _, _, _, _, _]) rfl H rfl) (by simp [gp0]) (by simp [gp0]) (hr.up 2 rfl) hl hn) (fun v w hv => ?_)
  obtain ⟨ga, gc, wa, wc, x, y, hx, hy, rfl, hxc, H⟩ := hv
  refine l_v rfl (q_fieldAddr rfl fo31_2 rfl) ?_
  first | refine b_store (cs' := [_, _, _]) rfl sz_29 rfl rfl rfl rfl rfl H 0 rfl rfl rfl (fun w H => ?_) | refine b_store (cs' := [_, _, _]) rfl sz_29 rfl rfl rfl rfl rfl H 1 rfl rfl rfl (fun w H => ?_) | refine b_store (cs' := [_, _, _]) rfl sz_29 rfl rfl rfl rfl rfl H 2 rfl rfl rfl (fun w H => ?_) | refine b_store (cs' := [_, _, _]) rfl sz_29 rfl rfl rfl rfl rfl H 3 rfl rfl rfl (fun w H => ?_) | refine b_store (cs' := [_, _, _]) rfl sz_29 rfl rfl rfl rfl rfl H 4 rfl rfl rfl (fun w H => ?_) | refine b_store (cs' := [_, _, _]) rfl sz_29 rfl rfl rfl rfl rfl H 5 rfl rfl rfl (fun w H => ?_) | refine b_store (cs' := [_, _, _]) rfl sz_29 rfl rfl rfl rfl rfl H 6 rfl rfl rfl (fun w H => ?_)
  refine l_nil ?_
  refine w_seq ?_
  refine w_region ?_
  refine l_v rfl (q_loadN (vs := [_, _, _]) rfl ag_31 rfl rfl (by first | exact H.cells 0 rfl | exact H.cells 1 rfl | exact H.cells 2 rfl | exact H.cells 3 rfl | exact H.cells 4 rfl | exact H.cells 5 rfl | exact H.cells 6 rfl)) ?_
  first | refine b_store (cs' := [_, _, _]) rfl sz_31 rfl rfl rfl rfl rfl H 0 rfl rfl rfl (fun w H => ?_) | refine b_store (cs' := [_, _, _]) rfl sz_31 rfl rfl rfl rfl rfl H 1 rfl rfl rfl (fun w H => ?_) | refine b_store (cs' := [_, _, _]) rfl sz_31 rfl rfl rfl rfl rfl H 2 rfl rfl rfl (fun w H => ?_) | refine b_store (cs' := [_, _, _]) rfl sz_31 rfl rfl rfl rfl rfl H 3 rfl rfl rfl (fun w H => ?_) | refine b_store (cs' := [_, _, _]) rfl sz_31 rfl rfl rfl rfl rfl H 4 rfl rfl rfl (fun w H => ?_) | refine b_store (cs' := [_, _, _]) rfl sz_31 rfl rfl rfl rfl rfl H 5 rfl rfl rfl (fun w H => ?_) | refine b_store (cs' := [_, _, _]) rfl sz_31 rfl rfl rfl rfl rfl H 6 rfl rfl rfl (fun w H => ?_)
  refine l_nil ?_
  refine w_ret ?_
  refine finc rfl ag_31 rfl (by first | exact H.cells 0 rfl | exact H.cells 1 rfl | exact H.cells 2 rfl | exact H.cells 3 rfl | exact H.cells 4 rfl | exact H.cells 5 rfl | exact H.cells 6 rfl) ?_
  exact ⟨ga, gc, wa, wc, x, y, hx, hy, by subst hl; rfl, hxc, (H.erase 5).erase 5⟩
theorem same_ok {W w : World} {F : List Seg} {bk N : Nat} {p q : Pk} {e f : Int} (H : St W w (p.own :: bkX bk N :: F)) (hpl : p.bs.length = p.n) (hn : p.n ≤ 1000000000) (hN : N ≤ 2000000000000) (hq : RdIn W F q.a (q.bs.map B)) (hql : q.bs.length = q.n) :
    Ok Try.prog 58 [pkv p, .int .i64 e, pkv q, .int .i64 f, .pointer (some ⟨bk, 0, none⟩)].toArray w (fun v w' => v = .bool (decide (e = f) && sameB p q) ∧ St W w' (bkX bk (N + 1) :: F)) := by
  refine enter (n := 25) (rs := #[.tmp 10]) Try.func58 rfl rfl rfl rfl ?_
  refine w_seq ?_
  refine w_region ?_
  refine b_box (cs := p.cells) rfl rfl rfl H (fun b5 w H => ?_)
  refine b_box (cs := q.cells) rfl rfl rfl H (fun b7 w H => ?_)
  refine l_pbool rfl rfl ?_
  refine l_nil ?_
  refine w_seq ?_
  refine w_region ?_
  refine l_pint rfl rfl ?_
  refine l_pint rfl rfl ?_
  refine l_pbool rfl rfl ?_
  refine l_pbool rfl rfl ?_
  refine l_split 15 rfl (fun h15 => ?_) (fun h15 => ?_)
  · try simp only [sH] at h15
    refine l_v rfl (q_loadN (vs := [_, _, _]) rfl ag_31 rfl rfl (by first | exact H.cells 0 rfl | exact H.cells 1 rfl | exact H.cells 2 rfl | exact H.cells 3 rfl)) ?_
    refine l_v rfl (q_loadN (vs := [_, _, _]) rfl ag_31 rfl rfl (by first | exact H.cells 0 rfl | exact H.cells 1 rfl | exact H.cells 2 rfl | exact H.cells 3 rfl)) ?_
    refine b_call rfl cb_15 rfl (Same_ok H (p := p) (q := q) (RdIn.row 2 rfl) hpl (hq.up 4 rfl) hql) (fun v w hv => ?_)
    obtain ⟨rfl, H⟩ := hv
    refine l_pickT (v := .bool _) rfl rfl rfl ?_
    refine l_pbool rfl rfl ?_
    refine l_nil ?_
    refine w_seq ?_
    refine w_region ?_
    refine l_pptr rfl rfl ?_
    refine l_v rfl (q_fieldAddr rfl fo31_2 rfl) ?_
    refine l_v rfl (q_load1 rfl c1_29 rfl (by first | exact H.cell 0 rfl rfl | exact H.cell 1 rfl rfl | exact H.cell 2 rfl rfl | exact H.cell 3 rfl rfl)) ?_
    refine b_call rfl cb_69 rfl (bkBytes_ok (St.pick [2, 3, 0, 1] (pre := [_, _, _, _]) rfl H rfl) hpl hn hN) (fun v w hv => ?_)
    have H := hv
    refine l_nil ?_
    refine w_seq ?_
    refine w_region ?_
    refine l_pbool rfl rfl ?_
    refine l_pbool rfl rfl ?_
    refine l_nil ?_
    refine w_ret ?_
    refine fin1 (v := .bool _) rfl ?_
    exact ⟨congrArg Value.bool (by simp [h15]), H.erase 1 |>.erase 1⟩
  try simp only [sH] at h15
  refine l_no rfl ?_
  refine l_no rfl ?_
  refine l_no rfl ?_
  refine l_pickF (v := .bool _) rfl rfl rfl ?_
  refine l_pbool rfl rfl ?_
  refine l_nil ?_
  refine w_seq ?_
  refine w_region ?_
  refine l_pptr rfl rfl ?_
  refine l_v rfl (q_fieldAddr rfl fo31_2 rfl) ?_
  refine l_v rfl (q_load1 rfl c1_29 rfl (by first | exact H.cell 0 rfl rfl | exact H.cell 1 rfl rfl | exact H.cell 2 rfl rfl | exact H.cell 3 rfl rfl)) ?_
  refine b_call rfl cb_69 rfl (bkBytes_ok (St.pick [2, 3, 0, 1] (pre := [_, _, _, _]) rfl H rfl) hpl hn hN) (fun v w hv => ?_)
  have H := hv
  refine l_nil ?_
  refine w_seq ?_
  refine w_region ?_
  refine l_pbool rfl rfl ?_
  refine l_pbool rfl rfl ?_
  refine l_nil ?_
  refine w_ret ?_
  refine fin1 (v := .bool _) rfl ?_
  exact ⟨congrArg Value.bool (by simp [h15]), H.erase 1 |>.erase 1⟩
theorem SameInts_ok {W w : World} {F : List Seg} (H : St W w F) {a a' : Option Addr} {c c' : Nat} {l : List Nat} (hr : RdIn W F a (l.map fun i : Nat => I64 (i : Int))) (hr' : RdIn W F a' (l.map fun i : Nat => I64 (i : Int))) (hl : l.length ≤ 140737488355328) :
    Ok Try.prog 64 [.slice a l.length c, .slice a' l.length c'].toArray w (fun v w' => v = .bool true ∧ St W w' F) := by
  refine enter (n := 26) (rs := #[.tmp 4]) Try.func64 rfl rfl rfl rfl ?_
  refine w_seq ?_
  refine w_region ?_
  refine l_pbool rfl rfl ?_
  refine l_nil ?_
  refine w_seq ?_
  refine w_seq ?_
  refine w_region ?_
  refine l_pslice rfl rfl ?_
  refine l_v rfl (q_lenSlice rfl el_23 rfl) ?_
  refine l_pslice rfl rfl ?_
  refine l_v rfl (q_lenSlice rfl el_23 rfl) ?_
  refine l_pbool rfl rfl ?_
  refine l_nil ?_
  refine w_cond rfl (fun c1 => ?_) (fun c1 => ?_)
  · try simp only [sH] at c1
    exact absurd c1 (by simp)
  try simp only [sH] at c1
  refine w_skip ?_
  refine w_seq ?_
  refine w_seq ?_
  refine w_region ?_
  refine l_pint rfl rfl ?_
  refine l_nil ?_
  refine w_block ?_
  refine w_loopG (G := Nat) [4, 5, 11, 12, 13, 14, 15, 16, 17, 18, 19, 20, 21, 22, 23, 24, 25] (fun i => [(5, I64 ((i : Nat) : Int))]) (fun m i w => m + i = l.length ∧ St W w F) (fun _ => rfl) ?_ ?_
  · exact ⟨l.length, 0, ⟨rfl, trivial⟩, rfl, H⟩
  rintro m i ρ1 w ⟨hmi, H⟩
  refine w_seq ?_
  refine w_seq ?_
  refine w_region ?_
  refine l_pint rfl rfl ?_
  refine l_pslice rfl rfl ?_
  refine l_v rfl (q_lenSlice rfl el_23 rfl) ?_
  refine l_pbool rfl rfl ?_
  refine l_nil ?_
  refine w_cond rfl (fun c2 => ?_) (fun c2 => ?_)
  · try simp only [sH] at c2
    have hgi : (l.map fun i : Nat => I64 (i : Int))[i]? = some (I64 ((l[i] : Nat) : Int)) := by rw [List.getElem?_map, List.getElem?_eq_getElem (by omega)]; rfl
    obtain ⟨b0, o0, ha, _⟩ := rd_cell (hr.use H 0 rfl) hgi
    obtain ⟨b1, o1, hb, _⟩ := rd_cell (hr'.use H 0 rfl) hgi
    refine w_skip ?_
    refine w_seq ?_
    refine w_block ?_
    refine w_seq ?_
    refine w_drawT [] [3, 7] [(0, 0), (1, 0), (2, 0), (3, 1), (4, 0), (5, 0), (6, 0), (7, 1), (8, 0)] mixed (by kernel_rfl) (fun _ _ _ h => fin_panic h) H (fun H => ?_)
    refine r_pslice rfl rfl rfl ?_
    refine r_pint rfl rfl rfl ?_
    refine r_w rfl rfl (fun w => q_indexSliceA rfl el_23 rfl ha rfl (by omega)) ?_
    refine r_v rfl rfl (fun w hS => q_load1 rfl c1_3 rfl (rd_at ha (hr.use hS 0 rfl) hgi)) ?_
    refine r_pslice rfl rfl rfl ?_
    refine r_pint rfl rfl rfl ?_
    refine r_w rfl rfl (fun w => q_indexSliceA rfl el_23 rfl hb rfl (by omega)) ?_
    refine r_v rfl rfl (fun w hS => q_load1 rfl c1_3 rfl (rd_at hb (hr'.use hS 0 rfl) hgi)) ?_
    refine r_pbool rfl rfl rfl ?_
    refine r_nil ?_
    refine w_cond rfl (fun c3 => ?_) (fun c3 => ?_)
    · try simp only [sH] at c3
      exact absurd c3 (by simp)
    try simp only [sH] at c3
    refine w_skip ?_
    refine w_region ?_
    refine l_pint rfl rfl ?_
    first | refine l_v rfl (q_add rfl rfl rfl (by simp only [inK]; omega)) ?_ | refine l_pint rfl rfl ?_
    refine l_pint rfl rfl ?_
    refine l_nil ?_
    refine ⟨by repeat' first | exact aM | exact aR | refine aI rfl ?_ | refine aU rfl ?_ | refine aL rfl ?_, ?_⟩
    exact ⟨m - 1, i + 1, by omega, ⟨by exact congrArg (Value.int IntKind.i64) (Int.natCast_succ i).symm, trivial⟩, by omega, H⟩
  try simp only [sH] at c2
  refine w_exit ?_
  refine w_seq ?_
  refine w_region ?_
  refine l_pbool rfl rfl ?_
  refine l_nil ?_
  refine w_ret ?_
  refine fin1 (v := .bool _) rfl ?_
  exact ⟨rfl, H⟩
end Go.Proofs.Ytmgcmgfjaimlnaa
