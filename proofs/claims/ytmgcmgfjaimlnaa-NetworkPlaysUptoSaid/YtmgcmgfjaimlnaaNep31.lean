/- What is handed to a call by Given: its bytes lie apart and are found intact; for lists of at most 1000000. -/
import Derived.Test.YtmgcmgfjaimlnaaNep30
namespace Go.Proofs.Ytmgcmgfjaimlnaa
open Go.EW
attribute [local irreducible] EW.W EW.L EW.fin
set_option linter.unusedVariables false
set_option linter.unusedSimpArgs false
/-- what is handed in: where it lies, where its likeness lies -/
structure GP where
  ga : Option Addr
  gc : Nat
  wa : Option Addr
  wc : Nat
  gs : List Tx
  ws : List Tx
def gcells (g : GP) : List Value := [.slice g.ga g.gs.length g.gc, .slice g.wa g.ws.length g.wc, .slice none 0 0, .slice none 0 0, .slice none 0 0, .slice none 0 0, .slice none 0 0, .slice none 0 0, .slice none 0 0, .slice none 0 0]
def givenL (b : Nat) (g : GP) (F : List Seg) : List Seg :=
  blk b (gcells g) 100 :: row 29 1 g.ga g.gs.length g.gc (g.gs.map Tx.v) :: row 29 1 g.wa g.ws.length g.wc (g.ws.map Tx.v) :: Segs (g.gs.map Tx.seg) :: Segs (g.ws.map Tx.seg) :: F
def gp0 : GP := ⟨none, 0, none, 0, [], []⟩
/-- as it was -/
def GOk (g : GP) : Prop := g.gs.map Tx.bs = g.ws.map Tx.bs
theorem rdin_head {W : World} {S : List Seg} {a : Option Addr} {c : Nat} {bs : List UInt8} {n : Nat} (h : RdIn W S a (bs.map B)) : RdIn W S (subA a 1 0 c) ((bs.take n).map B) := by
  have h2 := h.subA (sz := 1) (l := 0) (m := c) (j := n) (fun _ => .inr rfl)
  rw [Nat.zero_mul, List.drop_zero, ← List.map_take] at h2
  exact h2
theorem CopyBytesN_ok {W w : World} {F : List Seg} (H : St W w F) {a : Option Addr} {n c : Nat} {bs : List UInt8} (hr : RdIn W F a (bs.map B)) (hl : bs.length = n) (hn : n ≤ 140737488355400) :
    Ok Try.prog 81 [.slice a n c].toArray w (fun r w' => ∃ a' c', r = .slice a' bs.length c' ∧ St W w' (row 5 1 a' bs.length c' (bs.map B) :: F)) := by
  subst hl
  refine enter (n := 5) (rs := #[.tmp 2]) Try.func81 rfl rfl rfl rfl ?_
  refine w_seq ?_
  refine w_region ?_
  refine l_pslice rfl rfl ?_
  refine l_nil ?_
  refine w_seq ?_
  refine w_region ?_
  refine l_pslice rfl rfl ?_
  refine b_append rfl el_29 ze_5 rfl rfl rfl (St.newRow (T := 5) (sz := 1) H) 0 rfl (ys := bs.map B) (hr.use H 0 rfl) (by rw [List.length_map, Nat.mul_one]) (EW.oneB _) ⟨by omega, by simp only [maxLen]; omega⟩ (fun a4 c4 w H => ?_)
  rw [Nat.zero_add] at H
  refine l_pslice rfl rfl ?_
  refine l_nil ?_
  refine w_ret ?_
  refine fin1 (v := .slice _ _ _) rfl ?_
  exact ⟨a4, c4, by rw [Nat.zero_add], H⟩
theorem SameBytesN_ok {W w : World} {F : List Seg} (H : St W w F) {a a' : Option Addr} {n n' c c' : Nat} {x y : List UInt8} (hr : RdIn W F a (x.map B)) (hr' : RdIn W F a' (y.map B)) (hl : x.length = n) (hl' : y.length = n') :
    Ok Try.prog 51 [.slice a n c, .slice a' n' c'].toArray w (fun r w' => r = .bool (decide (x = y)) ∧ St W w' F) := by
  refine enter (n := 10) (rs := #[.tmp 4]) Try.func51 rfl rfl rfl rfl ?_
  refine w_seq ?_
  refine w_region ?_
  refine l_pbool rfl rfl ?_
  refine l_nil ?_
  refine w_seq ?_
  refine w_region ?_
  refine l_pslice rfl rfl ?_
  refine l_v rfl (q_bytesStr (bs := x) rfl by_29 st_9 rfl (hr.use H 0 rfl) hl) ?_
  refine l_pslice rfl rfl ?_
  refine l_v rfl (q_bytesStr (bs := y) rfl by_29 st_9 rfl (hr'.use H 0 rfl) hl') ?_
  refine l_v rfl (q_pure (s_eql rfl rfl)) ?_
  refine l_pbool rfl rfl ?_
  refine l_nil ?_
  refine w_ret ?_
  refine fin1 (v := .bool _) rfl ?_
  exact ⟨rfl, H⟩
theorem GBytes_ok {W w : World} {F : List Seg} {gb : Nat} {g : GP} (H : St W w (givenL gb g F)) (hgs : g.gs.length ≤ 1000000) (hws : g.ws.length ≤ 1000000) {a : Option Addr} {n c : Nat} {bs : List UInt8} (hr : RdIn W F a (bs.map B)) (hl : bs.length = n) (hn : n ≤ 140737488355328) :
    Ok Try.prog 84 [.pointer (some ⟨gb, 0, none⟩), .slice a n c].toArray w (fun r w' => ∃ ga gc wa wc, ∃ x y : Tx, x.bs = (bs ++ [90]) ∧ y.bs = (bs ++ [90]) ∧ r = .slice (subA x.a 1 0 x.c) bs.length x.c ∧ bs.length ≤ x.c ∧ St W w' (givenL gb ⟨ga, gc, wa, wc, g.gs ++ [x], g.ws ++ [y]⟩ F)) := by
  subst hl
  have e1 : (bs ++ [90]).length = bs.length + 1 := by rw [List.length_append]; rfl
  refine enter (n := 35) (rs := #[.tmp 4]) Try.func84 rfl rfl rfl rfl ?_
  refine w_seq ?_
  refine w_region ?_
  refine l_pslice rfl rfl ?_
  refine l_nil ?_
  refine w_seq ?_
  refine w_region ?_
  refine l_pslice rfl rfl ?_
  refine b_call rfl cb_81 rfl (CopyBytesN_ok H (hr.up 5 rfl) rfl (by omega)) (fun v w hv => ?_)
  obtain ⟨xa, xc, rfl, H⟩ := hv
  refine b_buildSlice (cs := [B 90]) rfl el_29 ze_5 rfl rfl rfl H (fun b8 w H => ?_)
  refine b_append rfl el_29 ze_5 rfl rfl rfl H 1 rfl (ys := [B 90]) (Rd.mk (H.cells0 0 rfl)) rfl (fun u hu => by obtain rfl := List.mem_singleton.1 hu; rfl) ⟨by omega, by simp only [maxLen]; omega⟩ (fun a9 c9 w H => ?_)
  have H : St W w (row 5 1 a9 (bs.length + 1) c9 ((bs ++ [90]).map B) :: givenL gb g F) := by rw [List.map_append]; exact H.drop1
  have hcap9 := (H.rowInv (i := 0) rfl).2.1
  refine l_pslice rfl rfl ?_
  refine l_nil ?_
  refine w_seq ?_
  refine w_region ?_
  refine l_pptr rfl rfl ?_
  refine l_pptr rfl rfl ?_
  refine l_pptr rfl rfl ?_
  refine l_v rfl (q_fieldAddr rfl fo100_0 rfl) ?_
  refine l_v rfl (q_load1 rfl c1_64 rfl (by first | exact H.cell 0 rfl rfl | exact H.cell 1 rfl rfl | exact H.cell 2 rfl rfl)) ?_
  refine l_pslice rfl rfl ?_
  refine b_buildSlice (cs := [.slice a9 (bs.length + 1) c9]) rfl el_64 ze_29 rfl rfl rfl H (fun b16 w H => ?_)
  refine b_append rfl el_64 ze_29 rfl rfl rfl H 3 rfl (ys := [.slice a9 (bs.length + 1) c9]) (Rd.mk (H.cells0 0 rfl)) rfl (fun u hu => by obtain rfl := List.mem_singleton.1 hu; rfl) ⟨by omega, by simp only [maxLen]; omega⟩ (fun a17 c17 w H => ?_)
  have H := H.drop1
  refine l_pptr rfl rfl ?_
  refine l_v rfl (q_fieldAddr rfl fo100_0 rfl) ?_
  refine b_store (cs' := [.slice a17 (g.gs.length + 1) c17, .slice g.wa g.ws.length g.wc, .slice none 0 0, .slice none 0 0, .slice none 0 0, .slice none 0 0, .slice none 0 0, .slice none 0 0, .slice none 0 0, .slice none 0 0]) rfl sz_64 rfl rfl rfl rfl rfl H 1 rfl rfl rfl (fun w H => ?_)
  refine l_nil ?_
  refine w_seq ?_
  refine w_drawT [8, 11] [4] [(0, 0), (1, 0), (2, 0), (3, 0), (4, 1), (5, 0), (6, 2), (7, 2), (8, 2), (9, 0), (10, 0), (11, 2)] mixed (by kernel_rfl) (fun _ _ _ h => fin_panic h) H (fun H => ?_)
  refine r_pptr rfl rfl rfl ?_
  refine r_pptr rfl rfl rfl ?_
  refine r_pptr rfl rfl rfl ?_
  refine r_w rfl rfl (fun w => q_fieldAddr rfl fo100_1 rfl) ?_
  refine r_v rfl rfl (fun w hS => q_load1 (v := .slice g.wa g.ws.length g.wc) rfl c1_64 rfl (hS.cell 1 rfl rfl)) ?_
  refine r_pslice rfl rfl rfl ?_
  refine r_do rfl ?_
  refine b_call rfl cb_81 rfl (CopyBytesN_ok H (RdIn.row 0 rfl) e1 (by omega)) (fun v w hv => ?_)
  obtain ⟨ya, yc, rfl, H⟩ := hv
  refine l_nil ⟨fun _ _ => (by first | exact H | exact H.drop1 | exact H.drop1.drop1 | exact H.drop1.drop1.drop1), ?_⟩
  refine r_do rfl ?_
  refine b_buildSlice (cs := [.slice ya (bs ++ [90]).length yc]) rfl el_64 ze_29 rfl rfl rfl H (fun b27 w H => ?_)
  refine l_nil ⟨fun _ _ => (by first | exact H | exact H.drop1 | exact H.drop1.drop1 | exact H.drop1.drop1.drop1), ?_⟩
  refine r_do rfl ?_
  refine b_append rfl el_64 ze_29 rfl rfl rfl H 5 rfl (ys := [.slice ya (bs ++ [90]).length yc]) (Rd.mk (H.cells0 0 rfl)) rfl (fun u hu => by obtain rfl := List.mem_singleton.1 hu; rfl) ⟨by omega, by simp only [maxLen]; omega⟩ (fun a28 c28 w H => ?_)
  have H := H.drop1
  refine l_nil ⟨(fun h => nomatch h), ?_⟩
  refine r_pptr rfl rfl rfl ?_
  refine r_w rfl rfl (fun w => q_fieldAddr rfl fo100_1 rfl) ?_
  refine r_do rfl ?_
  refine b_store (cs' := [.slice a17 (g.gs.length + 1) c17, .slice a28 (g.ws.length + 1) c28, .slice none 0 0, .slice none 0 0, .slice none 0 0, .slice none 0 0, .slice none 0 0, .slice none 0 0, .slice none 0 0, .slice none 0 0]) rfl sz_64 rfl rfl rfl rfl rfl H 2 rfl rfl rfl (fun w H => ?_)
  refine l_nil ⟨(fun h => nomatch h), ?_⟩
  refine r_nil ?_
  refine w_seq ?_
  refine w_region ?_
  refine l_pslice rfl rfl ?_
  refine l_pslice rfl rfl ?_
  refine l_v rfl (q_lenSlice rfl el_29 rfl) ?_
  refine l_v rfl (q_slice (l := 0) (h := bs.length) (m := c9) rfl el_29 rfl Bnd.none (Bnd.nat (by omega)) Bnd.none (by simp)) ?_
  refine l_pslice rfl rfl ?_
  refine l_nil ?_
  refine w_ret ?_
  refine fin1 (v := .slice _ _ _) rfl ?_
  refine ⟨a17, c17, a28, c28, ⟨a9, c9, (bs ++ [90])⟩, ⟨ya, yc, (bs ++ [90])⟩, rfl, rfl, rfl, by show bs.length ≤ c9; omega, ?_⟩
  rw [← e1] at H
  have H2 := St.snocseg.1 (St.pick [5, 1, 6, 0, 2, 3, 4] (pre := [_, _, _, _, _, _, _]) rfl H rfl)
  have H3 := St.snocseg.1 (St.pick [1, 2, 0, 3, 4, 5] (pre := [_, _, _, _, _, _]) rfl H2 rfl)
  have H4 := St.pick [2, 3, 4, 1, 0] (pre := [_, _, _, _, _]) rfl H3 rfl
  unfold givenL gcells
  simp only [List.map_append, List.length_append]
  exact H4
theorem gok_at {g : GP} (h : GOk g) {i : Nat} (hi : i < g.gs.length) : ∃ hj : i < g.ws.length, g.gs[i].bs = g.ws[i].bs := by
  have hl : g.gs.length = g.ws.length := by have := congrArg List.length h; simpa using this
  refine ⟨by omega, ?_⟩
  have h2 := congrArg (fun l => l[i]?) h
  simp only [List.getElem?_map, List.getElem?_eq_getElem hi, List.getElem?_eq_getElem (show i < g.ws.length by omega), Option.map_some, Option.some.injEq] at h2
  exact h2
theorem Intact_ok {W w : World} {F : List Seg} {gb : Nat} {g : GP} (H : St W w (givenL gb g F)) (hg : GOk g) (hgs : g.gs.length ≤ 1000000) :
    Ok Try.prog 56 [.pointer (some ⟨gb, 0, none⟩)].toArray w (fun r w' => r = .bool true ∧ St W w' (givenL gb g F)) := by
  refine enter (n := 133) (rs := #[.tmp 2]) Try.func56 rfl rfl rfl rfl ?_
  refine w_seq ?_
  refine w_region ?_
  refine l_pbool rfl rfl ?_
  refine l_nil ?_
  refine w_seq ?_
  refine w_seq ?_
  refine w_region ?_
  refine l_pint rfl rfl ?_
  refine l_nil ?_
  refine w_block ?_
  refine w_loopG (G := Nat) [2, 3, 8, 9, 10, 11, 12, 13, 14, 15, 16, 17, 18, 19, 20, 21, 22, 23, 24, 25, 26, 27, 28, 29, 30, 31, 32] (fun i => [(3, .int .i64 ((i : Nat) : Int))]) (fun m i w => m + i = g.gs.length ∧ St W w (givenL gb g F)) (fun _ => rfl) ?_ ?_
  · exact ⟨g.gs.length, 0, ⟨rfl, trivial⟩, rfl, H⟩
  rintro m i ρ1 w ⟨hmi, H⟩
  refine w_seq ?_
  refine w_seq ?_
  refine w_region ?_
  refine l_pint rfl rfl ?_
  refine l_pptr rfl rfl ?_
  refine l_pptr rfl rfl ?_
  refine l_v rfl (q_fieldAddr rfl fo100_0 rfl) ?_
  refine l_v rfl (q_load1 (v := .slice g.ga g.gs.length g.gc) rfl c1_64 rfl (H.cell 0 rfl rfl)) ?_
  refine l_v rfl (q_lenSlice rfl el_64 rfl) ?_
  refine l_pbool rfl rfl ?_
  refine l_nil ?_
  refine w_cond rfl (fun c1 => ?_) (fun c1 => ?_)
  · try simp only [sH] at c1
    have hi : i < g.gs.length := by omega
    obtain ⟨hj, hgw⟩ := gok_at hg hi
    obtain ⟨tb, to_, hta, _⟩ := rd_cell ((H.rowInv (i := 1) rfl).2.2.2.2) (txv_get hi)
    obtain ⟨ub, uo, hua, _⟩ := rd_cell ((H.rowInv (i := 2) rfl).2.2.2.2) (txv_get hj)
    refine w_skip ?_
    refine w_seq ?_
    refine w_block ?_
    refine w_seq ?_
    refine w_drawT [14] [3, 6, 10, 13] [(0, 0), (1, 0), (2, 0), (3, 1), (4, 0), (5, 0), (6, 1), (7, 0), (8, 0), (9, 0), (10, 1), (11, 0), (12, 0), (13, 1), (14, 2), (15, 0)] mixed (by kernel_rfl) (fun _ _ _ h => fin_panic h) H (fun H => ?_)
    refine r_pptr rfl rfl rfl ?_
    refine r_pptr rfl rfl rfl ?_
    refine r_w rfl rfl (fun w => q_fieldAddr rfl fo100_0 rfl) ?_
    refine r_v rfl rfl (fun w hS => q_load1 (v := .slice g.ga g.gs.length g.gc) rfl c1_64 rfl (hS.cell 0 rfl rfl)) ?_
    refine r_pint rfl rfl rfl ?_
    refine r_w rfl rfl (fun w => q_indexSliceE i rfl el_64 rfl hta rfl rfl hi) ?_
    refine r_v rfl rfl (fun w hS => q_load1 (v := .slice g.gs[i].a g.gs[i].bs.length g.gs[i].c) rfl c1_29 rfl (rd_at hta (hS.rowInv (i := 1) rfl).2.2.2.2 (txv_get hi))) ?_
    refine r_pptr rfl rfl rfl ?_
    refine r_pptr rfl rfl rfl ?_
    refine r_w rfl rfl (fun w => q_fieldAddr rfl fo100_1 rfl) ?_
    refine r_v rfl rfl (fun w hS => q_load1 (v := .slice g.wa g.ws.length g.wc) rfl c1_64 rfl (hS.cell 0 rfl rfl)) ?_
    refine r_pint rfl rfl rfl ?_
    refine r_w rfl rfl (fun w => q_indexSliceE i rfl el_64 rfl hua rfl rfl hj) ?_
    refine r_v rfl rfl (fun w hS => q_load1 (v := .slice g.ws[i].a g.ws[i].bs.length g.ws[i].c) rfl c1_29 rfl (rd_at hua (hS.rowInv (i := 2) rfl).2.2.2.2 (txv_get hj))) ?_
    refine r_do rfl ?_
    refine b_call rfl cb_51 rfl (SameBytesN_ok H (x := g.gs[i].bs) (y := g.ws[i].bs) (RdIn.segs 3 rfl i (by rw [List.getElem?_map, List.getElem?_eq_getElem hi]; rfl)) (RdIn.segs 4 rfl i (by rw [List.getElem?_map, List.getElem?_eq_getElem hj]; rfl)) rfl rfl) (fun v w hv => ?_)
    obtain ⟨rfl, H⟩ := hv
    rw [hgw, decide_eq_true rfl]
    refine l_nil ⟨(fun h => nomatch h), ?_⟩
    refine r_pbool rfl rfl rfl ?_
    refine r_nil ?_
    refine w_cond_f rfl ?_
    refine w_skip ?_
    refine w_region ?_
    refine l_pint rfl rfl ?_
    first | refine l_v rfl (q_add rfl rfl rfl (by simp only [inK]; omega)) ?_ | refine l_pint rfl rfl ?_
    refine l_pint rfl rfl ?_
    refine l_nil ?_
    refine ⟨by repeat' first | exact aM | exact aR | refine aI rfl ?_ | refine aU rfl ?_ | refine aL rfl ?_, ?_⟩
    exact ⟨m - 1, i + 1, by omega, ⟨by exact congrArg (Value.int IntKind.i64) (Int.natCast_succ i).symm, trivial⟩, by omega, H⟩
  try simp only [sH] at c1
  refine w_exit ?_
  refine w_seq ?_
  refine w_seq ?_
  refine w_region ?_
  refine l_pint rfl rfl ?_
  refine l_nil ?_
  refine w_block ?_
  refine w_loopG (G := Unit) [2, 4, 33, 34, 35, 36, 37, 38, 39, 40, 41, 42, 43, 44, 45, 46, 47, 48, 49, 50, 51, 52, 53, 54, 55, 56, 57] (fun ⟨⟩ => [(4, .int .i64 0)]) (fun m ⟨⟩ w => St W w (givenL gb g F)) (fun _ => rfl) ?_ ?_
  · exact ⟨0, ⟨⟩, ⟨rfl, trivial⟩, H⟩
  rintro m ⟨⟩ ρ1 w H
  refine w_seq ?_
  refine w_seq ?_
  refine w_region ?_
  refine l_pint rfl rfl ?_
  refine l_pptr rfl rfl ?_
  refine l_pptr rfl rfl ?_
  refine l_v rfl (q_fieldAddr rfl fo100_8 rfl) ?_
  refine l_v rfl (q_load1 rfl c1_98 rfl (by first | exact H.cell 0 rfl rfl)) ?_
  refine l_v rfl (q_lenSlice rfl el_98 rfl) ?_
  refine l_pbool rfl rfl ?_
  refine l_nil ?_
  refine w_cond rfl (fun c2 => ?_) (fun c2 => ?_)
  · try simp only [sH] at c2
    exact absurd c2 (by decide)
  try simp only [sH] at c2
  refine w_exit ?_
  refine w_seq ?_
  refine w_seq ?_
  refine w_region ?_
  refine l_pint rfl rfl ?_
  refine l_nil ?_
  refine w_block ?_
  refine w_loopG (G := Unit) [2, 5, 58, 59, 60, 61, 62, 63, 64, 65, 66, 67, 68, 69, 70, 71, 72, 73, 74, 75, 76, 77, 78, 79, 80, 81, 82] (fun ⟨⟩ => [(5, .int .i64 0)]) (fun m ⟨⟩ w => St W w (givenL gb g F)) (fun _ => rfl) ?_ ?_
  · exact ⟨0, ⟨⟩, ⟨rfl, trivial⟩, H⟩
  rintro m ⟨⟩ ρ1 w H
  refine w_seq ?_
  refine w_seq ?_
  refine w_region ?_
  refine l_pint rfl rfl ?_
  refine l_pptr rfl rfl ?_
  refine l_pptr rfl rfl ?_
  refine l_v rfl (q_fieldAddr rfl fo100_6 rfl) ?_
  refine l_v rfl (q_load1 rfl c1_65 rfl (by first | exact H.cell 0 rfl rfl)) ?_
  refine l_v rfl (q_lenSlice rfl el_65 rfl) ?_
  refine l_pbool rfl rfl ?_
  refine l_nil ?_
  refine w_cond rfl (fun c3 => ?_) (fun c3 => ?_)
  · try simp only [sH] at c3
    exact absurd c3 (by decide)
  try simp only [sH] at c3
  refine w_exit ?_
  refine w_seq ?_
  refine w_seq ?_
  refine w_region ?_
  refine l_pint rfl rfl ?_
  refine l_nil ?_
  refine w_block ?_
  refine w_loopG (G := Unit) [2, 6, 83, 84, 85, 86, 87, 88, 89, 90, 91, 92, 93, 94, 95, 96, 97, 98, 99, 100, 101, 102, 103, 104, 105, 106, 107] (fun ⟨⟩ => [(6, .int .i64 0)]) (fun m ⟨⟩ w => St W w (givenL gb g F)) (fun _ => rfl) ?_ ?_
  · exact ⟨0, ⟨⟩, ⟨rfl, trivial⟩, H⟩
  rintro m ⟨⟩ ρ1 w H
  refine w_seq ?_
  refine w_seq ?_
  refine w_region ?_
  refine l_pint rfl rfl ?_
  refine l_pptr rfl rfl ?_
  refine l_pptr rfl rfl ?_
  refine l_v rfl (q_fieldAddr rfl fo100_2 rfl) ?_
  refine l_v rfl (q_load1 rfl c1_66 rfl (by first | exact H.cell 0 rfl rfl)) ?_
  refine l_v rfl (q_lenSlice rfl el_66 rfl) ?_
  refine l_pbool rfl rfl ?_
  refine l_nil ?_
  refine w_cond rfl (fun c4 => ?_) (fun c4 => ?_)
  · try simp only [sH] at c4
    exact absurd c4 (by decide)
  try simp only [sH] at c4
  refine w_exit ?_
  refine w_seq ?_
  refine w_seq ?_
  refine w_region ?_
  refine l_pint rfl rfl ?_
  refine l_nil ?_
  refine w_block ?_
  refine w_loopG (G := Unit) [2, 7, 108, 109, 110, 111, 112, 113, 114, 115, 116, 117, 118, 119, 120, 121, 122, 123, 124, 125, 126, 127, 128, 129, 130, 131, 132] (fun ⟨⟩ => [(7, .int .i64 0)]) (fun m ⟨⟩ w => St W w (givenL gb g F)) (fun _ => rfl) ?_ ?_
  · exact ⟨0, ⟨⟩, ⟨rfl, trivial⟩, H⟩
  rintro m ⟨⟩ ρ1 w H
  refine w_seq ?_
  refine w_seq ?_
  refine w_region ?_
  refine l_pint rfl rfl ?_
  refine l_pptr rfl rfl ?_
  refine l_pptr rfl rfl ?_
  refine l_v rfl (q_fieldAddr rfl fo100_4 rfl) ?_
  refine l_v rfl (q_load1 rfl c1_67 rfl (by first | exact H.cell 0 rfl rfl)) ?_
  refine l_v rfl (q_lenSlice rfl el_67 rfl) ?_
  refine l_pbool rfl rfl ?_
  refine l_nil ?_
  refine w_cond rfl (fun c5 => ?_) (fun c5 => ?_)
  · try simp only [sH] at c5
    exact absurd c5 (by decide)
  try simp only [sH] at c5
  refine w_exit ?_
  refine w_seq ?_
  refine w_region ?_
  refine l_pbool rfl rfl ?_
  refine l_nil ?_
  refine w_ret ?_
  refine fin1 (v := .bool _) rfl ?_
  exact ⟨rfl, H⟩
end Go.Proofs.Ytmgcmgfjaimlnaa
