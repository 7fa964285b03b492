/- The laws' helper that hands bytes out keeps them, with a mark behind, and a copy. -/
import Derived.Test.YtcmmbjplekgihaaDig19
namespace Go.Proofs.Ytcmmbjplekgihaa
open Go.EW
attribute [local irreducible] EW.W EW.L EW.fin block8 outB parA pgo hexL shaL digitI
set_option linter.unusedVariables false
set_option linter.unusedSimpArgs false

/-- bytes that were given, with a mark behind them, and their copy -/
structure GB where
  a : Option Addr
  cap : Nat
  a2 : Option Addr
  cap2 : Nat
  bs : List UInt8
def GB.v1 (g : GB) : Value := .slice g.a (g.bs.length + 1) g.cap
def GB.v2 (g : GB) : Value := .slice g.a2 (g.bs.length + 1) g.cap2
def GB.own (g : GB) : Seg := row 5 1 g.a (g.bs.length + 1) g.cap ((g.bs ++ [90]).map B)
def GB.copy (g : GB) : Seg := row 5 1 g.a2 (g.bs.length + 1) g.cap2 ((g.bs ++ [90]).map B)
structure GA where
  o1 : Option Addr
  c1 : Nat
  o2 : Option Addr
  c2 : Nat
def nl : Value := .slice none 0 0
def givenL (b : Nat) (ga : GA) (gs : List GB) (F : List Seg) : List Seg :=
  blk b [.slice ga.o1 gs.length ga.c1, .slice ga.o2 gs.length ga.c2, nl, nl, nl, nl, nl, nl, nl, nl] 29 :: row 22 1 ga.o1 gs.length ga.c1 (gs.map GB.v1) :: row 22 1 ga.o2 gs.length ga.c2 (gs.map GB.v2) :: Segs (gs.map GB.own) :: Segs (gs.map GB.copy) :: F
theorem segs_snoc {W w : World} {S l : List Seg} {s : Seg} (H : St W w (s :: Segs l :: S)) : St W w (Segs (l ++ [s]) :: S) := by
  have H2 := St.segs.1 (H.swap01)
  refine St.segs.2 ?_
  rw [List.append_assoc]
  exact H2
theorem given_new {W w : World} {F : List Seg} {b : Nat} (H : St W w (blk b [nl, nl, nl, nl, nl, nl, nl, nl, nl, nl] 29 :: F)) : St W w (givenL b ⟨none, 0, none, 0⟩ [] F) := by
  have H1 : St W w (Segs [] :: Segs [] :: blk b [nl, nl, nl, nl, nl, nl, nl, nl, nl, nl] 29 :: F) := St.segs.2 (St.segs.2 H)
  have H2 := St.newRow (T := 22) (sz := 1) (St.newRow (T := 22) (sz := 1) H1)
  exact H2.pick [4, 0, 1, 2, 3] (pre := [_, _, _, _, _]) rfl rfl
theorem given_add {W w : World} {F : List Seg} {b : Nat} {ga : GA} {gs : List GB} {g : GB} (H : St W w (g.copy :: g.own :: blk b [.slice ga.o1 (gs.length + 1) ga.c1, .slice ga.o2 (gs.length + 1) ga.c2, nl, nl, nl, nl, nl, nl, nl, nl] 29 :: row 22 1 ga.o1 (gs.length + 1) ga.c1 (gs.map GB.v1 ++ [g.v1]) :: row 22 1 ga.o2 (gs.length + 1) ga.c2 (gs.map GB.v2 ++ [g.v2]) :: Segs (gs.map GB.own) :: Segs (gs.map GB.copy) :: F)) :
    St W w (givenL b ga (gs ++ [g]) F) := by
  have H1 : St W w (g.own :: Segs (gs.map GB.own) :: g.copy :: Segs (gs.map GB.copy) :: blk b [.slice ga.o1 (gs.length + 1) ga.c1, .slice ga.o2 (gs.length + 1) ga.c2, nl, nl, nl, nl, nl, nl, nl, nl] 29 :: row 22 1 ga.o1 (gs.length + 1) ga.c1 (gs.map GB.v1 ++ [g.v1]) :: row 22 1 ga.o2 (gs.length + 1) ga.c2 (gs.map GB.v2 ++ [g.v2]) :: F) := H.pick [1, 5, 0, 6, 2, 3, 4] (pre := [_, _, _, _, _, _, _]) rfl rfl
  have H2 := segs_snoc H1
  have H3 := segs_snoc ((H2.front 1 rfl).pick [0, 2, 1] (pre := [_, _, _]) rfl rfl)
  have H4 := H3.pick [2, 3, 4, 1, 0] (pre := [_, _, _, _, _]) rfl rfl
  unfold givenL
  rw [List.length_append, List.map_append, List.map_append, List.map_append, List.map_append]
  exact H4

theorem SameBytes_ok {w : World} {a a2 : Option Addr} {n c c2 : Nat} {bs : List UInt8} (h1 : Rd w a (bs.map B)) (h2 : Rd w a2 (bs.map B)) (hl : bs.length = n) :
    Ok Try.prog 29 [.slice a n c, .slice a2 n c2].toArray w (fun v w' => v = .bool true ∧ w' = w) := by
  refine enter (n := 10) (rs := #[.tmp 4]) Try.func29 rfl rfl rfl rfl ?_
  refine w_seq ?_
  refine w_region ?_
  refine l_pbool rfl rfl ?_
  refine l_nil ?_
  refine w_seq ?_
  refine w_region ?_
  refine l_pslice rfl rfl ?_
  refine l_v rfl (q_bytesStr rfl by_22 st_9 rfl h1 hl) ?_
  refine l_pslice rfl rfl ?_
  refine l_v rfl (q_bytesStr rfl by_22 st_9 rfl h2 hl) ?_
  refine l_pbool rfl rfl ?_
  refine l_pbool rfl rfl ?_
  refine l_nil ?_
  refine w_ret ?_
  refine fin1 (v := .bool _) rfl ?_
  exact ⟨congrArg Value.bool (beq_self_eq_true _), rfl⟩

theorem Bytes_ok {W w : World} {F : List Seg} {b : Nat} {ga : GA} {gs : List GB} (H : St W w (givenL b ga gs F)) {a : Option Addr} {n c : Nat} {bs : List UInt8} (hr : RdIn W F a (bs.map B)) (hl : bs.length = n) (hn : n ≤ 1099511627776) (hg : gs.length ≤ 1099511627) :
    Ok Try.prog 8 [.pointer (some ⟨b, 0, none⟩), .slice a n c].toArray w (fun v w' => ∃ (g : GB) (ga' : GA), g.bs = bs ∧ v = .slice g.a n g.cap ∧ St W w' (givenL b ga' (gs ++ [g]) F)) := by
  refine enter (n := 35) (rs := #[.tmp 4]) Try.func8 rfl rfl rfl rfl ?_
  refine w_seq ?_
  refine w_region ?_
  refine l_pslice rfl rfl ?_
  refine l_nil ?_
  refine w_seq ?_
  refine w_region ?_
  refine l_pslice rfl rfl ?_
  refine b_call rfl cb_20 rfl (CopyBytes_ok H (hr.up 5 rfl) hl (by omega)) (fun v w hv => ?_)
  obtain ⟨a7, c7, rfl, H⟩ := hv
  refine b_buildSlice (cs := [_]) rfl el_22 ze_5 rfl rfl rfl H (fun b8 w H => ?_)
  refine b_append rfl el_22 ze_5 rfl rfl rfl H 1 rfl (Rd.mk (H.cells0 0 rfl)) rfl (fun u hu => by obtain rfl := List.mem_singleton.1 hu; rfl) ⟨by omega, by simp only [maxLen]; omega⟩ (fun a9 c9 w H => ?_)
  have H : St W w (row 5 1 a9 (n + 1) c9 ((bs ++ [90]).map B) :: givenL b ga gs F) := by
    rw [List.map_append]; exact H.drop1
  refine l_pslice rfl rfl ?_
  refine l_nil ?_
  refine w_seq ?_
  refine w_region ?_
  refine l_pptr rfl rfl ?_
  refine l_pptr rfl rfl ?_
  refine l_pptr rfl rfl ?_
  refine l_v rfl (q_fieldAddr rfl fo29_0 rfl) ?_
  refine l_v rfl (q_load1 rfl c1_23 rfl (H.cell 1 rfl rfl)) ?_
  refine l_pslice rfl rfl ?_
  refine b_buildSlice (cs := [.slice a9 (n + 1) c9]) rfl el_23 ze_22 rfl rfl rfl H (fun b16 w H => ?_)
  refine b_append rfl el_23 ze_22 rfl rfl rfl H 3 rfl (Rd.mk (H.cells0 0 rfl)) rfl (fun u hu => by obtain rfl := List.mem_singleton.1 hu; rfl) ⟨by omega, by simp only [maxLen]; omega⟩ (fun a17 c17 w H => ?_)
  refine l_pptr rfl rfl ?_
  refine l_v rfl (q_fieldAddr rfl fo29_0 rfl) ?_
  refine b_store (vs := [.slice a17 (gs.length + 1) c17]) rfl sz_23 rfl rfl rfl rfl rfl H 2 rfl rfl rfl (fun w H => ?_)
  have H := H.drop1
  refine l_nil ?_
  refine w_seq ?_
  refine w_drawT [8, 11] [4] [(0, 0), (1, 0), (2, 0), (3, 0), (4, 1), (5, 0), (6, 2), (7, 2), (8, 2), (9, 0), (10, 0), (11, 2)] mixed (by kernel_rfl) (fun _ _ _ h => fin_panic h) H (fun H => ?_)
  refine r_pptr rfl rfl rfl ?_
  refine r_pptr rfl rfl rfl ?_
  refine r_pptr rfl rfl rfl ?_
  refine r_w rfl rfl (fun w => q_fieldAddr rfl fo29_1 rfl) ?_
  refine r_v rfl rfl (fun w hS => q_load1 rfl c1_23 rfl (hS.cell 1 rfl rfl)) ?_
  refine r_pslice rfl rfl rfl ?_
  refine r_do rfl ?_
  refine b_call rfl cb_20 rfl (CopyBytes_ok H (bs := bs ++ [90]) (RdIn.row 0 rfl) (by simp [hl]) (by omega)) (fun v w hv => ?_)
  obtain ⟨a26, c26, rfl, H⟩ := hv
  refine l_nil ⟨fun _ _ => (by first | exact H | exact H.drop1 | exact H.drop1.drop1 | exact H.drop1.drop1.drop1), ?_⟩
  refine r_do rfl ?_
  refine b_buildSlice (cs := [.slice a26 (n + 1) c26]) rfl el_23 ze_22 rfl rfl rfl H (fun b27 w H => ?_)
  refine l_nil ⟨fun _ _ => (by first | exact H | exact H.drop1 | exact H.drop1.drop1 | exact H.drop1.drop1.drop1), ?_⟩
  refine r_do rfl ?_
  refine b_append rfl el_23 ze_22 rfl rfl rfl H 5 rfl (Rd.mk (H.cells0 0 rfl)) rfl (fun u hu => by obtain rfl := List.mem_singleton.1 hu; rfl) ⟨by omega, by simp only [maxLen]; omega⟩ (fun a28 c28 w H => ?_)
  refine l_nil ⟨(fun h => nomatch h), ?_⟩
  refine r_pptr rfl rfl rfl ?_
  refine r_w rfl rfl (fun w => q_fieldAddr rfl fo29_1 rfl) ?_
  refine r_do rfl ?_
  refine b_store (vs := [.slice a28 (gs.length + 1) c28]) rfl sz_23 rfl rfl rfl rfl rfl H 3 rfl rfl rfl (fun w H => ?_)
  refine l_nil ⟨(fun h => nomatch h), ?_⟩
  refine r_nil ?_
  refine w_seq ?_
  refine w_region ?_
  refine l_pslice rfl rfl ?_
  refine l_pslice rfl rfl ?_
  refine l_v rfl (q_lenSlice rfl el_22 rfl) ?_
  refine l_v rfl (q_slice (h := n) rfl el_22 rfl Bnd.none (Bnd.nat (by have := (H.rowInv (i := 2) rfl).2.1; omega)) Bnd.none (by simp)) ?_
  refine l_pslice rfl rfl ?_
  refine l_nil ?_
  refine w_ret ?_
  refine fin1 (v := .slice _ _ _) rfl ?_
  subst hl
  refine ⟨⟨a9, c9, a26, c26, bs⟩, ⟨a17, c17, a28, c28⟩, rfl, ?_, ?_⟩
  · show Value.slice _ _ _ = _
    rw [subA_z]; rfl
  · refine given_add (g := ⟨a9, c9, a26, c26, bs⟩) (ga := ⟨a17, c17, a28, c28⟩) ?_
    exact H.drop1

end Go.Proofs.Ytcmmbjplekgihaa
