/- Walks through the tape's functions. -/
import Derived.Test.YtfpmnhmdphaceaaDoorTapLAll
import Derived.Test.YtfpmnhmdphaceaaDoorWordAll
import Derived.Test.YtfpmnhmdphaceaaDoorTadAll
namespace Go.Proofs.YtfpmnhmdphaceaaDoor
open Go.EW
attribute [local irreducible] EW.W EW.L EW.fin block8 outB shaL
set_option linter.unusedVariables false
set_option linter.unusedSimpArgs false
/-- a reader in memory -/
def readerL (rb : Nat) (a : Option Addr) (cap : Nat) (bs : List UInt8) (s : Rs) (F : List Seg) : List Seg := blk rb [.slice a bs.length cap, .int .i64 (s.at_ : Int), .int .i64 (s.err : Int), .bool true] 177 :: row 5 1 a bs.length cap (bs.map B) :: F
theorem getN_nil {b : List UInt8} {p : Nat} (h : b.drop p = []) : getN b p = (0, p, 10) := by unfold getN; rw [h]
theorem getN_cons {b : List UInt8} {p : Nat} {k : UInt8} {r : List UInt8} (h : b.drop p = k :: r) : getN b p = if 8 < k.toNat then (0, p, 12) else if r.length < k.toNat then (0, p, 10) else if 0 < k.toNat ∧ r.headD 0 = 0 then (0, p, 12) else (numB (r.take k.toNat), p + 1 + k.toNat, 0) := by unfold getN; rw [h]
/-- the bytes from a place on -/
theorem rd_drop {w : World} {a : Option Addr} {bs : List UInt8} {p cap : Nat} (h : Rd w a (bs.map B)) (hc : bs.length ≤ cap) (hp : p ≤ bs.length) : Rd w (subA a 1 p cap) ((bs.drop p).map B) := by
  have h2 := h.subA (sz := 1) (l := p) (m := cap) (j := bs.length - p) (fun e => by omega)
  rw [Nat.mul_one, ← List.map_drop, List.take_of_length_le (by rw [List.length_map, List.length_drop]; omega)] at h2
  exact h2
theorem by_cell {w : World} {a : Option Addr} {l : List UInt8} {j : Nat} (h : Rd w a (l.map B)) (hj : j < l.length) : ∃ b o, a = some ⟨b, o, none⟩ ∧ w.cell? ⟨b, o + j * 1, none⟩ = some (B l[j]) := by
  refine rd_cell h ?_
  rw [List.getElem?_map, List.getElem?_eq_getElem hj]; rfl
theorem by_at {w : World} {a : Option Addr} {b o j : Nat} {l : List UInt8} (ha : a = some ⟨b, o, none⟩) (h : Rd w a (l.map B)) (hj : j < l.length) : w.cell? ⟨b, o + j * 1, none⟩ = some (B l[j]) :=
  rd_at ha h (by rw [List.getElem?_map, List.getElem?_eq_getElem hj]; rfl)
theorem reader_rd {W w : World} {F : List Seg} {rb : Nat} {a : Option Addr} {cap : Nat} {bs : List UInt8} {s : Rs} {k0 : UInt8} {r : List UInt8} (H : St W w (readerL rb a cap bs s F)) (hs : s.at_ ≤ bs.length) (hd : bs.drop s.at_ = k0 :: r) : Rd w (subA a 1 s.at_ cap) ((k0 :: r).map B) := by
  rw [← hd]
  exact rd_drop (H.rowInv (i := 1) rfl).2.2.2.2 (H.rowInv (i := 1) rfl).2.1 hs
theorem by_nx {w : World} {a : Option Addr} {b o j : Nat} {k0 : UInt8} {r : List UInt8} (ha : a = some ⟨b, o, none⟩) (h : Rd w a ((k0 :: r).map B)) (hj : j < r.length) : w.cell? ⟨b, o + (1 + j) * 1, none⟩ = some (B r[j]) :=
  rd_at ha h (by rw [Nat.add_comm, List.map_cons, List.getElem?_cons_succ, List.getElem?_map, List.getElem?_eq_getElem hj]; rfl)
theorem by_hd {w : World} {a : Option Addr} {b o : Nat} {k0 : UInt8} {r : List UInt8} (ha : a = some ⟨b, o, none⟩) (h : Rd w a ((k0 :: r).map B)) (hj : 0 < r.length) : w.cell? ⟨b, o + 1 * 1, none⟩ = some (B (r.headD 0)) := by
  match r, hj with
  | x :: r, _ => exact rd_at ha h rfl
/-- some bytes from a place on -/
theorem rd_part {w : World} {a : Option Addr} {bs : List UInt8} {p n cap : Nat} (h : Rd w a (bs.map B)) (hc : bs.length ≤ cap) (hp : p + n ≤ bs.length) : Rd w (subA a 1 p cap) (((bs.drop p).take n).map B) := by
  have h2 := h.subA (sz := 1) (l := p) (m := cap) (j := n) (fun e => by omega)
  rw [Nat.mul_one, ← List.map_drop, ← List.map_take] at h2
  exact h2
theorem numB_take {l : List UInt8} {i : Nat} (hi : i < l.length) : numB (l.take (i + 1)) = numB (l.take i) * 256 + l[i].toNat := by
  rw [List.take_succ_eq_append_getElem hi, numB_snoc]
theorem numB_lt7 {l : List UInt8} {i : Nat} (hi : i < 8) : numB (l.take i) < 72057594037927936 := by
  have h1 := numB_lt (l.take i)
  have h2 : 256 ^ (l.take i).length ≤ 256 ^ 7 := Nat.pow_le_pow_right (by decide) (by rw [List.length_take]; omega)
  have h3 : 256 ^ 7 = 72057594037927936 := by decide
  omega
theorem Ropen_ok {W w : World} {F : List Seg} {rb : Nat} {a : Option Addr} {cap : Nat} {bs : List UInt8} {s : Rs} (H : St W w (readerL rb a cap bs s F)) :
    Ok Tryd.prog 98 [.pointer (some ⟨rb, 0, none⟩)].toArray w (fun r w' => r = .bool (decide (s.err = 0)) ∧ St W w' (readerL rb a cap bs s F)) := by
  refine enter (n := 18) (rs := #[.tmp 2]) Tryd.func98 rfl rfl rfl rfl ?_
  refine w_seq ?_
  refine w_region ?_
  refine l_pbool rfl rfl ?_
  refine l_nil ?_
  refine w_seq ?_
  refine w_region ?_
  refine l_pptr rfl rfl ?_
  refine l_v rfl (q_neqNilF rfl pt_122 rfl rfl) ?_
  refine l_pbool rfl rfl ?_
  refine l_pptr rfl rfl ?_
  refine l_pptr rfl rfl ?_
  refine l_v rfl (q_fieldAddr rfl fo177_3 rfl) ?_
  refine l_v rfl (q_load1 rfl c1_4 rfl (by first | exact H.cell 0 rfl rfl | exact H.cell 1 rfl rfl)) ?_
  refine l_pickT (v := .bool _) rfl rfl rfl ?_
  refine l_pbool rfl rfl ?_
  refine l_split 11 rfl (fun h11 => ?_) (fun h11 => ?_)
  · try simp only [sH] at h11
    refine l_pptr rfl rfl ?_
    refine l_pptr rfl rfl ?_
    refine l_v rfl (q_fieldAddr rfl fo177_2 rfl) ?_
    refine l_v rfl (q_load1 rfl c1_38 rfl (by first | exact H.cell 0 rfl rfl | exact H.cell 1 rfl rfl)) ?_
    refine l_pbool rfl rfl ?_
    refine l_pickT (v := .bool _) rfl rfl rfl ?_
    refine l_pbool rfl rfl ?_
    refine l_nil ?_
    refine w_ret ?_
    refine fin1 (v := .bool _) rfl ?_
    exact ⟨congrArg Value.bool (by first | (simp_all; done) | (rw [Bool.eq_iff_iff]; simp_all; done) | (rw [Bool.eq_iff_iff]; simp; done)), H⟩
  try simp only [sH] at h11
  refine l_no rfl ?_
  refine l_no rfl ?_
  refine l_no rfl ?_
  refine l_no rfl ?_
  refine l_no rfl ?_
  refine l_pickF (v := .bool _) rfl rfl rfl ?_
  refine l_pbool rfl rfl ?_
  refine l_nil ?_
  refine w_ret ?_
  refine fin1 (v := .bool _) rfl ?_
  exact ⟨congrArg Value.bool (by first | (simp_all; done) | (rw [Bool.eq_iff_iff]; simp_all; done) | (rw [Bool.eq_iff_iff]; simp; done)), H⟩
theorem RAt_ok {W w : World} {F : List Seg} {rb : Nat} {a : Option Addr} {cap : Nat} {bs : List UInt8} {s : Rs} (H : St W w (readerL rb a cap bs s F)) :
    Ok Tryd.prog 52 [.pointer (some ⟨rb, 0, none⟩)].toArray w (fun r w' => r = .int .i64 (s.at_ : Int) ∧ St W w' (readerL rb a cap bs s F)) := by
  refine enter (n := 16) (rs := #[.tmp 2]) Tryd.func52 rfl rfl rfl rfl ?_
  refine w_seq ?_
  refine w_region ?_
  refine l_pint rfl rfl ?_
  refine l_nil ?_
  refine w_seq ?_
  refine w_seq ?_
  refine w_region ?_
  refine l_pptr rfl rfl ?_
  refine l_v rfl (q_eqlNilF rfl pt_122 rfl rfl) ?_
  refine l_pbool rfl rfl ?_
  refine l_pptr rfl rfl ?_
  refine l_pptr rfl rfl ?_
  refine l_v rfl (q_fieldAddr rfl fo177_3 rfl) ?_
  refine l_v rfl (q_load1 rfl c1_4 rfl (by first | exact H.cell 0 rfl rfl | exact H.cell 1 rfl rfl)) ?_
  refine l_pbool rfl rfl ?_
  refine l_pickF (v := .bool _) rfl rfl rfl ?_
  refine l_nil ?_
  refine w_cond_f rfl ?_
  refine w_skip ?_
  refine w_seq ?_
  refine w_region ?_
  refine l_pptr rfl rfl ?_
  refine l_pptr rfl rfl ?_
  refine l_v rfl (q_fieldAddr rfl fo177_1 rfl) ?_
  refine l_v rfl (q_load1 rfl c1_3 rfl (by first | exact H.cell 0 rfl rfl | exact H.cell 1 rfl rfl)) ?_
  refine l_pint rfl rfl ?_
  refine l_nil ?_
  refine w_ret ?_
  refine fin1 (v := .int _ _) rfl ?_
  exact ⟨rfl, H⟩
theorem REnd_ok {W w : World} {F : List Seg} {rb : Nat} {a : Option Addr} {cap : Nat} {bs : List UInt8} {s : Rs} (H : St W w (readerL rb a cap bs s F)) :
    Ok Tryd.prog 53 [.pointer (some ⟨rb, 0, none⟩)].toArray w (fun r w' => r = .int .i64 (rEnd bs s : Int) ∧ St W w' (readerL rb a cap bs s F)) := by
  refine enter (n := 34) (rs := #[.tmp 2]) Tryd.func53 rfl rfl rfl rfl ?_
  refine w_seq ?_
  refine w_region ?_
  refine l_pint rfl rfl ?_
  refine l_nil ?_
  refine w_seq ?_
  refine w_block ?_
  refine w_seq ?_
  refine w_region ?_
  refine l_pptr rfl rfl ?_
  refine l_v rfl (q_eqlNilF rfl pt_122 rfl rfl) ?_
  refine l_pbool rfl rfl ?_
  refine l_pptr rfl rfl ?_
  refine l_pptr rfl rfl ?_
  refine l_v rfl (q_fieldAddr rfl fo177_3 rfl) ?_
  refine l_v rfl (q_load1 rfl c1_4 rfl (by first | exact H.cell 0 rfl rfl | exact H.cell 1 rfl rfl)) ?_
  refine l_pbool rfl rfl ?_
  refine l_pickF (v := .bool _) rfl rfl rfl ?_
  refine l_pbool rfl rfl ?_
  refine l_nil ?_
  refine w_cond_f rfl ?_
  refine w_seq ?_
  refine w_region ?_
  refine l_pptr rfl rfl ?_
  refine l_pptr rfl rfl ?_
  refine l_v rfl (q_fieldAddr rfl fo177_2 rfl) ?_
  refine l_v rfl (q_load1 rfl c1_38 rfl (by first | exact H.cell 0 rfl rfl | exact H.cell 1 rfl rfl)) ?_
  refine l_pbool rfl rfl ?_
  refine l_pbool rfl rfl ?_
  refine l_nil ?_
  refine w_cond rfl (fun c1 => ?_) (fun c1 => ?_)
  · try simp only [sH] at c1
    refine w_seq ?_
    refine w_region ?_
    refine l_pptr rfl rfl ?_
    refine l_pptr rfl rfl ?_
    refine l_v rfl (q_fieldAddr rfl fo177_2 rfl) ?_
    refine l_v rfl (q_load1 rfl c1_38 rfl (by first | exact H.cell 0 rfl rfl | exact H.cell 1 rfl rfl)) ?_
    refine l_pint rfl rfl ?_
    refine l_nil ?_
    refine w_ret ?_
    refine fin1 (v := .int _ _) rfl ?_
    refine ⟨?_, H⟩
    unfold rEnd
    rw [if_pos (by omega)]
  try simp only [sH] at c1
  refine w_seq ?_
  refine w_drawT [] [3, 7] [(0, 0), (1, 0), (2, 0), (3, 1), (4, 0), (5, 0), (6, 0), (7, 1), (8, 0), (9, 0), (10, 0)] mixed (by kernel_rfl) (fun _ _ _ h => fin_panic h) H (fun H => ?_)
  refine r_pptr rfl rfl rfl ?_
  refine r_pptr rfl rfl rfl ?_
  refine r_w rfl rfl (fun w => q_fieldAddr rfl fo177_1 rfl) ?_
  refine r_v rfl rfl (fun w hS => q_load1 rfl c1_3 rfl (by first | exact hS.cell 0 rfl rfl | exact hS.cell 1 rfl rfl)) ?_
  refine r_pptr rfl rfl rfl ?_
  refine r_pptr rfl rfl rfl ?_
  refine r_w rfl rfl (fun w => q_fieldAddr rfl fo177_0 rfl) ?_
  refine r_v rfl rfl (fun w hS => q_load1 rfl c1_28 rfl (by first | exact hS.cell 0 rfl rfl | exact hS.cell 1 rfl rfl)) ?_
  refine r_w rfl rfl (fun w => q_lenSlice rfl el_28 rfl) ?_
  refine r_pbool rfl rfl rfl ?_
  refine r_pbool rfl rfl rfl ?_
  refine r_nil ?_
  refine w_cond rfl (fun c2 => ?_) (fun c2 => ?_)
  · try simp only [sH] at c2
    refine w_seq ?_
    refine w_region ?_
    refine l_pint rfl rfl ?_
    refine l_nil ?_
    refine w_ret ?_
    refine fin1 (v := .int _ _) rfl ?_
    refine ⟨?_, H⟩
    unfold rEnd
    rw [if_neg (by omega), if_pos (by omega)]; rfl
  try simp only [sH] at c2
  refine w_skip ?_
  refine w_seq ?_
  refine w_region ?_
  refine l_pint rfl rfl ?_
  refine l_nil ?_
  refine w_ret ?_
  refine fin1 (v := .int _ _) rfl ?_
  refine ⟨?_, H⟩
  unfold rEnd
  rw [if_neg (by omega), if_neg (by omega)]; rfl
theorem NewReader_ok {W w : World} {F : List Seg} (H : St W w F) {a : Option Addr} {n cap : Nat} {bs : List UInt8} (hr : RdIn W F a (bs.map B)) (hl : bs.length = n) (hn : n ≤ 140737488355328) :
    Ok Tryd.prog 50 [.slice a n cap].toArray w (fun r w' => ∃ rb a' c', r = .pointer (some ⟨rb, 0, none⟩) ∧ St W w' (readerL rb a' c' bs ⟨0, 0⟩ F)) := by
  subst hl
  refine enter (n := 7) (rs := #[.tmp 2]) Tryd.func50 rfl rfl rfl rfl ?_
  refine w_seq ?_
  refine w_region ?_
  refine l_pptr rfl rfl ?_
  refine l_nil ?_
  refine w_seq ?_
  refine w_region ?_
  refine l_pslice rfl rfl ?_
  refine b_append rfl el_28 ze_5 rfl rfl rfl (St.newRow (T := 5) (sz := 1) H) 0 rfl (ys := bs.map B) (hr.use H 0 rfl) (by simp) (EW.oneB _) ⟨by omega, by simp only [maxLen]; omega⟩ (fun a4 c4 w H => ?_)
  rw [Nat.zero_add bs.length] at H ⊢
  refine l_v rfl (q_build (cs := [.slice _ _ _, .int _ _, .int _ _, .bool _]) rfl sp_177 rfl) ?_
  refine b_box rfl rfl rfl H (fun b6 w H => ?_)
  refine l_pptr rfl rfl ?_
  refine l_nil ?_
  refine w_ret ?_
  refine fin1 (v := .pointer _) rfl ?_
  exact ⟨b6, a4, c4, rfl, H⟩
theorem get_ok {W w : World} {F : List Seg} {rb : Nat} {a : Option Addr} {cap : Nat} {bs : List UInt8} {s : Rs} (H : St W w (readerL rb a cap bs s F)) (hs : s.at_ ≤ bs.length) (hb : bs.length ≤ 140737488355328) :
    Ok Tryd.prog 99 [.pointer (some ⟨rb, 0, none⟩)].toArray w (fun r w' => r = .tuple #[N64 (getN bs s.at_).1, .int .i64 (((if (getN bs s.at_).2.2 = 0 then (getN bs s.at_).2.1 else 0) : Nat) : Int), .int .i64 (((getN bs s.at_).2.2 : Nat) : Int)] ∧ St W w' (readerL rb a cap bs s F)) := by
  refine enter (n := 65) (rs := #[.tmp 2, .tmp 3, .tmp 4]) Tryd.func99 rfl rfl rfl rfl ?_
  refine w_seq ?_
  refine w_region ?_
  refine l_pint rfl rfl ?_
  refine l_pint rfl rfl ?_
  refine l_pint rfl rfl ?_
  refine l_nil ?_
  refine w_seq ?_
  refine w_drawT [] [3, 7] [(0, 0), (1, 0), (2, 0), (3, 1), (4, 0), (5, 0), (6, 0), (7, 1), (8, 0), (9, 0)] mixed (by kernel_rfl) (fun _ _ _ h => fin_panic h) H (fun H => ?_)
  refine r_pptr rfl rfl rfl ?_
  refine r_pptr rfl rfl rfl ?_
  refine r_w rfl rfl (fun w => q_fieldAddr rfl fo177_0 rfl) ?_
  refine r_v rfl rfl (fun w hS => q_load1 rfl c1_28 rfl (by first | exact hS.cell 0 rfl rfl | exact hS.cell 1 rfl rfl)) ?_
  refine r_pptr rfl rfl rfl ?_
  refine r_pptr rfl rfl rfl ?_
  refine r_w rfl rfl (fun w => q_fieldAddr rfl fo177_1 rfl) ?_
  refine r_v rfl rfl (fun w hS => q_load1 rfl c1_3 rfl (by first | exact hS.cell 0 rfl rfl | exact hS.cell 1 rfl rfl)) ?_
  refine r_w rfl rfl (fun w => q_slice (l := s.at_) (h := bs.length) (m := cap) rfl el_28 rfl Bnd.none Bnd.none (Bnd.nat hs) (by simp)) ?_
  refine r_pslice rfl rfl rfl ?_
  refine r_nil ?_
  refine w_seq ?_
  refine w_seq ?_
  refine w_region ?_
  refine l_pslice rfl rfl ?_
  refine l_v rfl (q_lenSlice rfl el_28 rfl) ?_
  refine l_pbool rfl rfl ?_
  refine l_nil ?_
  refine w_cond rfl (fun c1 => ?_) (fun c1 => ?_)
  · try simp only [sH] at c1
    refine w_seq ?_
    refine w_region ?_
    refine l_pint rfl rfl ?_
    refine l_pint rfl rfl ?_
    refine l_pint rfl rfl ?_
    refine l_nil ?_
    refine w_ret ?_
    refine fin3 rfl rfl rfl ?_
    refine ⟨?_, H⟩
    rw [getN_nil (List.drop_eq_nil_of_le (by omega))]; rfl
  try simp only [sH] at c1
  obtain ⟨k0, r, hd⟩ : ∃ k0 r, bs.drop s.at_ = k0 :: r := by
    match hd : bs.drop s.at_ with
    | [] => have := congrArg List.length hd; rw [List.length_drop] at this; simp at this; omega
    | k0 :: r => exact ⟨k0, r, rfl⟩
  have hdl := congrArg List.length hd
  rw [List.length_drop, List.length_cons] at hdl
  have hrd := reader_rd H hs hd
  obtain ⟨db, do_, hda, _⟩ := by_cell hrd (j := 0) (by simp)
  refine w_skip ?_
  refine w_seq ?_
  refine w_region ?_
  refine l_pslice rfl rfl ?_
  refine l_v rfl (q_indexSliceE 0 rfl el_28 rfl hda rfl rfl (by omega)) ?_
  refine l_v rfl (q_load1 rfl c1_5 rfl (by_at (j := 0) hda hrd (by simp))) ?_
  refine l_v rfl (q_convIntIn (a := (k0.toNat : Int)) rfl (by kernel_rfl) in_3 rfl (by have := k0.toNat_lt; simp only [inK]; omega)) ?_
  refine l_pint rfl rfl ?_
  refine l_nil ?_
  refine w_seq ?_
  refine w_block ?_
  refine w_seq ?_
  refine w_region ?_
  refine l_pint rfl rfl ?_
  refine l_pbool rfl rfl ?_
  refine l_pbool rfl rfl ?_
  refine l_nil ?_
  refine w_cond rfl (fun c2 => ?_) (fun c2 => ?_)
  · try simp only [sH] at c2
    refine w_seq ?_
    refine w_region ?_
    refine l_pint rfl rfl ?_
    refine l_pint rfl rfl ?_
    refine l_pint rfl rfl ?_
    refine l_nil ?_
    refine w_ret ?_
    refine fin3 rfl rfl rfl ?_
    refine ⟨?_, H⟩
    rw [getN_cons hd, if_pos (by omega)]; rfl
  try simp only [sH] at c2
  refine w_seq ?_
  refine w_region ?_
  refine l_pslice rfl rfl ?_
  refine l_v rfl (q_lenSlice rfl el_28 rfl) ?_
  first | refine l_v rfl (q_sub rfl rfl rfl (by simp only [inK]; omega)) ?_ | refine l_pint rfl rfl ?_
  refine l_pint rfl rfl ?_
  refine l_pbool rfl rfl ?_
  refine l_pbool rfl rfl ?_
  refine l_nil ?_
  refine w_cond rfl (fun c3 => ?_) (fun c3 => ?_)
  · try simp only [sH] at c3
    refine w_seq ?_
    refine w_region ?_
    refine l_pint rfl rfl ?_
    refine l_pint rfl rfl ?_
    refine l_pint rfl rfl ?_
    refine l_nil ?_
    refine w_ret ?_
    refine fin3 rfl rfl rfl ?_
    refine ⟨?_, H⟩
    rw [getN_cons hd, if_neg (by omega), if_pos (by omega)]; rfl
  try simp only [sH] at c3
  refine w_seq ?_
  refine w_region ?_
  refine l_pint rfl rfl ?_
  refine l_pbool rfl rfl ?_
  refine l_pbool rfl rfl ?_
  refine l_split 37 rfl (fun h37 => ?_) (fun h37 => ?_)
  · try simp only [sH] at h37
    refine l_pslice rfl rfl ?_
    refine l_v rfl (q_indexSliceE 1 rfl el_28 rfl hda rfl rfl (by omega)) ?_
    refine l_v rfl (q_load1 rfl c1_5 rfl (by_hd hda (reader_rd H hs hd) (by omega))) ?_
    refine l_pbool rfl rfl ?_
    refine l_pickT (v := .bool _) rfl rfl rfl ?_
    refine l_pbool rfl rfl ?_
    refine l_nil ?_
    refine w_cond rfl (fun c4 => ?_) (fun c4 => ?_)
    · try simp only [sH] at c4
      refine w_seq ?_
      refine w_region ?_
      refine l_pint rfl rfl ?_
      refine l_pint rfl rfl ?_
      refine l_pint rfl rfl ?_
      refine l_nil ?_
      refine w_ret ?_
      refine fin3 rfl rfl rfl ?_
      refine ⟨?_, H⟩
      rw [getN_cons hd, if_neg (by omega), if_neg (by omega), if_pos ⟨by omega, UInt8.toNat_inj.1 (show (r.headD 0).toNat = 0 by omega)⟩]; rfl
    try simp only [sH] at c4
    refine w_skip ?_
    refine w_seq ?_
    refine w_region ?_
    refine l_pint rfl rfl ?_
    refine l_nil ?_
    refine w_seq ?_
    refine w_seq ?_
    refine w_region ?_
    refine l_pint rfl rfl ?_
    refine l_pint rfl rfl ?_
    refine l_nil ?_
    refine w_block ?_
    refine w_loopG (G := Nat) [7, 8, 44, 45, 46, 47, 48, 49, 50, 51, 52, 53, 54, 55, 56] (fun i => [(7, N64 (numB (r.take i))), (44, .int .i64 ((i : Nat) : Int))]) (fun m i w => m + i = k0.toNat ∧ St W w (readerL rb a cap bs s F)) (fun _ => rfl) ?_ ?_
    · exact ⟨k0.toNat, 0, ⟨rfl, rfl, trivial⟩, by omega, H⟩
    rintro m i ρ1 w ⟨hmi, H⟩
    refine w_seq ?_
    refine w_region ?_
    refine l_pbool rfl rfl ?_
    refine l_nil ?_
    refine w_seq ?_
    refine w_cond rfl (fun c5 => ?_) (fun c5 => ?_)
    · try simp only [sH] at c5
      have hik : i < k0.toNat := by omega
      have hk8 := numB_lt7 (l := r) (i := i) (by omega)
      have hx := (r[i]'(by omega)).toNat_lt
      refine w_skip ?_
      refine w_seq ?_
      refine w_block ?_
      refine w_seq ?_
      refine w_region ?_
      refine l_pint rfl rfl ?_
      refine l_pint rfl rfl ?_
      refine l_nil ?_
      refine w_region ?_
      refine l_pint rfl rfl ?_
      refine l_v rfl (q_pure (u64_shl8 rfl rfl hk8)) ?_
      refine l_pslice rfl rfl ?_
      refine l_pint rfl rfl ?_
      first | refine l_v rfl (q_add rfl rfl rfl (by simp only [inK]; omega)) ?_ | refine l_pint rfl rfl ?_
      refine l_v rfl (q_indexSliceE (1 + i) rfl el_28 rfl hda rfl (by omega) (by omega)) ?_
      refine l_v rfl (q_load1 rfl c1_5 rfl (by_nx hda (reader_rd H hs hd) (by omega))) ?_
      refine l_v rfl (q_convIntIn rfl (by kernel_rfl) in_23 rfl (by simp only [inK]; omega)) ?_
      refine l_v rfl (q_pure (u64_orb rfl rfl hx hk8)) ?_
      refine l_pint rfl rfl ?_
      refine l_nil ?_
      refine w_region ?_
      first | refine l_v rfl (q_add rfl rfl rfl (by simp only [inK]; omega)) ?_ | refine l_pint rfl rfl ?_
      refine l_pint rfl rfl ?_
      refine l_nil ?_
      refine ⟨by repeat' first | exact aM | exact aR | refine aI rfl ?_ | refine aU rfl ?_ | refine aL rfl ?_, ?_⟩
      refine ⟨m - 1, i + 1, by omega, ⟨congrArg N64 (numB_take (by omega)).symm, by exact congrArg (Value.int IntKind.i64) (Int.natCast_succ i).symm, trivial⟩, by omega, H⟩
    try simp only [sH] at c5
    obtain rfl : i = k0.toNat := by omega
    refine w_exit ?_
    refine w_seq ?_
    refine w_drawT [] [4] [(0, 0), (1, 0), (2, 0), (3, 0), (4, 1), (5, 0), (6, 0), (7, 0), (8, 0), (9, 0), (10, 0)] mixed (by kernel_rfl) (fun _ _ _ h => fin_panic h) H (fun H => ?_)
    refine r_pint rfl rfl rfl ?_
    refine r_pptr rfl rfl rfl ?_
    refine r_pptr rfl rfl rfl ?_
    refine r_w rfl rfl (fun w => q_fieldAddr rfl fo177_1 rfl) ?_
    refine r_v rfl rfl (fun w hS => q_load1 rfl c1_3 rfl (by first | exact hS.cell 0 rfl rfl | exact hS.cell 1 rfl rfl)) ?_
    first | refine r_w rfl rfl (fun w => q_add rfl rfl rfl (by simp only [inK]; omega)) ?_ | refine r_pint rfl rfl rfl ?_
    refine r_pint rfl rfl rfl ?_
    first | refine r_w rfl rfl (fun w => q_add rfl rfl rfl (by simp only [inK]; omega)) ?_ | refine r_pint rfl rfl rfl ?_
    refine r_pint rfl rfl rfl ?_
    refine r_pint rfl rfl rfl ?_
    refine r_pint rfl rfl rfl ?_
    refine r_nil ?_
    refine w_ret ?_
    refine fin3 rfl rfl rfl ?_
    refine ⟨?_, H⟩
    rw [getN_cons hd, if_neg (by omega), if_neg (by omega), if_neg (fun h => by first | (have h1 := h.1; omega) | (have h2 : (r.headD 0).toNat = 0 := congrArg UInt8.toNat h.2; omega))]; rfl
  try simp only [sH] at h37
  refine l_no rfl ?_
  refine l_no rfl ?_
  refine l_no rfl ?_
  refine l_no rfl ?_
  refine l_pickF (v := .bool _) rfl rfl rfl ?_
  refine l_pbool rfl rfl ?_
  refine l_nil ?_
  refine w_cond_f rfl ?_
  refine w_skip ?_
  refine w_seq ?_
  refine w_region ?_
  refine l_pint rfl rfl ?_
  refine l_nil ?_
  refine w_seq ?_
  refine w_seq ?_
  refine w_region ?_
  refine l_pint rfl rfl ?_
  refine l_pint rfl rfl ?_
  refine l_nil ?_
  refine w_block ?_
  refine w_loopG (G := Nat) [7, 8, 44, 45, 46, 47, 48, 49, 50, 51, 52, 53, 54, 55, 56] (fun i => [(7, N64 (numB (r.take i))), (44, .int .i64 ((i : Nat) : Int))]) (fun m i w => m + i = k0.toNat ∧ St W w (readerL rb a cap bs s F)) (fun _ => rfl) ?_ ?_
  · exact ⟨k0.toNat, 0, ⟨rfl, rfl, trivial⟩, by omega, H⟩
  rintro m i ρ1 w ⟨hmi, H⟩
  refine w_seq ?_
  refine w_region ?_
  refine l_pbool rfl rfl ?_
  refine l_nil ?_
  refine w_seq ?_
  refine w_cond rfl (fun c6 => ?_) (fun c6 => ?_)
  · try simp only [sH] at c6
    have hik : i < k0.toNat := by omega
    have hk8 := numB_lt7 (l := r) (i := i) (by omega)
    have hx := (r[i]'(by omega)).toNat_lt
    refine w_skip ?_
    refine w_seq ?_
    refine w_block ?_
    refine w_seq ?_
    refine w_region ?_
    refine l_pint rfl rfl ?_
    refine l_pint rfl rfl ?_
    refine l_nil ?_
    refine w_region ?_
    refine l_pint rfl rfl ?_
    refine l_v rfl (q_pure (u64_shl8 rfl rfl hk8)) ?_
    refine l_pslice rfl rfl ?_
    refine l_pint rfl rfl ?_
    first | refine l_v rfl (q_add rfl rfl rfl (by simp only [inK]; omega)) ?_ | refine l_pint rfl rfl ?_
    refine l_v rfl (q_indexSliceE (1 + i) rfl el_28 rfl hda rfl (by omega) (by omega)) ?_
    refine l_v rfl (q_load1 rfl c1_5 rfl (by_nx hda (reader_rd H hs hd) (by omega))) ?_
    refine l_v rfl (q_convIntIn rfl (by kernel_rfl) in_23 rfl (by simp only [inK]; omega)) ?_
    refine l_v rfl (q_pure (u64_orb rfl rfl hx hk8)) ?_
    refine l_pint rfl rfl ?_
    refine l_nil ?_
    refine w_region ?_
    first | refine l_v rfl (q_add rfl rfl rfl (by simp only [inK]; omega)) ?_ | refine l_pint rfl rfl ?_
    refine l_pint rfl rfl ?_
    refine l_nil ?_
    refine ⟨by repeat' first | exact aM | exact aR | refine aI rfl ?_ | refine aU rfl ?_ | refine aL rfl ?_, ?_⟩
    refine ⟨m - 1, i + 1, by omega, ⟨congrArg N64 (numB_take (by omega)).symm, by exact congrArg (Value.int IntKind.i64) (Int.natCast_succ i).symm, trivial⟩, by omega, H⟩
  try simp only [sH] at c6
  obtain rfl : i = k0.toNat := by omega
  refine w_exit ?_
  refine w_seq ?_
  refine w_drawT [] [4] [(0, 0), (1, 0), (2, 0), (3, 0), (4, 1), (5, 0), (6, 0), (7, 0), (8, 0), (9, 0), (10, 0)] mixed (by kernel_rfl) (fun _ _ _ h => fin_panic h) H (fun H => ?_)
  refine r_pint rfl rfl rfl ?_
  refine r_pptr rfl rfl rfl ?_
  refine r_pptr rfl rfl rfl ?_
  refine r_w rfl rfl (fun w => q_fieldAddr rfl fo177_1 rfl) ?_
  refine r_v rfl rfl (fun w hS => q_load1 rfl c1_3 rfl (by first | exact hS.cell 0 rfl rfl | exact hS.cell 1 rfl rfl)) ?_
  first | refine r_w rfl rfl (fun w => q_add rfl rfl rfl (by simp only [inK]; omega)) ?_ | refine r_pint rfl rfl rfl ?_
  refine r_pint rfl rfl rfl ?_
  first | refine r_w rfl rfl (fun w => q_add rfl rfl rfl (by simp only [inK]; omega)) ?_ | refine r_pint rfl rfl rfl ?_
  refine r_pint rfl rfl rfl ?_
  refine r_pint rfl rfl rfl ?_
  refine r_pint rfl rfl rfl ?_
  refine r_nil ?_
  refine w_ret ?_
  refine fin3 rfl rfl rfl ?_
  refine ⟨?_, H⟩
  rw [getN_cons hd, if_neg (by omega), if_neg (by omega), if_neg (fun h => by first | (have h1 := h.1; omega) | (have h2 : (r.headD 0).toNat = 0 := congrArg UInt8.toNat h.2; omega))]; rfl
theorem RNumber_ok {W w : World} {F : List Seg} {rb : Nat} {a : Option Addr} {cap : Nat} {bs : List UInt8} {s : Rs} (H : St W w (readerL rb a cap bs s F)) (hs : RsOk2 bs s) (hb : bs.length ≤ 140737488355328) :
    Ok Tryd.prog 54 [.pointer (some ⟨rb, 0, none⟩)].toArray w (fun r w' => r = N64 (rNum bs s).1 ∧ St W w' (readerL rb a cap bs (rNum bs s).2 F)) := by
  have hge := getN_err bs s.at_
  refine enter (n := 26) (rs := #[.tmp 2]) Tryd.func54 rfl rfl rfl rfl ?_
  refine w_seq ?_
  refine w_region ?_
  refine l_pint rfl rfl ?_
  refine l_nil ?_
  refine w_seq ?_
  refine w_seq ?_
  refine w_region ?_
  refine l_pptr rfl rfl ?_
  refine b_call rfl cb_98 rfl (Ropen_ok H) (fun v w hv => ?_)
  obtain ⟨rfl, H⟩ := hv
  refine l_pbool rfl rfl ?_
  refine l_nil ?_
  refine w_cond rfl (fun c1 => ?_) (fun c1 => ?_)
  · try simp only [sH] at c1
    refine w_seq ?_
    refine w_region ?_
    refine l_pint rfl rfl ?_
    refine l_nil ?_
    refine w_ret ?_
    refine fin1 (v := .int _ _) rfl ?_
    have e : rNum bs s = (0, s) := if_pos (by simpa using c1)
    rw [e]; exact ⟨rfl, H⟩
  try simp only [sH] at c1
  refine w_skip ?_
  refine w_seq ?_
  refine w_region ?_
  refine l_pptr rfl rfl ?_
  refine b_call rfl cb_99 rfl (get_ok H hs.1 hb) (fun v w hv => ?_)
  obtain ⟨rfl, H⟩ := hv
  refine l_ptup rfl rfl ?_
  refine l_pint rfl rfl ?_
  refine l_pint rfl rfl ?_
  refine l_pint rfl rfl ?_
  refine l_pint rfl rfl ?_
  refine l_pint rfl rfl ?_
  refine l_pint rfl rfl ?_
  refine l_nil ?_
  refine w_seq ?_
  refine w_seq ?_
  refine w_region ?_
  refine l_pint rfl rfl ?_
  refine l_pbool rfl rfl ?_
  refine l_nil ?_
  refine w_cond rfl (fun c2 => ?_) (fun c2 => ?_)
  · try simp only [sH] at c2
    refine w_seq ?_
    refine w_region ?_
    refine l_pptr rfl rfl ?_
    refine l_pint rfl rfl ?_
    refine l_pptr rfl rfl ?_
    refine l_v rfl (q_fieldAddr rfl fo177_2 rfl) ?_
    first | refine b_store rfl sz_38 rfl rfl rfl rfl rfl H 0 rfl rfl rfl (fun w H => ?_) | refine b_store rfl sz_38 rfl rfl rfl rfl rfl H 1 rfl rfl rfl (fun w H => ?_)
    refine l_nil ?_
    refine w_seq ?_
    refine w_region ?_
    refine l_pint rfl rfl ?_
    refine l_nil ?_
    refine w_ret ?_
    refine fin1 (v := .int _ _) rfl ?_
    have e : rNum bs s = (0, ⟨s.at_, (getN bs s.at_).2.2⟩) := by unfold rNum; rw [if_neg (by simpa using c1), if_pos (by omega)]
    rw [e]; exact ⟨rfl, H⟩
  try simp only [sH] at c2
  refine w_skip ?_
  refine w_seq ?_
  refine w_region ?_
  refine l_pptr rfl rfl ?_
  refine l_pint rfl rfl ?_
  refine l_pptr rfl rfl ?_
  refine l_v rfl (q_fieldAddr rfl fo177_1 rfl) ?_
  first | refine b_store rfl sz_3 rfl rfl rfl rfl rfl H 0 rfl rfl rfl (fun w H => ?_) | refine b_store rfl sz_3 rfl rfl rfl rfl rfl H 1 rfl rfl rfl (fun w H => ?_)
  refine l_nil ?_
  refine w_seq ?_
  refine w_region ?_
  refine l_pint rfl rfl ?_
  refine l_pint rfl rfl ?_
  refine l_nil ?_
  refine w_ret ?_
  refine fin1 (v := .int _ _) rfl ?_
  have e0 : (getN bs s.at_).2.2 = 0 := by omega
  have e : rNum bs s = ((getN bs s.at_).1, ⟨(getN bs s.at_).2.1, 0⟩) := by unfold rNum; rw [if_neg (by simpa using c1), if_neg (by omega)]
  rw [e]
  rw [if_pos e0] at H
  have es : s.err = 0 := by simpa using c1
  rw [es] at H
  exact ⟨rfl, H⟩
theorem RInt_ok {W w : World} {F : List Seg} {rb : Nat} {a : Option Addr} {cap : Nat} {bs : List UInt8} {s : Rs} (H : St W w (readerL rb a cap bs s F)) (hs : RsOk2 bs s) (hb : bs.length ≤ 140737488355328) {mo : Nat} (hmo : mo ≤ 9223372036854775807) :
    Ok Tryd.prog 51 [.pointer (some ⟨rb, 0, none⟩), .int .i64 (mo : Int)].toArray w (fun r w' => r = .int .i64 ((rInt bs mo s).1 : Int) ∧ St W w' (readerL rb a cap bs (rInt bs mo s).2 F)) := by
  have hge := getN_err bs s.at_
  have hgl := getN_lt bs s.at_
  refine enter (n := 42) (rs := #[.tmp 4]) Tryd.func51 rfl rfl rfl rfl ?_
  refine w_seq ?_
  refine w_region ?_
  refine l_pint rfl rfl ?_
  refine l_nil ?_
  refine w_seq ?_
  refine w_seq ?_
  refine w_region ?_
  refine l_pptr rfl rfl ?_
  refine b_call rfl cb_98 rfl (Ropen_ok H) (fun v w hv => ?_)
  obtain ⟨rfl, H⟩ := hv
  refine l_pbool rfl rfl ?_
  refine l_nil ?_
  refine w_cond rfl (fun c1 => ?_) (fun c1 => ?_)
  · try simp only [sH] at c1
    refine w_seq ?_
    refine w_region ?_
    refine l_pint rfl rfl ?_
    refine l_nil ?_
    refine w_ret ?_
    refine fin1 (v := .int _ _) rfl ?_
    have e : rInt bs mo s = (0, s) := if_pos (by simpa using c1)
    rw [e]; exact ⟨rfl, H⟩
  try simp only [sH] at c1
  refine w_skip ?_
  refine w_seq ?_
  refine w_seq ?_
  refine w_region ?_
  refine l_pint rfl rfl ?_
  refine l_pbool rfl rfl ?_
  refine l_nil ?_
  refine w_cond rfl (fun c2 => ?_) (fun c2 => ?_)
  · try simp only [sH] at c2
    exact absurd c2 (by omega)
  try simp only [sH] at c2
  refine w_skip ?_
  refine w_seq ?_
  refine w_region ?_
  refine l_pptr rfl rfl ?_
  refine b_call rfl cb_99 rfl (get_ok H hs.1 hb) (fun v w hv => ?_)
  obtain ⟨rfl, H⟩ := hv
  refine l_ptup rfl rfl ?_
  refine l_pint rfl rfl ?_
  refine l_pint rfl rfl ?_
  refine l_pint rfl rfl ?_
  refine l_pint rfl rfl ?_
  refine l_pint rfl rfl ?_
  refine l_pint rfl rfl ?_
  refine l_nil ?_
  refine w_seq ?_
  refine w_seq ?_
  refine w_region ?_
  refine l_pint rfl rfl ?_
  refine l_pbool rfl rfl ?_
  refine l_pbool rfl rfl ?_
  refine l_split 24 rfl (fun h24 => ?_) (fun h24 => ?_)
  · try simp only [sH] at h24
    refine l_pint rfl rfl ?_
    refine l_pint rfl rfl ?_
    refine l_v rfl (q_convIntIn rfl (by kernel_rfl) in_23 rfl (by simp only [inK]; omega)) ?_
    refine l_pbool rfl rfl ?_
    refine l_pickT (v := .bool _) rfl rfl rfl ?_
    refine l_nil ?_
    refine w_cond rfl (fun c3 => ?_) (fun c3 => ?_)
    · try simp only [sH] at c3
      refine w_region ?_
      refine l_pint rfl rfl ?_
      refine l_nil ?_
      refine w_seq ?_
      refine w_seq ?_
      refine w_region ?_
      refine l_pint rfl rfl ?_
      refine l_pbool rfl rfl ?_
      refine l_nil ?_
      refine w_cond rfl (fun c4 => ?_) (fun c4 => ?_)
      · try simp only [sH] at c4
        refine w_seq ?_
        refine w_region ?_
        refine l_pptr rfl rfl ?_
        refine l_pint rfl rfl ?_
        refine l_pptr rfl rfl ?_
        refine l_v rfl (q_fieldAddr rfl fo177_2 rfl) ?_
        first | refine b_store rfl sz_38 rfl rfl rfl rfl rfl H 0 rfl rfl rfl (fun w H => ?_) | refine b_store rfl sz_38 rfl rfl rfl rfl rfl H 1 rfl rfl rfl (fun w H => ?_)
        refine l_nil ?_
        refine w_seq ?_
        refine w_region ?_
        refine l_pint rfl rfl ?_
        refine l_nil ?_
        refine w_ret ?_
        refine fin1 (v := .int _ _) rfl ?_
        have e : rInt bs mo s = (0, ⟨s.at_, 11⟩) := by unfold rInt; rw [if_neg (by simpa using c1), if_neg (by omega), if_pos (by omega)]
        rw [e]; exact ⟨rfl, H⟩
      try simp only [sH] at c4
      refine w_skip ?_
      refine w_seq ?_
      refine w_region ?_
      refine l_pptr rfl rfl ?_
      refine l_pint rfl rfl ?_
      refine l_pptr rfl rfl ?_
      refine l_v rfl (q_fieldAddr rfl fo177_1 rfl) ?_
      first | refine b_store rfl sz_3 rfl rfl rfl rfl rfl H 0 rfl rfl rfl (fun w H => ?_) | refine b_store rfl sz_3 rfl rfl rfl rfl rfl H 1 rfl rfl rfl (fun w H => ?_)
      refine l_nil ?_
      refine w_seq ?_
      refine w_region ?_
      refine l_pint rfl rfl ?_
      refine l_v rfl (q_convIntIn rfl (by kernel_rfl) in_3 rfl (by simp only [inK]; omega)) ?_
      refine l_pint rfl rfl ?_
      refine l_nil ?_
      refine w_ret ?_
      refine fin1 (v := .int _ _) rfl ?_
      omega
    try simp only [sH] at c3
    refine w_skip ?_
    refine w_seq ?_
    refine w_seq ?_
    refine w_region ?_
    refine l_pint rfl rfl ?_
    refine l_pbool rfl rfl ?_
    refine l_nil ?_
    refine w_cond rfl (fun c5 => ?_) (fun c5 => ?_)
    · try simp only [sH] at c5
      refine w_seq ?_
      refine w_region ?_
      refine l_pptr rfl rfl ?_
      refine l_pint rfl rfl ?_
      refine l_pptr rfl rfl ?_
      refine l_v rfl (q_fieldAddr rfl fo177_2 rfl) ?_
      first | refine b_store rfl sz_38 rfl rfl rfl rfl rfl H 0 rfl rfl rfl (fun w H => ?_) | refine b_store rfl sz_38 rfl rfl rfl rfl rfl H 1 rfl rfl rfl (fun w H => ?_)
      refine l_nil ?_
      refine w_seq ?_
      refine w_region ?_
      refine l_pint rfl rfl ?_
      refine l_nil ?_
      refine w_ret ?_
      refine fin1 (v := .int _ _) rfl ?_
      omega
    try simp only [sH] at c5
    refine w_skip ?_
    refine w_seq ?_
    refine w_region ?_
    refine l_pptr rfl rfl ?_
    refine l_pint rfl rfl ?_
    refine l_pptr rfl rfl ?_
    refine l_v rfl (q_fieldAddr rfl fo177_1 rfl) ?_
    first | refine b_store rfl sz_3 rfl rfl rfl rfl rfl H 0 rfl rfl rfl (fun w H => ?_) | refine b_store rfl sz_3 rfl rfl rfl rfl rfl H 1 rfl rfl rfl (fun w H => ?_)
    refine l_nil ?_
    refine w_seq ?_
    refine w_region ?_
    refine l_pint rfl rfl ?_
    refine l_v rfl (q_convIntIn rfl (by kernel_rfl) in_3 rfl (by simp only [inK]; omega)) ?_
    refine l_pint rfl rfl ?_
    refine l_nil ?_
    refine w_ret ?_
    refine fin1 (v := .int _ _) rfl ?_
    have e0 : (getN bs s.at_).2.2 = 0 := by omega
    have e : rInt bs mo s = ((getN bs s.at_).1, ⟨(getN bs s.at_).2.1, 0⟩) := by unfold rInt; rw [if_neg (by simpa using c1), if_neg (by omega), if_neg (by omega)]
    rw [e]
    rw [if_pos e0] at H
    have es : s.err = 0 := by simpa using c1
    rw [es] at H
    exact ⟨rfl, H⟩
  try simp only [sH] at h24
  refine l_no rfl ?_
  refine l_no rfl ?_
  refine l_no rfl ?_
  refine l_no rfl ?_
  refine l_pickF (v := .bool _) rfl rfl rfl ?_
  refine l_nil ?_
  refine w_cond_f rfl ?_
  refine w_skip ?_
  refine w_seq ?_
  refine w_seq ?_
  refine w_region ?_
  refine l_pint rfl rfl ?_
  refine l_pbool rfl rfl ?_
  refine l_nil ?_
  refine w_cond rfl (fun c6 => ?_) (fun c6 => ?_)
  · try simp only [sH] at c6
    refine w_seq ?_
    refine w_region ?_
    refine l_pptr rfl rfl ?_
    refine l_pint rfl rfl ?_
    refine l_pptr rfl rfl ?_
    refine l_v rfl (q_fieldAddr rfl fo177_2 rfl) ?_
    first | refine b_store rfl sz_38 rfl rfl rfl rfl rfl H 0 rfl rfl rfl (fun w H => ?_) | refine b_store rfl sz_38 rfl rfl rfl rfl rfl H 1 rfl rfl rfl (fun w H => ?_)
    refine l_nil ?_
    refine w_seq ?_
    refine w_region ?_
    refine l_pint rfl rfl ?_
    refine l_nil ?_
    refine w_ret ?_
    refine fin1 (v := .int _ _) rfl ?_
    have e : rInt bs mo s = (0, ⟨s.at_, (getN bs s.at_).2.2⟩) := by unfold rInt; rw [if_neg (by simpa using c1), if_pos (by omega)]
    rw [e]; exact ⟨rfl, H⟩
  try simp only [sH] at c6
  refine w_skip ?_
  refine w_seq ?_
  refine w_region ?_
  refine l_pptr rfl rfl ?_
  refine l_pint rfl rfl ?_
  refine l_pptr rfl rfl ?_
  refine l_v rfl (q_fieldAddr rfl fo177_1 rfl) ?_
  first | refine b_store rfl sz_3 rfl rfl rfl rfl rfl H 0 rfl rfl rfl (fun w H => ?_) | refine b_store rfl sz_3 rfl rfl rfl rfl rfl H 1 rfl rfl rfl (fun w H => ?_)
  refine l_nil ?_
  refine w_seq ?_
  refine w_region ?_
  refine l_pint rfl rfl ?_
  refine l_v rfl (q_convIntIn rfl (by kernel_rfl) in_3 rfl (by simp only [inK]; omega)) ?_
  refine l_pint rfl rfl ?_
  refine l_nil ?_
  refine w_ret ?_
  refine fin1 (v := .int _ _) rfl ?_
  omega
theorem RText_ok {W w : World} {F : List Seg} {rb : Nat} {a : Option Addr} {cap : Nat} {bs : List UInt8} {s : Rs} (H : St W w (readerL rb a cap bs s F)) (hs : RsOk2 bs s) (hb : bs.length ≤ 140737488355328) {mo : Nat} (hmo : mo ≤ 9223372036854775807) :
    Ok Tryd.prog 55 [.pointer (some ⟨rb, 0, none⟩), .int .i64 (mo : Int)].toArray w (fun r w' => r = .string ⟨(rText bs mo s).1.toArray⟩ ∧ St W w' (readerL rb a cap bs (rText bs mo s).2 F)) := by
  have hi2 := rInt_ok2 (m := mo) hs
  have hil := rInt_le (b := bs) (m := mo) (s := s)
  have hi21 := hi2.1
  refine enter (n := 67) (rs := #[.tmp 4]) Tryd.func55 rfl rfl rfl rfl ?_
  refine w_seq ?_
  refine w_region ?_
  refine l_pstr rfl rfl ?_
  refine l_nil ?_
  refine w_seq ?_
  refine w_seq ?_
  refine w_region ?_
  refine l_pptr rfl rfl ?_
  refine b_call rfl cb_98 rfl (Ropen_ok H) (fun v w hv => ?_)
  obtain ⟨rfl, H⟩ := hv
  refine l_pbool rfl rfl ?_
  refine l_nil ?_
  refine w_cond rfl (fun c1 => ?_) (fun c1 => ?_)
  · try simp only [sH] at c1
    refine w_seq ?_
    refine w_region ?_
    refine l_pstr rfl rfl ?_
    refine l_nil ?_
    refine w_ret ?_
    refine fin1 (v := .string _) rfl ?_
    have e : rText bs mo s = ([], s) := if_pos (by simpa using c1)
    rw [e]; exact ⟨rfl, H⟩
  try simp only [sH] at c1
  refine w_skip ?_
  refine w_seq ?_
  refine w_region ?_
  refine l_pptr rfl rfl ?_
  refine l_pptr rfl rfl ?_
  refine l_v rfl (q_fieldAddr rfl fo177_1 rfl) ?_
  refine l_v rfl (q_load1 rfl c1_3 rfl (by first | exact H.cell 0 rfl rfl | exact H.cell 1 rfl rfl)) ?_
  refine l_pint rfl rfl ?_
  refine l_nil ?_
  refine w_seq ?_
  refine w_region ?_
  refine l_pptr rfl rfl ?_
  refine l_pint rfl rfl ?_
  refine b_call rfl cb_51 rfl (RInt_ok H hs hb hmo) (fun v w hv => ?_)
  obtain ⟨rfl, H⟩ := hv
  refine l_pint rfl rfl ?_
  refine l_nil ?_
  refine w_seq ?_
  refine w_seq ?_
  refine w_region ?_
  refine l_pptr rfl rfl ?_
  refine l_pptr rfl rfl ?_
  refine l_v rfl (q_fieldAddr rfl fo177_2 rfl) ?_
  refine l_v rfl (q_load1 rfl c1_38 rfl (by first | exact H.cell 0 rfl rfl | exact H.cell 1 rfl rfl)) ?_
  refine l_pbool rfl rfl ?_
  refine l_nil ?_
  refine w_cond rfl (fun c2 => ?_) (fun c2 => ?_)
  · try simp only [sH] at c2
    refine w_seq ?_
    refine w_region ?_
    refine l_pstr rfl rfl ?_
    refine l_nil ?_
    refine w_ret ?_
    refine fin1 (v := .string _) rfl ?_
    have es : s.err = 0 := by simpa using c1
    have e : rText bs mo s = ([], (rInt bs mo s).2) := by unfold rText; rw [if_neg (by omega), if_pos (by omega)]
    rw [e]; exact ⟨rfl, H⟩
  try simp only [sH] at c2
  refine w_skip ?_
  refine w_seq ?_
  refine w_seq ?_
  refine w_drawT [] [3, 8] [(0, 0), (1, 0), (2, 0), (3, 1), (4, 0), (5, 0), (6, 0), (7, 0), (8, 1), (9, 0), (10, 0), (11, 0)] mixed (by kernel_rfl) (fun _ _ _ h => fin_panic h) H (fun H => ?_)
  refine r_pptr rfl rfl rfl ?_
  refine r_pptr rfl rfl rfl ?_
  refine r_w rfl rfl (fun w => q_fieldAddr rfl fo177_0 rfl) ?_
  refine r_v rfl rfl (fun w hS => q_load1 rfl c1_28 rfl (by first | exact hS.cell 0 rfl rfl | exact hS.cell 1 rfl rfl)) ?_
  refine r_w rfl rfl (fun w => q_lenSlice rfl el_28 rfl) ?_
  refine r_pptr rfl rfl rfl ?_
  refine r_pptr rfl rfl rfl ?_
  refine r_w rfl rfl (fun w => q_fieldAddr rfl fo177_1 rfl) ?_
  refine r_v rfl rfl (fun w hS => q_load1 rfl c1_3 rfl (by first | exact hS.cell 0 rfl rfl | exact hS.cell 1 rfl rfl)) ?_
  first | refine r_w rfl rfl (fun w => q_sub rfl rfl rfl (by simp only [inK]; omega)) ?_ | refine r_pint rfl rfl rfl ?_
  refine r_pint rfl rfl rfl ?_
  refine r_pbool rfl rfl rfl ?_
  refine r_nil ?_
  refine w_cond rfl (fun c3 => ?_) (fun c3 => ?_)
  · try simp only [sH] at c3
    refine w_seq ?_
    refine w_region ?_
    refine l_pptr rfl rfl ?_
    refine l_pint rfl rfl ?_
    refine l_pptr rfl rfl ?_
    refine l_v rfl (q_fieldAddr rfl fo177_1 rfl) ?_
    first | refine b_store rfl sz_3 rfl rfl rfl rfl rfl H 0 rfl rfl rfl (fun w H => ?_) | refine b_store rfl sz_3 rfl rfl rfl rfl rfl H 1 rfl rfl rfl (fun w H => ?_)
    refine l_nil ?_
    refine w_seq ?_
    refine w_region ?_
    refine l_pptr rfl rfl ?_
    refine l_pptr rfl rfl ?_
    refine l_v rfl (q_fieldAddr rfl fo177_2 rfl) ?_
    first | refine b_store rfl sz_38 rfl rfl rfl rfl rfl H 0 rfl rfl rfl (fun w H => ?_) | refine b_store rfl sz_38 rfl rfl rfl rfl rfl H 1 rfl rfl rfl (fun w H => ?_)
    refine l_nil ?_
    refine w_seq ?_
    refine w_region ?_
    refine l_pstr rfl rfl ?_
    refine l_nil ?_
    refine w_ret ?_
    refine fin1 (v := .string _) rfl ?_
    have es : s.err = 0 := by simpa using c1
    have e : rText bs mo s = ([], ⟨s.at_, 10⟩) := by unfold rText; rw [if_neg (by omega), if_neg (by omega), if_pos (by omega)]
    rw [e]; exact ⟨rfl, H⟩
  try simp only [sH] at c3
  have hcap := (H.rowInv (i := 1) rfl).2.1
  refine w_skip ?_
  refine w_seq ?_
  refine w_drawT [] [3, 7, 11, 15] [(0, 0), (1, 0), (2, 0), (3, 1), (4, 0), (5, 0), (6, 0), (7, 1), (8, 0), (9, 0), (10, 0), (11, 1), (12, 0), (13, 0), (14, 0), (15, 1), (16, 0)] mixed (by kernel_rfl) (fun _ _ _ h => fin_panic h) H (fun H => ?_)
  refine r_pptr rfl rfl rfl ?_
  refine r_pptr rfl rfl rfl ?_
  refine r_w rfl rfl (fun w => q_fieldAddr rfl fo177_0 rfl) ?_
  refine r_v rfl rfl (fun w hS => q_load1 rfl c1_28 rfl (by first | exact hS.cell 0 rfl rfl | exact hS.cell 1 rfl rfl)) ?_
  refine r_pptr rfl rfl rfl ?_
  refine r_pptr rfl rfl rfl ?_
  refine r_w rfl rfl (fun w => q_fieldAddr rfl fo177_1 rfl) ?_
  refine r_v rfl rfl (fun w hS => q_load1 rfl c1_3 rfl (by first | exact hS.cell 0 rfl rfl | exact hS.cell 1 rfl rfl)) ?_
  refine r_pptr rfl rfl rfl ?_
  refine r_pptr rfl rfl rfl ?_
  refine r_w rfl rfl (fun w => q_fieldAddr rfl fo177_1 rfl) ?_
  refine r_v rfl rfl (fun w hS => q_load1 rfl c1_3 rfl (by first | exact hS.cell 0 rfl rfl | exact hS.cell 1 rfl rfl)) ?_
  refine r_pint rfl rfl rfl ?_
  first | refine r_w rfl rfl (fun w => q_add rfl rfl rfl (by simp only [inK]; omega)) ?_ | refine r_pint rfl rfl rfl ?_
  refine r_w rfl rfl (fun w => q_slice (l := (rInt bs mo s).2.at_) (h := (rInt bs mo s).2.at_ + (rInt bs mo s).1) (m := cap) rfl el_28 rfl Bnd.none (Bnd.mk ⟨by omega, by omega⟩) (Bnd.nat (by omega)) (by simp)) ?_
  refine r_v rfl rfl (fun w hS => q_bytesStr (bs := (bs.drop (rInt bs mo s).2.at_).take (rInt bs mo s).1) rfl by_28 st_9 rfl (rd_part (hS.rowInv (i := 1) rfl).2.2.2.2 (hS.rowInv (i := 1) rfl).2.1 (by omega)) (by simp only [List.length_take, List.length_drop]; omega)) ?_
  refine r_pstr rfl rfl rfl ?_
  refine r_nil ?_
  refine w_seq ?_
  refine w_region ?_
  refine l_pptr rfl rfl ?_
  refine l_pptr rfl rfl ?_
  refine l_v rfl (q_fieldAddr rfl fo177_1 rfl) ?_
  refine l_v rfl (q_load1 rfl c1_3 rfl (by first | exact H.cell 0 rfl rfl | exact H.cell 1 rfl rfl)) ?_
  refine l_pint rfl rfl ?_
  first | refine l_v rfl (q_add rfl rfl rfl (by simp only [inK]; omega)) ?_ | refine l_pint rfl rfl ?_
  refine l_pptr rfl rfl ?_
  refine l_v rfl (q_fieldAddr rfl fo177_1 rfl) ?_
  first | refine b_store rfl sz_3 rfl rfl rfl rfl rfl H 0 rfl rfl rfl (fun w H => ?_) | refine b_store rfl sz_3 rfl rfl rfl rfl rfl H 1 rfl rfl rfl (fun w H => ?_)
  refine l_nil ?_
  refine w_seq ?_
  refine w_region ?_
  refine l_pstr rfl rfl ?_
  refine l_pstr rfl rfl ?_
  refine l_nil ?_
  refine w_ret ?_
  refine fin1 (v := .string _) rfl ?_
  have es : s.err = 0 := by simpa using c1
  have e : rText bs mo s = ((bs.drop (rInt bs mo s).2.at_).take (rInt bs mo s).1, ⟨(rInt bs mo s).2.at_ + (rInt bs mo s).1, 0⟩) := by unfold rText; rw [if_neg (by omega), if_neg (by omega), if_neg (by omega)]
  rw [e]
  have ei : (rInt bs mo s).2.err = 0 := by omega
  rw [ei] at H
  exact ⟨rfl, H⟩
end Go.Proofs.YtfpmnhmdphaceaaDoor
