/- Walks through the tape's functions. -/
import Derived.Test.YtfpmnhmdphaceaaDoorTap18
import Derived.Test.YtfpmnhmdphaceaaDoorTadAll
import Derived.Test.YtfpmnhmdphaceaaDoorTap6
namespace Go.Proofs.YtfpmnhmdphaceaaDoor
open Go.EW
attribute [local irreducible] EW.W EW.L EW.fin block8 outB shaL
set_option linter.unusedVariables false
set_option linter.unusedSimpArgs false
attribute [local irreducible] crcN crcB crcL sealL openR sealR
/-- a tape's state: the head and the full chunks, these chunks' places, the chunk at hand, how many events -/
structure TS where
  file : List UInt8
  places : List Nat
  first : Nat
  texts : List (List UInt8)
  n : Nat
def natsV (l : List Nat) : List Value := l.map fun p : Nat => I (p : Int)
/-- where a tape lies -/
structure TP where
  fa : Option Addr
  fc : Nat
  pa : Option Addr
  pc : Nat
  ta : Option Addr
  tc : Nat
  txs : List Tx
def TP.ts (p : TP) : List (List UInt8) := p.txs.map Tx.bs
def tcells (p : TP) (t : TS) : List Value := [.slice p.fa t.file.length p.fc, .slice p.pa t.places.length p.pc, .slice none 0 0, .int .i64 0, .int .i64 (t.first : Int), .slice p.ta p.txs.length p.tc, .int .i64 (sizeT p.ts : Int), .int .i64 (t.n : Int)]
def tapeL (b : Nat) (p : TP) (t : TS) (F : List Seg) : List Seg :=
  blk b (tcells p t) 86 :: row 28 1 p.ta p.txs.length p.tc (p.txs.map Tx.v) :: Segs (p.txs.map Tx.seg) :: row 5 1 p.fa t.file.length p.fc (t.file.map B) :: row 3 1 p.pa t.places.length p.pc (natsV t.places) :: F
def frameC (first : Nat) (ts : List (List UInt8)) : List UInt8 := (sealR (chunkB first ts)).1
def fitsT (t : TS) (b : List UInt8) : Bool := fitsN t.first t.texts.length (sizeT t.texts) b.length
def flushT (t : TS) : TS := { file := t.file ++ frameC t.first t.texts, places := t.places ++ [t.file.length], first := t.n, texts := [], n := t.n }
def addT (t : TS) (b : List UInt8) : TS :=
  let u := if t.texts.length > 0 ∧ fitsT t b = false then flushT t else t
  { u with texts := u.texts ++ [b], n := u.n + 1 }
def newT (s : Stp) : TS := ⟨(sealR (headB s)).1, [], 0, [], 0⟩
/-- a tape that may be -/
structure TOk (t : TS) : Prop where
  n : t.n ≤ 4096
  first : t.first ≤ t.n
  places : t.places.length ≤ t.n
  file : t.file.length ≤ 32768 * (t.places.length + 1)
  cnt : t.texts.length ≤ 32
  each : ∀ x ∈ t.texts, x.length ≤ 20000
  sum : t.texts.length ≤ t.n
theorem seal_le (b : List UInt8) : (sealR b).1.length ≤ 32768 := by
  rcases Nat.lt_or_ge 32756 b.length with h | h
  · rw [sealR_long h]; exact Nat.zero_le _
  rw [sealR_ok h, seal_len]; omega
theorem TNew_ok {W w : World} {F : List Seg} (hN : NibOk W) (H : St W w F) (s : Stp) (hso : StpOk s) {a : Option Addr} {c : Nat} (hr : RdIn W F a (intsV s.cls)) :
    Ok Tryd.prog 28 [.agg (s.cells a c).toArray].toArray w (fun r w' => (chkS s ≠ 0 ∧ r = .tuple #[.pointer none, I (chkS s : Int)] ∧ St W w' F) ∨ (chkS s = 0 ∧ ∃ b p, p.txs = [] ∧ r = .tuple #[.pointer (some ⟨b, 0, none⟩), I 0] ∧ St W w' (tapeL b p (newT s) F))) := by
  have hlen7 : (hv s).length = 7 := rfl
  refine enter (n := 52) (rs := #[.tmp 2, .tmp 3]) Tryd.func28 rfl rfl rfl rfl ?_
  refine w_seq ?_
  refine w_region ?_
  refine b_box (cs := s.cells a c) rfl rfl rfl H (fun b1 w H => ?_)
  refine l_pptr rfl rfl ?_
  refine l_pint rfl rfl ?_
  refine l_nil ?_
  refine w_seq ?_
  refine w_seq ?_
  refine w_region ?_
  refine l_v rfl (q_loadN (vs := s.cells a c) rfl ag_56 rfl rfl (H.cells 0 rfl)) ?_
  refine b_call rfl cb_71 rfl (checked_ok H s (hr.up 1 rfl)) (fun v w hv => ?_)
  obtain ⟨rfl, H⟩ := hv
  refine l_pint rfl rfl ?_
  refine l_nil ?_
  refine w_seq ?_
  refine w_region ?_
  refine l_pint rfl rfl ?_
  refine l_pbool rfl rfl ?_
  refine l_nil ?_
  refine w_cond rfl (fun c1 => ?_) (fun c1 => ?_)
  · try simp only [sH] at c1
    refine w_seq ?_
    refine w_region ?_
    refine l_pint rfl rfl ?_
    refine l_pptr rfl rfl ?_
    refine l_pint rfl rfl ?_
    refine l_nil ?_
    refine w_ret ?_
    refine fin2 rfl rfl ?_
    exact .inl ⟨by omega, rfl, H.drop1⟩
  try simp only [sH] at c1
  have hc0 : chkS s = 0 := by omega
  obtain ⟨hcf, hcl, hnn⟩ := chk_inv hc0
  refine w_skip ?_
  refine w_seq ?_
  refine w_region ?_
  refine b_alloc rfl ze_82 rfl H (fun b5 w H => ?_)
  refine l_nil ?_
  refine w_seq ?_
  refine w_region ?_
  refine l_v rfl (q_fieldAddr rfl fo56_0 rfl) ?_
  refine l_v rfl (q_loadN (vs := [I s.f, I s.room, I s.pat, .bool s.ung]) rfl ag_53 rfl rfl ((H.cells 1 rfl).sub 0 4)) ?_
  refine b_alloc (cs := [I 0, I 0, I 0, .bool false]) rfl ze_53 rfl H (fun b6 w H => ?_)
  refine b_store (cs' := [I s.f, I s.room, I s.pat, .bool s.ung]) rfl sz_53 rfl rfl rfl rfl rfl H 0 rfl rfl rfl (fun w H => ?_)
  have H : St W w (writerL b5 none 0 ([]) (blk b6 [I s.f, I s.room, I s.pat, .bool s.ung] 53 :: blk b1 (s.cells a c) 56 :: F)) := St.pick [2, 0, 1, 3] (pre := [_, _, _, _]) rfl (St.newRow (T := 5) (sz := 1) H) rfl
  refine l_nil ?_
  refine w_seq ?_
  refine w_region ?_
  refine l_pint rfl rfl ?_
  refine l_nil ?_
  refine w_cutG (G := Unit) [7, 19, 20] (fun ⟨⟩ => [(7, I (plainN s))]) (fun ⟨⟩ w => St W w (writerL b5 none 0 ([]) (blk b6 [I s.f, I s.room, I s.pat, .bool s.ung] 53 :: blk b1 (s.cells a c) 56 :: F))) (fun _ => rfl) ?_ ?_
  · refine w_seq ?_
    refine w_region ?_
    refine l_v rfl (q_fieldAddr rfl fo53_3 rfl) ?_
    refine l_v rfl (q_load1 rfl c1_4 rfl (by first | exact H.cell 0 rfl rfl | exact H.cell 1 rfl rfl | exact H.cell 2 rfl rfl | exact H.cell 3 rfl rfl)) ?_
    refine l_nil ?_
    refine w_cond rfl (fun c2 => ?_) (fun c2 => ?_)
    · try simp only [sH] at c2
      refine w_region ?_
      refine l_pint rfl rfl ?_
      refine l_nil ?_
      refine ⟨by repeat' first | exact aM | exact aR | refine aI rfl ?_ | refine aU rfl ?_ | refine aL rfl ?_, ?_⟩
      exact ⟨⟨⟩, ⟨by unfold plainN; rw [if_pos c2]; rfl, trivial⟩, H⟩
    try simp only [sH] at c2
    refine w_skip ?_
    refine ⟨by repeat' first | exact aM | exact aR | refine aI rfl ?_ | refine aU rfl ?_ | refine aL rfl ?_, ?_⟩
    exact ⟨⟨⟩, ⟨by unfold plainN; rw [if_neg (by rw [c2]; decide)]; rfl, trivial⟩, H⟩
  rintro ⟨⟩ ρ1 w H
  refine w_seq ?_
  refine w_seq ?_
  refine w_region ?_
  refine l_v rfl (q_fieldAddr rfl fo53_0 rfl) ?_
  refine l_v rfl (q_load1 rfl c1_3 rfl (by first | exact H.cell 0 rfl rfl | exact H.cell 1 rfl rfl | exact H.cell 2 rfl rfl | exact H.cell 3 rfl rfl)) ?_
  refine l_v rfl (q_fieldAddr rfl fo53_1 rfl) ?_
  refine l_v rfl (q_load1 rfl c1_3 rfl (by first | exact H.cell 0 rfl rfl | exact H.cell 1 rfl rfl | exact H.cell 2 rfl rfl | exact H.cell 3 rfl rfl)) ?_
  refine l_v rfl (q_fieldAddr rfl fo53_2 rfl) ?_
  refine l_v rfl (q_load1 rfl c1_3 rfl (by first | exact H.cell 0 rfl rfl | exact H.cell 1 rfl rfl | exact H.cell 2 rfl rfl | exact H.cell 3 rfl rfl)) ?_
  refine l_pint rfl rfl ?_
  refine l_v rfl (q_fieldAddr rfl fo56_1 rfl) ?_
  refine l_v rfl (q_load1 rfl c1_54 rfl (by first | exact H.cell 0 rfl rfl | exact H.cell 1 rfl rfl | exact H.cell 2 rfl rfl | exact H.cell 3 rfl rfl)) ?_
  refine l_v rfl (q_lenSlice rfl el_54 rfl) ?_
  refine l_v rfl (q_buildArr (cs := intsV (hv s)) rfl ar_155 ze_155 rfl) ?_
  refine l_pint rfl rfl ?_
  refine l_nil ?_
  refine w_block ?_
  refine w_loopG (G := Nat × Option Addr × Nat) [9, 32, 33, 34, 35, 36, 37] (fun ⟨i, wa, wc⟩ => [(32, .int .i64 ((i : Nat) : Int))]) (fun m ⟨i, wa, wc⟩ w => m + i = 7 ∧ St W w (writerL b5 wa wc (numsB ((hv s).take i)) (blk b6 [I s.f, I s.room, I s.pat, .bool s.ung] 53 :: blk b1 (s.cells a c) 56 :: F))) (fun _ => rfl) ?_ ?_
  · exact ⟨7, (0, none, 0), ⟨rfl, trivial⟩, rfl, H⟩
  rintro m ⟨i, wa, wc⟩ ρ1 w ⟨hmi, H⟩
  refine w_seq ?_
  refine w_region ?_
  refine l_pbool rfl rfl ?_
  refine l_nil ?_
  refine w_seq ?_
  refine w_cond rfl (fun c3 => ?_) (fun c3 => ?_)
  · try simp only [sH] at c3
    obtain ⟨x, hx1, hx2⟩ := hv_ok hcf hcl (i := i) (by omega)
    refine w_skip ?_
    refine w_seq ?_
    refine w_block ?_
    refine w_seq ?_
    refine w_region ?_
    refine l_v rfl (q_indexAgg1 (v := I x) rfl ar_155 c1_3 rfl rfl ⟨by omega, by omega⟩ (by show (intsV (hv s))[i]? = _; unfold intsV; rw [List.getElem?_map, hx1]; rfl)) ?_
    refine l_pint rfl rfl ?_
    refine l_nil ?_
    refine w_region ?_
    refine l_pint rfl rfl ?_
    refine b_call rfl cb_43 rfl (WIntZ_ok hx2 (by have := numsB_len ((hv s).take i); rw [List.length_take] at this; omega) H) (fun v w hv => ?_)
    obtain ⟨rfl, a', c', H⟩ := hv
    refine l_nil ?_
    refine w_region ?_
    first | refine l_v rfl (q_add rfl rfl rfl (by simp only [inK]; omega)) ?_ | refine l_pint rfl rfl ?_
    refine l_pint rfl rfl ?_
    refine l_nil ?_
    refine ⟨by repeat' first | exact aM | exact aR | refine aI rfl ?_ | refine aU rfl ?_ | refine aL rfl ?_, ?_⟩
    refine ⟨m - 1, (i + 1, a', c'), by omega, ⟨by exact congrArg (Value.int IntKind.i64) (Int.natCast_succ i).symm, trivial⟩, by omega, ?_⟩
    obtain ⟨hii, hxx⟩ := List.getElem_of_getElem? hx1
    rw [numsB_take hii, hxx]
    exact H
  try simp only [sH] at c3
  obtain rfl : i = 7 := by omega
  rw [List.take_of_length_le (show (hv s).length ≤ 7 from Nat.le_refl _)] at H
  refine w_exit ?_
  refine w_seq ?_
  refine w_seq ?_
  refine w_region ?_
  refine l_v rfl (q_fieldAddr rfl fo56_1 rfl) ?_
  refine l_v rfl (q_load1 rfl c1_54 rfl (by first | exact H.cell 0 rfl rfl | exact H.cell 1 rfl rfl | exact H.cell 2 rfl rfl | exact H.cell 3 rfl rfl)) ?_
  refine l_v rfl (q_lenSlice rfl el_54 rfl) ?_
  refine l_pint rfl rfl ?_
  refine l_nil ?_
  refine w_block ?_
  refine w_loopG (G := Nat × Option Addr × Nat) [11, 41, 42, 43, 44, 45, 46, 47, 48] (fun ⟨i, wa, wc⟩ => [(41, .int .i64 ((i : Nat) : Int))]) (fun m ⟨i, wa, wc⟩ w => m + i = s.cls.length ∧ St W w (writerL b5 wa wc (numsB (hv s) ++ numsB (s.cls.take i)) (blk b6 [I s.f, I s.room, I s.pat, .bool s.ung] 53 :: blk b1 (s.cells a c) 56 :: F))) (fun _ => rfl) ?_ ?_
  · exact ⟨s.cls.length, (0, wa, wc), ⟨rfl, trivial⟩, rfl, by rw [List.take_zero, show numsB [] = [] from rfl, List.append_nil]; exact H⟩
  rintro m ⟨i, wa, wc⟩ ρ1 w ⟨hmi, H⟩
  refine w_seq ?_
  refine w_region ?_
  refine l_pbool rfl rfl ?_
  refine l_nil ?_
  refine w_seq ?_
  refine w_cond rfl (fun c4 => ?_) (fun c4 => ?_)
  · try simp only [sH] at c4
    have hi : i < s.cls.length := by omega
    obtain ⟨cb, co, hca, hcc⟩ := int_at (hr.use H 4 rfl) hi
    refine w_skip ?_
    refine w_seq ?_
    refine w_block ?_
    refine w_seq ?_
    refine w_region ?_
    refine l_v rfl (q_indexSliceE i rfl el_54 rfl hca rfl rfl hi) ?_
    refine l_v rfl (q_loadN (vs := [I s.cls[i]]) rfl ag_150 rfl rfl (by rw [Nat.mul_one] at hcc ⊢; exact ⟨hcc, trivial⟩)) ?_
    refine b_alloc (cs := [I 0]) rfl ze_150 rfl H (fun b11 w H => ?_)
    refine b_store (cs' := [I s.cls[i]]) rfl sz_150 rfl rfl rfl rfl rfl H 0 rfl rfl rfl (fun w H => ?_)
    have H3 : St W w (writerL b5 wa wc (numsB (hv s) ++ numsB (s.cls.take i)) (blk b11 [I s.cls[i]] 150 :: blk b6 [I s.f, I s.room, I s.pat, .bool s.ung] 53 :: blk b1 (s.cells a c) 56 :: F)) := St.pick [1, 2, 0] (pre := [_, _, _]) rfl H rfl
    refine l_nil ?_
    refine w_region ?_
    refine l_v rfl (q_fieldAddr rfl fo150_0 rfl) ?_
    refine l_v rfl (q_load1 rfl c1_3 rfl (H.cell 0 rfl rfl)) ?_
    refine b_call rfl cb_43 rfl (WIntZ_ok ⟨any_no hnn hi, hso _ (List.getElem_mem hi)⟩ (by have h1 := numsB_len (hv s); have h2 := numsB_len (s.cls.take i); rw [List.length_take] at h2; have h3 : (hv s).length = 7 := rfl; rw [List.length_append]; omega) H3) (fun v w hv => ?_)
    obtain ⟨rfl, a', c', H⟩ := hv
    have H : St W w (blk b11 [I s.cls[i]] 150 :: writerL b5 a' c' (numsB (hv s) ++ numsB (s.cls.take i) ++ formL (s.cls[i]).toNat) (blk b6 [I s.f, I s.room, I s.pat, .bool s.ung] 53 :: blk b1 (s.cells a c) 56 :: F)) := St.pick [2, 0, 1] (pre := [_, _, _]) rfl H rfl
    refine l_nil ?_
    refine w_region ?_
    first | refine l_v rfl (q_add rfl rfl rfl (by simp only [inK]; omega)) ?_ | refine l_pint rfl rfl ?_
    refine l_pint rfl rfl ?_
    refine l_nil ?_
    refine ⟨by repeat' first | exact aM | exact aR | refine aI rfl ?_ | refine aU rfl ?_ | refine aL rfl ?_, ?_⟩
    refine ⟨m - 1, (i + 1, a', c'), by omega, ⟨by exact congrArg (Value.int IntKind.i64) (Int.natCast_succ i).symm, trivial⟩, by omega, ?_⟩
    rw [numsB_take hi, ← List.append_assoc]
    exact H.drop1
  try simp only [sH] at c4
  obtain rfl : i = s.cls.length := by omega
  rw [List.take_length] at H
  refine w_exit ?_
  refine w_seq ?_
  refine w_region ?_
  refine b_call rfl cb_72 rfl (sealed_ok hN (by have h1 := numsB_len (hv s); have h2 := numsB_len s.cls; have h3 : (hv s).length = 7 := rfl; rw [List.length_append]; omega) H) (fun v w hv => ?_)
  obtain ⟨a49, c49, rfl, H⟩ := hv
  refine l_v rfl (q_build (cs := tcells ⟨a49, c49, none, 0, none, 0, []⟩ (newT s)) rfl sp_86 rfl) ?_
  refine b_box (cs := tcells ⟨a49, c49, none, 0, none, 0, []⟩ (newT s)) rfl rfl rfl H (fun b51 w H => ?_)
  refine l_pptr rfl rfl ?_
  refine l_pint rfl rfl ?_
  refine l_nil ?_
  refine w_ret ?_
  refine fin2 rfl rfl ?_
  refine .inr ⟨hc0, b51, ⟨a49, c49, none, 0, none, 0, []⟩, rfl, rfl, ?_⟩
  have H2 := St.pick [0, 1] (pre := [_, _, _, _, _, _]) rfl H rfl
  have H3 := St.newRow (T := 28) (sz := 1) (St.newRow (T := 3) (sz := 1) (St.nilseg.2 H2))
  exact St.pick [3, 0, 2, 4, 1] (pre := [_, _, _, _, _]) rfl H3 rfl
end Go.Proofs.YtfpmnhmdphaceaaDoor
namespace Go.Proofs.YtfpmnhmdphaceaaDoor
open Go.EW
attribute [local irreducible] EW.W EW.L EW.fin block8 outB shaL
set_option linter.unusedVariables false
set_option linter.unusedSimpArgs false
attribute [local irreducible] crcN crcB crcL sealL openR sealR
def addRT (t : TS) (e : Evt) : Nat × TS := if (putEv e).2 ≠ 0 then ((putEv e).2, t) else if 4096 ≤ t.n then (151, t) else (0, addT t (putEv e).1)
theorem txs_segs {W : World} {S : List Seg} {txs : List Tx} (i : Nat) (hi : S[i]? = some (Segs (txs.map Tx.seg))) (hb : ∀ t ∈ txs, t.bs.length ≤ 100000) : TxsOk W S txs := fun t ht => by
  obtain ⟨j, hj, rfl⟩ := List.getElem_of_mem ht
  exact ⟨RdIn.segs i hi j (by rw [List.getElem?_map, List.getElem?_eq_getElem hj]; rfl), hb _ ht⟩
theorem putEv_len (e : Evt) : (putEv e).1.length ≤ 17000 := by
  unfold putEv
  split
  · exact Nat.zero_le _
  split
  · exact Nat.zero_le _
  split
  · exact Nat.zero_le _
  split
  · exact Nat.zero_le _
  rename_i h
  have h1 := pgo_len e (usesN e.k) 6
  have h2 := pdr_len e (usesN e.k)
  have h3 := pop_len e (usesN e.k) (fun hb => Nat.le_of_not_lt fun h2 => h (.inl ⟨hb, h2⟩))
  have h4 := pby_len e (usesN e.k) (fun hb => Nat.le_of_not_lt fun h2 => h (.inr ⟨hb, h2⟩))
  simp only [List.length_append]; omega
theorem TP.each {p : TP} {t : TS} (hp : p.ts = t.texts) (h : TOk t) : ∀ x ∈ p.txs, x.bs.length ≤ 100000 := fun x hx => by
  have h2 := h.each x.bs (by rw [← hp]; exact List.mem_map.2 ⟨x, hx, rfl⟩)
  omega
theorem TP.cnt {p : TP} {t : TS} (hp : p.ts = t.texts) : p.txs.length = t.texts.length := by
  rw [← hp]; unfold TP.ts; rw [List.length_map]
theorem TOk.size {t : TS} (h : TOk t) : sizeT t.texts ≤ 700000 := by
  have h1 := sizeT_le t.texts 20000 h.each
  have h2 := h.cnt
  have h3 : t.texts.length * (9 + 20000) ≤ 32 * (9 + 20000) := Nat.mul_le_mul_right _ h2
  omega
theorem TOk.flen {t : TS} (h : TOk t) : t.file.length ≤ 200000000 := by
  have h1 := h.file
  have h2 := h.places
  have h3 := h.n
  have h4 : 32768 * (t.places.length + 1) ≤ 32768 * 4097 := Nat.mul_le_mul_left _ (by omega)
  omega
theorem TLen_ok {W w : World} {F : List Seg} {b : Nat} {p : TP} {t : TS} (H : St W w (tapeL b p t F)) :
    Ok Tryd.prog 31 [.pointer (some ⟨b, 0, none⟩)].toArray w (fun r w' => r = .int .i64 (t.n : Int) ∧ St W w' (tapeL b p t F)) := by
  refine enter (n := 9) (rs := #[.tmp 2]) Tryd.func31 rfl rfl rfl rfl ?_
  refine w_seq ?_
  refine w_region ?_
  refine l_pint rfl rfl ?_
  refine l_nil ?_
  refine w_seq ?_
  refine w_seq ?_
  refine w_region ?_
  refine l_pptr rfl rfl ?_
  refine l_v rfl (q_eqlNilF rfl pt_61 rfl rfl) ?_
  refine l_nil ?_
  refine w_cond_f rfl ?_
  refine w_skip ?_
  refine w_seq ?_
  refine w_region ?_
  refine l_pptr rfl rfl ?_
  refine l_pptr rfl rfl ?_
  refine l_v rfl (q_fieldAddr rfl fo86_3 rfl) ?_
  refine l_v rfl (q_load1 rfl c1_3 rfl (by first | exact H.cell 0 rfl rfl)) ?_
  refine l_pint rfl rfl ?_
  refine l_nil ?_
  refine w_ret ?_
  refine fin1 (v := .int _ _) rfl ?_
  exact ⟨rfl, H⟩
theorem TAdd_ok {W w : World} {F : List Seg} (hN : NibOk W) {b : Nat} {p : TP} {t : TS} (H : St W w (tapeL b p t F)) (ht : TOk t) (hp : p.ts = t.texts) (e : Evt) (he : EvOk e) {a : Option Addr} {c : Nat} (hr : RdIn W F a (e.bs.map B)) :
    Ok Tryd.prog 29 [.pointer (some ⟨b, 0, none⟩), .agg (e.cells a c).toArray].toArray w (fun r w' => ∃ q, q.ts = (addRT t e).2.texts ∧ r = I ((addRT t e).1 : Int) ∧ St W w' (tapeL b q (addRT t e).2 F)) := by
  have hpl := putEv_len e
  have hfl := ht.flen
  have hpn := ht.places
  have htn := ht.n
  have hcn := TP.cnt hp
  refine enter (n := 84) (rs := #[.tmp 4]) Tryd.func29 rfl rfl rfl rfl ?_
  refine w_seq ?_
  refine w_region ?_
  refine b_box (cs := e.cells a c) rfl rfl rfl H (fun b3 w H => ?_)
  refine l_pint rfl rfl ?_
  refine l_nil ?_
  refine w_seq ?_
  refine w_seq ?_
  refine w_region ?_
  refine l_pptr rfl rfl ?_
  refine l_v rfl (q_eqlNilF rfl pt_61 rfl rfl) ?_
  refine l_nil ?_
  refine w_cond_f rfl ?_
  refine w_skip ?_
  refine w_seq ?_
  refine w_region ?_
  refine l_v rfl (q_loadN (vs := [_, _, _, _, _, _, _, _, _, _, _, _, _]) rfl ag_30 rfl rfl (by first | exact H.cells 0 rfl | exact H.cells 1 rfl | exact H.cells 2 rfl)) ?_
  refine b_call rfl cb_11 rfl (PutEvent_ok H e he (hr.up 6 rfl)) (fun v w hv => ?_)
  obtain ⟨a9, c9, rfl, H⟩ := hv
  refine l_ptup rfl rfl ?_
  refine l_pslice rfl rfl ?_
  refine l_pint rfl rfl ?_
  refine l_pslice rfl rfl ?_
  refine l_pint rfl rfl ?_
  refine l_nil ?_
  refine w_seq ?_
  refine w_seq ?_
  refine w_region ?_
  refine l_pint rfl rfl ?_
  refine l_pbool rfl rfl ?_
  refine l_nil ?_
  refine w_cond rfl (fun c1 => ?_) (fun c1 => ?_)
  · try simp only [sH] at c1
    refine w_seq ?_
    refine w_region ?_
    refine l_pint rfl rfl ?_
    refine l_pint rfl rfl ?_
    refine l_nil ?_
    refine w_ret ?_
    refine fin1 (v := .int _ _) rfl ?_
    have hx : addRT t e = ((putEv e).2, t) := if_pos (by omega)
    rw [hx]
    exact ⟨p, hp, rfl, H.drop1.drop1⟩
  try simp only [sH] at c1
  have he0 : (putEv e).2 = 0 := by omega
  refine w_skip ?_
  refine w_seq ?_
  refine w_seq ?_
  refine w_region ?_
  refine l_pptr rfl rfl ?_
  refine l_pptr rfl rfl ?_
  refine l_v rfl (q_fieldAddr rfl fo86_3 rfl) ?_
  refine l_v rfl (q_load1 rfl c1_3 rfl (by first | exact H.cell 0 rfl rfl | exact H.cell 1 rfl rfl | exact H.cell 2 rfl rfl)) ?_
  refine l_pbool rfl rfl ?_
  refine l_nil ?_
  refine w_cond rfl (fun c2 => ?_) (fun c2 => ?_)
  · try simp only [sH] at c2
    refine w_seq ?_
    refine w_region ?_
    refine l_pint rfl rfl ?_
    refine l_nil ?_
    refine w_ret ?_
    refine fin1 (v := .int _ _) rfl ?_
    have hx : addRT t e = (151, t) := by unfold addRT; rw [if_neg (by omega), if_pos (by omega)]
    rw [hx]
    exact ⟨p, hp, rfl, H.drop1.drop1⟩
  try simp only [sH] at c2
  have hn4 : ¬ 4096 ≤ t.n := by omega
  refine w_skip ?_
  refine w_cutG (G := TP × TS) [22, 23, 24, 25, 26, 27, 28, 29, 30, 31, 32, 33, 34, 35, 36, 37, 38, 39, 40, 41, 42, 43, 44, 45, 46, 47, 48, 49, 50, 51, 52, 53, 54, 55, 56, 57, 58, 59, 60, 61, 62, 63, 64, 65, 66, 67, 68, 69, 70, 71] (fun ⟨q, u⟩ => []) (fun ⟨q, u⟩ w => q.ts = u.texts ∧ u = (if t.texts.length > 0 ∧ fitsT t (putEv e).1 = false then flushT t else t) ∧ St W w (row 5 1 a9 (putEv e).1.length c9 ((putEv e).1.map B) :: blk b3 (e.cells a c) 30 :: tapeL b q u F)) (fun _ => rfl) ?_ ?_
  · refine w_seq ?_
    refine w_region ?_
    refine l_pptr rfl rfl ?_
    refine l_pptr rfl rfl ?_
    refine l_v rfl (q_fieldAddr rfl fo86_2 rfl) ?_
    refine l_v rfl (q_fieldAddr rfl fo84_2 rfl) ?_
    refine l_v rfl (q_load1 rfl c1_31 rfl (by first | exact H.cell 0 rfl rfl | exact H.cell 1 rfl rfl | exact H.cell 2 rfl rfl)) ?_
    refine l_v rfl (q_lenSlice rfl el_31 rfl) ?_
    refine l_pbool rfl rfl ?_
    refine l_pbool rfl rfl ?_
    refine l_split 29 rfl (fun h29 => ?_) (fun h29 => ?_)
    · try simp only [sH] at h29
      refine l_pptr rfl rfl ?_
      refine l_pptr rfl rfl ?_
      refine l_v rfl (q_fieldAddr rfl fo86_2 rfl) ?_
      refine l_pslice rfl rfl ?_
      refine b_call rfl cb_73 rfl (Ok_perm (pickP [2, 0, 1] (pre := [_, _, _]) rfl rfl) (fun H => fitsT_ok (n := (putEv e).1.length) H (by have := ht.first; have := ht.n; omega) (by rw [hp]; have := ht.size; omega) (by omega)) H) (fun v w hv => ?_)
      obtain ⟨rfl, H⟩ := hv
      refine l_pbool rfl rfl ?_
      refine l_pickT (v := .bool _) rfl rfl rfl ?_
      refine l_nil ?_
      refine w_cond rfl (fun c3 => ?_) (fun c3 => ?_)
      · try simp only [sH] at c3
        refine w_seq ?_
        refine w_drawT [11, 14] [4, 8] [(0, 0), (1, 0), (2, 0), (3, 0), (4, 1), (5, 0), (6, 0), (7, 0), (8, 1), (9, 0), (10, 2), (11, 2), (12, 0), (13, 0), (14, 2)] mixed (by kernel_rfl) (fun _ _ _ h => fin_panic h) H (fun H => ?_)
        refine r_pptr rfl rfl rfl ?_
        refine r_pptr rfl rfl rfl ?_
        refine r_pptr rfl rfl rfl ?_
        refine r_w rfl rfl (fun w => q_fieldAddr rfl fo86_1 rfl) ?_
        refine r_v rfl rfl (fun w hS => q_load1 rfl c1_66 rfl (by first | exact hS.cell 0 rfl rfl | exact hS.cell 1 rfl rfl | exact hS.cell 2 rfl rfl)) ?_
        refine r_pptr rfl rfl rfl ?_
        refine r_pptr rfl rfl rfl ?_
        refine r_w rfl rfl (fun w => q_fieldAddr rfl fo86_0 rfl) ?_
        refine r_v rfl rfl (fun w hS => q_load1 rfl c1_28 rfl (by first | exact hS.cell 0 rfl rfl | exact hS.cell 1 rfl rfl | exact hS.cell 2 rfl rfl)) ?_
        refine r_w rfl rfl (fun w => q_lenSlice rfl el_28 rfl) ?_
        refine r_do rfl ?_
        refine b_buildSlice (cs := [I (t.file.length : Int)]) rfl el_66 ze_3 rfl rfl rfl H (fun b47 w H => ?_)
        refine l_nil ⟨fun _ _ => (by first | exact H | exact H.drop1 | exact H.drop1.drop1 | exact H.drop1.drop1.drop1), ?_⟩
        refine r_do rfl ?_
        refine b_append rfl el_66 ze_3 rfl rfl rfl H 7 rfl (Rd.mk (H.cells0 0 rfl)) rfl (fun u hu => by obtain rfl := List.mem_singleton.1 hu; rfl) ⟨by omega, by simp only [maxLen]; omega⟩ (fun a48 c48 w H => ?_)
        have H := H.drop1
        refine l_nil ⟨(fun h => nomatch h), ?_⟩
        refine r_pptr rfl rfl rfl ?_
        refine r_w rfl rfl (fun w => q_fieldAddr rfl fo86_1 rfl) ?_
        refine r_do rfl ?_
        refine b_store (cs' := [.slice p.fa t.file.length p.fc, .slice a48 (t.places.length + 1) c48, .slice none 0 0, .int .i64 0, .int .i64 (t.first : Int), .slice p.ta p.txs.length p.tc, .int .i64 (sizeT p.ts : Int), .int .i64 (t.n : Int)]) rfl sz_66 rfl rfl rfl rfl rfl H 2 rfl rfl rfl (fun w H => ?_)
        refine l_nil ⟨(fun h => nomatch h), ?_⟩
        refine r_nil ?_
        refine w_seq ?_
        refine w_drawT [10, 13] [4, 8] [(0, 0), (1, 0), (2, 0), (3, 0), (4, 1), (5, 0), (6, 0), (7, 0), (8, 1), (9, 2), (10, 2), (11, 0), (12, 0), (13, 2)] mixed (by kernel_rfl) (fun _ _ _ h => fin_panic h) H (fun H => ?_)
        refine r_pptr rfl rfl rfl ?_
        refine r_pptr rfl rfl rfl ?_
        refine r_pptr rfl rfl rfl ?_
        refine r_w rfl rfl (fun w => q_fieldAddr rfl fo86_0 rfl) ?_
        refine r_v rfl rfl (fun w hS => q_load1 rfl c1_28 rfl (by first | exact hS.cell 0 rfl rfl | exact hS.cell 1 rfl rfl | exact hS.cell 2 rfl rfl)) ?_
        refine r_pptr rfl rfl rfl ?_
        refine r_pptr rfl rfl rfl ?_
        refine r_w rfl rfl (fun w => q_fieldAddr rfl fo86_2 rfl) ?_
        refine r_v rfl rfl (fun w hS => q_loadN (vs := [.slice none 0 0, .int .i64 0, .int .i64 (t.first : Int), .slice p.ta p.txs.length p.tc, .int .i64 (sizeT p.ts : Int)]) rfl ag_84 rfl rfl ((hS.cells 2 rfl).sub 2 5)) ?_
        refine r_do rfl ?_
        refine b_call rfl cb_67 rfl (frame_ok hN H (RdIn.row 3 rfl) (txs_segs 4 rfl (TP.each hp ht)) (by rw [TP.cnt hp]; have := ht.cnt; omega) (by have := ht.first; have := ht.n; omega) rfl) (fun v w hv => ?_)
        obtain ⟨a60, c60, rfl, H⟩ := hv
        refine l_nil ⟨fun _ _ => (by first | exact H | exact H.drop1 | exact H.drop1.drop1 | exact H.drop1.drop1.drop1), ?_⟩
        refine r_do rfl ?_
        refine b_append rfl el_28 ze_5 rfl rfl rfl H 6 rfl (ys := (sealR (chunkB t.first (p.txs.map Tx.bs))).1.map B) ((H.rowInv (i := 0) rfl).2.2.2.2) (by simp) (EW.oneB _) ⟨by have := seal_le (chunkB t.first (p.txs.map Tx.bs)); omega, by have := seal_le (chunkB t.first (p.txs.map Tx.bs)); simp only [maxLen]; omega⟩ (fun a61 c61 w H => ?_)
        have H := H.drop1
        refine l_nil ⟨(fun h => nomatch h), ?_⟩
        refine r_pptr rfl rfl rfl ?_
        refine r_w rfl rfl (fun w => q_fieldAddr rfl fo86_0 rfl) ?_
        refine r_do rfl ?_
        refine b_store (cs' := [.slice a61 (t.file.length + (sealR (chunkB t.first (p.txs.map Tx.bs))).1.length) c61, .slice a48 (t.places.length + 1) c48, .slice none 0 0, .int .i64 0, .int .i64 (t.first : Int), .slice p.ta p.txs.length p.tc, .int .i64 (sizeT p.ts : Int), .int .i64 (t.n : Int)]) rfl sz_28 rfl rfl rfl rfl rfl H 2 rfl rfl rfl (fun w H => ?_)
        refine l_nil ⟨(fun h => nomatch h), ?_⟩
        refine r_nil ?_
        refine w_region ?_
        refine l_pptr rfl rfl ?_
        refine l_pptr rfl rfl ?_
        refine l_pptr rfl rfl ?_
        refine l_v rfl (q_fieldAddr rfl fo86_3 rfl) ?_
        refine l_v rfl (q_load1 rfl c1_3 rfl (by first | exact H.cell 0 rfl rfl | exact H.cell 1 rfl rfl | exact H.cell 2 rfl rfl)) ?_
        refine l_v rfl (q_build (cs := [.slice none 0 0, .int .i64 0, .int .i64 (t.n : Int), .slice none 0 0, .int .i64 0]) rfl sp_84 rfl) ?_
        refine l_pptr rfl rfl ?_
        refine l_v rfl (q_fieldAddr rfl fo86_2 rfl) ?_
        refine b_store (cs' := [.slice a61 (t.file.length + (sealR (chunkB t.first (p.txs.map Tx.bs))).1.length) c61, .slice a48 (t.places.length + 1) c48, .slice none 0 0, .int .i64 0, .int .i64 (t.n : Int), .slice none 0 0, .int .i64 0, .int .i64 (t.n : Int)]) rfl sz_84 rfl rfl rfl rfl rfl H 2 rfl rfl rfl (fun w H => ?_)
        refine l_nil ?_
        refine ⟨by repeat' first | exact aM | exact aR | refine aI rfl ?_ | refine aU rfl ?_ | refine aL rfl ?_, ?_⟩
        have hft : fitsT t (putEv e).1 = fitsN t.first p.txs.length (sizeT p.ts) (putEv e).1.length := by unfold fitsT; rw [hcn, hp]
        first
          | exact ⟨(p, t), trivial, hp, (if_neg (fun h => by omega)).symm, H⟩
          | exact ⟨(p, t), trivial, hp, (if_neg (fun h => by rw [hft, c3] at h; exact absurd h.2 (by decide))).symm, H⟩
          | (refine ⟨(⟨a61, c61, a48, c48, none, 0, []⟩, flushT t), trivial, rfl, (if_pos ⟨by omega, by rw [hft, c3]⟩).symm, ?_⟩
             have hF : (sealR (chunkB t.first (p.txs.map Tx.bs))).1 = frameC t.first t.texts := by unfold frameC; rw [← hp]; rfl
             rw [hF] at H
             have e1 : (t.file ++ frameC t.first t.texts).length = t.file.length + (frameC t.first t.texts).length := List.length_append
             have e2 : (t.places ++ [t.file.length]).length = t.places.length + 1 := by simp
             have H2 := St.newRow (T := 28) (sz := 1) (St.nilseg.2 ((H.erase 3).erase 3))
             have H3 := St.pick [2, 3, 4, 0, 1, 5, 6] (pre := [_, _, _, _, _, _, _]) rfl H2 rfl
             unfold tapeL tcells flushT
             simp only []
             rw [e1, e2, List.map_append]
             unfold natsV at H3 ⊢
             rw [List.map_append]
             exact H3)
      try simp only [sH] at c3
      refine w_skip ?_
      refine ⟨by repeat' first | exact aM | exact aR | refine aI rfl ?_ | refine aU rfl ?_ | refine aL rfl ?_, ?_⟩
      have hft : fitsT t (putEv e).1 = fitsN t.first p.txs.length (sizeT p.ts) (putEv e).1.length := by unfold fitsT; rw [hcn, hp]
      first
        | exact ⟨(p, t), trivial, hp, (if_neg (fun h => by omega)).symm, H⟩
        | exact ⟨(p, t), trivial, hp, (if_neg (fun h => by rw [hft, c3] at h; exact absurd h.2 (by decide))).symm, H⟩
        | (refine ⟨(⟨a61, c61, a48, c48, none, 0, []⟩, flushT t), trivial, rfl, (if_pos ⟨by omega, by rw [hft, c3]⟩).symm, ?_⟩
           have hF : (sealR (chunkB t.first (p.txs.map Tx.bs))).1 = frameC t.first t.texts := by unfold frameC; rw [← hp]; rfl
           rw [hF] at H
           have e1 : (t.file ++ frameC t.first t.texts).length = t.file.length + (frameC t.first t.texts).length := List.length_append
           have e2 : (t.places ++ [t.file.length]).length = t.places.length + 1 := by simp
           have H2 := St.newRow (T := 28) (sz := 1) (St.nilseg.2 ((H.erase 3).erase 3))
           have H3 := St.pick [2, 3, 4, 0, 1, 5, 6] (pre := [_, _, _, _, _, _, _]) rfl H2 rfl
           unfold tapeL tcells flushT
           simp only []
           rw [e1, e2, List.map_append]
           unfold natsV at H3 ⊢
           rw [List.map_append]
           exact H3)
    try simp only [sH] at h29
    refine l_no rfl ?_
    refine l_no rfl ?_
    refine l_no rfl ?_
    refine l_no rfl ?_
    refine l_no rfl ?_
    refine l_no rfl ?_
    refine l_pickF (v := .bool _) rfl rfl rfl ?_
    refine l_nil ?_
    refine w_cond_f rfl ?_
    refine w_skip ?_
    refine ⟨by repeat' first | exact aM | exact aR | refine aI rfl ?_ | refine aU rfl ?_ | refine aL rfl ?_, ?_⟩
    have hft : fitsT t (putEv e).1 = fitsN t.first p.txs.length (sizeT p.ts) (putEv e).1.length := by unfold fitsT; rw [hcn, hp]
    first
      | exact ⟨(p, t), trivial, hp, (if_neg (fun h => by omega)).symm, H⟩
      | exact ⟨(p, t), trivial, hp, (if_neg (fun h => by rw [hft, c3] at h; exact absurd h.2 (by decide))).symm, H⟩
      | (refine ⟨(⟨a61, c61, a48, c48, none, 0, []⟩, flushT t), trivial, rfl, (if_pos ⟨by omega, by rw [hft, c3]⟩).symm, ?_⟩
         have hF : (sealR (chunkB t.first (p.txs.map Tx.bs))).1 = frameC t.first t.texts := by unfold frameC; rw [← hp]; rfl
         rw [hF] at H
         have e1 : (t.file ++ frameC t.first t.texts).length = t.file.length + (frameC t.first t.texts).length := List.length_append
         have e2 : (t.places ++ [t.file.length]).length = t.places.length + 1 := by simp
         have H2 := St.newRow (T := 28) (sz := 1) (St.nilseg.2 ((H.erase 3).erase 3))
         have H3 := St.pick [2, 3, 4, 0, 1, 5, 6] (pre := [_, _, _, _, _, _, _]) rfl H2 rfl
         unfold tapeL tcells flushT
         simp only []
         rw [e1, e2, List.map_append]
         unfold natsV at H3 ⊢
         rw [List.map_append]
         exact H3)
  rintro ⟨q, u⟩ ρ1 w ⟨hq, hu, H⟩
  have huo : u.n = t.n ∧ q.txs.length ≤ 32 ∧ sizeT q.ts ≤ 700000 := by
    rw [TP.cnt hq, hq, hu]
    split
    · exact ⟨rfl, Nat.zero_le _, Nat.zero_le _⟩
    exact ⟨rfl, ht.cnt, ht.size⟩
  obtain ⟨hun, huc, hus⟩ := huo
  have htn := ht.n
  refine w_seq ?_
  refine w_region ?_
  refine l_pptr rfl rfl ?_
  refine l_pptr rfl rfl ?_
  refine l_v rfl (q_fieldAddr rfl fo86_2 rfl) ?_
  refine l_pslice rfl rfl ?_
  refine b_call rfl cb_74 rfl (putT_ok (n := (putEv e).1.length) (k := q.txs.length) (St.pick [2, 3, 0, 1, 4, 5, 6] (pre := [_, _, _, _, _, _, _]) rfl H rfl) (by omega) (by omega) (by omega)) (fun v w hv => ?_)
  obtain ⟨rfl, ta', tc', H⟩ := hv
  refine l_nil ?_
  refine w_seq ?_
  refine w_region ?_
  refine l_pptr rfl rfl ?_
  refine l_pptr rfl rfl ?_
  refine l_v rfl (q_fieldAddr rfl fo86_3 rfl) ?_
  refine l_v rfl (q_load1 rfl c1_3 rfl (by first | exact H.cell 0 rfl rfl | exact H.cell 1 rfl rfl | exact H.cell 2 rfl rfl)) ?_
  first | refine l_v rfl (q_add rfl rfl rfl (by simp only [inK]; omega)) ?_ | refine l_pint rfl rfl ?_
  refine l_pptr rfl rfl ?_
  refine l_v rfl (q_fieldAddr rfl fo86_3 rfl) ?_
  refine b_store (cs' := [.slice q.fa u.file.length q.fc, .slice q.pa u.places.length q.pc, .slice none 0 0, .int .i64 0, .int .i64 (u.first : Int), .slice ta' (q.txs.length + 1) tc', .int .i64 ((sizeT q.ts + (szN (putEv e).1.length + (putEv e).1.length) : Nat) : Int), .int .i64 ((u.n : Int) + 1)]) rfl sz_3 rfl rfl rfl rfl rfl H 0 rfl rfl rfl (fun w H => ?_)
  refine l_nil ?_
  refine w_seq ?_
  refine w_region ?_
  refine l_pint rfl rfl ?_
  refine l_nil ?_
  refine w_ret ?_
  refine fin1 (v := .int _ _) rfl ?_
  have hx : addRT t e = (0, addT t (putEv e).1) := by unfold addRT; rw [if_neg (by omega), if_neg hn4]
  rw [hx]
  have hat : addT t (putEv e).1 = { u with texts := u.texts ++ [(putEv e).1], n := u.n + 1 } := by rw [hu]; rfl
  refine ⟨{ q with ta := ta', tc := tc', txs := q.txs ++ [⟨a9, c9, (putEv e).1⟩] }, ?_, rfl, ?_⟩
  · rw [hat, ← hq]; unfold TP.ts; rw [List.map_append]; rfl
  rw [hat]
  have H2 := St.pick [4, 2, 0, 1, 5, 6] (pre := [_, _, _, _, _, _, _]) rfl H rfl
  have H3 := St.pick [1, 2, 0, 3, 4] (pre := [_, _, _, _, _]) rfl (St.snocseg.1 H2) rfl
  unfold tapeL tcells
  have e1 : (q.txs ++ [(⟨a9, c9, (putEv e).1⟩ : Tx)]).length = q.txs.length + 1 := by simp
  have e2 : sizeT (TP.ts { q with ta := ta', tc := tc', txs := q.txs ++ [(⟨a9, c9, (putEv e).1⟩ : Tx)] }) = sizeT q.ts + (szN (putEv e).1.length + (putEv e).1.length) := by
    unfold TP.ts; rw [List.map_append]; exact sizeT_snoc _ _
  rw [e1, e2, List.map_append, List.map_append]
  exact H3
end Go.Proofs.YtfpmnhmdphaceaaDoor
namespace Go.Proofs.YtfpmnhmdphaceaaDoor
open Go.EW
attribute [local irreducible] EW.W EW.L EW.fin block8 outB shaL
set_option linter.unusedVariables false
set_option linter.unusedSimpArgs false
attribute [local irreducible] crcN crcB crcL sealL openR sealR
def natsB (l : List Nat) : List UInt8 := l.flatMap formL
def footB (n : Nat) (places : List Nat) (ahead : List UInt8) : List UInt8 := formL 3 ++ formL n ++ formL places.length ++ natsB places ++ formL 32 ++ shaL ahead
def footC (n : Nat) (places : List Nat) (ahead : List UInt8) : List UInt8 := (sealR (footB n places ahead)).1
theorem natsB_take {l : List Nat} {i : Nat} (hi : i < l.length) : natsB (l.take (i + 1)) = natsB (l.take i) ++ formL l[i] := by
  rw [List.take_succ_eq_append_getElem hi]
  unfold natsB
  rw [List.flatMap_append, List.flatMap_cons, List.flatMap_nil, List.append_nil]
theorem natsB_len : ∀ l : List Nat, (natsB l).length ≤ 9 * l.length
  | [] => Nat.zero_le _
  | x :: l => by
    have h := natsB_len l
    have h2 := formL_len x
    unfold natsB at *
    rw [List.flatMap_cons, List.length_append, List.length_cons]; omega
theorem nat_at {w : World} {a : Option Addr} {l : List Nat} {i : Nat} (h : Rd w a (natsV l)) (hi : i < l.length) : ∃ b o, a = some ⟨b, o, none⟩ ∧ w.cell? ⟨b, o + i * 1, none⟩ = some (I (l[i] : Int)) :=
  rd_cell h (by unfold natsV; rw [List.getElem?_map, List.getElem?_eq_getElem hi]; rfl)
theorem foot_ok {W w : World} {F : List Seg} (hN : NibOk W) (H : St W w F) {n k pc m fc : Nat} {pa fa : Option Addr} {ps : List Nat} {fs : List UInt8} (hr : RdIn W F pa (natsV ps)) (hk : ps.length = k) (hrf : RdIn W F fa (fs.map B)) (hm : fs.length = m) (hcf : fs.length ≤ fc) (hfl : fs.length ≤ 140737488355200) (hn : n ≤ 1000000000) (hpl : ps.length ≤ 1000000) (hpm : ∀ x ∈ ps, x ≤ 9223372036854775807) :
    Ok Tryd.prog 68 [.int .i64 (n : Int), .slice pa k pc, .slice fa m fc].toArray w (fun r w' => ∃ a' c', r = .slice a' (footC n ps fs).length c' ∧ St W w' (row 5 1 a' (footC n ps fs).length c' ((footC n ps fs).map B) :: F)) := by
  have hf3 := formL_len 3
  have hfn := formL_len n
  have hfp := formL_len ps.length
  subst hk; subst hm
  refine enter (n := 32) (rs := #[.tmp 6]) Tryd.func68 rfl rfl rfl rfl ?_
  refine w_seq ?_
  refine w_region ?_
  refine l_pslice rfl rfl ?_
  refine l_nil ?_
  refine w_seq ?_
  refine w_region ?_
  refine b_alloc rfl ze_82 rfl H (fun b7 w H => ?_)
  have H : St W w (writerL b7 none 0 [] F) := (St.newRow (T := 5) (sz := 1) H).swap01
  refine l_nil ?_
  refine w_seq ?_
  refine w_region ?_
  refine b_call rfl cb_43 rfl (WInt_ok (n := 3) (by decide) (by simp) H) (fun v w hv => ?_)
  obtain ⟨rfl, a1, c1, H⟩ := hv
  refine l_nil ?_
  refine w_seq ?_
  refine w_region ?_
  refine l_pint rfl rfl ?_
  refine b_call rfl cb_43 rfl (WInt_ok (n := n) (by omega) (by simp; omega) H) (fun v w hv => ?_)
  obtain ⟨rfl, a2, c2, H⟩ := hv
  refine l_nil ?_
  refine w_seq ?_
  refine w_region ?_
  refine l_pslice rfl rfl ?_
  refine l_v rfl (q_lenSlice rfl el_66 rfl) ?_
  refine b_call rfl cb_43 rfl (WInt_ok (n := ps.length) (by omega) (by simp; omega) H) (fun v w hv => ?_)
  obtain ⟨rfl, a3, c3, H⟩ := hv
  refine l_nil ?_
  refine w_seq ?_
  refine w_seq ?_
  refine w_region ?_
  refine l_pslice rfl rfl ?_
  refine l_v rfl (q_lenSlice rfl el_66 rfl) ?_
  refine l_pint rfl rfl ?_
  refine l_nil ?_
  refine w_block ?_
  refine w_loopG (G := Nat × Option Addr × Nat) [9, 19, 20, 21, 22, 23, 24, 25] (fun ⟨i, wa, wc⟩ => [(19, .int .i64 ((i : Nat) : Int))]) (fun m ⟨i, wa, wc⟩ w => m + i = ps.length ∧ St W w (writerL b7 wa wc (formL 3 ++ formL n ++ formL ps.length ++ natsB (ps.take i)) F)) (fun _ => rfl) ?_ ?_
  · exact ⟨ps.length, (0, a3, c3), ⟨rfl, trivial⟩, rfl, by rw [List.take_zero, show natsB [] = [] from rfl, List.append_nil]; exact H⟩
  rintro m ⟨i, wa, wc⟩ ρ1 w ⟨hmi, H⟩
  refine w_seq ?_
  refine w_region ?_
  refine l_pbool rfl rfl ?_
  refine l_nil ?_
  refine w_seq ?_
  refine w_cond rfl (fun c1 => ?_) (fun c1 => ?_)
  · try simp only [sH] at c1
    have hi : i < ps.length := by omega
    obtain ⟨pb, po, hpa, hpc⟩ := nat_at (hr.use H 2 rfl) hi
    refine w_skip ?_
    refine w_seq ?_
    refine w_block ?_
    refine w_seq ?_
    refine w_region ?_
    refine l_v rfl (q_indexSliceE i rfl el_66 rfl hpa rfl rfl hi) ?_
    refine l_v rfl (q_load1 rfl c1_3 rfl hpc) ?_
    refine l_pint rfl rfl ?_
    refine l_nil ?_
    refine w_region ?_
    refine l_pint rfl rfl ?_
    refine b_call rfl cb_43 rfl (WInt_ok (n := ps[i]) (hpm _ (List.getElem_mem hi)) (by have h1 := natsB_len (ps.take i); rw [List.length_take] at h1; simp only [List.length_append]; omega) H) (fun v w hv => ?_)
    obtain ⟨rfl, a', c', H⟩ := hv
    refine l_nil ?_
    refine w_region ?_
    first | refine l_v rfl (q_add rfl rfl rfl (by simp only [inK]; omega)) ?_ | refine l_pint rfl rfl ?_
    refine l_pint rfl rfl ?_
    refine l_nil ?_
    refine ⟨by repeat' first | exact aM | exact aR | refine aI rfl ?_ | refine aU rfl ?_ | refine aL rfl ?_, ?_⟩
    refine ⟨m - 1, (i + 1, a', c'), by omega, ⟨by exact congrArg (Value.int IntKind.i64) (Int.natCast_succ i).symm, trivial⟩, by omega, ?_⟩
    rw [natsB_take hi, ← List.append_assoc]
    exact H
  try simp only [sH] at c1
  obtain rfl : i = ps.length := by omega
  refine w_exit ?_
  refine w_seq ?_
  refine w_region ?_
  refine l_pslice rfl rfl ?_
  refine b_call rfl cb_109 rfl (SumB_to H (hrf.up 2 rfl) rfl hcf hfl) (fun v w hv => ?_)
  obtain ⟨rfl, H⟩ := hv
  refine b_alloc rfl ze_195 rfl H (fun b10 w H => ?_)
  have hvl : ((shaL fs).map B).length = 32 := by rw [List.length_map, shaL_len]
  refine b_store (vs := (shaL fs).map B) rfl sz_195 rfl rfl rfl (by rw [hvl]; rfl) (all1 _) H 0 rfl (by rw [hvl]; rfl) (putL_all (by rw [hvl]; rfl)) (fun w H => ?_)
  have H2 : St W w (writerL b7 wa wc (formL 3 ++ formL n ++ formL ps.length ++ natsB (ps.take ps.length)) (blk b10 ((shaL fs).map B) 195 :: F)) := St.pick [1, 2, 0] (pre := [_, _, _]) rfl H rfl
  refine l_nil ?_
  refine w_seq ?_
  refine w_region ?_
  refine l_v rfl (q_sliceArr rfl ar_195 rfl Bnd.none Bnd.none Bnd.none (by simp)) ?_
  refine l_v rfl (q_bytesStr (bs := shaL fs) rfl by_28 st_9 rfl (by rw [subA_z]; exact Rd.mk (H.cells 0 rfl)) (shaL_len fs)) ?_
  refine b_call rfl cb_45 rfl (WText_ok (s := ⟨(shaL fs).toArray⟩) (mo := 32) (by show (shaL fs).length ≤ 32; rw [shaL_len]; decide) (by decide) (by have h1 := natsB_len (ps.take ps.length); rw [List.length_take] at h1; simp only [List.length_append]; omega) H2) (fun v w hv => ?_)
  obtain ⟨rfl, a30, c30, H⟩ := hv
  refine l_nil ?_
  refine w_seq ?_
  refine w_region ?_
  refine b_call rfl cb_72 rfl (sealed_ok hN (by have h1 := natsB_len ps; have h2 := shaL_len fs; have h3 : (⟨(shaL fs).toArray⟩ : ByteArray).data.toList.length = 32 := h2; have h4 : (⟨(shaL fs).toArray⟩ : ByteArray).size = 32 := h2; have h5 := formL_len (⟨(shaL fs).toArray⟩ : ByteArray).size; simp only [List.length_append, List.take_length, h3]; omega) H) (fun v w hv => ?_)
  obtain ⟨a31, c31, rfl, H⟩ := hv
  refine l_pslice rfl rfl ?_
  refine l_nil ?_
  refine w_ret ?_
  refine fin1 (v := .slice _ _ _) rfl ?_
  have e : formL 3 ++ formL n ++ formL ps.length ++ natsB (ps.take ps.length) ++ formL (⟨(shaL fs).toArray⟩ : ByteArray).size ++ (⟨(shaL fs).toArray⟩ : ByteArray).data.toList = footB n ps fs := by
    unfold footB
    rw [List.take_length, show (⟨(shaL fs).toArray⟩ : ByteArray).size = 32 from shaL_len fs]
  rw [e] at H ⊢
  exact ⟨a31, c31, rfl, ((H.erase 1).erase 1).erase 1⟩
end Go.Proofs.YtfpmnhmdphaceaaDoor
namespace Go.Proofs.YtfpmnhmdphaceaaDoor
open Go.EW
attribute [local irreducible] EW.W EW.L EW.fin block8 outB shaL
set_option linter.unusedVariables false
set_option linter.unusedSimpArgs false
attribute [local irreducible] crcN crcB crcL sealL openR sealR
def outT (t : TS) : List UInt8 := if t.texts.length > 0 then t.file ++ frameC t.first t.texts else t.file
def plT (t : TS) : List Nat := if t.texts.length > 0 then t.places ++ [t.file.length] else t.places
def fileT (t : TS) : List UInt8 := outT t ++ footC t.n (plT t) (outT t) ++ be4 (footC t.n (plT t) (outT t)).length
theorem outT_len {t : TS} (h : TOk t) : (outT t).length ≤ 300000000 := by
  have h1 := h.flen
  have h2 := seal_le (chunkB t.first t.texts)
  unfold outT frameC
  split
  · rw [List.length_append]; omega
  omega
theorem plT_len {t : TS} (h : TOk t) : (plT t).length ≤ 4097 := by
  have h1 := h.places
  have h2 := h.n
  unfold plT
  split
  · rw [List.length_append, List.length_singleton]; omega
  omega
/-- the places are before the file's end -/
def PlOk (t : TS) : Prop := ∀ x ∈ t.places, x ≤ 200000000
theorem plT_ok {t : TS} (h : TOk t) (hp : PlOk t) : ∀ x ∈ plT t, x ≤ 9223372036854775807 := by
  have h1 := h.flen
  unfold plT
  intro x hx
  split at hx
  · rcases List.mem_append.1 hx with hx | hx
    · have := hp x hx; omega
    obtain rfl := List.mem_singleton.1 hx; omega
  have := hp x hx; omega
theorem oneN (l : List Nat) : ∀ v ∈ natsV l, v.oneCell' = true := fun v hv => by
  obtain ⟨u, _, rfl⟩ := List.mem_map.1 hv
  rfl
theorem TBytes_ok {W w : World} {F : List Seg} (hN : NibOk W) {b : Nat} {p : TP} {t : TS} (H : St W w (tapeL b p t F)) (ht : TOk t) (hp : p.ts = t.texts) (hpk : PlOk t) :
    Ok Tryd.prog 23 [.pointer (some ⟨b, 0, none⟩)].toArray w (fun r w' => ∃ a' c', r = .slice a' (fileT t).length c' ∧ St W w' (row 5 1 a' (fileT t).length c' ((fileT t).map B) :: tapeL b p t F)) := by
  have hfl := ht.flen
  have hpn := ht.places
  have htn := ht.n
  have hcn := TP.cnt hp
  have hol := outT_len ht
  have hql := plT_len ht
  refine enter (n := 51) (rs := #[.tmp 2]) Tryd.func23 rfl rfl rfl rfl ?_
  refine w_seq ?_
  refine w_region ?_
  refine l_pslice rfl rfl ?_
  refine l_nil ?_
  refine w_seq ?_
  refine w_seq ?_
  refine w_region ?_
  refine l_pptr rfl rfl ?_
  refine l_v rfl (q_eqlNilF rfl pt_61 rfl rfl) ?_
  refine l_nil ?_
  refine w_cond_f rfl ?_
  refine w_skip ?_
  refine w_seq ?_
  refine w_region ?_
  refine l_pptr rfl rfl ?_
  refine l_pptr rfl rfl ?_
  refine l_v rfl (q_fieldAddr rfl fo86_0 rfl) ?_
  refine l_v rfl (q_load1 rfl c1_28 rfl (by first | exact H.cell 0 rfl rfl | exact H.cell 1 rfl rfl | exact H.cell 2 rfl rfl)) ?_
  refine b_append rfl el_28 ze_5 rfl rfl rfl (St.newRow (T := 5) (sz := 1) H) 0 rfl (ys := t.file.map B) ((H.rowInv (i := 3) rfl).2.2.2.2) (by simp) (EW.oneB _) ⟨by omega, by simp only [maxLen]; omega⟩ (fun a12 c12 w H => ?_)
  rw [Nat.zero_add t.file.length] at H ⊢
  refine l_pslice rfl rfl ?_
  refine l_nil ?_
  refine w_seq ?_
  refine w_region ?_
  refine l_pptr rfl rfl ?_
  refine l_pptr rfl rfl ?_
  refine l_v rfl (q_fieldAddr rfl fo86_1 rfl) ?_
  refine l_v rfl (q_load1 rfl c1_66 rfl (by first | exact H.cell 0 rfl rfl | exact H.cell 1 rfl rfl | exact H.cell 2 rfl rfl)) ?_
  refine b_append rfl el_66 ze_3 rfl rfl rfl (St.newRow (T := 3) (sz := 1) H) 0 rfl (ys := natsV t.places) ((H.rowInv (i := 5) rfl).2.2.2.2) (by simp [natsV]) (oneN _) ⟨by omega, by simp only [maxLen]; omega⟩ (fun a17 c17 w H => ?_)
  rw [Nat.zero_add t.places.length] at H ⊢
  have H : St W w (row 5 1 a12 (t.file.length) c12 ((t.file).map B) :: row 3 1 a17 t.places.length c17 (natsV t.places) :: tapeL b p t F) := H.swap01
  refine l_pslice rfl rfl ?_
  refine l_nil ?_
  refine w_cutG (G := Option Addr × Nat × Option Addr × Nat) [3, 4, 18, 19, 20, 21, 22, 23, 24, 25, 26, 27, 28, 29, 30, 31, 32, 33, 34, 35, 36] (fun ⟨oa, oc, qa, qc⟩ => [(3, .slice oa (outT t).length oc), (4, .slice qa (plT t).length qc)]) (fun ⟨oa, oc, qa, qc⟩ w => St W w (row 5 1 oa ((outT t).length) oc ((outT t).map B) :: row 3 1 qa (plT t).length qc (natsV (plT t)) :: tapeL b p t F)) (fun _ => rfl) ?_ ?_
  · refine w_seq ?_
    refine w_region ?_
    refine l_pptr rfl rfl ?_
    refine l_pptr rfl rfl ?_
    refine l_v rfl (q_fieldAddr rfl fo86_2 rfl) ?_
    refine l_v rfl (q_fieldAddr rfl fo84_2 rfl) ?_
    refine l_v rfl (q_load1 rfl c1_31 rfl (by first | exact H.cell 0 rfl rfl | exact H.cell 1 rfl rfl | exact H.cell 2 rfl rfl)) ?_
    refine l_v rfl (q_lenSlice rfl el_31 rfl) ?_
    refine l_pbool rfl rfl ?_
    refine l_nil ?_
    refine w_cond rfl (fun c1 => ?_) (fun c1 => ?_)
    · try simp only [sH] at c1
      refine w_seq ?_
      refine w_region ?_
      refine l_pslice rfl rfl ?_
      refine l_pslice rfl rfl ?_
      refine l_v rfl (q_lenSlice rfl el_28 rfl) ?_
      refine b_buildSlice (cs := [I (t.file.length : Int)]) rfl el_66 ze_3 rfl rfl rfl H (fun b28 w H => ?_)
      refine b_append rfl el_66 ze_3 rfl rfl rfl H 2 rfl (Rd.mk (H.cells0 0 rfl)) rfl (fun u hu => by obtain rfl := List.mem_singleton.1 hu; rfl) ⟨by omega, by simp only [maxLen]; omega⟩ (fun a29 c29 w H => ?_)
      have H := H.drop1
      refine l_pslice rfl rfl ?_
      refine l_nil ?_
      refine w_region ?_
      refine l_pslice rfl rfl ?_
      refine l_pptr rfl rfl ?_
      refine l_pptr rfl rfl ?_
      refine l_v rfl (q_fieldAddr rfl fo86_2 rfl) ?_
      refine l_v rfl (q_loadN (vs := [.slice none 0 0, .int .i64 0, .int .i64 (t.first : Int), .slice p.ta p.txs.length p.tc, .int .i64 (sizeT p.ts : Int)]) rfl ag_84 rfl rfl ((H.cells 2 rfl).sub 2 5)) ?_
      refine b_call rfl cb_67 rfl (frame_ok hN H (RdIn.row 3 rfl) (txs_segs 4 rfl (TP.each hp ht)) (by rw [TP.cnt hp]; have := ht.cnt; omega) (by have := ht.first; have := ht.n; omega) rfl) (fun v w hv => ?_)
      obtain ⟨a35, c35, rfl, H⟩ := hv
      refine b_append rfl el_28 ze_5 rfl rfl rfl H 1 rfl (ys := (sealR (chunkB t.first (p.txs.map Tx.bs))).1.map B) ((H.rowInv (i := 0) rfl).2.2.2.2) (by simp) (EW.oneB _) ⟨by have := seal_le (chunkB t.first (p.txs.map Tx.bs)); omega, by have := seal_le (chunkB t.first (p.txs.map Tx.bs)); simp only [maxLen]; omega⟩ (fun a36 c36 w H => ?_)
      have H := H.drop1
      refine l_pslice rfl rfl ?_
      refine l_nil ?_
      refine ⟨by repeat' first | exact aM | exact aR | refine aI rfl ?_ | refine aU rfl ?_ | refine aL rfl ?_, ?_⟩
      have hF : (sealR (chunkB t.first (p.txs.map Tx.bs))).1 = frameC t.first t.texts := by unfold frameC; rw [← hp]; rfl
      have ho : outT t = t.file ++ frameC t.first t.texts := if_pos (by omega)
      have hq : plT t = t.places ++ [t.file.length] := if_pos (by omega)
      rw [hF] at H
      have e1 : (t.file ++ frameC t.first t.texts).length = t.file.length + (frameC t.first t.texts).length := List.length_append
      have e2 : (t.places ++ [t.file.length]).length = t.places.length + 1 := by simp
      refine ⟨(a36, c36, a29, c29), ⟨?_, ?_, trivial⟩, ?_⟩
      · rw [ho, e1, ← hF]; rfl
      · rw [hq, e2]; rfl
      rw [ho, hq, e1, e2, List.map_append]
      unfold natsV at H ⊢
      rw [List.map_append]
      exact H
    try simp only [sH] at c1
    refine w_skip ?_
    refine ⟨by repeat' first | exact aM | exact aR | refine aI rfl ?_ | refine aU rfl ?_ | refine aL rfl ?_, ?_⟩
    have ho : outT t = t.file := if_neg (by omega)
    have hq : plT t = t.places := if_neg (by omega)
    exact ⟨(a12, c12, a17, c17), ⟨by rw [ho]; rfl, by rw [hq]; rfl, trivial⟩, by rw [ho, hq]; exact H⟩
  rintro ⟨oa, oc, qa, qc⟩ ρ1 w H
  refine w_seq ?_
  refine w_region ?_
  refine l_pptr rfl rfl ?_
  refine l_pptr rfl rfl ?_
  refine l_v rfl (q_fieldAddr rfl fo86_3 rfl) ?_
  refine l_v rfl (q_load1 rfl c1_3 rfl (by first | exact H.cell 0 rfl rfl | exact H.cell 1 rfl rfl | exact H.cell 2 rfl rfl)) ?_
  refine l_pslice rfl rfl ?_
  refine l_pslice rfl rfl ?_
  refine b_call rfl cb_68 rfl (foot_ok hN H (RdIn.row 1 rfl) rfl (RdIn.row 0 rfl) rfl (H.rowInv (i := 0) rfl).2.1 (by omega) (by omega) (by omega) (plT_ok ht hpk)) (fun v w hv => ?_)
  obtain ⟨a43, c43, rfl, H⟩ := hv
  refine l_pslice rfl rfl ?_
  refine l_nil ?_
  refine w_seq ?_
  refine w_region ?_
  refine l_pslice rfl rfl ?_
  refine l_pslice rfl rfl ?_
  have hsl : (footC t.n (plT t) (outT t)).length ≤ 32768 := seal_le _
  refine b_append rfl el_28 ze_5 rfl rfl rfl H 1 rfl (ys := (footC t.n (plT t) (outT t)).map B) ((H.rowInv (i := 0) rfl).2.2.2.2) (by simp) (EW.oneB _) ⟨by omega, by simp only [maxLen]; omega⟩ (fun a46 c46 w H => ?_)
  refine l_pslice rfl rfl ?_
  refine l_v rfl (q_lenSlice rfl el_28 rfl) ?_
  refine b_call rfl cb_69 rfl (four_ok H (footC t.n (plT t) (outT t)).length) (fun v w hv => ?_)
  obtain ⟨b49, rfl, H⟩ := hv
  have hsl : (footC t.n (plT t) (outT t)).length ≤ 32768 := seal_le _
  refine b_append rfl el_28 ze_5 rfl rfl rfl H 2 rfl (ys := (be4 (footC t.n (plT t) (outT t)).length).map B) ((H.rowInv (i := 0) rfl).2.2.2.2) rfl (EW.oneB _) ⟨by omega, by simp only [maxLen]; omega⟩ (fun a50 c50 w H => ?_)
  refine l_pslice rfl rfl ?_
  refine l_nil ?_
  refine w_ret ?_
  refine fin1 (v := .slice _ _ _) rfl ?_
  have e : (fileT t).length = (outT t).length + (footC t.n (plT t) (outT t)).length + 4 := by unfold fileT; rw [List.length_append, List.length_append]; rfl
  rw [← List.map_append, ← List.map_append] at H
  refine ⟨a50, c50, by rw [e], ?_⟩
  rw [e]
  exact ((H.drop1.drop1).erase 1)
end Go.Proofs.YtfpmnhmdphaceaaDoor
namespace Go.Proofs.YtfpmnhmdphaceaaDoor
open Go.EW
attribute [local irreducible] EW.W EW.L EW.fin block8 outB shaL
set_option linter.unusedVariables false
set_option linter.unusedSimpArgs false
attribute [local irreducible] crcN crcB crcL sealL openR sealR
/-- the body of the frame at a place, how long the frame is; or the error -/
def bodyR (b : List UInt8) (p : Nat) : List UInt8 × Nat × Nat :=
  if b.length - p < 12 then ([], 0, 222) else if (b.drop p).take 4 ≠ magicL then ([], 0, 220) else if 32756 < numB ((b.drop (p + 4)).take 4) then ([], 0, 220)
  else if b.length - p < numB ((b.drop (p + 4)).take 4) + 12 then ([], 0, 222) else if (openR ((b.drop p).take (numB ((b.drop (p + 4)).take 4) + 12))).2 ≠ 0 then ([], 0, 220)
  else ((openR ((b.drop p).take (numB ((b.drop (p + 4)).take 4) + 12))).1, numB ((b.drop (p + 4)).take 4) + 12, 0)
/-- so many numbers, one behind the other -/
def rInts (b : List UInt8) (s : Rs) : Nat → List Nat × Rs
  | 0 => ([], s)
  | i + 1 => ((rInts b s i).1 ++ [(rInt b maxI (rInts b s i).2).1], (rInt b maxI (rInts b s i).2).2)
theorem rInts_len (b : List UInt8) (s : Rs) : ∀ i, (rInts b s i).1.length = i
  | 0 => rfl
  | i + 1 => by rw [rInts, List.length_append, List.length_singleton, rInts_len b s i]
theorem rInts_ok2 {b : List UInt8} {s : Rs} (h : RsOk2 b s) : ∀ i, RsOk2 b (rInts b s i).2
  | 0 => h
  | i + 1 => rInt_ok2 (rInts_ok2 h i)
theorem rInts_le {b : List UInt8} {s : Rs} : ∀ i, ∀ x ∈ (rInts b s i).1, x ≤ maxI
  | 0, x, hx => absurd hx (by simp [rInts])
  | i + 1, x, hx => by
    rw [rInts] at hx
    rcases List.mem_append.1 hx with hx | hx
    · exact rInts_le i x hx
    rw [List.mem_singleton.1 hx]; exact rInt_le
/-- the first number of a body -/
def numberR (b : List UInt8) : Int := if (rInt b maxI ⟨0, 0⟩).2.at_ = 0 then -1 else ((rInt b maxI ⟨0, 0⟩).1 : Int)
/-- of a foot: how many events, the chunks' places; is it one? -/
def footR (b : List UInt8) : Nat × List Nat × Bool :=
  let k := rInts b ⟨0, 0⟩ 3
  if k.1.getD 0 0 ≠ 3 ∨ b.length < k.1.getD 2 0 then (0, [], false)
  else
    let l := rInts b k.2 (k.1.getD 2 0)
    let h := rText b 32 l.2
    (k.1.getD 1 0, l.1, decide (rEnd b h.2 = 0) && decide (h.1.length = 32))
theorem rdin_3 {W : World} {F : List Seg} {a : Option Addr} {bs : List UInt8} {p n : Nat} (h : RdIn W F a (bs.map B)) (hn : 0 < n) : RdIn W F (subA a 1 p (p + n)) (((bs.drop p).take n).map B) := by
  have h2 := h.subA (sz := 1) (l := p) (m := p + n) (j := n) (fun e => by omega)
  rw [Nat.mul_one, ← List.map_drop, ← List.map_take] at h2
  exact h2
theorem body_ok {W w : World} {F : List Seg} (hN : NibOk W) (H : St W w F) {a : Option Addr} {n c p : Nat} {bs : List UInt8} (hr : RdIn W F a (bs.map B)) (hl : bs.length = n) (hcp : bs.length ≤ c) (hn : n ≤ 140737488355328) (hp : p ≤ n) :
    Ok Tryd.prog 81 [.slice a n c, .int .i64 (p : Int)].toArray w (fun r w' => ∃ a' c', r = .tuple #[.slice a' (bodyR bs p).1.length c', .int .i64 (((bodyR bs p).2.1 : Nat) : Int), .int .i64 (((bodyR bs p).2.2 : Nat) : Int)] ∧ St W w' (row 5 1 a' (bodyR bs p).1.length c' ((bodyR bs p).1.map B) :: F)) := by
  subst hl
  refine enter (n := 69) (rs := #[.tmp 4, .tmp 5, .tmp 6]) Tryd.func81 rfl rfl rfl rfl ?_
  refine w_seq ?_
  refine w_region ?_
  refine l_pslice rfl rfl ?_
  refine l_pint rfl rfl ?_
  refine l_pint rfl rfl ?_
  refine l_nil ?_
  refine w_seq ?_
  refine w_region ?_
  refine l_pslice rfl rfl ?_
  refine l_v rfl (q_lenSlice rfl el_28 rfl) ?_
  refine l_pint rfl rfl ?_
  first | refine l_v rfl (q_sub rfl rfl rfl (by simp only [inK]; omega)) ?_ | refine l_pint rfl rfl ?_
  refine l_pint rfl rfl ?_
  refine l_nil ?_
  refine w_seq ?_
  refine w_seq ?_
  refine w_region ?_
  refine l_pint rfl rfl ?_
  refine l_pbool rfl rfl ?_
  refine l_nil ?_
  refine w_cond rfl (fun c1 => ?_) (fun c1 => ?_)
  · try simp only [sH] at c1
    refine w_seq ?_
    refine w_region ?_
    refine l_pslice rfl rfl ?_
    refine l_pint rfl rfl ?_
    refine l_pint rfl rfl ?_
    refine l_nil ?_
    refine w_ret ?_
    refine fin3 rfl rfl rfl ?_
    have e : bodyR bs p = ([], 0, 222) := if_pos (by omega)
    rw [e]
    exact ⟨none, 0, rfl, St.newRow H⟩
  try simp only [sH] at c1
  refine w_skip ?_
  refine w_seq ?_
  refine w_seq ?_
  refine w_region ?_
  refine l_pslice rfl rfl ?_
  refine l_pint rfl rfl ?_
  refine l_pint rfl rfl ?_
  first | refine l_v rfl (q_add rfl rfl rfl (by simp only [inK]; omega)) ?_ | refine l_pint rfl rfl ?_
  refine l_v rfl (q_slice (l := p) (h := p + 4) (m := c) rfl el_28 rfl Bnd.none (by have h := @Bnd.mk .i64 ((p : Int) + 4) bs.length c ⟨by omega, by omega⟩; rwa [show ((p : Int) + 4).toNat = p + 4 by omega] at h) (Bnd.nat (by omega)) (by simp)) ?_
  refine l_v rfl (q_bytesStr (bs := (bs.drop p).take 4) rfl by_28 st_9 rfl (rd_part (p := p) (n := 4) (hr.use H 0 rfl) hcp (by omega)) (by rw [List.length_take, List.length_drop]; omega)) ?_
  refine l_v rfl (q_pure (s_neq rfl rfl)) ?_
  refine l_nil ?_
  refine w_cond rfl (fun c2 => ?_) (fun c2 => ?_)
  · try simp only [sH] at c2
    refine w_seq ?_
    refine w_region ?_
    refine l_pslice rfl rfl ?_
    refine l_pint rfl rfl ?_
    refine l_pint rfl rfl ?_
    refine l_nil ?_
    refine w_ret ?_
    refine fin3 rfl rfl rfl ?_
    have e : bodyR bs p = ([], 0, 220) := by unfold bodyR; rw [if_neg (by omega), if_pos (show _ ≠ magicL from c2)]
    rw [e]
    exact ⟨none, 0, rfl, St.newRow H⟩
  try simp only [sH] at c2
  have hq4 : ((bs.drop (p + 4)).take 4).length = 4 := by rw [List.length_take, List.length_drop]; omega
  have h1 : ¬ bs.length - p < 12 := by omega
  have h2 : (bs.drop p).take 4 = magicL := c2
  refine w_skip ?_
  refine w_seq ?_
  refine w_region ?_
  refine l_pint rfl rfl ?_
  refine l_nil ?_
  refine w_seq ?_
  refine w_seq ?_
  refine w_region ?_
  refine l_pslice rfl rfl ?_
  refine l_pint rfl rfl ?_
  first | refine l_v rfl (q_add rfl rfl rfl (by simp only [inK]; omega)) ?_ | refine l_pint rfl rfl ?_
  refine l_pint rfl rfl ?_
  first | refine l_v rfl (q_add rfl rfl rfl (by simp only [inK]; omega)) ?_ | refine l_pint rfl rfl ?_
  refine l_v rfl (q_slice (l := p + 4) (h := p + 8) (m := c) rfl el_28 rfl Bnd.none (by have h := @Bnd.mk .i64 ((p : Int) + 8) bs.length c ⟨by omega, by omega⟩; rwa [show ((p : Int) + 8).toNat = p + 8 by omega] at h) (by have h := @Bnd.mk .i64 ((p : Int) + 4) 0 (p + 8) ⟨by omega, by omega⟩; rwa [show ((p : Int) + 4).toNat = p + 4 by omega] at h) (by simp)) ?_
  refine l_v rfl (q_lenSlice rfl el_28 rfl) ?_
  refine l_pint rfl rfl ?_
  refine l_nil ?_
  refine w_block ?_
  refine w_loopG (G := Nat) [8, 10, 33, 34, 35, 36, 37, 38, 39, 40, 41, 42] (fun i => [(8, .int .i64 ((numB (((bs.drop (p + 4)).take 4).take i) : Nat) : Int)), (33, .int .i64 ((i : Nat) : Int))]) (fun m i w => m + i = 4 ∧ St W w F) (fun _ => rfl) ?_ ?_
  · exact ⟨4, 0, ⟨rfl, rfl, trivial⟩, rfl, H⟩
  rintro m i ρ1 w ⟨hmi, H⟩
  refine w_seq ?_
  refine w_region ?_
  refine l_pbool rfl rfl ?_
  refine l_nil ?_
  refine w_seq ?_
  refine w_cond rfl (fun c3 => ?_) (fun c3 => ?_)
  · try simp only [sH] at c3
    have hqr := rd_part (p := p + 4) (n := 4) (hr.use H 0 rfl) hcp (by omega)
    obtain ⟨qb, qo, hqa, _⟩ := by_cell hqr (j := i) (by omega)
    have hk8 := numB_4 (l := ((bs.drop (p + 4)).take 4).take i) (by rw [List.length_take]; omega)
    have hx := (((bs.drop (p + 4)).take 4)[i]'(by omega)).toNat_lt
    refine w_skip ?_
    refine w_seq ?_
    refine w_block ?_
    refine w_seq ?_
    refine w_region ?_
    refine l_v rfl (q_indexSliceE i rfl el_28 rfl hqa rfl rfl (by omega)) ?_
    refine l_v rfl (q_load1 rfl c1_5 rfl (by_at hqa hqr (by omega))) ?_
    first | refine l_p (v := B _) rfl rfl ?_ | refine l_pint rfl rfl ?_
    refine l_nil ?_
    refine w_region ?_
    refine l_pint rfl rfl ?_
    refine l_v rfl (q_pure (i64_shl8 rfl rfl (by omega))) ?_
    first | refine l_p (v := B _) rfl rfl ?_ | refine l_pint rfl rfl ?_
    refine l_v rfl (q_convIntIn rfl (by kernel_rfl) in_3 rfl (by simp only [inK]; omega)) ?_
    refine l_v rfl (q_pure (i64_orb rfl rfl hx (by omega))) ?_
    refine l_pint rfl rfl ?_
    refine l_nil ?_
    refine w_region ?_
    first | refine l_v rfl (q_add rfl rfl rfl (by simp only [inK]; omega)) ?_ | refine l_pint rfl rfl ?_
    refine l_pint rfl rfl ?_
    refine l_nil ?_
    refine ⟨by repeat' first | exact aM | exact aR | refine aI rfl ?_ | refine aU rfl ?_ | refine aL rfl ?_, ?_⟩
    refine ⟨m - 1, i + 1, by omega, ⟨congrArg (fun z : Nat => Value.int .i64 (z : Int)) (numB_take (by omega)).symm, by exact congrArg (Value.int IntKind.i64) (Int.natCast_succ i).symm, trivial⟩, by omega, H⟩
  try simp only [sH] at c3
  obtain rfl : i = 4 := by omega
  have hqt : ((bs.drop (p + 4)).take 4).take 4 = ((bs.drop (p + 4)).take 4) := List.take_of_length_le (by omega)
  rw [hqt]
  have hn4 := numB_4 (l := ((bs.drop (p + 4)).take 4)) (by omega)
  refine w_exit ?_
  refine w_seq ?_
  refine w_seq ?_
  refine w_region ?_
  refine l_pint rfl rfl ?_
  refine l_pbool rfl rfl ?_
  refine l_nil ?_
  refine w_cond rfl (fun c4 => ?_) (fun c4 => ?_)
  · try simp only [sH] at c4
    refine w_seq ?_
    refine w_region ?_
    refine l_pslice rfl rfl ?_
    refine l_pint rfl rfl ?_
    refine l_pint rfl rfl ?_
    refine l_nil ?_
    refine w_ret ?_
    refine fin3 rfl rfl rfl ?_
    have e : bodyR bs p = ([], 0, 220) := by unfold bodyR; rw [if_neg h1, if_neg (by simpa using h2), if_pos (by omega)]
    rw [e]
    exact ⟨none, 0, rfl, St.newRow H⟩
  try simp only [sH] at c4
  refine w_skip ?_
  refine w_seq ?_
  refine w_seq ?_
  refine w_region ?_
  refine l_pint rfl rfl ?_
  refine l_pint rfl rfl ?_
  first | refine l_v rfl (q_add rfl rfl rfl (by simp only [inK]; omega)) ?_ | refine l_pint rfl rfl ?_
  refine l_pbool rfl rfl ?_
  refine l_nil ?_
  refine w_cond rfl (fun c5 => ?_) (fun c5 => ?_)
  · try simp only [sH] at c5
    refine w_seq ?_
    refine w_region ?_
    refine l_pslice rfl rfl ?_
    refine l_pint rfl rfl ?_
    refine l_pint rfl rfl ?_
    refine l_nil ?_
    refine w_ret ?_
    refine fin3 rfl rfl rfl ?_
    have e : bodyR bs p = ([], 0, 222) := by unfold bodyR; rw [if_neg h1, if_neg (by simpa using h2), if_neg (by omega), if_pos (by omega)]
    rw [e]
    exact ⟨none, 0, rfl, St.newRow H⟩
  try simp only [sH] at c5
  refine w_skip ?_
  refine w_seq ?_
  refine w_region ?_
  refine l_pslice rfl rfl ?_
  refine l_pint rfl rfl ?_
  refine l_pint rfl rfl ?_
  refine l_pint rfl rfl ?_
  first | refine l_v rfl (q_add rfl rfl rfl (by simp only [inK]; omega)) ?_ | refine l_pint rfl rfl ?_
  first | refine l_v rfl (q_add rfl rfl rfl (by simp only [inK]; omega)) ?_ | refine l_pint rfl rfl ?_
  refine l_pint rfl rfl ?_
  refine l_pint rfl rfl ?_
  first | refine l_v rfl (q_add rfl rfl rfl (by simp only [inK]; omega)) ?_ | refine l_pint rfl rfl ?_
  first | refine l_v rfl (q_add rfl rfl rfl (by simp only [inK]; omega)) ?_ | refine l_pint rfl rfl ?_
  refine l_v rfl (q_slice (l := p) (h := p + (numB ((bs.drop (p + 4)).take 4) + 12)) (m := p + (numB ((bs.drop (p + 4)).take 4) + 12)) rfl el_28 rfl (by have h := @Bnd.mk .i64 ((p : Int) + (numB ((bs.drop (p + 4)).take 4) : Int) + 12) c c ⟨by omega, by omega⟩; rwa [show ((p : Int) + (numB ((bs.drop (p + 4)).take 4) : Int) + 12).toNat = p + (numB ((bs.drop (p + 4)).take 4) + 12) by omega] at h) (by have h := @Bnd.mk .i64 ((p : Int) + (numB ((bs.drop (p + 4)).take 4) : Int) + 12) bs.length (p + (numB ((bs.drop (p + 4)).take 4) + 12)) ⟨by omega, by omega⟩; rwa [show ((p : Int) + (numB ((bs.drop (p + 4)).take 4) : Int) + 12).toNat = p + (numB ((bs.drop (p + 4)).take 4) + 12) by omega] at h) (Bnd.nat (by omega)) (by simp)) ?_
  refine b_call rfl cb_116 rfl (Open_ok (bs := ((bs.drop p).take (numB ((bs.drop (p + 4)).take 4) + 12))) hN H (rdin_3 hr (by omega)) (by rw [List.length_take, List.length_drop]; omega) (by rw [List.length_take, List.length_drop]; omega) (by omega)) (fun v w hv => ?_)
  obtain ⟨a61, c61, rfl, H⟩ := hv
  refine l_ptup rfl rfl ?_
  refine l_pslice rfl rfl ?_
  refine l_pint rfl rfl ?_
  refine l_pslice rfl rfl ?_
  refine l_pint rfl rfl ?_
  refine l_nil ?_
  refine w_seq ?_
  refine w_seq ?_
  refine w_region ?_
  refine l_pint rfl rfl ?_
  refine l_pbool rfl rfl ?_
  refine l_nil ?_
  refine w_cond rfl (fun c6 => ?_) (fun c6 => ?_)
  · try simp only [sH] at c6
    refine w_seq ?_
    refine w_region ?_
    refine l_pslice rfl rfl ?_
    refine l_pint rfl rfl ?_
    refine l_pint rfl rfl ?_
    refine l_nil ?_
    refine w_ret ?_
    refine fin3 rfl rfl rfl ?_
    have e : bodyR bs p = ([], 0, 220) := by unfold bodyR; rw [if_neg h1, if_neg (by simpa using h2), if_neg (by omega), if_neg (by omega), if_pos (by omega)]
    rw [e]
    exact ⟨none, 0, rfl, St.newRow H.drop1⟩
  try simp only [sH] at c6
  refine w_skip ?_
  refine w_seq ?_
  refine w_region ?_
  refine l_pslice rfl rfl ?_
  refine l_pint rfl rfl ?_
  first | refine l_v rfl (q_add rfl rfl rfl (by simp only [inK]; omega)) ?_ | refine l_pint rfl rfl ?_
  refine l_pslice rfl rfl ?_
  refine l_pint rfl rfl ?_
  refine l_pint rfl rfl ?_
  refine l_nil ?_
  refine w_ret ?_
  refine fin3 rfl rfl rfl ?_
  have e : bodyR bs p = ((openR ((bs.drop p).take (numB ((bs.drop (p + 4)).take 4) + 12))).1, numB ((bs.drop (p + 4)).take 4) + 12, 0) := by unfold bodyR; rw [if_neg h1, if_neg (by simpa using h2), if_neg (by omega), if_neg (by omega), if_neg (by omega)]
  rw [e]
  exact ⟨a61, c61, rfl, H⟩
theorem number_ok {W w : World} {F : List Seg} (H : St W w F) {a : Option Addr} {n c : Nat} {bs : List UInt8} (hr : RdIn W F a (bs.map B)) (hl : bs.length = n) (hn : n ≤ 140737488355328) :
    Ok Tryd.prog 106 [.slice a n c].toArray w (fun r w' => r = I (numberR bs) ∧ St W w' F) := by
  refine enter (n := 13) (rs := #[.tmp 2]) Tryd.func106 rfl rfl rfl rfl ?_
  refine w_seq ?_
  refine w_region ?_
  refine l_pint rfl rfl ?_
  refine l_nil ?_
  refine w_seq ?_
  refine w_region ?_
  refine l_pslice rfl rfl ?_
  refine b_call rfl cb_50 rfl (NewReader_ok H hr hl hn) (fun v w hv => ?_)
  obtain ⟨rb, ra, rc, rfl, H⟩ := hv
  refine l_pptr rfl rfl ?_
  refine l_nil ?_
  refine w_seq ?_
  refine w_region ?_
  refine l_pptr rfl rfl ?_
  refine b_call rfl cb_51 rfl (RIntM_ok H (rs0 bs) (by omega)) (fun v w hv => ?_)
  obtain ⟨rfl, H⟩ := hv
  refine l_pint rfl rfl ?_
  refine l_nil ?_
  refine w_seq ?_
  refine w_seq ?_
  refine w_region ?_
  refine l_pptr rfl rfl ?_
  refine b_call rfl cb_52 rfl (RAt_ok H) (fun v w hv => ?_)
  obtain ⟨rfl, H⟩ := hv
  refine l_pbool rfl rfl ?_
  refine l_nil ?_
  refine w_cond rfl (fun c1 => ?_) (fun c1 => ?_)
  · try simp only [sH] at c1
    refine w_seq ?_
    refine w_region ?_
    refine l_pint rfl rfl ?_
    refine l_nil ?_
    refine w_ret ?_
    refine fin1 (v := .int _ _) rfl ?_
    refine ⟨?_, H.drop1.drop1⟩
    unfold numberR
    rw [if_pos (by omega)]
  try simp only [sH] at c1
  refine w_skip ?_
  refine w_seq ?_
  refine w_region ?_
  refine l_pint rfl rfl ?_
  refine l_pint rfl rfl ?_
  refine l_nil ?_
  refine w_ret ?_
  refine fin1 (v := .int _ _) rfl ?_
  refine ⟨?_, H.drop1.drop1⟩
  unfold numberR
  rw [if_neg (by omega)] <;> rfl
theorem footOf_ok {W w : World} {F : List Seg} (H : St W w F) {a : Option Addr} {n c : Nat} {bs : List UInt8} (hr : RdIn W F a (bs.map B)) (hl : bs.length = n) (hn : n ≤ 100000) :
    Ok Tryd.prog 108 [.slice a n c].toArray w (fun r w' => ∃ a' c', r = .tuple #[.int .i64 ((footR bs).1 : Int), .slice a' (footR bs).2.1.length c', .bool (footR bs).2.2] ∧ St W w' (row 3 1 a' (footR bs).2.1.length c' (natsV (footR bs).2.1) :: F)) := by
  subst hl
  have hl1 := rInt_le (b := bs) (m := maxI) (s := ⟨0, 0⟩)
  refine enter (n := 48) (rs := #[.tmp 2, .tmp 3, .tmp 4]) Tryd.func108 rfl rfl rfl rfl ?_
  refine w_seq ?_
  refine w_region ?_
  refine l_pint rfl rfl ?_
  refine l_pslice rfl rfl ?_
  refine l_pbool rfl rfl ?_
  refine l_nil ?_
  refine w_seq ?_
  refine w_region ?_
  refine l_pslice rfl rfl ?_
  refine b_call rfl cb_50 rfl (NewReader_ok H hr rfl (by omega)) (fun v w hv => ?_)
  obtain ⟨rb, ra, rc, rfl, H⟩ := hv
  refine l_pptr rfl rfl ?_
  refine l_nil ?_
  refine w_seq ?_
  refine w_region ?_
  refine l_pptr rfl rfl ?_
  refine b_call rfl cb_51 rfl (RIntM_ok H (rs0 bs) (by omega)) (fun v w hv => ?_)
  obtain ⟨rfl, H⟩ := hv
  refine l_pptr rfl rfl ?_
  refine b_call rfl cb_51 rfl (RIntM_ok H (rInt_ok2 (rs0 bs)) (by omega)) (fun v w hv => ?_)
  obtain ⟨rfl, H⟩ := hv
  refine l_pptr rfl rfl ?_
  refine b_call rfl cb_51 rfl (RIntM_ok H (rInt_ok2 (rInt_ok2 (rs0 bs))) (by omega)) (fun v w hv => ?_)
  obtain ⟨rfl, H⟩ := hv
  have H : St W w (readerL rb ra rc bs (rInts bs ⟨0, 0⟩ 3).2 F) := H
  refine l_pint rfl rfl ?_
  refine l_pint rfl rfl ?_
  refine l_pint rfl rfl ?_
  refine l_nil ?_
  refine w_seq ?_
  refine w_seq ?_
  refine w_region ?_
  refine l_pint rfl rfl ?_
  refine l_pbool rfl rfl ?_
  refine l_pbool rfl rfl ?_
  refine l_split 21 rfl (fun h21 => ?_) (fun h21 => ?_)
  · try simp only [sH] at h21
    refine l_no rfl ?_
    refine l_no rfl ?_
    refine l_no rfl ?_
    refine l_no rfl ?_
    refine l_pickT (v := .bool _) rfl rfl rfl ?_
    refine l_nil ?_
    refine w_cond_t rfl ?_
    refine w_seq ?_
    refine w_region ?_
    refine l_pint rfl rfl ?_
    refine l_pslice rfl rfl ?_
    refine l_pbool rfl rfl ?_
    refine l_nil ?_
    refine w_ret ?_
    refine fin3 rfl rfl rfl ?_
    have hk3 : (rInts bs ⟨0, 0⟩ 3).1.getD 0 0 ≠ 3 ∨ bs.length < ((rInts bs ⟨0, 0⟩ 3).1.getD 2 0) := by
      have e0 : (rInts bs ⟨0, 0⟩ 3).1.getD 0 0 = (rInt bs maxI ⟨0, 0⟩).1 := rfl
      have e2 : ((rInts bs ⟨0, 0⟩ 3).1.getD 2 0) = (rInt bs maxI (rInt bs maxI (rInt bs maxI ⟨0, 0⟩).2).2).1 := rfl
      rw [e0, e2]; omega
    have e : footR bs = (0, [], false) := by unfold footR; exact if_pos hk3
    rw [e]
    exact ⟨none, 0, rfl, St.newRow H.drop1.drop1⟩
  try simp only [sH] at h21
  refine l_pint rfl rfl ?_
  refine l_pslice rfl rfl ?_
  refine l_v rfl (q_lenSlice rfl el_28 rfl) ?_
  refine l_pbool rfl rfl ?_
  refine l_pickF (v := .bool _) rfl rfl rfl ?_
  refine l_nil ?_
  refine w_cond rfl (fun c1 => ?_) (fun c1 => ?_)
  · try simp only [sH] at c1
    refine w_seq ?_
    refine w_region ?_
    refine l_pint rfl rfl ?_
    refine l_pslice rfl rfl ?_
    refine l_pbool rfl rfl ?_
    refine l_nil ?_
    refine w_ret ?_
    refine fin3 rfl rfl rfl ?_
    have hk3 : (rInts bs ⟨0, 0⟩ 3).1.getD 0 0 ≠ 3 ∨ bs.length < ((rInts bs ⟨0, 0⟩ 3).1.getD 2 0) := by
      have e0 : (rInts bs ⟨0, 0⟩ 3).1.getD 0 0 = (rInt bs maxI ⟨0, 0⟩).1 := rfl
      have e2 : ((rInts bs ⟨0, 0⟩ 3).1.getD 2 0) = (rInt bs maxI (rInt bs maxI (rInt bs maxI ⟨0, 0⟩).2).2).1 := rfl
      rw [e0, e2]; omega
    have e : footR bs = (0, [], false) := by unfold footR; exact if_pos hk3
    rw [e]
    exact ⟨none, 0, rfl, St.newRow H.drop1.drop1⟩
  try simp only [sH] at c1
  have hk3 : ¬ ((rInts bs ⟨0, 0⟩ 3).1.getD 0 0 ≠ 3 ∨ bs.length < ((rInts bs ⟨0, 0⟩ 3).1.getD 2 0)) := by
    have e0 : (rInts bs ⟨0, 0⟩ 3).1.getD 0 0 = (rInt bs maxI ⟨0, 0⟩).1 := rfl
    have e2 : ((rInts bs ⟨0, 0⟩ 3).1.getD 2 0) = (rInt bs maxI (rInt bs maxI (rInt bs maxI ⟨0, 0⟩).2).2).1 := rfl
    rw [e0, e2]; omega
  have e2 : ((rInts bs ⟨0, 0⟩ 3).1.getD 2 0) = (rInt bs maxI (rInt bs maxI (rInt bs maxI ⟨0, 0⟩).2).2).1 := rfl
  have hn2 : ((rInts bs ⟨0, 0⟩ 3).1.getD 2 0) ≤ bs.length := by omega
  refine w_skip ?_
  refine w_seq ?_
  refine w_region ?_
  refine l_pslice rfl rfl ?_
  refine l_nil ?_
  refine w_seq ?_
  refine w_seq ?_
  refine w_region ?_
  refine l_pint rfl rfl ?_
  refine l_pint rfl rfl ?_
  refine l_nil ?_
  refine w_block ?_
  refine w_loopG (G := Nat × Option Addr × Nat) [9, 28, 29, 30, 31, 32, 33, 34, 35] (fun ⟨i, la, lc⟩ => [(9, .slice la i lc), (28, .int .i64 ((i : Nat) : Int))]) (fun m ⟨i, la, lc⟩ w => m + i = ((rInts bs ⟨0, 0⟩ 3).1.getD 2 0) ∧ St W w (readerL rb ra rc bs (rInts bs (rInts bs ⟨0, 0⟩ 3).2 i).2 (row 3 1 la i lc (natsV (rInts bs (rInts bs ⟨0, 0⟩ 3).2 i).1) :: F))) (fun _ => rfl) ?_ ?_
  · exact ⟨((rInts bs ⟨0, 0⟩ 3).1.getD 2 0), (0, none, 0), ⟨rfl, rfl, trivial⟩, rfl, St.pick [1, 2, 0] (pre := [_, _, _]) rfl (St.newRow (T := 3) (sz := 1) H) rfl⟩
  rintro m ⟨i, la, lc⟩ ρ1 w ⟨hmi, H⟩
  refine w_seq ?_
  refine w_region ?_
  refine l_pbool rfl rfl ?_
  refine l_nil ?_
  refine w_seq ?_
  refine w_cond rfl (fun c2 => ?_) (fun c2 => ?_)
  · try simp only [sH] at c2
    refine w_skip ?_
    refine w_seq ?_
    refine w_block ?_
    refine w_region ?_
    refine l_pslice rfl rfl ?_
    refine l_pptr rfl rfl ?_
    refine b_call rfl cb_51 rfl (RIntM_ok H (rInts_ok2 (rInts_ok2 (rs0 bs) 3) i) (by omega)) (fun v w hv => ?_)
    obtain ⟨rfl, H⟩ := hv
    refine b_buildSlice (cs := [I ((rInt bs maxI (rInts bs (rInts bs ⟨0, 0⟩ 3).2 i).2).1 : Int)]) rfl el_66 ze_3 rfl rfl rfl H (fun b33 w H => ?_)
    refine b_append rfl el_66 ze_3 rfl rfl rfl H 3 rfl (Rd.mk (H.cells0 0 rfl)) rfl (fun u hu => by obtain rfl := List.mem_singleton.1 hu; rfl) ⟨by omega, by simp only [maxLen]; omega⟩ (fun a34 c34 w H => ?_)
    refine l_pslice rfl rfl ?_
    refine l_nil ?_
    refine w_region ?_
    first | refine l_v rfl (q_add rfl rfl rfl (by simp only [inK]; omega)) ?_ | refine l_pint rfl rfl ?_
    refine l_pint rfl rfl ?_
    refine l_nil ?_
    refine ⟨by repeat' first | exact aM | exact aR | refine aI rfl ?_ | refine aU rfl ?_ | refine aL rfl ?_, ?_⟩
    refine ⟨m - 1, (i + 1, a34, c34), by omega, ⟨rfl, by exact congrArg (Value.int IntKind.i64) (Int.natCast_succ i).symm, trivial⟩, by omega, ?_⟩
    rw [rInts]
    unfold natsV at H ⊢
    rw [List.map_append]
    exact H.drop1
  try simp only [sH] at c2
  obtain rfl : i = ((rInts bs ⟨0, 0⟩ 3).1.getD 2 0) := by omega
  refine w_exit ?_
  refine w_seq ?_
  refine w_region ?_
  refine l_pptr rfl rfl ?_
  refine b_call rfl cb_55 rfl (RText_ok (mo := 32) H (rInts_ok2 (rInts_ok2 (rs0 bs) 3) ((rInts bs ⟨0, 0⟩ 3).1.getD 2 0)) (by omega) (by decide)) (fun v w hv => ?_)
  obtain ⟨rfl, H⟩ := hv
  refine l_pstr rfl rfl ?_
  refine l_nil ?_
  refine w_seq ?_
  refine w_region ?_
  refine l_pint rfl rfl ?_
  refine l_pslice rfl rfl ?_
  refine l_pptr rfl rfl ?_
  refine b_call rfl cb_53 rfl (REnd_ok H) (fun v w hv => ?_)
  obtain ⟨rfl, H⟩ := hv
  refine l_pbool rfl rfl ?_
  refine l_pbool rfl rfl ?_
  refine l_split 43 rfl (fun h43 => ?_) (fun h43 => ?_)
  · try simp only [sH] at h43
    refine l_pstr rfl rfl ?_
    refine l_v rfl (q_lenStr rfl st_9 rfl) ?_
    refine l_pbool rfl rfl ?_
    refine l_pickT (v := .bool _) rfl rfl rfl ?_
    refine l_pint rfl rfl ?_
    refine l_pslice rfl rfl ?_
    refine l_pbool rfl rfl ?_
    refine l_nil ?_
    refine w_ret ?_
    refine fin3 rfl rfl rfl ?_
    have e : footR bs = ((rInts bs ⟨0, 0⟩ 3).1.getD 1 0, (rInts bs (rInts bs ⟨0, 0⟩ 3).2 ((rInts bs ⟨0, 0⟩ 3).1.getD 2 0)).1, decide (rEnd bs (rText bs 32 (rInts bs (rInts bs ⟨0, 0⟩ 3).2 ((rInts bs ⟨0, 0⟩ 3).1.getD 2 0)).2).2 = 0) && decide ((rText bs 32 (rInts bs (rInts bs ⟨0, 0⟩ 3).2 ((rInts bs ⟨0, 0⟩ 3).1.getD 2 0)).2).1.length = 32)) := by unfold footR; exact if_neg hk3
    have e2 : ((rInts bs (rInts bs ⟨0, 0⟩ 3).2 ((rInts bs ⟨0, 0⟩ 3).1.getD 2 0)).1).length = ((rInts bs ⟨0, 0⟩ 3).1.getD 2 0) := rInts_len _ _ _
    rw [e]
    refine ⟨la, lc, ?_, ?_⟩
    · rw [e2]
      refine congrArg (fun z => Value.tuple #[_, _, .bool z]) ?_
      rw [decide_eq_true (show rEnd bs (rText bs 32 (rInts bs (rInts bs ⟨0, 0⟩ 3).2 ((rInts bs ⟨0, 0⟩ 3).1.getD 2 0)).2).2 = 0 by omega), Bool.true_and]
      have hs : (⟨(rText bs 32 (rInts bs (rInts bs ⟨0, 0⟩ 3).2 ((rInts bs ⟨0, 0⟩ 3).1.getD 2 0)).2).1.toArray⟩ : ByteArray).size = (rText bs 32 (rInts bs (rInts bs ⟨0, 0⟩ 3).2 ((rInts bs ⟨0, 0⟩ 3).1.getD 2 0)).2).1.length := rfl
      show (((⟨(rText bs 32 (rInts bs (rInts bs ⟨0, 0⟩ 3).2 ((rInts bs ⟨0, 0⟩ 3).1.getD 2 0)).2).1.toArray⟩ : ByteArray).size : Int) == 32) = _
      rw [Bool.eq_iff_iff, beq_iff_eq, decide_eq_true_iff]; omega
    rw [e2]; exact H.drop1.drop1
  try simp only [sH] at h43
  refine l_no rfl ?_
  refine l_no rfl ?_
  refine l_no rfl ?_
  refine l_pickF (v := .bool _) rfl rfl rfl ?_
  refine l_pint rfl rfl ?_
  refine l_pslice rfl rfl ?_
  refine l_pbool rfl rfl ?_
  refine l_nil ?_
  refine w_ret ?_
  refine fin3 rfl rfl rfl ?_
  have e : footR bs = ((rInts bs ⟨0, 0⟩ 3).1.getD 1 0, (rInts bs (rInts bs ⟨0, 0⟩ 3).2 ((rInts bs ⟨0, 0⟩ 3).1.getD 2 0)).1, decide (rEnd bs (rText bs 32 (rInts bs (rInts bs ⟨0, 0⟩ 3).2 ((rInts bs ⟨0, 0⟩ 3).1.getD 2 0)).2).2 = 0) && decide ((rText bs 32 (rInts bs (rInts bs ⟨0, 0⟩ 3).2 ((rInts bs ⟨0, 0⟩ 3).1.getD 2 0)).2).1.length = 32)) := by unfold footR; exact if_neg hk3
  have e2 : ((rInts bs (rInts bs ⟨0, 0⟩ 3).2 ((rInts bs ⟨0, 0⟩ 3).1.getD 2 0)).1).length = ((rInts bs ⟨0, 0⟩ 3).1.getD 2 0) := rInts_len _ _ _
  rw [e]
  refine ⟨la, lc, ?_, ?_⟩
  · rw [e2]
    refine congrArg (fun z => Value.tuple #[_, _, .bool z]) ?_
    rw [decide_eq_false (show ¬ rEnd bs (rText bs 32 (rInts bs (rInts bs ⟨0, 0⟩ 3).2 ((rInts bs ⟨0, 0⟩ 3).1.getD 2 0)).2).2 = 0 by omega), Bool.false_and]
  rw [e2]; exact H.drop1.drop1
end Go.Proofs.YtfpmnhmdphaceaaDoor
