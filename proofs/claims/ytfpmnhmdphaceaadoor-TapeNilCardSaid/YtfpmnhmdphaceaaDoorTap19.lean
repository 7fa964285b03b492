/- Walks through the tape's functions. -/
import Derived.Test.YtfpmnhmdphaceaaDoorTap18
namespace Go.Proofs.YtfpmnhmdphaceaaDoor
open Go.EW
attribute [local irreducible] EW.W EW.L EW.fin block8 outB shaL
set_option linter.unusedVariables false
set_option linter.unusedSimpArgs false
attribute [local irreducible] crcN crcB crcL sealL openR sealR

/-- a tape's state: the head and the full chunks, these chunks' places, the chunk at hand, how many events -/
structure TS where
  file : List UInt8
  places : List Nat
  first : Nat
  texts : List (List UInt8)
  n : Nat
def natsV (l : List Nat) : List Value := l.map fun p : Nat => I (p : Int)
/-- where a tape lies -/
structure TP where
  fa : Option Addr
  fc : Nat
  pa : Option Addr
  pc : Nat
  ta : Option Addr
  tc : Nat
  txs : List Tx
def TP.ts (p : TP) : List (List UInt8) := p.txs.map Tx.bs
def tcells (p : TP) (t : TS) : List Value := [.slice p.fa t.file.length p.fc, .slice p.pa t.places.length p.pc, .slice none 0 0, .int .i64 0, .int .i64 (t.first : Int), .slice p.ta p.txs.length p.tc, .int .i64 (sizeT p.ts : Int), .int .i64 (t.n : Int)]
def tapeL (b : Nat) (p : TP) (t : TS) (F : List Seg) : List Seg :=
  blk b (tcells p t) 86 :: row 28 1 p.ta p.txs.length p.tc (p.txs.map Tx.v) :: Segs (p.txs.map Tx.seg) :: row 5 1 p.fa t.file.length p.fc (t.file.map B) :: row 3 1 p.pa t.places.length p.pc (natsV t.places) :: F
def frameC (first : Nat) (ts : List (List UInt8)) : List UInt8 := (sealR (chunkB first ts)).1
def fitsT (t : TS) (b : List UInt8) : Bool := fitsN t.first t.texts.length (sizeT t.texts) b.length
def flushT (t : TS) : TS := { file := t.file ++ frameC t.first t.texts, places := t.places ++ [t.file.length], first := t.n, texts := [], n := t.n }
def addT (t : TS) (b : List UInt8) : TS :=
  let u := if t.texts.length > 0 ∧ fitsT t b = false then flushT t else t
  { u with texts := u.texts ++ [b], n := u.n + 1 }
def newT (s : Stp) : TS := ⟨(sealR (headB s)).1, [], 0, [], 0⟩
/-- a tape that may be -/
structure TOk (t : TS) : Prop where
  n : t.n ≤ 4096
  first : t.first ≤ t.n
  places : t.places.length ≤ t.n
  file : t.file.length ≤ 32768 * (t.places.length + 1)
  cnt : t.texts.length ≤ 32
  each : ∀ x ∈ t.texts, x.length ≤ 20000
  sum : t.texts.length ≤ t.n
theorem seal_le (b : List UInt8) : (sealR b).1.length ≤ 32768 := by
  rcases Nat.lt_or_ge 32756 b.length with h | h
  · rw [sealR_long h]; exact Nat.zero_le _
  · rw [sealR_ok h, seal_len]; omega

theorem TNew_ok {W w : World} {F : List Seg} (hN : NibOk W) (H : St W w F) (s : Stp) (hso : StpOk s) {a : Option Addr} {c : Nat} (hr : RdIn W F a (intsV s.cls)) :
    Ok Tryd.prog 28 [.agg (s.cells a c).toArray].toArray w (fun r w' => (chkS s ≠ 0 ∧ r = .tuple #[.pointer none, I (chkS s : Int)] ∧ St W w' F) ∨ (chkS s = 0 ∧ ∃ b p, p.txs = [] ∧ r = .tuple #[.pointer (some ⟨b, 0, none⟩), I 0] ∧ St W w' (tapeL b p (newT s) F))) := by
  have hlen7 : (hv s).length = 7 := rfl
  refine enter (n := 52) (rs := #[.tmp 2, .tmp 3]) Tryd.func28 rfl rfl rfl rfl ?_
  refine w_seq ?_
  refine w_region ?_
  refine b_box (cs := s.cells a c) rfl rfl rfl H (fun b1 w H => ?_)
  refine l_pptr rfl rfl ?_
  refine l_pint rfl rfl ?_
  refine l_nil ?_
  refine w_seq ?_
  refine w_seq ?_
  refine w_region ?_
  refine l_v rfl (q_loadN (vs := s.cells a c) rfl ag_56 rfl rfl (H.cells 0 rfl)) ?_
  refine b_call rfl cb_71 rfl (checked_ok H s (hr.up 1 rfl)) (fun v w hv => ?_)
  obtain ⟨rfl, H⟩ := hv
  refine l_pint rfl rfl ?_
  refine l_nil ?_
  refine w_seq ?_
  refine w_region ?_
  refine l_pint rfl rfl ?_
  refine l_pbool rfl rfl ?_
  refine l_nil ?_
  refine w_cond rfl (fun c1 => ?_) (fun c1 => ?_)
  · try simp only [sH] at c1
    refine w_seq ?_
    refine w_region ?_
    refine l_pint rfl rfl ?_
    refine l_pptr rfl rfl ?_
    refine l_pint rfl rfl ?_
    refine l_nil ?_
    refine w_ret ?_
    refine fin2 rfl rfl ?_
    exact .inl ⟨by omega, rfl, H.drop1⟩
  · try simp only [sH] at c1
    have hc0 : chkS s = 0 := by omega
    obtain ⟨hcf, hcl, hnn⟩ := chk_inv hc0
    refine w_skip ?_
    refine w_seq ?_
    refine w_region ?_
    refine b_alloc rfl ze_82 rfl H (fun b5 w H => ?_)
    refine l_nil ?_
    refine w_seq ?_
    refine w_region ?_
    refine l_v rfl (q_fieldAddr rfl fo56_0 rfl) ?_
    refine l_v rfl (q_loadN (vs := [I s.f, I s.room, I s.pat, .bool s.ung]) rfl ag_53 rfl rfl ((H.cells 1 rfl).sub 0 4)) ?_
    refine b_alloc (cs := [I 0, I 0, I 0, .bool false]) rfl ze_53 rfl H (fun b6 w H => ?_)
    refine b_store (cs' := [I s.f, I s.room, I s.pat, .bool s.ung]) rfl sz_53 rfl rfl rfl rfl rfl H 0 rfl rfl rfl (fun w H => ?_)
    have H : St W w (writerL b5 none 0 ([]) (blk b6 [I s.f, I s.room, I s.pat, .bool s.ung] 53 :: blk b1 (s.cells a c) 56 :: F)) := St.pick [2, 0, 1, 3] (pre := [_, _, _, _]) rfl (St.newRow (T := 5) (sz := 1) H) rfl
    refine l_nil ?_
    refine w_seq ?_
    refine w_region ?_
    refine l_pint rfl rfl ?_
    refine l_nil ?_
    refine w_cutG (G := Unit) [7, 19, 20] (fun ⟨⟩ => [(7, I (plainN s))]) (fun ⟨⟩ w => St W w (writerL b5 none 0 ([]) (blk b6 [I s.f, I s.room, I s.pat, .bool s.ung] 53 :: blk b1 (s.cells a c) 56 :: F))) (fun _ => rfl) ?_ ?_
    · refine w_seq ?_
      refine w_region ?_
      refine l_v rfl (q_fieldAddr rfl fo53_3 rfl) ?_
      refine l_v rfl (q_load1 rfl c1_4 rfl (by first | exact H.cell 0 rfl rfl | exact H.cell 1 rfl rfl | exact H.cell 2 rfl rfl | exact H.cell 3 rfl rfl)) ?_
      refine l_nil ?_
      refine w_cond rfl (fun c2 => ?_) (fun c2 => ?_)
      · try simp only [sH] at c2
        refine w_region ?_
        refine l_pint rfl rfl ?_
        refine l_nil ?_
        refine ⟨by repeat' first | exact aM | exact aR | refine aI rfl ?_ | refine aU rfl ?_ | refine aL rfl ?_, ?_⟩
        exact ⟨⟨⟩, ⟨by unfold plainN; rw [if_pos c2]; rfl, trivial⟩, H⟩
      · try simp only [sH] at c2
        refine w_skip ?_
        refine ⟨by repeat' first | exact aM | exact aR | refine aI rfl ?_ | refine aU rfl ?_ | refine aL rfl ?_, ?_⟩
        exact ⟨⟨⟩, ⟨by unfold plainN; rw [if_neg (by rw [c2]; decide)]; rfl, trivial⟩, H⟩
    · rintro ⟨⟩ ρ1 w H
      refine w_seq ?_
      refine w_seq ?_
      refine w_region ?_
      refine l_v rfl (q_fieldAddr rfl fo53_0 rfl) ?_
      refine l_v rfl (q_load1 rfl c1_3 rfl (by first | exact H.cell 0 rfl rfl | exact H.cell 1 rfl rfl | exact H.cell 2 rfl rfl | exact H.cell 3 rfl rfl)) ?_
      refine l_v rfl (q_fieldAddr rfl fo53_1 rfl) ?_
      refine l_v rfl (q_load1 rfl c1_3 rfl (by first | exact H.cell 0 rfl rfl | exact H.cell 1 rfl rfl | exact H.cell 2 rfl rfl | exact H.cell 3 rfl rfl)) ?_
      refine l_v rfl (q_fieldAddr rfl fo53_2 rfl) ?_
      refine l_v rfl (q_load1 rfl c1_3 rfl (by first | exact H.cell 0 rfl rfl | exact H.cell 1 rfl rfl | exact H.cell 2 rfl rfl | exact H.cell 3 rfl rfl)) ?_
      refine l_pint rfl rfl ?_
      refine l_v rfl (q_fieldAddr rfl fo56_1 rfl) ?_
      refine l_v rfl (q_load1 rfl c1_54 rfl (by first | exact H.cell 0 rfl rfl | exact H.cell 1 rfl rfl | exact H.cell 2 rfl rfl | exact H.cell 3 rfl rfl)) ?_
      refine l_v rfl (q_lenSlice rfl el_54 rfl) ?_
      refine l_v rfl (q_buildArr (cs := intsV (hv s)) rfl ar_155 ze_155 rfl) ?_
      refine l_pint rfl rfl ?_
      refine l_nil ?_
      refine w_block ?_
      refine w_loopG (G := Nat × Option Addr × Nat) [9, 32, 33, 34, 35, 36, 37] (fun ⟨i, wa, wc⟩ => [(32, .int .i64 ((i : Nat) : Int))]) (fun m ⟨i, wa, wc⟩ w => m + i = 7 ∧ St W w (writerL b5 wa wc (numsB ((hv s).take i)) (blk b6 [I s.f, I s.room, I s.pat, .bool s.ung] 53 :: blk b1 (s.cells a c) 56 :: F))) (fun _ => rfl) ?_ ?_
      · exact ⟨7, (0, none, 0), ⟨rfl, trivial⟩, rfl, H⟩
      · rintro m ⟨i, wa, wc⟩ ρ1 w ⟨hmi, H⟩
        refine w_seq ?_
        refine w_region ?_
        refine l_pbool rfl rfl ?_
        refine l_nil ?_
        refine w_seq ?_
        refine w_cond rfl (fun c3 => ?_) (fun c3 => ?_)
        · try simp only [sH] at c3
          obtain ⟨x, hx1, hx2⟩ := hv_ok hcf hcl (i := i) (by omega)
          refine w_skip ?_
          refine w_seq ?_
          refine w_block ?_
          refine w_seq ?_
          refine w_region ?_
          refine l_v rfl (q_indexAgg1 (v := I x) rfl ar_155 c1_3 rfl rfl ⟨by omega, by omega⟩ (by show (intsV (hv s))[i]? = _; unfold intsV; rw [List.getElem?_map, hx1]; rfl)) ?_
          refine l_pint rfl rfl ?_
          refine l_nil ?_
          refine w_region ?_
          refine l_pint rfl rfl ?_
          refine b_call rfl cb_43 rfl (WIntZ_ok hx2 (by have := numsB_len ((hv s).take i); rw [List.length_take] at this; omega) H) (fun v w hv => ?_)
          obtain ⟨rfl, a', c', H⟩ := hv
          refine l_nil ?_
          refine w_region ?_
          first | refine l_v rfl (q_add rfl rfl rfl (by simp only [inK]; omega)) ?_ | refine l_pint rfl rfl ?_
          refine l_pint rfl rfl ?_
          refine l_nil ?_
          refine ⟨by repeat' first | exact aM | exact aR | refine aI rfl ?_ | refine aU rfl ?_ | refine aL rfl ?_, ?_⟩
          refine ⟨m - 1, (i + 1, a', c'), by omega, ⟨by exact congrArg (Value.int IntKind.i64) (Int.natCast_succ i).symm, trivial⟩, by omega, ?_⟩
          obtain ⟨hii, hxx⟩ := List.getElem_of_getElem? hx1
          rw [numsB_take hii, hxx]
          exact H
        · try simp only [sH] at c3
          obtain rfl : i = 7 := by omega
          rw [List.take_of_length_le (show (hv s).length ≤ 7 from Nat.le_refl _)] at H
          refine w_exit ?_
          refine w_seq ?_
          refine w_seq ?_
          refine w_region ?_
          refine l_v rfl (q_fieldAddr rfl fo56_1 rfl) ?_
          refine l_v rfl (q_load1 rfl c1_54 rfl (by first | exact H.cell 0 rfl rfl | exact H.cell 1 rfl rfl | exact H.cell 2 rfl rfl | exact H.cell 3 rfl rfl)) ?_
          refine l_v rfl (q_lenSlice rfl el_54 rfl) ?_
          refine l_pint rfl rfl ?_
          refine l_nil ?_
          refine w_block ?_
          refine w_loopG (G := Nat × Option Addr × Nat) [11, 41, 42, 43, 44, 45, 46, 47, 48] (fun ⟨i, wa, wc⟩ => [(41, .int .i64 ((i : Nat) : Int))]) (fun m ⟨i, wa, wc⟩ w => m + i = s.cls.length ∧ St W w (writerL b5 wa wc (numsB (hv s) ++ numsB (s.cls.take i)) (blk b6 [I s.f, I s.room, I s.pat, .bool s.ung] 53 :: blk b1 (s.cells a c) 56 :: F))) (fun _ => rfl) ?_ ?_
          · exact ⟨s.cls.length, (0, wa, wc), ⟨rfl, trivial⟩, rfl, by rw [List.take_zero, show numsB [] = [] from rfl, List.append_nil]; exact H⟩
          · rintro m ⟨i, wa, wc⟩ ρ1 w ⟨hmi, H⟩
            refine w_seq ?_
            refine w_region ?_
            refine l_pbool rfl rfl ?_
            refine l_nil ?_
            refine w_seq ?_
            refine w_cond rfl (fun c4 => ?_) (fun c4 => ?_)
            · try simp only [sH] at c4
              have hi : i < s.cls.length := by omega
              obtain ⟨cb, co, hca, hcc⟩ := int_at (hr.use H 4 rfl) hi
              refine w_skip ?_
              refine w_seq ?_
              refine w_block ?_
              refine w_seq ?_
              refine w_region ?_
              refine l_v rfl (q_indexSliceE i rfl el_54 rfl hca rfl rfl hi) ?_
              refine l_v rfl (q_loadN (vs := [I s.cls[i]]) rfl ag_150 rfl rfl (by rw [Nat.mul_one] at hcc ⊢; exact ⟨hcc, trivial⟩)) ?_
              refine b_alloc (cs := [I 0]) rfl ze_150 rfl H (fun b11 w H => ?_)
              refine b_store (cs' := [I s.cls[i]]) rfl sz_150 rfl rfl rfl rfl rfl H 0 rfl rfl rfl (fun w H => ?_)
              have H3 : St W w (writerL b5 wa wc (numsB (hv s) ++ numsB (s.cls.take i)) (blk b11 [I s.cls[i]] 150 :: blk b6 [I s.f, I s.room, I s.pat, .bool s.ung] 53 :: blk b1 (s.cells a c) 56 :: F)) := St.pick [1, 2, 0] (pre := [_, _, _]) rfl H rfl
              refine l_nil ?_
              refine w_region ?_
              refine l_v rfl (q_fieldAddr rfl fo150_0 rfl) ?_
              refine l_v rfl (q_load1 rfl c1_3 rfl (H.cell 0 rfl rfl)) ?_
              refine b_call rfl cb_43 rfl (WIntZ_ok ⟨any_no hnn hi, hso _ (List.getElem_mem hi)⟩ (by have h1 := numsB_len (hv s); have h2 := numsB_len (s.cls.take i); rw [List.length_take] at h2; have h3 : (hv s).length = 7 := rfl; rw [List.length_append]; omega) H3) (fun v w hv => ?_)
              obtain ⟨rfl, a', c', H⟩ := hv
              have H : St W w (blk b11 [I s.cls[i]] 150 :: writerL b5 a' c' (numsB (hv s) ++ numsB (s.cls.take i) ++ formL (s.cls[i]).toNat) (blk b6 [I s.f, I s.room, I s.pat, .bool s.ung] 53 :: blk b1 (s.cells a c) 56 :: F)) := St.pick [2, 0, 1] (pre := [_, _, _]) rfl H rfl
              refine l_nil ?_
              refine w_region ?_
              first | refine l_v rfl (q_add rfl rfl rfl (by simp only [inK]; omega)) ?_ | refine l_pint rfl rfl ?_
              refine l_pint rfl rfl ?_
              refine l_nil ?_
              refine ⟨by repeat' first | exact aM | exact aR | refine aI rfl ?_ | refine aU rfl ?_ | refine aL rfl ?_, ?_⟩
              refine ⟨m - 1, (i + 1, a', c'), by omega, ⟨by exact congrArg (Value.int IntKind.i64) (Int.natCast_succ i).symm, trivial⟩, by omega, ?_⟩
              rw [numsB_take hi, ← List.append_assoc]
              exact H.drop1
            · try simp only [sH] at c4
              obtain rfl : i = s.cls.length := by omega
              rw [List.take_length] at H
              refine w_exit ?_
              refine w_seq ?_
              refine w_region ?_
              refine b_call rfl cb_72 rfl (sealed_ok hN (by have h1 := numsB_len (hv s); have h2 := numsB_len s.cls; have h3 : (hv s).length = 7 := rfl; rw [List.length_append]; omega) H) (fun v w hv => ?_)
              obtain ⟨a49, c49, rfl, H⟩ := hv
              refine l_v rfl (q_build (cs := tcells ⟨a49, c49, none, 0, none, 0, []⟩ (newT s)) rfl sp_86 rfl) ?_
              refine b_box (cs := tcells ⟨a49, c49, none, 0, none, 0, []⟩ (newT s)) rfl rfl rfl H (fun b51 w H => ?_)
              refine l_pptr rfl rfl ?_
              refine l_pint rfl rfl ?_
              refine l_nil ?_
              refine w_ret ?_
              refine fin2 rfl rfl ?_
              refine .inr ⟨hc0, b51, ⟨a49, c49, none, 0, none, 0, []⟩, rfl, rfl, ?_⟩
              have H2 := St.pick [0, 1] (pre := [_, _, _, _, _, _]) rfl H rfl
              have H3 := St.newRow (T := 28) (sz := 1) (St.newRow (T := 3) (sz := 1) (St.nilseg.2 H2))
              exact St.pick [3, 0, 2, 4, 1] (pre := [_, _, _, _, _]) rfl H3 rfl

end Go.Proofs.YtfpmnhmdphaceaaDoor
