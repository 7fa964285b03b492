/- Walks through the tape's functions. -/
import Derived.Test.YtfpmnhmdphaceaaDoorTap25
import Derived.Test.YtfpmnhmdphaceaaDoorTapMAll
namespace Go.Proofs.YtfpmnhmdphaceaaDoor
open Go.EW
attribute [local irreducible] EW.W EW.L EW.fin block8 outB shaL
set_option linter.unusedVariables false
set_option linter.unusedSimpArgs false
attribute [local irreducible] crcN crcB crcL sealL openR sealR
/-- what is known of a file: its setup, the events, the chunks' places, the last chunk, how much is right -/
structure SS where
  stp : Stp
  evs : List Evt
  places : List Nat
  first : Nat
  last : List (List UInt8)
  right : Nat
/-- where it lies -/
structure SP where
  ba : Option Addr
  bn : Nat
  bc : Nat
  ca : Option Addr
  cc : Nat
  ea : Option Addr
  ec : Nat
  es : List EvM
  pa : Option Addr
  pc : Nat
  ta : Option Addr
  tc : Nat
  txs : List Tx
def scells (p : SP) (s : SS) : List Value := [.slice p.ba p.bn p.bc, I s.stp.f, I s.stp.room, I s.stp.pat, .bool s.stp.ung, .slice p.ca s.stp.cls.length p.cc, .slice p.ea p.es.length p.ec, .slice p.pa s.places.length p.pc, .slice none 0 0, .int .i64 0, .int .i64 (s.first : Int), .slice p.ta p.txs.length p.tc, .int .i64 (sizeT s.last : Int), .int .i64 (s.right : Int)]
def scanR (p : SP) (s : SS) (F : List Seg) : List Seg :=
  row 30 13 p.ea p.es.length p.ec (evsV p.es) :: Segs (p.es.map EvM.seg) :: row 3 1 p.pa s.places.length p.pc (natsV s.places) :: row 28 1 p.ta p.txs.length p.tc (p.txs.map Tx.v) :: row 150 1 p.ca s.stp.cls.length p.cc (intsV s.stp.cls) :: F
def scanL (b : Nat) (p : SP) (s : SS) (F : List Seg) : List Seg := blk b (scells p s) 146 :: scanR p s F
structure SPOk (p : SP) (s : SS) : Prop where
  evs : p.es.map EvM.e = s.evs
  last : p.txs.map Tx.bs = s.last
structure SOk (s : SS) : Prop where
  evs : s.evs.length ≤ 4096
  places : s.places.length ≤ s.evs.length
  first : s.first ≤ s.evs.length
  cnt : s.last.length ≤ 32
  each : ∀ x ∈ s.last, x.length ≤ 32768
/-- a chunk's body behind the file so far -/
def chunkR (s : SS) (b : List UInt8) (p : Nat) : Bool × SS :=
  if (eventsR b).2.2.2 = false ∨ (eventsR b).1 ≠ s.evs.length ∨ 4096 < s.evs.length + (eventsR b).2.1.length ∨ (s.last.length > 0 ∧ fitsN s.first s.last.length (sizeT s.last) ((eventsR b).2.2.1.headD []).length = true) then (false, s)
  else (true, { s with first := (eventsR b).1, last := (eventsR b).2.2.1, evs := s.evs ++ (eventsR b).2.1, places := s.places ++ [p] })
theorem ego_len {b : List UInt8} {s : Rs} : ∀ {i : Nat} {l ts s'}, ego b s i = some (l, ts, s') → l.length = i ∧ ts.length = i ∧ ∀ t ∈ ts, t.length ≤ 32768
  | 0, l, ts, s', h => by
    rw [ego] at h
    obtain ⟨rfl, rfl, rfl⟩ := by simpa using h
    exact ⟨rfl, rfl, by simp⟩
  | i + 1, l, ts, s', h => by
    rw [ego] at h
    cases hg : ego b s i with
    | none => rw [hg] at h; cases h
    | some x =>
      obtain ⟨l1, t1, s1⟩ := x
      rw [hg] at h
      simp only [] at h
      split at h
      · cases h
      obtain ⟨rfl, rfl, rfl⟩ := by simpa using h
      obtain ⟨h1, h2, h3⟩ := ego_len hg
      refine ⟨by simp [h1], by simp [h2], fun t ht => ?_⟩
      rcases List.mem_append.1 ht with ht | ht
      · exact h3 t ht
      rw [List.mem_singleton.1 ht]; exact (rText_len (b := b) (m := 32768) (s := s1)).1
theorem eventsR_len (b : List UInt8) : (eventsR b).2.1.length ≤ 32 ∧ (eventsR b).2.2.1.length = (eventsR b).2.1.length ∧ (∀ t ∈ (eventsR b).2.2.1, t.length ≤ 32768) ∧ ((eventsR b).2.2.2 = true → 1 ≤ (eventsR b).2.1.length) := by
  unfold eventsR
  split
  · exact ⟨Nat.zero_le _, rfl, by simp, by simp⟩
  rename_i hk
  cases hg : ego b (rInts b ⟨0, 0⟩ 3).2 ((rInts b ⟨0, 0⟩ 3).1.getD 2 0) with
  | none => exact ⟨Nat.zero_le _, rfl, by simp, by simp⟩
  | some x =>
    obtain ⟨l1, t1, s1⟩ := x
    obtain ⟨h1, h2, h3⟩ := ego_len hg
    refine ⟨?_, ?_, h3, fun _ => ?_⟩ <;> simp only [] <;> omega
theorem SOk.size {s : SS} (h : SOk s) : sizeT s.last ≤ 2000000 := by
  have h1 := sizeT_le s.last 32768 h.each
  have h2 := h.cnt
  have h3 : s.last.length * (9 + 32768) ≤ 32 * (9 + 32768) := Nat.mul_le_mul_right _ h2
  omega
theorem chunkR_ok {s : SS} (h : SOk s) (b : List UInt8) (p : Nat) : SOk (chunkR s b p).2 := by
  unfold chunkR
  obtain ⟨h1, h2, h3, h4⟩ := eventsR_len b
  split
  · exact h
  rename_i hk
  have h5 := h.places
  have h6 : (eventsR b).2.2.2 = true := by
    cases he : (eventsR b).2.2.2 with
    | true => rfl
    | false => exact absurd (.inl he) hk
  have h7 := h4 h6
  refine ⟨?_, ?_, ?_, ?_, h3⟩ <;> simp only [List.length_append, List.length_singleton] <;> omega
theorem St.twosegs {w : World} {W : World} {l m S : List Seg} : St W w (Segs l :: Segs m :: S) ↔ St W w (Segs (l ++ m) :: S) := by
  rw [St.segs, St.segs, List.append_assoc]
  constructor
  · intro h
    have h2 : St W w (Segs m :: (l ++ S)) := h.perm (by
      refine (List.perm_append_comm (l₁ := l) (l₂ := Segs m :: S)).trans ?_
      show (Segs m :: (S ++ l)).Perm _
      exact (List.perm_append_comm).cons _)
    rw [St.segs] at h2
    exact h2.perm (by
      rw [← List.append_assoc, ← List.append_assoc]
      exact (List.perm_append_comm).append_right _)
  intro h
  have h2 : St W w (m ++ (l ++ S)) := h.perm (by
    rw [← List.append_assoc, ← List.append_assoc]
    exact (List.perm_append_comm).append_right _)
  have h3 := St.segs.2 h2
  exact h3.perm (by
    refine List.Perm.trans ?_ (List.perm_append_comm (l₁ := Segs m :: S) (l₂ := l))
    show List.Perm _ (Segs m :: (S ++ l))
    exact (List.perm_append_comm).cons _)
theorem headD_txs {txs : List Tx} {l : List (List UInt8)} (h : txs.map Tx.bs = l) (h0 : 0 < txs.length) : (l.headD []).length = txs[0].bs.length := by
  cases txs with
  | nil => exact absurd h0 (by simp)
  | cons x t => subst h; rfl
theorem sizeT_app1 (ts : List (List UInt8)) (t : Tx) : sizeT (ts ++ [t].map Tx.bs) = sizeT ts + (szN t.bs.length + t.bs.length) := sizeT_snoc ts t.bs
set_option maxRecDepth 8000 in
set_option maxHeartbeats 1000000 in
theorem chunk_ok {W w : World} {F : List Seg} {sb : Nat} {p : SP} {s : SS} (H : St W w (scanL sb p s F)) (hso : SOk s) (hsp : SPOk p s) {a : Option Addr} {n c q : Nat} {bs : List UInt8} (hr : RdIn W F a (bs.map B)) (hl : bs.length = n) (hn : n ≤ 100000) (hq : q ≤ 9223372036854775807) :
    Ok Tryd.prog 107 [.pointer (some ⟨sb, 0, none⟩), .slice a n c, .int .i64 (q : Int)].toArray w (fun r w' => ∃ p', SPOk p' (chunkR s bs q).2 ∧ p'.ba = p.ba ∧ p'.bn = p.bn ∧ p'.bc = p.bc ∧ r = .bool (chunkR s bs q).1 ∧ St W w' (scanL sb p' (chunkR s bs q).2 F)) := by
  have hsev := hso.evs
  have hspl := hso.places
  refine enter (n := 96) (rs := #[.tmp 6]) Tryd.func107 rfl rfl rfl rfl ?_
  refine w_seq ?_
  refine w_region ?_
  refine l_pbool rfl rfl ?_
  refine l_nil ?_
  refine w_seq ?_
  refine w_region ?_
  refine l_pslice rfl rfl ?_
  refine b_call rfl cb_82 rfl (events_ok H (hr.up 6 rfl) hl hn) (fun v w hv => ?_)
  obtain ⟨la, lc, es, ta, tc, txs, rfl, hes, htxs, H⟩ := hv
  have hel : es.length = (eventsR bs).2.1.length := by rw [← hes, List.length_map]
  have htl : txs.length = (eventsR bs).2.2.1.length := by rw [← htxs, List.length_map]
  obtain ⟨g1, g2, g3, g4⟩ := eventsR_len bs
  have htb : ∀ x ∈ txs, x.bs.length ≤ 32768 := fun x hx => g3 _ (by rw [← htxs]; exact List.mem_map.2 ⟨x, hx, rfl⟩)
  have hpl : p.es.length = s.evs.length := by rw [← hsp.evs, List.length_map]
  have hpt : p.txs.length = s.last.length := by rw [← hsp.last, List.length_map]
  refine l_ptup rfl rfl ?_
  refine l_pint rfl rfl ?_
  refine l_pslice rfl rfl ?_
  refine l_pslice rfl rfl ?_
  refine l_pbool rfl rfl ?_
  refine l_pint rfl rfl ?_
  refine l_pslice rfl rfl ?_
  refine l_pslice rfl rfl ?_
  refine l_pbool rfl rfl ?_
  refine l_nil ?_
  refine w_cutG (G := Unit) [6, 20, 21, 22, 23, 24, 25, 26, 27, 28, 29, 30, 31, 32, 33, 34, 35, 36, 37, 38, 39, 40, 41, 42, 43, 44, 45, 46, 47, 48, 49, 50, 51, 52, 53, 54, 55, 56, 57, 58, 59] (fun ⟨⟩ => []) (fun ⟨⟩ w => ¬ ((eventsR bs).2.2.2 = false ∨ (eventsR bs).1 ≠ s.evs.length ∨ 4096 < s.evs.length + (eventsR bs).2.1.length ∨ (s.last.length > 0 ∧ fitsN s.first s.last.length (sizeT s.last) ((eventsR bs).2.2.1.headD []).length = true)) ∧ St W w (row 30 13 la es.length lc (evsV es) :: Segs (es.map EvM.seg) :: row 28 1 ta txs.length tc (txs.map Tx.v) :: scanL sb p s F)) (fun _ => rfl) ?_ ?_
  · refine w_seq ?_
    refine w_drawT [37] [7, 15, 27, 36] [(0, 0), (1, 0), (2, 0), (3, 0), (4, 0), (5, 0), (6, 0), (7, 1), (8, 0), (9, 0), (10, 0), (11, 0), (12, 0), (13, 0), (14, 0), (15, 1), (16, 0), (17, 0), (18, 0), (19, 0), (20, 0), (21, 0), (22, 0), (23, 0), (24, 0), (25, 0), (26, 0), (27, 1), (28, 0), (29, 0), (30, 0), (31, 0), (32, 0), (33, 0), (34, 0), (35, 0), (36, 1), (37, 2), (38, 0), (39, 0)] mixed (by kernel_rfl) (fun _ _ _ h => fin_panic h) H (fun H => ?_)
    refine r_pbool rfl rfl rfl ?_
    refine r_pbool rfl rfl rfl ?_
    refine r_pbool rfl rfl rfl ?_
    refine r_split 22 rfl (fun h22 => ?_) (fun h22 => ?_)
    · try simp only [sH] at h22
      refine r_no rfl rfl ?_
      refine r_no rfl rfl ?_
      refine r_no rfl rfl ?_
      refine r_no rfl rfl ?_
      refine r_no1 rfl rfl ?_
      refine r_no rfl rfl ?_
      refine r_no rfl rfl ?_
      refine r_pickT (v := .bool _) rfl rfl rfl rfl ?_
      refine r_pbool rfl rfl rfl ?_
      refine r_no rfl rfl ?_
      refine r_no rfl rfl ?_
      refine r_no rfl rfl ?_
      refine r_no1 rfl rfl ?_
      refine r_no rfl rfl ?_
      refine r_no rfl rfl ?_
      refine r_no rfl rfl ?_
      refine r_no rfl rfl ?_
      refine r_no rfl rfl ?_
      refine r_pickT (v := .bool _) rfl rfl rfl rfl ?_
      refine r_pbool rfl rfl rfl ?_
      refine r_no rfl rfl ?_
      refine r_no rfl rfl ?_
      refine r_no rfl rfl ?_
      refine r_no rfl rfl ?_
      refine r_no1 rfl rfl ?_
      refine r_no rfl rfl ?_
      refine r_no rfl rfl ?_
      refine r_no rfl rfl ?_
      refine r_no rfl rfl ?_
      refine r_no rfl rfl ?_
      refine r_no rfl rfl ?_
      refine r_no rfl rfl ?_
      refine r_no rfl rfl ?_
      refine r_no1 rfl rfl ?_
      refine r_do rfl (l_no rfl (l_nil ⟨(fun h => nomatch h), ?_⟩))
      refine r_no rfl rfl ?_
      refine r_pickT (v := .bool _) rfl rfl rfl rfl ?_
      refine r_nil ?_
      refine w_cond_t rfl ?_
      refine w_seq ?_
      refine w_region ?_
      refine l_pbool rfl rfl ?_
      refine l_nil ?_
      refine w_ret ?_
      refine fin1 (v := .bool _) rfl ?_
      have e : chunkR s bs q = (false, s) := if_pos (.inl h22)
      rw [e]
      exact ⟨p, hsp, rfl, rfl, rfl, rfl, H.drop1.drop1.drop1⟩
    try simp only [sH] at h22
    refine r_pint rfl rfl rfl ?_
    refine r_pptr rfl rfl rfl ?_
    refine r_pptr rfl rfl rfl ?_
    refine r_w rfl rfl (fun w => q_fieldAddr rfl fo146_2 rfl) ?_
    refine r_v rfl rfl (fun w hS => q_load1 rfl c1_57 rfl (by first | exact hS.cell 0 rfl rfl | exact hS.cell 1 rfl rfl | exact hS.cell 2 rfl rfl | exact hS.cell 3 rfl rfl)) ?_
    refine r_w rfl rfl (fun w => q_lenSlice rfl el_57 rfl) ?_
    refine r_pbool rfl rfl rfl ?_
    refine r_pickF (v := .bool _) rfl rfl rfl rfl ?_
    refine r_pbool rfl rfl rfl ?_
    refine r_split 31 rfl (fun h31 => ?_) (fun h31 => ?_)
    · try simp only [sH] at h31
      refine r_no rfl rfl ?_
      refine r_no rfl rfl ?_
      refine r_no rfl rfl ?_
      refine r_no1 rfl rfl ?_
      refine r_no rfl rfl ?_
      refine r_no rfl rfl ?_
      refine r_no rfl rfl ?_
      refine r_no rfl rfl ?_
      refine r_no rfl rfl ?_
      refine r_pickT (v := .bool _) rfl rfl rfl rfl ?_
      refine r_pbool rfl rfl rfl ?_
      refine r_no rfl rfl ?_
      refine r_no rfl rfl ?_
      refine r_no rfl rfl ?_
      refine r_no rfl rfl ?_
      refine r_no1 rfl rfl ?_
      refine r_no rfl rfl ?_
      refine r_no rfl rfl ?_
      refine r_no rfl rfl ?_
      refine r_no rfl rfl ?_
      refine r_no rfl rfl ?_
      refine r_no rfl rfl ?_
      refine r_no rfl rfl ?_
      refine r_no rfl rfl ?_
      refine r_no1 rfl rfl ?_
      refine r_do rfl (l_no rfl (l_nil ⟨(fun h => nomatch h), ?_⟩))
      refine r_no rfl rfl ?_
      refine r_pickT (v := .bool _) rfl rfl rfl rfl ?_
      refine r_nil ?_
      refine w_cond_t rfl ?_
      refine w_seq ?_
      refine w_region ?_
      refine l_pbool rfl rfl ?_
      refine l_nil ?_
      refine w_ret ?_
      refine fin1 (v := .bool _) rfl ?_
      have e : chunkR s bs q = (false, s) := if_pos (.inr (.inl (by omega)))
      rw [e]
      exact ⟨p, hsp, rfl, rfl, rfl, rfl, H.drop1.drop1.drop1⟩
    try simp only [sH] at h31
    refine r_pptr rfl rfl rfl ?_
    refine r_pptr rfl rfl rfl ?_
    refine r_w rfl rfl (fun w => q_fieldAddr rfl fo146_2 rfl) ?_
    refine r_v rfl rfl (fun w hS => q_load1 rfl c1_57 rfl (by first | exact hS.cell 0 rfl rfl | exact hS.cell 1 rfl rfl | exact hS.cell 2 rfl rfl | exact hS.cell 3 rfl rfl)) ?_
    refine r_w rfl rfl (fun w => q_lenSlice rfl el_57 rfl) ?_
    refine r_pslice rfl rfl rfl ?_
    refine r_w rfl rfl (fun w => q_lenSlice rfl el_57 rfl) ?_
    first | refine r_w rfl rfl (fun w => q_add rfl rfl rfl (by simp only [inK]; omega)) ?_ | refine r_pint rfl rfl rfl ?_
    refine r_pbool rfl rfl rfl ?_
    refine r_pickF (v := .bool _) rfl rfl rfl rfl ?_
    refine r_pbool rfl rfl rfl ?_
    refine r_split 42 rfl (fun h42 => ?_) (fun h42 => ?_)
    · try simp only [sH] at h42
      refine r_no rfl rfl ?_
      refine r_no rfl rfl ?_
      refine r_no rfl rfl ?_
      refine r_no rfl rfl ?_
      refine r_no1 rfl rfl ?_
      refine r_no rfl rfl ?_
      refine r_no rfl rfl ?_
      refine r_no rfl rfl ?_
      refine r_no rfl rfl ?_
      refine r_no rfl rfl ?_
      refine r_no rfl rfl ?_
      refine r_no rfl rfl ?_
      refine r_no rfl rfl ?_
      refine r_no1 rfl rfl ?_
      refine r_do rfl (l_no rfl (l_nil ⟨(fun h => nomatch h), ?_⟩))
      refine r_no rfl rfl ?_
      refine r_pickT (v := .bool _) rfl rfl rfl rfl ?_
      refine r_nil ?_
      refine w_cond_t rfl ?_
      refine w_seq ?_
      refine w_region ?_
      refine l_pbool rfl rfl ?_
      refine l_nil ?_
      refine w_ret ?_
      refine fin1 (v := .bool _) rfl ?_
      have e : chunkR s bs q = (false, s) := if_pos (.inr (.inr (.inl (by omega))))
      rw [e]
      exact ⟨p, hsp, rfl, rfl, rfl, rfl, H.drop1.drop1.drop1⟩
    try simp only [sH] at h42
    refine r_pptr rfl rfl rfl ?_
    refine r_pptr rfl rfl rfl ?_
    refine r_w rfl rfl (fun w => q_fieldAddr rfl fo146_4 rfl) ?_
    refine r_w rfl rfl (fun w => q_fieldAddr rfl fo84_2 rfl) ?_
    refine r_v rfl rfl (fun w hS => q_load1 rfl c1_31 rfl (by first | exact hS.cell 0 rfl rfl | exact hS.cell 1 rfl rfl | exact hS.cell 2 rfl rfl | exact hS.cell 3 rfl rfl)) ?_
    refine r_w rfl rfl (fun w => q_lenSlice rfl el_31 rfl) ?_
    refine r_pbool rfl rfl rfl ?_
    refine r_pbool rfl rfl rfl ?_
    refine r_split 50 rfl (fun h50 => ?_) (fun h50 => ?_)
    · try simp only [sH] at h50
      have h0 : 0 < txs.length := by have := g4 h22; omega
      have h0b := htb _ (List.getElem_mem h0)
      obtain ⟨tb, to_, hta, _⟩ := rd_cell ((H.rowInv (i := 2) rfl).2.2.2.2) (txv_get h0)
      refine r_pptr rfl rfl rfl ?_
      refine r_pptr rfl rfl rfl ?_
      refine r_w rfl rfl (fun w => q_fieldAddr rfl fo146_4 rfl) ?_
      refine r_pslice rfl rfl rfl ?_
      refine r_w rfl rfl (fun w => q_indexSliceE 0 rfl el_31 rfl hta rfl rfl h0) ?_
      refine r_v rfl rfl (fun w hS => q_load1 (v := .slice txs[0].a txs[0].bs.length txs[0].c) rfl c1_28 rfl (rd_at hta (hS.rowInv (i := 2) rfl).2.2.2.2 (txv_get h0))) ?_
      refine r_do rfl ?_
      refine b_call rfl cb_73 rfl (Ok_perm (pickP [3, 0, 1, 2] (pre := [_, _, _, _]) rfl rfl) (fun H => fitsS_ok H (by have := hso.first; have := hso.evs; omega) (by have := hso.size; omega) (by omega)) H) (fun v w hv => ?_)
      obtain ⟨rfl, H⟩ := hv
      refine l_nil ⟨(fun h => nomatch h), ?_⟩
      refine r_pickT (v := .bool _) rfl rfl rfl rfl ?_
      refine r_pickF (v := .bool _) rfl rfl rfl rfl ?_
      refine r_nil ?_
      refine w_cond rfl (fun c1 => ?_) (fun c1 => ?_)
      · try simp only [sH] at c1
        refine w_seq ?_
        refine w_region ?_
        refine l_pbool rfl rfl ?_
        refine l_nil ?_
        refine w_ret ?_
        refine fin1 (v := .bool _) rfl ?_
        have e : chunkR s bs q = (false, s) := if_pos (.inr (.inr (.inr ⟨by omega, by rw [headD_txs htxs h0, ← hpt]; exact c1⟩)))
        rw [e]
        exact ⟨p, hsp, rfl, rfl, rfl, rfl, H.drop1.drop1.drop1⟩
      try simp only [sH] at c1
      refine w_skip ?_
      refine ⟨by repeat' first | exact aM | exact aR | refine aI rfl ?_ | refine aU rfl ?_ | refine aL rfl ?_, ?_⟩
      refine ⟨⟨⟩, trivial, ?_, H⟩
      rintro (h | h | h | ⟨h, h'⟩)
      · rw [h22] at h; cases h
      · omega
      · omega
      rw [headD_txs htxs h0, ← hpt, c1] at h'; cases h'
    try simp only [sH] at h50
    refine r_no rfl rfl ?_
    refine r_no rfl rfl ?_
    refine r_no rfl rfl ?_
    refine r_no rfl rfl ?_
    refine r_no rfl rfl ?_
    refine r_no1 rfl rfl ?_
    refine r_do rfl (l_no rfl (l_nil ⟨(fun h => nomatch h), ?_⟩))
    refine r_pickF (v := .bool _) rfl rfl rfl rfl ?_
    refine r_pickF (v := .bool _) rfl rfl rfl rfl ?_
    refine r_nil ?_
    refine w_cond_f rfl ?_
    refine w_skip ?_
    refine ⟨by repeat' first | exact aM | exact aR | refine aI rfl ?_ | refine aU rfl ?_ | refine aL rfl ?_, ?_⟩
    refine ⟨⟨⟩, trivial, ?_, H⟩
    rintro (h | h | h | ⟨h, h'⟩)
    · rw [h22] at h; cases h
    · omega
    · omega
    omega
  rintro ⟨⟩ ρ1 w ⟨hk, H⟩
  have hok : (eventsR bs).2.2.2 = true := by
    cases he : (eventsR bs).2.2.2 with
    | true => rfl
    | false => exact absurd (.inl he) hk
  have h1e := g4 hok
  refine w_seq ?_
  refine w_region ?_
  refine l_pptr rfl rfl ?_
  refine l_pint rfl rfl ?_
  refine l_v rfl (q_build (cs := [.slice none 0 0, .int .i64 0, .int .i64 ((eventsR bs).1 : Int), .slice none 0 0, .int .i64 0]) rfl sp_84 rfl) ?_
  refine l_pptr rfl rfl ?_
  refine l_v rfl (q_fieldAddr rfl fo146_4 rfl) ?_
  refine b_store (cs' := [.slice p.ba p.bn p.bc, I s.stp.f, I s.stp.room, I s.stp.pat, .bool s.stp.ung, .slice p.ca s.stp.cls.length p.cc, .slice p.ea p.es.length p.ec, .slice p.pa s.places.length p.pc, .slice none 0 0, .int .i64 0, .int .i64 ((eventsR bs).1 : Int), .slice none 0 0, .int .i64 0, .int .i64 (s.right : Int)]) rfl sz_84 rfl rfl rfl rfl rfl H 3 rfl rfl rfl (fun w H => ?_)
  refine l_nil ?_
  refine w_seq ?_
  refine w_seq ?_
  refine w_region ?_
  refine l_pslice rfl rfl ?_
  refine l_v rfl (q_lenSlice rfl el_31 rfl) ?_
  refine l_pint rfl rfl ?_
  refine l_nil ?_
  refine w_block ?_
  refine w_loopG (G := Nat × Option Addr × Nat) [12, 67, 68, 69, 70, 71, 72, 73, 74, 75, 76] (fun ⟨i, na, nc⟩ => [(67, .int .i64 ((i : Nat) : Int))]) (fun m ⟨i, na, nc⟩ w => m + i = txs.length ∧ St W w (blk sb ([.slice p.ba p.bn p.bc, I s.stp.f, I s.stp.room, I s.stp.pat, .bool s.stp.ung, .slice p.ca s.stp.cls.length p.cc, .slice p.ea p.es.length p.ec, .slice p.pa s.places.length p.pc, .slice none 0 0, .int .i64 0, .int .i64 ((eventsR bs).1 : Int), .slice na i nc, .int .i64 (sizeT ((txs.take (i)).map Tx.bs) : Int), .int .i64 (s.right : Int)]) 146 :: row 28 1 na i nc ((txs.take (i)).map Tx.v) :: row 30 13 la es.length lc (evsV es) :: Segs (es.map EvM.seg) :: row 28 1 ta txs.length tc (txs.map Tx.v) :: row 30 13 p.ea p.es.length p.ec (evsV p.es) :: Segs (p.es.map EvM.seg) :: row 3 1 p.pa s.places.length p.pc (natsV s.places) :: row 150 1 p.ca s.stp.cls.length p.cc (intsV s.stp.cls) :: F)) (fun _ => rfl) ?_ ?_
  · exact ⟨txs.length, (0, none, 0), ⟨rfl, trivial⟩, rfl, St.pick [4, 0, 1, 2, 3, 5, 6, 7, 9] (pre := [_, _, _, _, _, _, _, _, _, _]) rfl (St.newRow (T := 28) (sz := 1) H) rfl⟩
  rintro m ⟨i, na, nc⟩ ρ1 w ⟨hmi, H⟩
  refine w_seq ?_
  refine w_region ?_
  refine l_pbool rfl rfl ?_
  refine l_nil ?_
  refine w_seq ?_
  refine w_cond rfl (fun c2 => ?_) (fun c2 => ?_)
  · try simp only [sH] at c2
    have hi : i < txs.length := by omega
    have hib := htb _ (List.getElem_mem hi)
    obtain ⟨tb, to_, hta, _⟩ := rd_cell ((H.rowInv (i := 4) rfl).2.2.2.2) (txv_get hi)
    have hst := sizeT_le ((txs.take i).map Tx.bs) 32768 (fun t ht => by obtain ⟨x, hx, rfl⟩ := List.mem_map.1 ht; exact htb x (List.mem_of_mem_take hx))
    rw [List.length_map, List.length_take] at hst
    have hst2 : min i txs.length * (9 + 32768) ≤ 32 * (9 + 32768) := Nat.mul_le_mul_right _ (by omega)
    refine w_skip ?_
    refine w_seq ?_
    refine w_block ?_
    refine w_seq ?_
    refine w_region ?_
    refine l_v rfl (q_indexSliceE i rfl el_31 rfl hta rfl rfl hi) ?_
    refine l_v rfl (q_load1 (v := .slice txs[i].a txs[i].bs.length txs[i].c) rfl c1_28 rfl (rd_at hta (H.rowInv (i := 4) rfl).2.2.2.2 (txv_get hi))) ?_
    refine l_pslice rfl rfl ?_
    refine l_nil ?_
    refine w_region ?_
    refine l_pptr rfl rfl ?_
    refine l_pptr rfl rfl ?_
    refine l_v rfl (q_fieldAddr rfl fo146_4 rfl) ?_
    refine l_pslice rfl rfl ?_
    refine b_call rfl cb_74 rfl (putS_ok H (by omega) (by omega) (by omega)) (fun v w hv => ?_)
    obtain ⟨rfl, na', nc', H⟩ := hv
    refine l_nil ?_
    refine w_region ?_
    first | refine l_v rfl (q_add rfl rfl rfl (by simp only [inK]; omega)) ?_ | refine l_pint rfl rfl ?_
    refine l_pint rfl rfl ?_
    refine l_nil ?_
    refine ⟨by repeat' first | exact aM | exact aR | refine aI rfl ?_ | refine aU rfl ?_ | refine aL rfl ?_, ?_⟩
    refine ⟨m - 1, (i + 1, na', nc'), by omega, ⟨by exact congrArg (Value.int IntKind.i64) (Int.natCast_succ i).symm, trivial⟩, by omega, ?_⟩
    rw [List.take_succ_eq_append_getElem hi, List.map_append, List.map_append, sizeT_app1]
    exact H
  try simp only [sH] at c2
  obtain rfl : i = txs.length := by omega
  rw [List.take_length] at H
  refine w_exit ?_
  refine w_seq ?_
  refine w_region ?_
  refine l_pptr rfl rfl ?_
  refine l_pptr rfl rfl ?_
  refine l_pptr rfl rfl ?_
  refine l_v rfl (q_fieldAddr rfl fo146_2 rfl) ?_
  refine l_v rfl (q_load1 rfl c1_57 rfl (by first | exact H.cell 0 rfl rfl | exact H.cell 1 rfl rfl | exact H.cell 2 rfl rfl | exact H.cell 3 rfl rfl)) ?_
  refine l_pslice rfl rfl ?_
  refine b_append rfl el_57 ze_30 rfl rfl rfl H 5 rfl (ys := evsV es) ((H.rowInv (i := 2) rfl).2.2.2.2) (by rw [evsV_len, Nat.mul_comm]) (oneEv _) ⟨by have := hso.evs; omega, by have := hso.evs; simp only [maxLen]; omega⟩ (fun a83 c83 w H => ?_)
  refine l_pptr rfl rfl ?_
  refine l_v rfl (q_fieldAddr rfl fo146_2 rfl) ?_
  refine b_store (cs' := [.slice p.ba p.bn p.bc, I s.stp.f, I s.stp.room, I s.stp.pat, .bool s.stp.ung, .slice p.ca s.stp.cls.length p.cc, .slice a83 (p.es.length + es.length) c83, .slice p.pa s.places.length p.pc, .slice none 0 0, .int .i64 0, .int .i64 ((eventsR bs).1 : Int), .slice na txs.length nc, .int .i64 (sizeT (txs.map Tx.bs) : Int), .int .i64 (s.right : Int)]) rfl sz_57 rfl rfl rfl rfl rfl H 0 rfl rfl rfl (fun w H => ?_)
  refine l_nil ?_
  refine w_seq ?_
  refine w_region ?_
  refine l_pptr rfl rfl ?_
  refine l_pptr rfl rfl ?_
  refine l_pptr rfl rfl ?_
  refine l_v rfl (q_fieldAddr rfl fo146_3 rfl) ?_
  refine l_v rfl (q_load1 rfl c1_66 rfl (by first | exact H.cell 0 rfl rfl | exact H.cell 1 rfl rfl | exact H.cell 2 rfl rfl | exact H.cell 3 rfl rfl)) ?_
  refine l_pint rfl rfl ?_
  refine b_buildSlice (cs := [I (q : Int)]) rfl el_66 ze_3 rfl rfl rfl H (fun b92 w H => ?_)
  refine b_append rfl el_66 ze_3 rfl rfl rfl H 8 rfl (Rd.mk (H.cells0 0 rfl)) rfl (fun u hu => by obtain rfl := List.mem_singleton.1 hu; rfl) ⟨by have := hso.evs; have := hso.places; omega, by have := hso.evs; have := hso.places; simp only [maxLen]; omega⟩ (fun a93 c93 w H => ?_)
  have H := H.drop1
  refine l_pptr rfl rfl ?_
  refine l_v rfl (q_fieldAddr rfl fo146_3 rfl) ?_
  refine b_store (cs' := [.slice p.ba p.bn p.bc, I s.stp.f, I s.stp.room, I s.stp.pat, .bool s.stp.ung, .slice p.ca s.stp.cls.length p.cc, .slice a83 (p.es.length + es.length) c83, .slice a93 (s.places.length + 1) c93, .slice none 0 0, .int .i64 0, .int .i64 ((eventsR bs).1 : Int), .slice na txs.length nc, .int .i64 (sizeT (txs.map Tx.bs) : Int), .int .i64 (s.right : Int)]) rfl sz_66 rfl rfl rfl rfl rfl H 0 rfl rfl rfl (fun w H => ?_)
  refine l_nil ?_
  refine w_seq ?_
  refine w_region ?_
  refine l_pbool rfl rfl ?_
  refine l_nil ?_
  refine w_ret ?_
  refine fin1 (v := .bool _) rfl ?_
  have e : chunkR s bs q = (true, { s with first := (eventsR bs).1, last := (eventsR bs).2.2.1, evs := s.evs ++ (eventsR bs).2.1, places := s.places ++ [q] }) := if_neg hk
  rw [e]
  refine ⟨{ p with ea := a83, ec := c83, es := p.es ++ es, pa := a93, pc := c93, ta := na, tc := nc, txs := txs }, ⟨?_, htxs⟩, rfl, rfl, rfl, rfl, ?_⟩
  · show (p.es ++ es).map EvM.e = _
    rw [List.map_append, hsp.evs, hes]
  have e1 : (p.es ++ es).length = p.es.length + es.length := List.length_append
  have e2 : (s.places ++ [q]).length = s.places.length + 1 := by rw [List.length_append]; rfl
  have e3 : natsV (s.places ++ [q]) = natsV s.places ++ [I (q : Int)] := by unfold natsV; rw [List.map_append]; rfl
  unfold scanL scanR scells
  simp only []
  rw [e1, e2, e3, evsV_app, List.map_append, ← htxs]
  exact St.pick [1, 2, 0, 3, 4, 5] (pre := [_, _, _, _, _, _]) rfl (St.twosegs.1 (St.pick [6, 3, 0, 5, 7, 1, 8] (pre := [_, _, _, _, _, _, _, _, _]) rfl H rfl)) rfl
end Go.Proofs.YtfpmnhmdphaceaaDoor
