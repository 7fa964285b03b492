/- Walks through the tape's functions. -/
import Derived.Test.YtfpmnhmdphaceaaDoorTap21
namespace Go.Proofs.YtfpmnhmdphaceaaDoor
open Go.EW
attribute [local irreducible] EW.W EW.L EW.fin block8 outB shaL
set_option linter.unusedVariables false
set_option linter.unusedSimpArgs false
attribute [local irreducible] crcN crcB crcL sealL openR sealR

def outT (t : TS) : List UInt8 := if t.texts.length > 0 then t.file ++ frameC t.first t.texts else t.file
def plT (t : TS) : List Nat := if t.texts.length > 0 then t.places ++ [t.file.length] else t.places
def fileT (t : TS) : List UInt8 := outT t ++ footC t.n (plT t) (outT t) ++ be4 (footC t.n (plT t) (outT t)).length
theorem outT_len {t : TS} (h : TOk t) : (outT t).length ≤ 300000000 := by
  have h1 := h.flen
  have h2 := seal_le (chunkB t.first t.texts)
  unfold outT frameC
  split
  · rw [List.length_append]; omega
  · omega
theorem plT_len {t : TS} (h : TOk t) : (plT t).length ≤ 4097 := by
  have h1 := h.places
  have h2 := h.n
  unfold plT
  split
  · rw [List.length_append, List.length_singleton]; omega
  · omega
/-- the places are before the file's end -/
def PlOk (t : TS) : Prop := ∀ x ∈ t.places, x ≤ 200000000
theorem plT_ok {t : TS} (h : TOk t) (hp : PlOk t) : ∀ x ∈ plT t, x ≤ 9223372036854775807 := by
  have h1 := h.flen
  unfold plT
  intro x hx
  split at hx
  · rcases List.mem_append.1 hx with hx | hx
    · have := hp x hx; omega
    · obtain rfl := List.mem_singleton.1 hx; omega
  · have := hp x hx; omega

theorem oneN (l : List Nat) : ∀ v ∈ natsV l, v.oneCell' = true := fun v hv => by
  obtain ⟨u, _, rfl⟩ := List.mem_map.1 hv
  rfl
theorem TBytes_ok {W w : World} {F : List Seg} (hN : NibOk W) {b : Nat} {p : TP} {t : TS} (H : St W w (tapeL b p t F)) (ht : TOk t) (hp : p.ts = t.texts) (hpk : PlOk t) :
    Ok Tryd.prog 23 [.pointer (some ⟨b, 0, none⟩)].toArray w (fun r w' => ∃ a' c', r = .slice a' (fileT t).length c' ∧ St W w' (row 5 1 a' (fileT t).length c' ((fileT t).map B) :: tapeL b p t F)) := by
  have hfl := ht.flen
  have hpn := ht.places
  have htn := ht.n
  have hcn := TP.cnt hp
  have hol := outT_len ht
  have hql := plT_len ht
  refine enter (n := 51) (rs := #[.tmp 2]) Tryd.func23 rfl rfl rfl rfl ?_
  refine w_seq ?_
  refine w_region ?_
  refine l_pslice rfl rfl ?_
  refine l_nil ?_
  refine w_seq ?_
  refine w_seq ?_
  refine w_region ?_
  refine l_pptr rfl rfl ?_
  refine l_v rfl (q_eqlNilF rfl pt_61 rfl rfl) ?_
  refine l_nil ?_
  refine w_cond_f rfl ?_
  refine w_skip ?_
  refine w_seq ?_
  refine w_region ?_
  refine l_pptr rfl rfl ?_
  refine l_pptr rfl rfl ?_
  refine l_v rfl (q_fieldAddr rfl fo86_0 rfl) ?_
  refine l_v rfl (q_load1 rfl c1_28 rfl (by first | exact H.cell 0 rfl rfl | exact H.cell 1 rfl rfl | exact H.cell 2 rfl rfl)) ?_
  refine b_append rfl el_28 ze_5 rfl rfl rfl (St.newRow (T := 5) (sz := 1) H) 0 rfl (ys := t.file.map B) ((H.rowInv (i := 3) rfl).2.2.2.2) (by simp) (EW.oneB _) ⟨by omega, by simp only [maxLen]; omega⟩ (fun a12 c12 w H => ?_)
  rw [Nat.zero_add t.file.length] at H ⊢
  refine l_pslice rfl rfl ?_
  refine l_nil ?_
  refine w_seq ?_
  refine w_region ?_
  refine l_pptr rfl rfl ?_
  refine l_pptr rfl rfl ?_
  refine l_v rfl (q_fieldAddr rfl fo86_1 rfl) ?_
  refine l_v rfl (q_load1 rfl c1_66 rfl (by first | exact H.cell 0 rfl rfl | exact H.cell 1 rfl rfl | exact H.cell 2 rfl rfl)) ?_
  refine b_append rfl el_66 ze_3 rfl rfl rfl (St.newRow (T := 3) (sz := 1) H) 0 rfl (ys := natsV t.places) ((H.rowInv (i := 5) rfl).2.2.2.2) (by simp [natsV]) (oneN _) ⟨by omega, by simp only [maxLen]; omega⟩ (fun a17 c17 w H => ?_)
  rw [Nat.zero_add t.places.length] at H ⊢
  have H : St W w (row 5 1 a12 (t.file.length) c12 ((t.file).map B) :: row 3 1 a17 t.places.length c17 (natsV t.places) :: tapeL b p t F) := H.swap01
  refine l_pslice rfl rfl ?_
  refine l_nil ?_
  refine w_cutG (G := Option Addr × Nat × Option Addr × Nat) [3, 4, 18, 19, 20, 21, 22, 23, 24, 25, 26, 27, 28, 29, 30, 31, 32, 33, 34, 35, 36] (fun ⟨oa, oc, qa, qc⟩ => [(3, .slice oa (outT t).length oc), (4, .slice qa (plT t).length qc)]) (fun ⟨oa, oc, qa, qc⟩ w => St W w (row 5 1 oa ((outT t).length) oc ((outT t).map B) :: row 3 1 qa (plT t).length qc (natsV (plT t)) :: tapeL b p t F)) (fun _ => rfl) ?_ ?_
  · refine w_seq ?_
    refine w_region ?_
    refine l_pptr rfl rfl ?_
    refine l_pptr rfl rfl ?_
    refine l_v rfl (q_fieldAddr rfl fo86_2 rfl) ?_
    refine l_v rfl (q_fieldAddr rfl fo84_2 rfl) ?_
    refine l_v rfl (q_load1 rfl c1_31 rfl (by first | exact H.cell 0 rfl rfl | exact H.cell 1 rfl rfl | exact H.cell 2 rfl rfl)) ?_
    refine l_v rfl (q_lenSlice rfl el_31 rfl) ?_
    refine l_pbool rfl rfl ?_
    refine l_nil ?_
    refine w_cond rfl (fun c1 => ?_) (fun c1 => ?_)
    · try simp only [sH] at c1
      refine w_seq ?_
      refine w_region ?_
      refine l_pslice rfl rfl ?_
      refine l_pslice rfl rfl ?_
      refine l_v rfl (q_lenSlice rfl el_28 rfl) ?_
      refine b_buildSlice (cs := [I (t.file.length : Int)]) rfl el_66 ze_3 rfl rfl rfl H (fun b28 w H => ?_)
      refine b_append rfl el_66 ze_3 rfl rfl rfl H 2 rfl (Rd.mk (H.cells0 0 rfl)) rfl (fun u hu => by obtain rfl := List.mem_singleton.1 hu; rfl) ⟨by omega, by simp only [maxLen]; omega⟩ (fun a29 c29 w H => ?_)
      have H := H.drop1
      refine l_pslice rfl rfl ?_
      refine l_nil ?_
      refine w_region ?_
      refine l_pslice rfl rfl ?_
      refine l_pptr rfl rfl ?_
      refine l_pptr rfl rfl ?_
      refine l_v rfl (q_fieldAddr rfl fo86_2 rfl) ?_
      refine l_v rfl (q_loadN (vs := [.slice none 0 0, .int .i64 0, .int .i64 (t.first : Int), .slice p.ta p.txs.length p.tc, .int .i64 (sizeT p.ts : Int)]) rfl ag_84 rfl rfl ((H.cells 2 rfl).sub 2 5)) ?_
      refine b_call rfl cb_67 rfl (frame_ok hN H (RdIn.row 3 rfl) (txs_segs 4 rfl (TP.each hp ht)) (by rw [TP.cnt hp]; have := ht.cnt; omega) (by have := ht.first; have := ht.n; omega) rfl) (fun v w hv => ?_)
      obtain ⟨a35, c35, rfl, H⟩ := hv
      refine b_append rfl el_28 ze_5 rfl rfl rfl H 1 rfl (ys := (sealR (chunkB t.first (p.txs.map Tx.bs))).1.map B) ((H.rowInv (i := 0) rfl).2.2.2.2) (by simp) (EW.oneB _) ⟨by have := seal_le (chunkB t.first (p.txs.map Tx.bs)); omega, by have := seal_le (chunkB t.first (p.txs.map Tx.bs)); simp only [maxLen]; omega⟩ (fun a36 c36 w H => ?_)
      have H := H.drop1
      refine l_pslice rfl rfl ?_
      refine l_nil ?_
      refine ⟨by repeat' first | exact aM | exact aR | refine aI rfl ?_ | refine aU rfl ?_ | refine aL rfl ?_, ?_⟩
      have hF : (sealR (chunkB t.first (p.txs.map Tx.bs))).1 = frameC t.first t.texts := by unfold frameC; rw [← hp]; rfl
      have ho : outT t = t.file ++ frameC t.first t.texts := if_pos (by omega)
      have hq : plT t = t.places ++ [t.file.length] := if_pos (by omega)
      rw [hF] at H
      have e1 : (t.file ++ frameC t.first t.texts).length = t.file.length + (frameC t.first t.texts).length := List.length_append
      have e2 : (t.places ++ [t.file.length]).length = t.places.length + 1 := by simp
      refine ⟨(a36, c36, a29, c29), ⟨?_, ?_, trivial⟩, ?_⟩
      · rw [ho, e1, ← hF]; rfl
      · rw [hq, e2]; rfl
      · rw [ho, hq, e1, e2, List.map_append]
        unfold natsV at H ⊢
        rw [List.map_append]
        exact H
    · try simp only [sH] at c1
      refine w_skip ?_
      refine ⟨by repeat' first | exact aM | exact aR | refine aI rfl ?_ | refine aU rfl ?_ | refine aL rfl ?_, ?_⟩
      have ho : outT t = t.file := if_neg (by omega)
      have hq : plT t = t.places := if_neg (by omega)
      exact ⟨(a12, c12, a17, c17), ⟨by rw [ho]; rfl, by rw [hq]; rfl, trivial⟩, by rw [ho, hq]; exact H⟩
  · rintro ⟨oa, oc, qa, qc⟩ ρ1 w H
    refine w_seq ?_
    refine w_region ?_
    refine l_pptr rfl rfl ?_
    refine l_pptr rfl rfl ?_
    refine l_v rfl (q_fieldAddr rfl fo86_3 rfl) ?_
    refine l_v rfl (q_load1 rfl c1_3 rfl (by first | exact H.cell 0 rfl rfl | exact H.cell 1 rfl rfl | exact H.cell 2 rfl rfl)) ?_
    refine l_pslice rfl rfl ?_
    refine l_pslice rfl rfl ?_
    refine b_call rfl cb_68 rfl (foot_ok hN H (RdIn.row 1 rfl) rfl (RdIn.row 0 rfl) rfl (H.rowInv (i := 0) rfl).2.1 (by omega) (by omega) (by omega) (plT_ok ht hpk)) (fun v w hv => ?_)
    obtain ⟨a43, c43, rfl, H⟩ := hv
    refine l_pslice rfl rfl ?_
    refine l_nil ?_
    refine w_seq ?_
    refine w_region ?_
    refine l_pslice rfl rfl ?_
    refine l_pslice rfl rfl ?_
    have hsl : (footC t.n (plT t) (outT t)).length ≤ 32768 := seal_le _
    refine b_append rfl el_28 ze_5 rfl rfl rfl H 1 rfl (ys := (footC t.n (plT t) (outT t)).map B) ((H.rowInv (i := 0) rfl).2.2.2.2) (by simp) (EW.oneB _) ⟨by omega, by simp only [maxLen]; omega⟩ (fun a46 c46 w H => ?_)
    refine l_pslice rfl rfl ?_
    refine l_v rfl (q_lenSlice rfl el_28 rfl) ?_
    refine b_call rfl cb_69 rfl (four_ok H (footC t.n (plT t) (outT t)).length) (fun v w hv => ?_)
    obtain ⟨b49, rfl, H⟩ := hv
    have hsl : (footC t.n (plT t) (outT t)).length ≤ 32768 := seal_le _
    refine b_append rfl el_28 ze_5 rfl rfl rfl H 2 rfl (ys := (be4 (footC t.n (plT t) (outT t)).length).map B) ((H.rowInv (i := 0) rfl).2.2.2.2) rfl (EW.oneB _) ⟨by omega, by simp only [maxLen]; omega⟩ (fun a50 c50 w H => ?_)
    refine l_pslice rfl rfl ?_
    refine l_nil ?_
    refine w_ret ?_
    refine fin1 (v := .slice _ _ _) rfl ?_
    have e : (fileT t).length = (outT t).length + (footC t.n (plT t) (outT t)).length + 4 := by unfold fileT; rw [List.length_append, List.length_append]; rfl
    rw [← List.map_append, ← List.map_append] at H
    refine ⟨a50, c50, by rw [e], ?_⟩
    rw [e]
    exact ((H.drop1.drop1).erase 1)

end Go.Proofs.YtfpmnhmdphaceaaDoor
