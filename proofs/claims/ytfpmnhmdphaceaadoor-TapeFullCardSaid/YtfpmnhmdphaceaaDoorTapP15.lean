/- A file of a tape with one event too many; plain lists, no program. -/
import Derived.Test.YtfpmnhmdphaceaaDoorTapP14
namespace Go.Proofs.YtfpmnhmdphaceaaDoor
open Go.EW
set_option linter.unusedVariables false
set_option linter.unusedSimpArgs false
attribute [local irreducible] crcL shaL sealL sealR openR be4 footB
/-! a file with one event too many -/
theorem cs_more {A : List (List Txt)} {X : List Txt} {b : Txt} {m : Nat} (hb : b.length ≤ 100) (hX : ∀ t ∈ X, t = b) (hm : X.length = m) (h32 : m < 32) : addC ⟨A, X⟩ b = ⟨A, X ++ [b]⟩ := by
  refine add_fit ?_
  have h1 := sizeT_le X 100 (fun t ht => by rw [hX t ht]; exact hb)
  have h2 := (szN_le (cnt A)).2
  have h3 := (szN_le (X ++ [b]).length).2
  have h4 := (szN_le b.length).2
  have h5 : X.length * (9 + 100) ≤ 32 * (9 + 100) := Nat.mul_le_mul_right _ (by omega)
  rw [fit_eq, decide_eq_true (by omega : X.length < 32), Bool.true_and, decide_eq_true_iff, chunkB_len, sizeT_snoc]
  omega
theorem cs_new {A : List (List Txt)} {X : List Txt} {b : Txt} (h32 : X.length = 32) : addC ⟨A, X⟩ b = ⟨A ++ [X], [b]⟩ := by
  have hf : fitC ⟨A, X⟩ b = false := by rw [fit_eq, decide_eq_false (by omega : ¬ X.length < 32), Bool.false_and]
  rw [add_new (c := ⟨A, X⟩) (by show X.length > 0; omega) hf, all_cur (by omega)]
theorem cs_rep {b : Txt} (hb : b.length ≤ 100) : ∀ n, csOf (List.replicate (n + 1) b) = ⟨List.replicate (n / 32) (List.replicate 32 b), List.replicate (n % 32 + 1) b⟩
  | 0 => rfl
  | n + 1 => by
    have ih := cs_rep hb n
    have hrep : List.replicate (n + 1 + 1) b = List.replicate (n + 1) b ++ [b] := List.replicate_succ'
    rw [hrep, csOf_snoc, ih]
    by_cases hr : n % 32 + 1 < 32
    · rw [cs_more hb (fun t ht => (List.mem_replicate.1 ht).2) List.length_replicate hr]
      rw [show (n + 1) / 32 = n / 32 by omega, show (n + 1) % 32 + 1 = n % 32 + 1 + 1 by omega, List.replicate_succ' (n := n % 32 + 1) (a := b)]
    have h31 : n % 32 + 1 = 32 := by omega
    rw [h31, cs_new List.length_replicate]
    rw [show (n + 1) / 32 = n / 32 + 1 by omega, show (n + 1) % 32 = 0 by omega, List.replicate_succ' (n := n / 32) (a := List.replicate 32 b)]
    rfl
theorem chs_full {b : Txt} (hb : b.length ≤ 100) : chsOf (List.replicate 4097 b) = List.replicate 128 (List.replicate 32 b) ++ [[b]] := by
  have h := cs_rep hb 4096
  rw [show 4096 / 32 = 128 from rfl, show 4096 % 32 + 1 = 1 from rfl] at h
  unfold chsOf
  rw [h, all_cur (by rw [List.length_replicate]; decide)]
  rfl
/-- a chunk that has an event too many -/
theorem loop_over {s : Stp} {h bs : Txt} {cs : List (List Txt)} {m k : Nat} {c : List Txt} {y : SS} (hS : Sc s h cs m y) (hc : cs[m]? = some c) (hgr : Grd cs) (hg : GoodT cs.flatten) (hp : (layL h (cs.take (m + 1))).file <+: bs) (hm : cnt (cs.take m) ≤ maxI) (hover : 4096 < cnt (cs.take m) + c.length) :
    loopR bs (k + 1) y (qOf h cs m) = (220, qOf h cs m, { y with right := qOf h cs m }) := by
  have ok := hgr.ok m c hc
  have hb := body_q hc ok hp
  have hev := eventsR_chunk (f := cnt (cs.take m)) (ts := c) hm ok.pos ok.cnt (good_chunk hc hg)
  have hlen : y.evs.length = cnt (cs.take m) := by rw [hS.evs, List.length_map, ← cnt_flat]
  have hno : (chunkR { y with right := qOf h cs m } (chunkB (cnt (cs.take m)) c) (qOf h cs m)).1 = false := by
    unfold chunkR
    rw [if_pos (.inr (.inr (.inl (by rw [hev]; show 4096 < y.evs.length + (c.map evOf).length; rw [hlen, List.length_map]; exact hover))))]
  rw [loopR, hb]
  simp only []
  rw [number_chunk, if_neg (by simp), if_neg (by decide), hno, if_pos rfl]
theorem run_over {s : Stp} (hc : chkS s = 0) (hso : StpOk s) {us : List Txt} (hlen : ∀ t ∈ us, t.length ≤ 20000) (hgd : GoodT us) {m : Nat} {c : List Txt} (hcm : (chsOf us)[m]? = some c) (hcnt : cnt ((chsOf us).take m) = 4096) :
    ∃ y, runR (fileL s us) = (220, qOf (headF s) (chsOf us) m, y) ∧ y.right = qOf (headF s) (chsOf us) m ∧ y.evs.length = 4096 := by
  have hgr := grd_all hlen
  have hgd2 : GoodT (chsOf us).flatten := by rw [flat_all]; exact hgd
  have hpre : ∀ m, (layL (headF s) ((chsOf us).take m)).file <+: fileL s us := fun m => (lay_pre_all _ _ _).trans (by unfold fileL; rw [List.append_assoc]; exact List.prefix_append _ _)
  have hml : m ≤ (chsOf us).length := Nat.le_of_lt (List.getElem?_eq_some_iff.1 hcm).1
  obtain ⟨y, k, hS, hrun⟩ := run_q (s := s) (cs := chsOf us) hc hso hgr hgd2 (m := m) hml (hpre m) (by rw [hcnt]; exact Nat.le_refl _)
  have hm : maxI = 9223372036854775807 := rfl
  have hpos := (hgr.ok m c hcm).pos
  have hlo := loop_over (k := k) hS hcm hgr hgd2 (hpre (m + 1)) (by omega) (by omega)
  refine ⟨{ y with right := qOf (headF s) (chsOf us) m }, hrun.trans hlo, rfl, ?_⟩
  show y.evs.length = 4096
  rw [hS.evs, List.length_map, ← cnt_flat, hcnt]
theorem full_chunk {b : Txt} (hb : b.length ≤ 100) : (chsOf (List.replicate 4097 b))[128]? = some [b] ∧ (chsOf (List.replicate 4097 b)).length = 129 ∧ cnt ((chsOf (List.replicate 4097 b)).take 128) = 4096 := by
  rw [chs_full hb]
  generalize hX : List.replicate 32 b = X
  have hXl : X.length = 32 := by rw [← hX, List.length_replicate]
  refine ⟨?_, ?_, ?_⟩
  · rw [List.getElem?_append_right (by rw [List.length_replicate]; exact Nat.le_refl _), List.length_replicate]; rfl
  · rw [List.length_append, List.length_replicate]; rfl
  rw [List.take_left' List.length_replicate]
  unfold cnt
  rw [List.map_replicate, hXl, List.sum_replicate_nat]
theorem good_rep {b : Txt} (hb : b.length ≤ 100) (hg : (getEv b).2 = 0) (n : Nat) : TsOk (List.replicate n b) := ⟨fun t ht => by rw [(List.mem_replicate.1 ht).2]; exact ⟨hg, by omega⟩⟩
theorem file_over_len (s : Stp) {us : List Txt} (hb : ∀ t ∈ us, t.length ≤ 20000) (hn : us.length ≤ 5000) : (fileL s us).length ≤ 140737488351232 := by
  have h1 := lay_len (headF s) (chsOf us) (chsOf us).length
  rw [List.take_length] at h1
  have h2 := chs_len us hb
  have h3 : (headF s).length ≤ 32768 := seal_le _
  have h4 : (footC us.length (layT s us).places (layT s us).file).length ≤ 32768 := seal_le _
  have h5 : (layT s us).file.length = (layL (headF s) (chsOf us)).file.length := rfl
  unfold fileL
  rw [List.length_append, List.length_append, be4_len]; omega
theorem rep_taken {b : Txt} (s : Stp) (n : Nat) : ((List.replicate n b).foldl addT (newT s)).n = n := by
  rw [foldl_n, List.length_replicate]; exact Nat.zero_add _
end Go.Proofs.YtfpmnhmdphaceaaDoor
