/- Walks through the tape's functions. -/
import Derived.Test.YtfpmnhmdphaceaaDoorTap1
import Derived.Test.YtfpmnhmdphaceaaDoorBaseAll
namespace Go.Proofs.YtfpmnhmdphaceaaDoor
open Go.EW
attribute [local irreducible] EW.W EW.L EW.fin block8 outB shaL
set_option linter.unusedVariables false
set_option linter.unusedSimpArgs false
theorem WInt_ok {W w : World} {F : List Seg} {b : Nat} {a : Option Addr} {cap : Nat} {bs : List UInt8} {rs : List Value} {T : TypeId} {n : Nat} (hn : n ≤ 9223372036854775807) (hb : bs.length ≤ 140737488355300) (H : St W w (writerX rs T b a cap bs F)) :
    Ok Tryd.prog 43 [.pointer (some ⟨b, 0, none⟩), .int .i64 (n : Int)].toArray w (fun r w' => r = .tuple #[] ∧ ∃ a' c', St W w' (writerX rs T b a' c' (bs ++ formL n) F)) := by
  refine enter (n := 17) (rs := #[]) Tryd.func43 rfl rfl rfl rfl ?_
  refine w_block ?_
  refine w_seq ?_
  refine w_region ?_
  refine l_pptr rfl rfl ?_
  refine b_call rfl cb_94 rfl (open_ok H) (fun v w hv => ?_)
  obtain ⟨rfl, H⟩ := hv
  refine l_pbool rfl rfl ?_
  refine l_pbool rfl rfl ?_
  refine l_nil ?_
  refine w_cond rfl (fun c1 => ?_) (fun c1 => ?_)
  · try simp only [sH] at c1
    exact absurd c1 (by simp)
  · try simp only [sH] at c1
    refine w_seq ?_
    refine w_region ?_
    refine l_pint rfl rfl ?_
    refine l_pbool rfl rfl ?_
    refine l_pbool rfl rfl ?_
    refine l_nil ?_
    refine w_cond rfl (fun c2 => ?_) (fun c2 => ?_)
    · try simp only [sH] at c2
      exact absurd c2 (by omega)
    · try simp only [sH] at c2
      refine w_region ?_
      refine l_pptr rfl rfl ?_
      refine l_pint rfl rfl ?_
      refine l_v rfl (q_convIntIn rfl (by kernel_rfl) in_23 rfl (by simp only [inK]; omega)) ?_
      refine b_call rfl cb_96 rfl (put_ok (v := n) (by omega) hb H) (fun v w hv => ?_)
      obtain ⟨rfl, a', c', H⟩ := hv
      refine l_nil ?_
      exact fin0n ⟨rfl, a', c', H⟩

theorem WCount_ok {W w : World} {F : List Seg} {b : Nat} {a : Option Addr} {cap : Nat} {bs : List UInt8} {rs : List Value} {T : TypeId} {n mo : Nat} (hn : n ≤ mo) (hmo : mo ≤ 140737488355328) (hb : bs.length ≤ 140737488355300) (H : St W w (writerX rs T b a cap bs F)) :
    Ok Tryd.prog 97 [.pointer (some ⟨b, 0, none⟩), .int .i64 (n : Int), .int .i64 (mo : Int)].toArray w (fun r w' => r = .tuple #[] ∧ ∃ a' c', St W w' (writerX rs T b a' c' (bs ++ formL n) F)) := by
  refine enter (n := 29) (rs := #[]) Tryd.func97 rfl rfl rfl rfl ?_
  refine w_block ?_
  refine w_seq ?_
  refine w_region ?_
  refine l_pptr rfl rfl ?_
  refine b_call rfl cb_94 rfl (open_ok H) (fun v w hv => ?_)
  obtain ⟨rfl, H⟩ := hv
  refine l_pbool rfl rfl ?_
  refine l_pbool rfl rfl ?_
  refine l_nil ?_
  refine w_cond_f rfl ?_
  refine w_seq ?_
  refine w_region ?_
  refine l_pint rfl rfl ?_
  refine l_pbool rfl rfl ?_
  refine l_pbool rfl rfl ?_
  refine l_split 17 rfl (fun h17 => absurd h17 (by first | (simp; done) | (simp; omega))) (fun h17 => ?_)
  try simp only [sH] at h17
  refine l_pint rfl rfl ?_
  refine l_pbool rfl rfl ?_
  refine l_pickF (v := .bool _) rfl rfl rfl ?_
  refine l_pbool rfl rfl ?_
  refine l_nil ?_
  refine w_cond rfl (fun c1 => ?_) (fun c1 => ?_)
  · try simp only [sH] at c1
    exact absurd c1 (by omega)
  · try simp only [sH] at c1
    refine w_seq ?_
    refine w_region ?_
    refine l_pint rfl rfl ?_
    refine l_pint rfl rfl ?_
    refine l_pbool rfl rfl ?_
    refine l_pbool rfl rfl ?_
    refine l_nil ?_
    refine w_cond rfl (fun c2 => ?_) (fun c2 => ?_)
    · try simp only [sH] at c2
      exact absurd c2 (by omega)
    · try simp only [sH] at c2
      refine w_region ?_
      refine l_pptr rfl rfl ?_
      refine l_pint rfl rfl ?_
      refine l_v rfl (q_convIntIn rfl (by kernel_rfl) in_23 rfl (by simp only [inK]; omega)) ?_
      refine b_call rfl cb_96 rfl (put_ok (v := n) (by omega) hb H) (fun v w hv => ?_)
      obtain ⟨rfl, a', c', H⟩ := hv
      refine l_nil ?_
      exact fin0n ⟨rfl, a', c', H⟩

theorem WText_ok {W w : World} {F : List Seg} {b : Nat} {a : Option Addr} {cap : Nat} {bs : List UInt8} {rs : List Value} {T : TypeId} {s : ByteArray} {mo : Nat} (hs : s.size ≤ mo) (hmo : mo ≤ 140737488355328) (hb : bs.length ≤ 100000000) (H : St W w (writerX rs T b a cap bs F)) :
    Ok Tryd.prog 45 [.pointer (some ⟨b, 0, none⟩), .string s, .int .i64 (mo : Int)].toArray w (fun r w' => r = .tuple #[] ∧ ∃ a' c', St W w' (writerX rs T b a' c' (bs ++ formL s.size ++ s.data.toList) F)) := by
  refine enter (n := 22) (rs := #[]) Tryd.func45 rfl rfl rfl rfl ?_
  refine w_seq ?_
  refine w_region ?_
  refine l_pptr rfl rfl ?_
  refine l_pstr rfl rfl ?_
  refine l_v rfl (q_lenStr rfl st_9 rfl) ?_
  refine l_pint rfl rfl ?_
  refine b_call rfl cb_97 rfl (WCount_ok hs hmo (by omega) H) (fun v w hv => ?_)
  obtain ⟨rfl, a1, c1, H⟩ := hv
  have hfl := formL_len s.size
  refine l_nil ?_
  refine w_seq ?_
  refine w_region ?_
  refine l_pptr rfl rfl ?_
  refine b_call rfl cb_94 rfl (open_ok H) (fun v w hv => ?_)
  obtain ⟨rfl, H⟩ := hv
  refine l_nil ?_
  refine w_cond_t rfl ?_
  refine w_region ?_
  refine l_pptr rfl rfl ?_
  refine l_pptr rfl rfl ?_
  refine l_pptr rfl rfl ?_
  refine l_v rfl (q_fieldAddr rfl fo82_0 rfl) ?_
  refine l_v rfl (q_load1 rfl c1_28 rfl (by first | exact H.cell 0 rfl rfl | exact H.cell 1 rfl rfl)) ?_
  refine l_pstr rfl rfl ?_
  refine b_appendStr rfl el_28 ze_5 rfl rfl st_9 rfl rfl rfl H 1 rfl ⟨by rw [List.length_append]; omega, by rw [List.length_append]; simp only [maxLen]; omega⟩ (fun a19 c19 w H => ?_)
  refine l_pptr rfl rfl ?_
  refine l_v rfl (q_fieldAddr rfl fo82_0 rfl) ?_
  first | refine b_store rfl sz_28 rfl rfl rfl rfl rfl H 0 rfl rfl rfl (fun w H => ?_) | refine b_store rfl sz_28 rfl rfl rfl rfl rfl H 1 rfl rfl rfl (fun w H => ?_)
  refine l_nil ?_
  refine fin0n ⟨rfl, a19, c19, ?_⟩
  have e : (bs ++ formL s.size ++ s.data.toList).length = (bs ++ formL s.size).length + s.size := by rw [List.length_append, Array.length_toList]; rfl
  unfold writerX
  rw [e, List.map_append (l₁ := bs ++ formL s.size)]
  exact H

end Go.Proofs.YtfpmnhmdphaceaaDoor
