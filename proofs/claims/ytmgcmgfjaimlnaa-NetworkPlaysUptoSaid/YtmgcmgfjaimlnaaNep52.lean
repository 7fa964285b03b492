/- The book's other lists, which are empty, are found apart, for the network's seat. -/
import Derived.Test.YtmgcmgfjaimlnaaNep51
namespace Go.Proofs.Ytmgcmgfjaimlnaa
open Go.EW
attribute [local irreducible] EW.W EW.L EW.fin
set_option linter.unusedVariables false
set_option linter.unusedSimpArgs false
theorem apartVector_ok {W w : World} {F : List Seg} {bk : Nat} {bc : List Value} (H : St W w (blk bk bc 75 :: F)) (hb : bc[2]? = some (.slice none 0 0)) :
    Ok Try.prog 72 [.pointer (some ⟨bk, 0, none⟩)].toArray w (fun v w' => v = .bool true ∧ St W w' (blk bk bc 75 :: F)) := by
  refine enter (n := 113) (rs := #[.tmp 2]) Try.func72 rfl rfl rfl rfl ?_
  refine w_seq ?_
  refine w_region ?_
  refine l_pbool rfl rfl ?_
  refine l_nil ?_
  refine w_seq ?_
  refine w_region ?_
  refine l_pptr rfl rfl ?_
  refine l_pptr rfl rfl ?_
  refine l_v rfl (q_fieldAddr rfl fo75_2 rfl) ?_
  refine l_v rfl (q_load1 rfl c1_66 rfl (H.cell 0 rfl hb)) ?_
  refine l_pslice rfl rfl ?_
  refine l_nil ?_
  refine w_seq ?_
  refine w_seq ?_
  refine w_region ?_
  refine l_pint rfl rfl ?_
  refine l_nil ?_
  refine w_block ?_
  refine w_loopG (G := Unit) [4, 5, 16, 17, 18, 19, 20, 21, 22, 23, 24, 25, 26, 27, 28, 29, 30, 31, 32, 33, 34, 35, 36, 37, 38, 39] (fun ⟨⟩ => [(4, I 0)]) (fun m ⟨⟩ w => St W w (blk bk bc 75 :: F)) (fun _ => rfl) ?_ ?_
  · exact ⟨0, ⟨⟩, ⟨rfl, trivial⟩, H⟩
  rintro m ⟨⟩ ρ1 w H
  refine w_seq ?_
  refine w_seq ?_
  refine w_region ?_
  refine l_pint rfl rfl ?_
  refine l_pslice rfl rfl ?_
  refine l_v rfl (q_lenSlice rfl el_66 rfl) ?_
  refine l_pbool rfl rfl ?_
  refine l_nil ?_
  refine w_cond rfl (fun c1 => ?_) (fun c1 => ?_)
  · try simp only [sH] at c1
    exact absurd c1 (by simp)
  try simp only [sH] at c1
  refine w_exit ?_
  refine w_seq ?_
  refine w_region ?_
  refine l_pslice rfl rfl ?_
  refine l_nil ?_
  refine w_seq ?_
  refine w_seq ?_
  refine w_region ?_
  refine l_pint rfl rfl ?_
  refine l_nil ?_
  refine w_block ?_
  refine w_loopG (G := Unit) [6, 7, 8, 9, 40, 41, 42, 43, 44, 45, 46, 47, 48, 49, 50, 51, 52, 53, 54, 55, 56, 57, 58, 59, 60, 61, 62, 63, 64] (fun ⟨⟩ => [(7, I 0)]) (fun m ⟨⟩ w => St W w (blk bk bc 75 :: F)) (fun _ => rfl) ?_ ?_
  · exact ⟨0, ⟨⟩, ⟨rfl, trivial⟩, H⟩
  rintro m ⟨⟩ ρ1 w H
  refine w_seq ?_
  refine w_seq ?_
  refine w_region ?_
  refine l_pint rfl rfl ?_
  refine l_pslice rfl rfl ?_
  refine l_v rfl (q_lenSlice rfl el_66 rfl) ?_
  refine l_pbool rfl rfl ?_
  refine l_nil ?_
  refine w_cond rfl (fun c2 => ?_) (fun c2 => ?_)
  · try simp only [sH] at c2
    exact absurd c2 (by simp)
  try simp only [sH] at c2
  refine w_exit ?_
  refine w_seq ?_
  refine w_seq ?_
  refine w_region ?_
  refine l_pint rfl rfl ?_
  refine l_nil ?_
  refine w_block ?_
  refine w_loopG (G := Unit) [2, 10, 11, 65, 66, 67, 68, 69, 70, 71, 72, 73, 74, 75, 76, 77, 78, 79, 80, 81, 82, 83, 84, 85, 86, 87, 88, 89, 90, 91, 92, 93, 94, 95, 96, 97, 98, 99, 100, 101, 102, 103, 104, 105, 106, 107, 108, 109, 110, 111, 112] (fun ⟨⟩ => [(10, I 0)]) (fun m ⟨⟩ w => St W w (blk bk bc 75 :: F)) (fun _ => rfl) ?_ ?_
  · exact ⟨0, ⟨⟩, ⟨rfl, trivial⟩, H⟩
  rintro m ⟨⟩ ρ1 w H
  refine w_seq ?_
  refine w_seq ?_
  refine w_region ?_
  refine l_pint rfl rfl ?_
  refine l_pslice rfl rfl ?_
  refine l_v rfl (q_lenSlice rfl el_66 rfl) ?_
  refine l_pbool rfl rfl ?_
  refine l_nil ?_
  refine w_cond rfl (fun c3 => ?_) (fun c3 => ?_)
  · try simp only [sH] at c3
    exact absurd c3 (by simp)
  try simp only [sH] at c3
  refine w_exit ?_
  refine w_seq ?_
  refine w_region ?_
  refine l_pbool rfl rfl ?_
  refine l_nil ?_
  refine w_ret ?_
  refine fin1 (v := .bool _) rfl ?_
  exact ⟨rfl, H⟩
theorem apartEntries_ok {W w : World} {F : List Seg} {bk : Nat} {bc : List Value} (H : St W w (blk bk bc 75 :: F)) (hb : bc[3]? = some (.slice none 0 0)) :
    Ok Try.prog 73 [.pointer (some ⟨bk, 0, none⟩)].toArray w (fun v w' => v = .bool true ∧ St W w' (blk bk bc 75 :: F)) := by
  refine enter (n := 113) (rs := #[.tmp 2]) Try.func73 rfl rfl rfl rfl ?_
  refine w_seq ?_
  refine w_region ?_
  refine l_pbool rfl rfl ?_
  refine l_nil ?_
  refine w_seq ?_
  refine w_region ?_
  refine l_pptr rfl rfl ?_
  refine l_pptr rfl rfl ?_
  refine l_v rfl (q_fieldAddr rfl fo75_3 rfl) ?_
  refine l_v rfl (q_load1 rfl c1_67 rfl (H.cell 0 rfl hb)) ?_
  refine l_pslice rfl rfl ?_
  refine l_nil ?_
  refine w_seq ?_
  refine w_seq ?_
  refine w_region ?_
  refine l_pint rfl rfl ?_
  refine l_nil ?_
  refine w_block ?_
  refine w_loopG (G := Unit) [4, 5, 16, 17, 18, 19, 20, 21, 22, 23, 24, 25, 26, 27, 28, 29, 30, 31, 32, 33, 34, 35, 36, 37, 38, 39] (fun ⟨⟩ => [(4, I 0)]) (fun m ⟨⟩ w => St W w (blk bk bc 75 :: F)) (fun _ => rfl) ?_ ?_
  · exact ⟨0, ⟨⟩, ⟨rfl, trivial⟩, H⟩
  rintro m ⟨⟩ ρ1 w H
  refine w_seq ?_
  refine w_seq ?_
  refine w_region ?_
  refine l_pint rfl rfl ?_
  refine l_pslice rfl rfl ?_
  refine l_v rfl (q_lenSlice rfl el_67 rfl) ?_
  refine l_pbool rfl rfl ?_
  refine l_nil ?_
  refine w_cond rfl (fun c1 => ?_) (fun c1 => ?_)
  · try simp only [sH] at c1
    exact absurd c1 (by simp)
  try simp only [sH] at c1
  refine w_exit ?_
  refine w_seq ?_
  refine w_region ?_
  refine l_pslice rfl rfl ?_
  refine l_nil ?_
  refine w_seq ?_
  refine w_seq ?_
  refine w_region ?_
  refine l_pint rfl rfl ?_
  refine l_nil ?_
  refine w_block ?_
  refine w_loopG (G := Unit) [6, 7, 8, 9, 40, 41, 42, 43, 44, 45, 46, 47, 48, 49, 50, 51, 52, 53, 54, 55, 56, 57, 58, 59, 60, 61, 62, 63, 64] (fun ⟨⟩ => [(7, I 0)]) (fun m ⟨⟩ w => St W w (blk bk bc 75 :: F)) (fun _ => rfl) ?_ ?_
  · exact ⟨0, ⟨⟩, ⟨rfl, trivial⟩, H⟩
  rintro m ⟨⟩ ρ1 w H
  refine w_seq ?_
  refine w_seq ?_
  refine w_region ?_
  refine l_pint rfl rfl ?_
  refine l_pslice rfl rfl ?_
  refine l_v rfl (q_lenSlice rfl el_67 rfl) ?_
  refine l_pbool rfl rfl ?_
  refine l_nil ?_
  refine w_cond rfl (fun c2 => ?_) (fun c2 => ?_)
  · try simp only [sH] at c2
    exact absurd c2 (by simp)
  try simp only [sH] at c2
  refine w_exit ?_
  refine w_seq ?_
  refine w_seq ?_
  refine w_region ?_
  refine l_pint rfl rfl ?_
  refine l_nil ?_
  refine w_block ?_
  refine w_loopG (G := Unit) [2, 10, 11, 65, 66, 67, 68, 69, 70, 71, 72, 73, 74, 75, 76, 77, 78, 79, 80, 81, 82, 83, 84, 85, 86, 87, 88, 89, 90, 91, 92, 93, 94, 95, 96, 97, 98, 99, 100, 101, 102, 103, 104, 105, 106, 107, 108, 109, 110, 111, 112] (fun ⟨⟩ => [(10, I 0)]) (fun m ⟨⟩ w => St W w (blk bk bc 75 :: F)) (fun _ => rfl) ?_ ?_
  · exact ⟨0, ⟨⟩, ⟨rfl, trivial⟩, H⟩
  rintro m ⟨⟩ ρ1 w H
  refine w_seq ?_
  refine w_seq ?_
  refine w_region ?_
  refine l_pint rfl rfl ?_
  refine l_pslice rfl rfl ?_
  refine l_v rfl (q_lenSlice rfl el_67 rfl) ?_
  refine l_pbool rfl rfl ?_
  refine l_nil ?_
  refine w_cond rfl (fun c3 => ?_) (fun c3 => ?_)
  · try simp only [sH] at c3
    exact absurd c3 (by simp)
  try simp only [sH] at c3
  refine w_exit ?_
  refine w_seq ?_
  refine w_region ?_
  refine l_pbool rfl rfl ?_
  refine l_nil ?_
  refine w_ret ?_
  refine fin1 (v := .bool _) rfl ?_
  exact ⟨rfl, H⟩
theorem apartCells_ok {W w : World} {F : List Seg} {bk : Nat} {bc : List Value} (H : St W w (blk bk bc 75 :: F)) (hb : bc[4]? = some (.slice none 0 0)) :
    Ok Try.prog 74 [.pointer (some ⟨bk, 0, none⟩)].toArray w (fun v w' => v = .bool true ∧ St W w' (blk bk bc 75 :: F)) := by
  refine enter (n := 113) (rs := #[.tmp 2]) Try.func74 rfl rfl rfl rfl ?_
  refine w_seq ?_
  refine w_region ?_
  refine l_pbool rfl rfl ?_
  refine l_nil ?_
  refine w_seq ?_
  refine w_region ?_
  refine l_pptr rfl rfl ?_
  refine l_pptr rfl rfl ?_
  refine l_v rfl (q_fieldAddr rfl fo75_4 rfl) ?_
  refine l_v rfl (q_load1 rfl c1_68 rfl (H.cell 0 rfl hb)) ?_
  refine l_pslice rfl rfl ?_
  refine l_nil ?_
  refine w_seq ?_
  refine w_seq ?_
  refine w_region ?_
  refine l_pint rfl rfl ?_
  refine l_nil ?_
  refine w_block ?_
  refine w_loopG (G := Unit) [4, 5, 16, 17, 18, 19, 20, 21, 22, 23, 24, 25, 26, 27, 28, 29, 30, 31, 32, 33, 34, 35, 36, 37, 38, 39] (fun ⟨⟩ => [(4, I 0)]) (fun m ⟨⟩ w => St W w (blk bk bc 75 :: F)) (fun _ => rfl) ?_ ?_
  · exact ⟨0, ⟨⟩, ⟨rfl, trivial⟩, H⟩
  rintro m ⟨⟩ ρ1 w H
  refine w_seq ?_
  refine w_seq ?_
  refine w_region ?_
  refine l_pint rfl rfl ?_
  refine l_pslice rfl rfl ?_
  refine l_v rfl (q_lenSlice rfl el_68 rfl) ?_
  refine l_pbool rfl rfl ?_
  refine l_nil ?_
  refine w_cond rfl (fun c1 => ?_) (fun c1 => ?_)
  · try simp only [sH] at c1
    exact absurd c1 (by simp)
  try simp only [sH] at c1
  refine w_exit ?_
  refine w_seq ?_
  refine w_region ?_
  refine l_pslice rfl rfl ?_
  refine l_nil ?_
  refine w_seq ?_
  refine w_seq ?_
  refine w_region ?_
  refine l_pint rfl rfl ?_
  refine l_nil ?_
  refine w_block ?_
  refine w_loopG (G := Unit) [6, 7, 8, 9, 40, 41, 42, 43, 44, 45, 46, 47, 48, 49, 50, 51, 52, 53, 54, 55, 56, 57, 58, 59, 60, 61, 62, 63, 64] (fun ⟨⟩ => [(7, I 0)]) (fun m ⟨⟩ w => St W w (blk bk bc 75 :: F)) (fun _ => rfl) ?_ ?_
  · exact ⟨0, ⟨⟩, ⟨rfl, trivial⟩, H⟩
  rintro m ⟨⟩ ρ1 w H
  refine w_seq ?_
  refine w_seq ?_
  refine w_region ?_
  refine l_pint rfl rfl ?_
  refine l_pslice rfl rfl ?_
  refine l_v rfl (q_lenSlice rfl el_68 rfl) ?_
  refine l_pbool rfl rfl ?_
  refine l_nil ?_
  refine w_cond rfl (fun c2 => ?_) (fun c2 => ?_)
  · try simp only [sH] at c2
    exact absurd c2 (by simp)
  try simp only [sH] at c2
  refine w_exit ?_
  refine w_seq ?_
  refine w_seq ?_
  refine w_region ?_
  refine l_pint rfl rfl ?_
  refine l_nil ?_
  refine w_block ?_
  refine w_loopG (G := Unit) [2, 10, 11, 65, 66, 67, 68, 69, 70, 71, 72, 73, 74, 75, 76, 77, 78, 79, 80, 81, 82, 83, 84, 85, 86, 87, 88, 89, 90, 91, 92, 93, 94, 95, 96, 97, 98, 99, 100, 101, 102, 103, 104, 105, 106, 107, 108, 109, 110, 111, 112] (fun ⟨⟩ => [(10, I 0)]) (fun m ⟨⟩ w => St W w (blk bk bc 75 :: F)) (fun _ => rfl) ?_ ?_
  · exact ⟨0, ⟨⟩, ⟨rfl, trivial⟩, H⟩
  rintro m ⟨⟩ ρ1 w H
  refine w_seq ?_
  refine w_seq ?_
  refine w_region ?_
  refine l_pint rfl rfl ?_
  refine l_pslice rfl rfl ?_
  refine l_v rfl (q_lenSlice rfl el_68 rfl) ?_
  refine l_pbool rfl rfl ?_
  refine l_nil ?_
  refine w_cond rfl (fun c3 => ?_) (fun c3 => ?_)
  · try simp only [sH] at c3
    exact absurd c3 (by simp)
  try simp only [sH] at c3
  refine w_exit ?_
  refine w_seq ?_
  refine w_region ?_
  refine l_pbool rfl rfl ?_
  refine l_nil ?_
  refine w_ret ?_
  refine fin1 (v := .bool _) rfl ?_
  exact ⟨rfl, H⟩
theorem apartRows_ok {W w : World} {F : List Seg} {bk : Nat} {bc : List Value} (H : St W w (blk bk bc 75 :: F)) (hb : bc[5]? = some (.slice none 0 0)) :
    Ok Try.prog 75 [.pointer (some ⟨bk, 0, none⟩)].toArray w (fun v w' => v = .bool true ∧ St W w' (blk bk bc 75 :: F)) := by
  refine enter (n := 113) (rs := #[.tmp 2]) Try.func75 rfl rfl rfl rfl ?_
  refine w_seq ?_
  refine w_region ?_
  refine l_pbool rfl rfl ?_
  refine l_nil ?_
  refine w_seq ?_
  refine w_region ?_
  refine l_pptr rfl rfl ?_
  refine l_pptr rfl rfl ?_
  refine l_v rfl (q_fieldAddr rfl fo75_5 rfl) ?_
  refine l_v rfl (q_load1 rfl c1_69 rfl (H.cell 0 rfl hb)) ?_
  refine l_pslice rfl rfl ?_
  refine l_nil ?_
  refine w_seq ?_
  refine w_seq ?_
  refine w_region ?_
  refine l_pint rfl rfl ?_
  refine l_nil ?_
  refine w_block ?_
  refine w_loopG (G := Unit) [4, 5, 16, 17, 18, 19, 20, 21, 22, 23, 24, 25, 26, 27, 28, 29, 30, 31, 32, 33, 34, 35, 36, 37, 38, 39] (fun ⟨⟩ => [(4, I 0)]) (fun m ⟨⟩ w => St W w (blk bk bc 75 :: F)) (fun _ => rfl) ?_ ?_
  · exact ⟨0, ⟨⟩, ⟨rfl, trivial⟩, H⟩
  rintro m ⟨⟩ ρ1 w H
  refine w_seq ?_
  refine w_seq ?_
  refine w_region ?_
  refine l_pint rfl rfl ?_
  refine l_pslice rfl rfl ?_
  refine l_v rfl (q_lenSlice rfl el_69 rfl) ?_
  refine l_pbool rfl rfl ?_
  refine l_nil ?_
  refine w_cond rfl (fun c1 => ?_) (fun c1 => ?_)
  · try simp only [sH] at c1
    exact absurd c1 (by simp)
  try simp only [sH] at c1
  refine w_exit ?_
  refine w_seq ?_
  refine w_region ?_
  refine l_pslice rfl rfl ?_
  refine l_nil ?_
  refine w_seq ?_
  refine w_seq ?_
  refine w_region ?_
  refine l_pint rfl rfl ?_
  refine l_nil ?_
  refine w_block ?_
  refine w_loopG (G := Unit) [6, 7, 8, 9, 40, 41, 42, 43, 44, 45, 46, 47, 48, 49, 50, 51, 52, 53, 54, 55, 56, 57, 58, 59, 60, 61, 62, 63, 64] (fun ⟨⟩ => [(7, I 0)]) (fun m ⟨⟩ w => St W w (blk bk bc 75 :: F)) (fun _ => rfl) ?_ ?_
  · exact ⟨0, ⟨⟩, ⟨rfl, trivial⟩, H⟩
  rintro m ⟨⟩ ρ1 w H
  refine w_seq ?_
  refine w_seq ?_
  refine w_region ?_
  refine l_pint rfl rfl ?_
  refine l_pslice rfl rfl ?_
  refine l_v rfl (q_lenSlice rfl el_69 rfl) ?_
  refine l_pbool rfl rfl ?_
  refine l_nil ?_
  refine w_cond rfl (fun c2 => ?_) (fun c2 => ?_)
  · try simp only [sH] at c2
    exact absurd c2 (by simp)
  try simp only [sH] at c2
  refine w_exit ?_
  refine w_seq ?_
  refine w_seq ?_
  refine w_region ?_
  refine l_pint rfl rfl ?_
  refine l_nil ?_
  refine w_block ?_
  refine w_loopG (G := Unit) [2, 10, 11, 65, 66, 67, 68, 69, 70, 71, 72, 73, 74, 75, 76, 77, 78, 79, 80, 81, 82, 83, 84, 85, 86, 87, 88, 89, 90, 91, 92, 93, 94, 95, 96, 97, 98, 99, 100, 101, 102, 103, 104, 105, 106, 107, 108, 109, 110, 111, 112] (fun ⟨⟩ => [(10, I 0)]) (fun m ⟨⟩ w => St W w (blk bk bc 75 :: F)) (fun _ => rfl) ?_ ?_
  · exact ⟨0, ⟨⟩, ⟨rfl, trivial⟩, H⟩
  rintro m ⟨⟩ ρ1 w H
  refine w_seq ?_
  refine w_seq ?_
  refine w_region ?_
  refine l_pint rfl rfl ?_
  refine l_pslice rfl rfl ?_
  refine l_v rfl (q_lenSlice rfl el_69 rfl) ?_
  refine l_pbool rfl rfl ?_
  refine l_nil ?_
  refine w_cond rfl (fun c3 => ?_) (fun c3 => ?_)
  · try simp only [sH] at c3
    exact absurd c3 (by simp)
  try simp only [sH] at c3
  refine w_exit ?_
  refine w_seq ?_
  refine w_region ?_
  refine l_pbool rfl rfl ?_
  refine l_nil ?_
  refine w_ret ?_
  refine fin1 (v := .bool _) rfl ?_
  exact ⟨rfl, H⟩
theorem apartResults_ok {W w : World} {F : List Seg} {bk : Nat} {bc : List Value} (H : St W w (blk bk bc 75 :: F)) (hb : bc[6]? = some (.slice none 0 0)) :
    Ok Try.prog 76 [.pointer (some ⟨bk, 0, none⟩)].toArray w (fun v w' => v = .bool true ∧ St W w' (blk bk bc 75 :: F)) := by
  refine enter (n := 113) (rs := #[.tmp 2]) Try.func76 rfl rfl rfl rfl ?_
  refine w_seq ?_
  refine w_region ?_
  refine l_pbool rfl rfl ?_
  refine l_nil ?_
  refine w_seq ?_
  refine w_region ?_
  refine l_pptr rfl rfl ?_
  refine l_pptr rfl rfl ?_
  refine l_v rfl (q_fieldAddr rfl fo75_6 rfl) ?_
  refine l_v rfl (q_load1 rfl c1_70 rfl (H.cell 0 rfl hb)) ?_
  refine l_pslice rfl rfl ?_
  refine l_nil ?_
  refine w_seq ?_
  refine w_seq ?_
  refine w_region ?_
  refine l_pint rfl rfl ?_
  refine l_nil ?_
  refine w_block ?_
  refine w_loopG (G := Unit) [4, 5, 16, 17, 18, 19, 20, 21, 22, 23, 24, 25, 26, 27, 28, 29, 30, 31, 32, 33, 34, 35, 36, 37, 38, 39] (fun ⟨⟩ => [(4, I 0)]) (fun m ⟨⟩ w => St W w (blk bk bc 75 :: F)) (fun _ => rfl) ?_ ?_
  · exact ⟨0, ⟨⟩, ⟨rfl, trivial⟩, H⟩
  rintro m ⟨⟩ ρ1 w H
  refine w_seq ?_
  refine w_seq ?_
  refine w_region ?_
  refine l_pint rfl rfl ?_
  refine l_pslice rfl rfl ?_
  refine l_v rfl (q_lenSlice rfl el_70 rfl) ?_
  refine l_pbool rfl rfl ?_
  refine l_nil ?_
  refine w_cond rfl (fun c1 => ?_) (fun c1 => ?_)
  · try simp only [sH] at c1
    exact absurd c1 (by simp)
  try simp only [sH] at c1
  refine w_exit ?_
  refine w_seq ?_
  refine w_region ?_
  refine l_pslice rfl rfl ?_
  refine l_nil ?_
  refine w_seq ?_
  refine w_seq ?_
  refine w_region ?_
  refine l_pint rfl rfl ?_
  refine l_nil ?_
  refine w_block ?_
  refine w_loopG (G := Unit) [6, 7, 8, 9, 40, 41, 42, 43, 44, 45, 46, 47, 48, 49, 50, 51, 52, 53, 54, 55, 56, 57, 58, 59, 60, 61, 62, 63, 64] (fun ⟨⟩ => [(7, I 0)]) (fun m ⟨⟩ w => St W w (blk bk bc 75 :: F)) (fun _ => rfl) ?_ ?_
  · exact ⟨0, ⟨⟩, ⟨rfl, trivial⟩, H⟩
  rintro m ⟨⟩ ρ1 w H
  refine w_seq ?_
  refine w_seq ?_
  refine w_region ?_
  refine l_pint rfl rfl ?_
  refine l_pslice rfl rfl ?_
  refine l_v rfl (q_lenSlice rfl el_70 rfl) ?_
  refine l_pbool rfl rfl ?_
  refine l_nil ?_
  refine w_cond rfl (fun c2 => ?_) (fun c2 => ?_)
  · try simp only [sH] at c2
    exact absurd c2 (by simp)
  try simp only [sH] at c2
  refine w_exit ?_
  refine w_seq ?_
  refine w_seq ?_
  refine w_region ?_
  refine l_pint rfl rfl ?_
  refine l_nil ?_
  refine w_block ?_
  refine w_loopG (G := Unit) [2, 10, 11, 65, 66, 67, 68, 69, 70, 71, 72, 73, 74, 75, 76, 77, 78, 79, 80, 81, 82, 83, 84, 85, 86, 87, 88, 89, 90, 91, 92, 93, 94, 95, 96, 97, 98, 99, 100, 101, 102, 103, 104, 105, 106, 107, 108, 109, 110, 111, 112] (fun ⟨⟩ => [(10, I 0)]) (fun m ⟨⟩ w => St W w (blk bk bc 75 :: F)) (fun _ => rfl) ?_ ?_
  · exact ⟨0, ⟨⟩, ⟨rfl, trivial⟩, H⟩
  rintro m ⟨⟩ ρ1 w H
  refine w_seq ?_
  refine w_seq ?_
  refine w_region ?_
  refine l_pint rfl rfl ?_
  refine l_pslice rfl rfl ?_
  refine l_v rfl (q_lenSlice rfl el_70 rfl) ?_
  refine l_pbool rfl rfl ?_
  refine l_nil ?_
  refine w_cond rfl (fun c3 => ?_) (fun c3 => ?_)
  · try simp only [sH] at c3
    exact absurd c3 (by simp)
  try simp only [sH] at c3
  refine w_exit ?_
  refine w_seq ?_
  refine w_region ?_
  refine l_pbool rfl rfl ?_
  refine l_nil ?_
  refine w_ret ?_
  refine fin1 (v := .bool _) rfl ?_
  exact ⟨rfl, H⟩
theorem apartStamps_ok {W w : World} {F : List Seg} {bk : Nat} {bc : List Value} (H : St W w (blk bk bc 75 :: F)) (hb : bc[7]? = some (.slice none 0 0)) :
    Ok Try.prog 77 [.pointer (some ⟨bk, 0, none⟩)].toArray w (fun v w' => v = .bool true ∧ St W w' (blk bk bc 75 :: F)) := by
  refine enter (n := 113) (rs := #[.tmp 2]) Try.func77 rfl rfl rfl rfl ?_
  refine w_seq ?_
  refine w_region ?_
  refine l_pbool rfl rfl ?_
  refine l_nil ?_
  refine w_seq ?_
  refine w_region ?_
  refine l_pptr rfl rfl ?_
  refine l_pptr rfl rfl ?_
  refine l_v rfl (q_fieldAddr rfl fo75_7 rfl) ?_
  refine l_v rfl (q_load1 rfl c1_71 rfl (H.cell 0 rfl hb)) ?_
  refine l_pslice rfl rfl ?_
  refine l_nil ?_
  refine w_seq ?_
  refine w_seq ?_
  refine w_region ?_
  refine l_pint rfl rfl ?_
  refine l_nil ?_
  refine w_block ?_
  refine w_loopG (G := Unit) [4, 5, 16, 17, 18, 19, 20, 21, 22, 23, 24, 25, 26, 27, 28, 29, 30, 31, 32, 33, 34, 35, 36, 37, 38, 39] (fun ⟨⟩ => [(4, I 0)]) (fun m ⟨⟩ w => St W w (blk bk bc 75 :: F)) (fun _ => rfl) ?_ ?_
  · exact ⟨0, ⟨⟩, ⟨rfl, trivial⟩, H⟩
  rintro m ⟨⟩ ρ1 w H
  refine w_seq ?_
  refine w_seq ?_
  refine w_region ?_
  refine l_pint rfl rfl ?_
  refine l_pslice rfl rfl ?_
  refine l_v rfl (q_lenSlice rfl el_71 rfl) ?_
  refine l_pbool rfl rfl ?_
  refine l_nil ?_
  refine w_cond rfl (fun c1 => ?_) (fun c1 => ?_)
  · try simp only [sH] at c1
    exact absurd c1 (by simp)
  try simp only [sH] at c1
  refine w_exit ?_
  refine w_seq ?_
  refine w_region ?_
  refine l_pslice rfl rfl ?_
  refine l_nil ?_
  refine w_seq ?_
  refine w_seq ?_
  refine w_region ?_
  refine l_pint rfl rfl ?_
  refine l_nil ?_
  refine w_block ?_
  refine w_loopG (G := Unit) [6, 7, 8, 9, 40, 41, 42, 43, 44, 45, 46, 47, 48, 49, 50, 51, 52, 53, 54, 55, 56, 57, 58, 59, 60, 61, 62, 63, 64] (fun ⟨⟩ => [(7, I 0)]) (fun m ⟨⟩ w => St W w (blk bk bc 75 :: F)) (fun _ => rfl) ?_ ?_
  · exact ⟨0, ⟨⟩, ⟨rfl, trivial⟩, H⟩
  rintro m ⟨⟩ ρ1 w H
  refine w_seq ?_
  refine w_seq ?_
  refine w_region ?_
  refine l_pint rfl rfl ?_
  refine l_pslice rfl rfl ?_
  refine l_v rfl (q_lenSlice rfl el_71 rfl) ?_
  refine l_pbool rfl rfl ?_
  refine l_nil ?_
  refine w_cond rfl (fun c2 => ?_) (fun c2 => ?_)
  · try simp only [sH] at c2
    exact absurd c2 (by simp)
  try simp only [sH] at c2
  refine w_exit ?_
  refine w_seq ?_
  refine w_seq ?_
  refine w_region ?_
  refine l_pint rfl rfl ?_
  refine l_nil ?_
  refine w_block ?_
  refine w_loopG (G := Unit) [2, 10, 11, 65, 66, 67, 68, 69, 70, 71, 72, 73, 74, 75, 76, 77, 78, 79, 80, 81, 82, 83, 84, 85, 86, 87, 88, 89, 90, 91, 92, 93, 94, 95, 96, 97, 98, 99, 100, 101, 102, 103, 104, 105, 106, 107, 108, 109, 110, 111, 112] (fun ⟨⟩ => [(10, I 0)]) (fun m ⟨⟩ w => St W w (blk bk bc 75 :: F)) (fun _ => rfl) ?_ ?_
  · exact ⟨0, ⟨⟩, ⟨rfl, trivial⟩, H⟩
  rintro m ⟨⟩ ρ1 w H
  refine w_seq ?_
  refine w_seq ?_
  refine w_region ?_
  refine l_pint rfl rfl ?_
  refine l_pslice rfl rfl ?_
  refine l_v rfl (q_lenSlice rfl el_71 rfl) ?_
  refine l_pbool rfl rfl ?_
  refine l_nil ?_
  refine w_cond rfl (fun c3 => ?_) (fun c3 => ?_)
  · try simp only [sH] at c3
    exact absurd c3 (by simp)
  try simp only [sH] at c3
  refine w_exit ?_
  refine w_seq ?_
  refine w_region ?_
  refine l_pbool rfl rfl ?_
  refine l_nil ?_
  refine w_ret ?_
  refine fin1 (v := .bool _) rfl ?_
  exact ⟨rfl, H⟩
theorem apartAcks_ok {W w : World} {F : List Seg} {bk : Nat} {bc : List Value} (H : St W w (blk bk bc 75 :: F)) (hb : bc[8]? = some (.slice none 0 0)) :
    Ok Try.prog 78 [.pointer (some ⟨bk, 0, none⟩)].toArray w (fun v w' => v = .bool true ∧ St W w' (blk bk bc 75 :: F)) := by
  refine enter (n := 113) (rs := #[.tmp 2]) Try.func78 rfl rfl rfl rfl ?_
  refine w_seq ?_
  refine w_region ?_
  refine l_pbool rfl rfl ?_
  refine l_nil ?_
  refine w_seq ?_
  refine w_region ?_
  refine l_pptr rfl rfl ?_
  refine l_pptr rfl rfl ?_
  refine l_v rfl (q_fieldAddr rfl fo75_8 rfl) ?_
  refine l_v rfl (q_load1 rfl c1_72 rfl (H.cell 0 rfl hb)) ?_
  refine l_pslice rfl rfl ?_
  refine l_nil ?_
  refine w_seq ?_
  refine w_seq ?_
  refine w_region ?_
  refine l_pint rfl rfl ?_
  refine l_nil ?_
  refine w_block ?_
  refine w_loopG (G := Unit) [4, 5, 16, 17, 18, 19, 20, 21, 22, 23, 24, 25, 26, 27, 28, 29, 30, 31, 32, 33, 34, 35, 36, 37, 38, 39] (fun ⟨⟩ => [(4, I 0)]) (fun m ⟨⟩ w => St W w (blk bk bc 75 :: F)) (fun _ => rfl) ?_ ?_
  · exact ⟨0, ⟨⟩, ⟨rfl, trivial⟩, H⟩
  rintro m ⟨⟩ ρ1 w H
  refine w_seq ?_
  refine w_seq ?_
  refine w_region ?_
  refine l_pint rfl rfl ?_
  refine l_pslice rfl rfl ?_
  refine l_v rfl (q_lenSlice rfl el_72 rfl) ?_
  refine l_pbool rfl rfl ?_
  refine l_nil ?_
  refine w_cond rfl (fun c1 => ?_) (fun c1 => ?_)
  · try simp only [sH] at c1
    exact absurd c1 (by simp)
  try simp only [sH] at c1
  refine w_exit ?_
  refine w_seq ?_
  refine w_region ?_
  refine l_pslice rfl rfl ?_
  refine l_nil ?_
  refine w_seq ?_
  refine w_seq ?_
  refine w_region ?_
  refine l_pint rfl rfl ?_
  refine l_nil ?_
  refine w_block ?_
  refine w_loopG (G := Unit) [6, 7, 8, 9, 40, 41, 42, 43, 44, 45, 46, 47, 48, 49, 50, 51, 52, 53, 54, 55, 56, 57, 58, 59, 60, 61, 62, 63, 64] (fun ⟨⟩ => [(7, I 0)]) (fun m ⟨⟩ w => St W w (blk bk bc 75 :: F)) (fun _ => rfl) ?_ ?_
  · exact ⟨0, ⟨⟩, ⟨rfl, trivial⟩, H⟩
  rintro m ⟨⟩ ρ1 w H
  refine w_seq ?_
  refine w_seq ?_
  refine w_region ?_
  refine l_pint rfl rfl ?_
  refine l_pslice rfl rfl ?_
  refine l_v rfl (q_lenSlice rfl el_72 rfl) ?_
  refine l_pbool rfl rfl ?_
  refine l_nil ?_
  refine w_cond rfl (fun c2 => ?_) (fun c2 => ?_)
  · try simp only [sH] at c2
    exact absurd c2 (by simp)
  try simp only [sH] at c2
  refine w_exit ?_
  refine w_seq ?_
  refine w_seq ?_
  refine w_region ?_
  refine l_pint rfl rfl ?_
  refine l_nil ?_
  refine w_block ?_
  refine w_loopG (G := Unit) [2, 10, 11, 65, 66, 67, 68, 69, 70, 71, 72, 73, 74, 75, 76, 77, 78, 79, 80, 81, 82, 83, 84, 85, 86, 87, 88, 89, 90, 91, 92, 93, 94, 95, 96, 97, 98, 99, 100, 101, 102, 103, 104, 105, 106, 107, 108, 109, 110, 111, 112] (fun ⟨⟩ => [(10, I 0)]) (fun m ⟨⟩ w => St W w (blk bk bc 75 :: F)) (fun _ => rfl) ?_ ?_
  · exact ⟨0, ⟨⟩, ⟨rfl, trivial⟩, H⟩
  rintro m ⟨⟩ ρ1 w H
  refine w_seq ?_
  refine w_seq ?_
  refine w_region ?_
  refine l_pint rfl rfl ?_
  refine l_pslice rfl rfl ?_
  refine l_v rfl (q_lenSlice rfl el_72 rfl) ?_
  refine l_pbool rfl rfl ?_
  refine l_nil ?_
  refine w_cond rfl (fun c3 => ?_) (fun c3 => ?_)
  · try simp only [sH] at c3
    exact absurd c3 (by simp)
  try simp only [sH] at c3
  refine w_exit ?_
  refine w_seq ?_
  refine w_region ?_
  refine l_pbool rfl rfl ?_
  refine l_nil ?_
  refine w_ret ?_
  refine fin1 (v := .bool _) rfl ?_
  exact ⟨rfl, H⟩
theorem apartMarks_ok {W w : World} {F : List Seg} {bk : Nat} {bc : List Value} (H : St W w (blk bk bc 75 :: F)) (hb : bc[9]? = some (.slice none 0 0)) :
    Ok Try.prog 79 [.pointer (some ⟨bk, 0, none⟩)].toArray w (fun v w' => v = .bool true ∧ St W w' (blk bk bc 75 :: F)) := by
  refine enter (n := 113) (rs := #[.tmp 2]) Try.func79 rfl rfl rfl rfl ?_
  refine w_seq ?_
  refine w_region ?_
  refine l_pbool rfl rfl ?_
  refine l_nil ?_
  refine w_seq ?_
  refine w_region ?_
  refine l_pptr rfl rfl ?_
  refine l_pptr rfl rfl ?_
  refine l_v rfl (q_fieldAddr rfl fo75_9 rfl) ?_
  refine l_v rfl (q_load1 rfl c1_73 rfl (H.cell 0 rfl hb)) ?_
  refine l_pslice rfl rfl ?_
  refine l_nil ?_
  refine w_seq ?_
  refine w_seq ?_
  refine w_region ?_
  refine l_pint rfl rfl ?_
  refine l_nil ?_
  refine w_block ?_
  refine w_loopG (G := Unit) [4, 5, 16, 17, 18, 19, 20, 21, 22, 23, 24, 25, 26, 27, 28, 29, 30, 31, 32, 33, 34, 35, 36, 37, 38, 39] (fun ⟨⟩ => [(4, I 0)]) (fun m ⟨⟩ w => St W w (blk bk bc 75 :: F)) (fun _ => rfl) ?_ ?_
  · exact ⟨0, ⟨⟩, ⟨rfl, trivial⟩, H⟩
  rintro m ⟨⟩ ρ1 w H
  refine w_seq ?_
  refine w_seq ?_
  refine w_region ?_
  refine l_pint rfl rfl ?_
  refine l_pslice rfl rfl ?_
  refine l_v rfl (q_lenSlice rfl el_73 rfl) ?_
  refine l_pbool rfl rfl ?_
  refine l_nil ?_
  refine w_cond rfl (fun c1 => ?_) (fun c1 => ?_)
  · try simp only [sH] at c1
    exact absurd c1 (by simp)
  try simp only [sH] at c1
  refine w_exit ?_
  refine w_seq ?_
  refine w_region ?_
  refine l_pslice rfl rfl ?_
  refine l_nil ?_
  refine w_seq ?_
  refine w_seq ?_
  refine w_region ?_
  refine l_pint rfl rfl ?_
  refine l_nil ?_
  refine w_block ?_
  refine w_loopG (G := Unit) [6, 7, 8, 9, 40, 41, 42, 43, 44, 45, 46, 47, 48, 49, 50, 51, 52, 53, 54, 55, 56, 57, 58, 59, 60, 61, 62, 63, 64] (fun ⟨⟩ => [(7, I 0)]) (fun m ⟨⟩ w => St W w (blk bk bc 75 :: F)) (fun _ => rfl) ?_ ?_
  · exact ⟨0, ⟨⟩, ⟨rfl, trivial⟩, H⟩
  rintro m ⟨⟩ ρ1 w H
  refine w_seq ?_
  refine w_seq ?_
  refine w_region ?_
  refine l_pint rfl rfl ?_
  refine l_pslice rfl rfl ?_
  refine l_v rfl (q_lenSlice rfl el_73 rfl) ?_
  refine l_pbool rfl rfl ?_
  refine l_nil ?_
  refine w_cond rfl (fun c2 => ?_) (fun c2 => ?_)
  · try simp only [sH] at c2
    exact absurd c2 (by simp)
  try simp only [sH] at c2
  refine w_exit ?_
  refine w_seq ?_
  refine w_seq ?_
  refine w_region ?_
  refine l_pint rfl rfl ?_
  refine l_nil ?_
  refine w_block ?_
  refine w_loopG (G := Unit) [2, 10, 11, 65, 66, 67, 68, 69, 70, 71, 72, 73, 74, 75, 76, 77, 78, 79, 80, 81, 82, 83, 84, 85, 86, 87, 88, 89, 90, 91, 92, 93, 94, 95, 96, 97, 98, 99, 100, 101, 102, 103, 104, 105, 106, 107, 108, 109, 110, 111, 112] (fun ⟨⟩ => [(10, I 0)]) (fun m ⟨⟩ w => St W w (blk bk bc 75 :: F)) (fun _ => rfl) ?_ ?_
  · exact ⟨0, ⟨⟩, ⟨rfl, trivial⟩, H⟩
  rintro m ⟨⟩ ρ1 w H
  refine w_seq ?_
  refine w_seq ?_
  refine w_region ?_
  refine l_pint rfl rfl ?_
  refine l_pslice rfl rfl ?_
  refine l_v rfl (q_lenSlice rfl el_73 rfl) ?_
  refine l_pbool rfl rfl ?_
  refine l_nil ?_
  refine w_cond rfl (fun c3 => ?_) (fun c3 => ?_)
  · try simp only [sH] at c3
    exact absurd c3 (by simp)
  try simp only [sH] at c3
  refine w_exit ?_
  refine w_seq ?_
  refine w_region ?_
  refine l_pbool rfl rfl ?_
  refine l_nil ?_
  refine w_ret ?_
  refine fin1 (v := .bool _) rfl ?_
  exact ⟨rfl, H⟩
end Go.Proofs.Ytmgcmgfjaimlnaa
