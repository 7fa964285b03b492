/- The whole book is found apart, of any lists of bytes and of numbers in memory, for the network's seat. -/
import Derived.Test.YtmgcmgfjaimlnaaNep52
namespace Go.Proofs.Ytmgcmgfjaimlnaa
open Go.EW
attribute [local irreducible] EW.W EW.L EW.fin
set_option linter.unusedVariables false
set_option linter.unusedSimpArgs false
/-- the book's cells -/
def bookC (rs : List LR) (ka : Option Addr) (kc : Nat) (qs : List LR) (ia : Option Addr) (ic : Nat) : List Value := [.slice ka rs.length kc, .slice ia qs.length ic, .slice none 0 0, .slice none 0 0, .slice none 0 0, .slice none 0 0, .slice none 0 0, .slice none 0 0, .slice none 0 0, .slice none 0 0]
def bookL (bk : Nat) (rs : List LR) (ka : Option Addr) (kc : Nat) (qs : List LR) (ia : Option Addr) (ic : Nat) (F : List Seg) : List Seg :=
  row 29 1 ka rs.length kc (rs.map LR.v) :: Segs (rs.map (LR.seg 5)) :: blk bk (bookC rs ka kc qs ia ic) 75 :: row 23 1 ia qs.length ic (qs.map LR.v) :: Segs (qs.map (LR.seg 3)) :: F
theorem Apart_ok {W w : World} {F : List Seg} {bk : Nat} {rs qs : List LR} {ka ia : Option Addr} {kc ic : Nat} (H : St W w (bookL bk rs ka kc qs ia ic F)) (hok : LsOk rs) (hoq : LsOk qs) :
    Ok Try.prog 39 [.pointer (some ⟨bk, 0, none⟩)].toArray w (fun v w' => v = .bool true ∧ St W w' F) := by
  refine enter (n := 41) (rs := #[.tmp 2]) Try.func39 rfl rfl rfl rfl ?_
  refine w_seq ?_
  refine w_region ?_
  refine l_pbool rfl rfl ?_
  refine l_nil ?_
  refine w_seq ?_
  refine w_region ?_
  refine l_pptr rfl rfl ?_
  refine b_call rfl cb_70 rfl (apartBytes_ok H hok rfl) (fun v w hv => ?_)
  obtain ⟨rfl, H⟩ := hv
  have H := St.pick [1, 2, 0] (pre := [_, _, _]) rfl H rfl
  refine l_pbool rfl rfl ?_
  refine l_split 5 rfl (fun h5 => ?_) (fun h5 => absurd h5 (by simp))
  try simp only [sH] at h5
  refine l_pptr rfl rfl ?_
  refine b_call rfl cb_71 rfl (apartInts_ok H hoq rfl) (fun v w hv => ?_)
  obtain ⟨rfl, H⟩ := hv
  refine l_pickT (v := .bool _) rfl rfl rfl ?_
  refine l_pbool rfl rfl ?_
  refine l_split 9 rfl (fun h9 => ?_) (fun h9 => absurd h9 (by simp))
  try simp only [sH] at h9
  refine l_pptr rfl rfl ?_
  refine b_call rfl cb_72 rfl (apartVector_ok H rfl) (fun v w hv => ?_)
  obtain ⟨rfl, H⟩ := hv
  refine l_pickT (v := .bool _) rfl rfl rfl ?_
  refine l_pbool rfl rfl ?_
  refine l_split 13 rfl (fun h13 => ?_) (fun h13 => absurd h13 (by simp))
  try simp only [sH] at h13
  refine l_pptr rfl rfl ?_
  refine b_call rfl cb_73 rfl (apartEntries_ok H rfl) (fun v w hv => ?_)
  obtain ⟨rfl, H⟩ := hv
  refine l_pickT (v := .bool _) rfl rfl rfl ?_
  refine l_pbool rfl rfl ?_
  refine l_split 17 rfl (fun h17 => ?_) (fun h17 => absurd h17 (by simp))
  try simp only [sH] at h17
  refine l_pptr rfl rfl ?_
  refine b_call rfl cb_74 rfl (apartCells_ok H rfl) (fun v w hv => ?_)
  obtain ⟨rfl, H⟩ := hv
  refine l_pickT (v := .bool _) rfl rfl rfl ?_
  refine l_pbool rfl rfl ?_
  refine l_split 21 rfl (fun h21 => ?_) (fun h21 => absurd h21 (by simp))
  try simp only [sH] at h21
  refine l_pptr rfl rfl ?_
  refine b_call rfl cb_75 rfl (apartRows_ok H rfl) (fun v w hv => ?_)
  obtain ⟨rfl, H⟩ := hv
  refine l_pickT (v := .bool _) rfl rfl rfl ?_
  refine l_pbool rfl rfl ?_
  refine l_split 25 rfl (fun h25 => ?_) (fun h25 => absurd h25 (by simp))
  try simp only [sH] at h25
  refine l_pptr rfl rfl ?_
  refine b_call rfl cb_76 rfl (apartResults_ok H rfl) (fun v w hv => ?_)
  obtain ⟨rfl, H⟩ := hv
  refine l_pickT (v := .bool _) rfl rfl rfl ?_
  refine l_pbool rfl rfl ?_
  refine l_split 29 rfl (fun h29 => ?_) (fun h29 => absurd h29 (by simp))
  try simp only [sH] at h29
  refine l_pptr rfl rfl ?_
  refine b_call rfl cb_77 rfl (apartStamps_ok H rfl) (fun v w hv => ?_)
  obtain ⟨rfl, H⟩ := hv
  refine l_pickT (v := .bool _) rfl rfl rfl ?_
  refine l_pbool rfl rfl ?_
  refine l_split 33 rfl (fun h33 => ?_) (fun h33 => absurd h33 (by simp))
  try simp only [sH] at h33
  refine l_pptr rfl rfl ?_
  refine b_call rfl cb_78 rfl (apartAcks_ok H rfl) (fun v w hv => ?_)
  obtain ⟨rfl, H⟩ := hv
  refine l_pickT (v := .bool _) rfl rfl rfl ?_
  refine l_pbool rfl rfl ?_
  refine l_split 37 rfl (fun h37 => ?_) (fun h37 => absurd h37 (by simp))
  try simp only [sH] at h37
  refine l_pptr rfl rfl ?_
  refine b_call rfl cb_79 rfl (apartMarks_ok H rfl) (fun v w hv => ?_)
  obtain ⟨rfl, H⟩ := hv
  refine l_pickT (v := .bool _) rfl rfl rfl ?_
  refine l_pbool rfl rfl ?_
  refine l_nil ?_
  refine w_ret ?_
  refine fin1 (v := .bool _) rfl ?_
  exact ⟨rfl, H.drop1⟩
end Go.Proofs.Ytmgcmgfjaimlnaa
