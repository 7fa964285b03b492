/- A list is put into the book, for the network's seat. -/
import Derived.Test.YtmgcmgfjaimlnaaNep53
namespace Go.Proofs.Ytmgcmgfjaimlnaa
open Go.EW
attribute [local irreducible] EW.W EW.L EW.fin
set_option linter.unusedVariables false
set_option linter.unusedSimpArgs false
/-- a list is put into the book if it is not empty -/
def putB (rs : List LR) (r : LR) : List LR := if r.p.length = 0 then rs else rs ++ [r]
theorem putB_ok {rs : List LR} {r : LR} {k : Nat} (h : ∀ x ∈ rs, x.p.length ≤ k) (hr : r.p.length ≤ k) : ∀ x ∈ putB rs r, x.p.length ≤ k := fun x hx => by
  unfold putB at hx
  split at hx
  · exact h x hx
  rcases List.mem_append.1 hx with hx | hx
  · exact h x hx
  rw [List.mem_singleton.1 hx]; exact hr
theorem putB_len (rs : List LR) (r : LR) : (putB rs r).length ≤ rs.length + 1 := by
  unfold putB
  split
  · omega
  rw [List.length_append]; exact Nat.le_refl _
set_option maxRecDepth 8000 in
theorem BBytes_ok {W w : World} {F : List Seg} {bk : Nat} {rs qs : List LR} {ka ia a : Option Addr} {kc ic c n : Nat} {xs : List Value} (H : St W w (rowF 5 1 a xs.length c xs :: bookL bk rs ka kc qs ia ic F)) (hl : xs.length = n) (hrs : rs.length ≤ 2000000000000) :
    Ok Try.prog 69 [.pointer (some ⟨bk, 0, none⟩), .slice a n c].toArray w (fun v w' => ∃ ka' kc', St W w' (bookL bk (putB rs ⟨a, c, xs⟩) ka' kc' qs ia ic F)) := by
  subst hl
  refine enter (n := 17) (rs := #[]) Try.func69 rfl rfl rfl rfl ?_
  refine w_seq ?_
  refine w_region ?_
  refine l_pslice rfl rfl ?_
  refine l_v rfl (q_lenSlice rfl el_29 rfl) ?_
  refine l_pbool rfl rfl ?_
  refine l_nil ?_
  refine w_cond rfl (fun c1 => ?_) (fun c1 => ?_)
  · try simp only [sH] at c1
    refine w_region ?_
    refine l_pptr rfl rfl ?_
    refine l_pptr rfl rfl ?_
    refine l_pptr rfl rfl ?_
    refine l_v rfl (q_fieldAddr rfl fo75_0 rfl) ?_
    refine l_v rfl (q_load1 rfl c1_64 rfl (H.cell 3 rfl rfl)) ?_
    refine l_pslice rfl rfl ?_
    refine b_buildSlice (cs := [.slice a xs.length c]) rfl el_64 ze_29 rfl rfl rfl H (fun b13 w H => ?_)
    refine b_append rfl el_64 ze_29 rfl rfl rfl H 2 rfl (Rd.mk (H.cells0 0 rfl)) rfl (fun u hu => by obtain rfl := List.mem_singleton.1 hu; rfl) ⟨by omega, by simp only [maxLen]; omega⟩ (fun a14 c14 w H => ?_)
    have H := H.drop1
    refine l_pptr rfl rfl ?_
    refine l_v rfl (q_fieldAddr rfl fo75_0 rfl) ?_
    have e1 : (rs ++ [(⟨a, c, xs⟩ : LR)]).length = rs.length + 1 := by rw [List.length_append]; rfl
    refine b_store (cs' := bookC (rs ++ [⟨a, c, xs⟩]) a14 c14 qs ia ic) rfl sz_64 rfl rfl rfl rfl rfl H 3 rfl rfl (by unfold bookC; rw [e1]; rfl) (fun w H => ?_)
    refine l_nil ?_
    refine fin0n ?_
    refine ⟨a14, c14, ?_⟩
    have e2 : putB rs ⟨a, c, xs⟩ = rs ++ [⟨a, c, xs⟩] := if_neg (by show ¬ xs.length = 0; omega)
    rw [e2]
    unfold bookL
    rw [e1, List.map_append, List.map_append]
    exact St.pick [1, 0, 2, 3, 4] (pre := [_, _, _, _, _]) rfl (St.snocseg.1 (St.pick [2, 0, 1, 3, 4, 5] (pre := [_, _, _, _, _, _]) rfl H rfl)) rfl
  try simp only [sH] at c1
  refine w_skip ?_
  refine fin0n ?_
  have e2 : putB rs ⟨a, c, xs⟩ = rs := if_pos (by show xs.length = 0; omega)
  rw [e2]
  exact ⟨ka, kc, H.drop1⟩
set_option maxRecDepth 8000 in
theorem BInts_ok {W w : World} {F : List Seg} {bk : Nat} {rs qs : List LR} {ka ia a : Option Addr} {kc ic c n : Nat} {xs : List Value} (H : St W w (rowF 3 1 a xs.length c xs :: bookL bk rs ka kc qs ia ic F)) (hl : xs.length = n) (hrs : qs.length ≤ 2000000000000) :
    Ok Try.prog 66 [.pointer (some ⟨bk, 0, none⟩), .slice a n c].toArray w (fun v w' => ∃ ka' kc', St W w' (bookL bk rs ka kc (putB qs ⟨a, c, xs⟩) ka' kc' F)) := by
  subst hl
  refine enter (n := 17) (rs := #[]) Try.func66 rfl rfl rfl rfl ?_
  refine w_seq ?_
  refine w_region ?_
  refine l_pslice rfl rfl ?_
  refine l_v rfl (q_lenSlice rfl el_23 rfl) ?_
  refine l_pbool rfl rfl ?_
  refine l_nil ?_
  refine w_cond rfl (fun c1 => ?_) (fun c1 => ?_)
  · try simp only [sH] at c1
    refine w_region ?_
    refine l_pptr rfl rfl ?_
    refine l_pptr rfl rfl ?_
    refine l_pptr rfl rfl ?_
    refine l_v rfl (q_fieldAddr rfl fo75_1 rfl) ?_
    refine l_v rfl (q_load1 rfl c1_65 rfl (H.cell 3 rfl rfl)) ?_
    refine l_pslice rfl rfl ?_
    refine b_buildSlice (cs := [.slice a xs.length c]) rfl el_65 ze_23 rfl rfl rfl H (fun b13 w H => ?_)
    refine b_append rfl el_65 ze_23 rfl rfl rfl H 5 rfl (Rd.mk (H.cells0 0 rfl)) rfl (fun u hu => by obtain rfl := List.mem_singleton.1 hu; rfl) ⟨by omega, by simp only [maxLen]; omega⟩ (fun a14 c14 w H => ?_)
    have H := H.drop1
    refine l_pptr rfl rfl ?_
    refine l_v rfl (q_fieldAddr rfl fo75_1 rfl) ?_
    have e1 : (qs ++ [(⟨a, c, xs⟩ : LR)]).length = qs.length + 1 := by rw [List.length_append]; rfl
    refine b_store (cs' := bookC rs ka kc (qs ++ [⟨a, c, xs⟩]) a14 c14) rfl sz_65 rfl rfl rfl rfl rfl H 3 rfl rfl (by unfold bookC; rw [e1]; rfl) (fun w H => ?_)
    refine l_nil ?_
    refine fin0n ?_
    refine ⟨a14, c14, ?_⟩
    have e2 : putB qs ⟨a, c, xs⟩ = qs ++ [⟨a, c, xs⟩] := if_neg (by show ¬ xs.length = 0; omega)
    rw [e2]
    unfold bookL
    rw [e1, List.map_append, List.map_append]
    exact St.pick [1, 2, 3, 4, 0] (pre := [_, _, _, _, _]) rfl (St.snocseg.1 (St.pick [5, 0, 1, 2, 3, 4] (pre := [_, _, _, _, _, _]) rfl H rfl)) rfl
  try simp only [sH] at c1
  refine w_skip ?_
  refine fin0n ?_
  have e2 : putB qs ⟨a, c, xs⟩ = qs := if_pos (by show xs.length = 0; omega)
  rw [e2]
  exact ⟨ia, ic, H.drop1⟩
end Go.Proofs.Ytmgcmgfjaimlnaa
