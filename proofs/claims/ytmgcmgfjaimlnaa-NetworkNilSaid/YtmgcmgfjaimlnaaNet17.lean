/- The net's Each, and the walk over what it answers, do what the plain lists say. -/
import Derived.Test.YtmgcmgfjaimlnaaNet16
import Derived.Test.YtmgcmgfjaimlnaaNet13
import Derived.Test.YtmgcmgfjaimlnaaBaseAll
namespace Go.Proofs.Ytmgcmgfjaimlnaa
open Go.EW
attribute [local irreducible] EW.W EW.L EW.fin
set_option linter.unusedVariables false
set_option linter.unusedSimpArgs false
/-- what a walk over a pool holds -/
def eachL (b3 : Nat) (a : Option Addr) (c : Nat) (l : List Pk) (F : List Seg) : List Seg := blk b3 [.slice a l.length c] 22 :: row 31 3 a l.length c (pks l) :: Segs (l.map Pk.own) :: F
theorem Each1_ok {W w : World} {F : List Seg} {b3 : Nat} {a : Option Addr} {c lp : Nat} {l : List Pk} {C X : Nat → Seg} (hn : ∀ q ∈ l, q.n ≤ 32768) (hl : l.length ≤ 140737488351232) (H : St W w (C 0 :: eachL b3 a c l F))
    (hY : ∀ (i : Nat) (p q : Pk) (F' : List Seg) (w : World), l[i]? = some p → q.con = p.con → q.bs.length = q.n → St W w (q.own :: C i :: F') → Yl Try.prog lp [I64 (i : Int), pkv q].toArray w (fun v w' => ∃ bb : Bool, v = .bool bb ∧ St W w' (cond bb (C (i + 1)) (X (i + 1)) :: F'))) :
    Ok Try.prog 53 [.func (.yield lp) #[] #[], .pointer (some ⟨b3, 0, none⟩)].toArray w (fun _ w' => St W w' (C l.length :: eachL b3 a c l F) ∨ ∃ k, St W w' (X k :: eachL b3 a c l F)) := by
  refine enter (args := [.func (.yield lp) #[] #[], .pointer (some ⟨b3, 0, none⟩)]) (n := 19) (rs := #[]) Try.func53 rfl rfl rfl rfl ?_
  refine w_seq ?_
  refine w_region ?_
  refine l_v rfl (q_load1 rfl c1_22 rfl (H.cell 1 rfl rfl)) ?_
  refine l_v rfl (q_lenSlice rfl el_22 rfl) ?_
  refine l_pint rfl rfl ?_
  refine l_nil ?_
  refine w_block ?_
  refine w_loopG (G := Nat) [3, 4, 7, 8, 9, 10, 11, 12, 13, 14, 15, 16, 17, 18] (fun i => [(7, I64 ((i : Nat) : Int))]) (fun m i w => m + i = l.length ∧ St W w (C i :: eachL b3 a c l F)) (fun _ => rfl) ?_ ?_
  · exact ⟨l.length, 0, ⟨rfl, trivial⟩, rfl, H⟩
  rintro m i ρ1 w ⟨hmi, H⟩
  refine w_seq ?_
  refine w_region ?_
  refine l_pbool rfl rfl ?_
  refine l_nil ?_
  refine w_seq ?_
  refine w_cond rfl (fun c1 => ?_) (fun c1 => ?_)
  · try simp only [sH] at c1
    obtain ⟨p, hp⟩ : ∃ p, l[i]? = some p := ⟨_, List.getElem?_eq_getElem (by omega)⟩
    have hpm := List.mem_of_getElem? hp
    obtain ⟨b0, o0, hpa, hcs⟩ := pk_cells ((RdIn.row (W := W) 2 rfl).use H 0 rfl) hp
    have hlp := pk_len H 3 rfl hp
    refine w_skip ?_
    refine w_seq ?_
    refine w_block ?_
    refine w_seq ?_
    refine w_region ?_
    refine l_pint rfl rfl ?_
    refine l_v rfl (q_indexSliceA rfl el_22 rfl hpa rfl (by omega)) ?_
    refine l_v rfl (q_loadN (vs := p.cells) rfl ag_31 rfl rfl hcs) ?_
    refine b_alloc rfl ze_31 rfl H (fun b4 w H => ?_)
    refine l_pint rfl rfl ?_
    refine b_store (cs' := p.cells) rfl sz_31 rfl rfl rfl rfl rfl H 0 rfl rfl (putL_all rfl) (fun w H => ?_)
    refine l_nil ?_
    refine w_seq ?_
    refine w_region ?_
    refine l_pfn rfl rfl ?_
    refine l_pint rfl rfl ?_
    refine l_v rfl (q_loadN (vs := p.cells) rfl ag_31 rfl rfl (H.cells 0 rfl)) ?_
    refine b_call rfl cb_47 rfl (copied_ok H p.fr p.to (pk_own 4 rfl hp) hlp.1 (by have := hn p hpm; omega)) (fun v w hv => ?_)
    obtain ⟨bq, rfl, H⟩ := hv
    refine b_yield rfl rfl rfl (hY i p ⟨p.fr, p.to, some ⟨bq, 0, none⟩, p.n, p.n, p.bs⟩ _ w hp rfl hlp.1 (St.pick [0, 2, 3, 4, 5] (pre := [_, _, _, _, _, _]) rfl H rfl)) (fun v w hv => ?_)
    obtain ⟨bb, rfl, H⟩ := hv
    refine l_pbool rfl rfl ?_
    refine l_nil ?_
    refine w_cond rfl (fun c2 => ?_) (fun c2 => ?_)
    · try simp only [sH] at c2
      obtain rfl : bb = false := by simpa using c2
      refine w_ret ?_
      refine fin0 ?_
      exact .inr ⟨_, H⟩
    try simp only [sH] at c2
    obtain rfl : bb = true := by simpa using c2
    refine w_skip ?_
    refine w_region ?_
    first | refine l_v rfl (q_add rfl rfl rfl (by simp only [inK]; omega)) ?_ | refine l_pint rfl rfl ?_
    refine l_pint rfl rfl ?_
    refine l_nil ?_
    refine ⟨by repeat' first | exact aM | exact aR | refine aI rfl ?_ | refine aU rfl ?_ | refine aL rfl ?_, ?_⟩
    exact ⟨m - 1, i + 1, by omega, ⟨by exact congrArg (Value.int IntKind.i64) (Int.natCast_succ i).symm, trivial⟩, by omega, H⟩
  try simp only [sH] at c1
  obtain rfl : i = l.length := by omega
  refine w_exit ?_
  exact fin0n (.inl H)
end Go.Proofs.Ytmgcmgfjaimlnaa
