/- The laws' helpers: lists of copies, the pool, Genuine. -/
import Derived.Test.YtmgcmgfjaimlnaaNet5
namespace Go.Proofs.Ytmgcmgfjaimlnaa
open Go.EW
attribute [local irreducible] EW.W EW.L EW.fin
set_option linter.unusedVariables false
set_option linter.unusedSimpArgs false
theorem Genuine_ok {W w : World} {F : List Seg} {b : Nat} {st : NetS} (H : St W w (netL b st F)) (fr to : Int) {a : Option Addr} {n cap : Nat} {bs : List UInt8} (hr : RdIn W F a (bs.map B)) (hl : bs.length = n) :
    Ok Try.prog 30 [.pointer (some ⟨b, 0, none⟩), .agg #[.int .i64 fr, .int .i64 to, .slice a n cap]].toArray w (fun v w' => v = .bool (decide ((kget (0, to, bs) st.came).getD 0 > 0)) ∧ St W w' (netL b st F)) := by
  refine enter (n := 21) (rs := #[.tmp 4]) Try.func30 rfl rfl rfl rfl ?_
  refine w_seq ?_
  refine w_region ?_
  refine b_box rfl rfl rfl H (fun b3 w H => ?_)
  refine l_pbool rfl rfl ?_
  refine l_nil ?_
  refine w_seq ?_
  refine w_drawT [] [6, 8, 10, 11, 13] [(0, 0), (1, 0), (2, 0), (3, 0), (4, 0), (5, 0), (6, 1), (7, 0), (8, 1), (9, 0), (10, 1), (11, 1), (12, 0), (13, 1), (14, 0), (15, 0), (16, 0)] mixed (by kernel_rfl) (fun _ _ _ h => fin_panic h) H (fun H => ?_)
  refine r_pptr rfl rfl rfl ?_
  refine r_w rfl rfl (fun w => q_neqNilF rfl pt_24 rfl rfl) ?_
  refine r_pbool rfl rfl rfl ?_
  refine r_pptr rfl rfl rfl ?_
  refine r_pptr rfl rfl rfl ?_
  refine r_w rfl rfl (fun w => q_fieldAddr rfl fo84_5 rfl) ?_
  refine r_v rfl rfl (fun w hS => q_load1 rfl c1_82 rfl (by first | exact hS.cell 0 rfl rfl | exact hS.cell 1 rfl rfl | exact hS.cell 2 rfl rfl | exact hS.cell 3 rfl rfl | exact hS.cell 4 rfl rfl | exact hS.cell 5 rfl rfl | exact hS.cell 6 rfl rfl | exact hS.cell 7 rfl rfl | exact hS.cell 8 rfl rfl | exact hS.cell 9 rfl rfl)) ?_
  refine r_w rfl rfl (fun w => q_fieldAddr rfl fo31_1 rfl) ?_
  refine r_v rfl rfl (fun w hS => q_load1 rfl c1_3 rfl (by first | exact hS.cell 0 rfl rfl | exact hS.cell 1 rfl rfl | exact hS.cell 2 rfl rfl | exact hS.cell 3 rfl rfl | exact hS.cell 4 rfl rfl | exact hS.cell 5 rfl rfl | exact hS.cell 6 rfl rfl | exact hS.cell 7 rfl rfl | exact hS.cell 8 rfl rfl | exact hS.cell 9 rfl rfl)) ?_
  refine r_w rfl rfl (fun w => q_fieldAddr rfl fo31_2 rfl) ?_
  refine r_v rfl rfl (fun w hS => q_load1 rfl c1_29 rfl (by first | exact hS.cell 0 rfl rfl | exact hS.cell 1 rfl rfl | exact hS.cell 2 rfl rfl | exact hS.cell 3 rfl rfl | exact hS.cell 4 rfl rfl | exact hS.cell 5 rfl rfl | exact hS.cell 6 rfl rfl | exact hS.cell 7 rfl rfl | exact hS.cell 8 rfl rfl | exact hS.cell 9 rfl rfl)) ?_
  refine r_v rfl rfl (fun w hS => q_bytesStr rfl by_29 st_9 rfl ((hr.up 8 rfl).use hS 0 rfl) hl) ?_
  refine r_w rfl rfl (fun w => q_build (cs := [.int _ _, .int _ _, .string _]) rfl sp_88 rfl) ?_
  refine r_v rfl rfl (fun w hS => q_lookup1 (k := (_, _, _)) rfl mp_82 ky_88 ze_3 rfl rfl (by first | exact hS.heapMI 0 rfl | exact hS.heapMI 1 rfl | exact hS.heapMI 2 rfl | exact hS.heapMI 3 rfl | exact hS.heapMI 4 rfl | exact hS.heapMI 5 rfl | exact hS.heapMI 6 rfl | exact hS.heapMI 7 rfl | exact hS.heapMI 8 rfl | exact hS.heapMI 9 rfl)) ?_
  refine r_pbool rfl rfl rfl ?_
  refine r_pickT (v := .bool _) rfl rfl rfl rfl ?_
  refine r_pbool rfl rfl rfl ?_
  refine r_nil ?_
  refine w_ret ?_
  refine fin1 (v := .bool _) rfl ?_
  refine ⟨congrArg Value.bool ?_, H.erase 0⟩
  rfl
def Pk.con (p : Pk) : Int × Int × List UInt8 := (p.fr, p.to, p.bs)
def Good (W : World) (F : List Seg) (l : List Pk) : Prop := ∀ p ∈ l, RdIn W F p.a (p.bs.map B) ∧ p.bs.length = p.n ∧ p.n ≤ 140737488355328
theorem Good.up {W : World} {F S : List Seg} {l : List Pk} (h : Good W F l) (k : Nat) (hk : S.drop k = F) : Good W S l := fun p hp => ⟨(h p hp).1.up k hk, (h p hp).2⟩
theorem AtR.hit {pool : List Pk} {i : Nat} {q : Pk} {e : Int} (h : AtR pool i q e) (hi : i < pool.length) : e = 0 ∧ ∃ p, pool[i]? = some p ∧ q = ⟨p.fr, p.to, q.a, p.n, p.n, p.bs⟩ := by
  rcases h with h | ⟨p, _, _, hp, he, hq⟩
  · exact absurd ⟨by omega, by omega⟩ h.1
  exact ⟨he, p, by simpa using hp, hq⟩
theorem AtR.con {p q : Pk} (h : q = ⟨p.fr, p.to, q.a, p.n, p.n, p.bs⟩) : q.con = p.con := by rw [h]; rfl
end Go.Proofs.Ytmgcmgfjaimlnaa
