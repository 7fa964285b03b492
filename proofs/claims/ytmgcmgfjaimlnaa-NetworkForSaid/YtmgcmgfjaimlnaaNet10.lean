/- The network's Copy, Drop and Clear, and two helpers, do what their contracts say. -/
import Derived.Test.YtmgcmgfjaimlnaaNet9
namespace Go.Proofs.Ytmgcmgfjaimlnaa
open Go.EW
attribute [local irreducible] EW.W EW.L EW.fin
set_option linter.unusedVariables false
set_option linter.unusedSimpArgs false
def clearS (st : NetS) : NetS := { st with pa := none, pcap := 0, pool := [] }
theorem clear_fin {W w : World} {F : List Seg} {b : Nat} {st : NetS}
    (H : St W w (blk b [.int .i64 st.nodes, .int .i64 st.clients, .slice none 0 0, .slice st.ra st.record.length st.rcap, .map (some st.pm), .map (some st.cm)] 84 ::
      row 31 3 st.pa st.pool.length st.pcap (pks st.pool) :: Segs (st.pool.map Pk.own) :: row 31 3 st.ra st.record.length st.rcap (pks st.record) :: Segs (st.record.map Pk.own) :: kmap st.pm st.place :: kmap st.cm st.came :: F)) :
    St W w (netL b (clearS st) F) := by
  have H1 := St.newRow (T := 31) (sz := 3) (St.nilseg.2 H)
  exact H1.pick [2, 0, 1, 5, 6, 7, 8] (pre := [_, _, _, _, _, _, _, _, _]) rfl rfl
theorem Clear_ok {W w : World} {F : List Seg} {b : Nat} {st : NetS} (H : St W w (netL b st F)) :
    Ok Try.prog 24 [.pointer (some ⟨b, 0, none⟩)].toArray w (fun v w' => v = .tuple #[] ∧ St W w' (netL b (clearS st) F)) := by
  refine enter (n := 7) (rs := #[]) Try.func24 rfl rfl rfl rfl ?_
  refine w_seq ?_
  refine w_region ?_
  refine l_pptr rfl rfl ?_
  refine l_v rfl (q_neqNilF rfl pt_24 rfl rfl) ?_
  refine l_nil ?_
  refine w_cond_t rfl ?_
  refine w_region ?_
  refine l_pptr rfl rfl ?_
  refine l_pptr rfl rfl ?_
  refine l_v rfl (q_fieldAddr rfl fo84_2 rfl) ?_
  first | refine b_store rfl sz_22 rfl rfl rfl rfl rfl H 0 rfl rfl rfl (fun w H => ?_) | refine b_store rfl sz_22 rfl rfl rfl rfl rfl H 1 rfl rfl rfl (fun w H => ?_) | refine b_store rfl sz_22 rfl rfl rfl rfl rfl H 2 rfl rfl rfl (fun w H => ?_) | refine b_store rfl sz_22 rfl rfl rfl rfl rfl H 3 rfl rfl rfl (fun w H => ?_) | refine b_store rfl sz_22 rfl rfl rfl rfl rfl H 4 rfl rfl rfl (fun w H => ?_) | refine b_store rfl sz_22 rfl rfl rfl rfl rfl H 5 rfl rfl rfl (fun w H => ?_) | refine b_store rfl sz_22 rfl rfl rfl rfl rfl H 6 rfl rfl rfl (fun w H => ?_) | refine b_store rfl sz_22 rfl rfl rfl rfl rfl H 7 rfl rfl rfl (fun w H => ?_) | refine b_store rfl sz_22 rfl rfl rfl rfl rfl H 8 rfl rfl rfl (fun w H => ?_) | refine b_store rfl sz_22 rfl rfl rfl rfl rfl H 9 rfl rfl rfl (fun w H => ?_)
  refine l_nil ?_
  exact fin0n ⟨rfl, clear_fin H⟩
end Go.Proofs.Ytmgcmgfjaimlnaa
