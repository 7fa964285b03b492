/- The bulk of an input bounds its parts; no conditions. -/
import Derived.Test.YtmgcmgfjaimlnaaArgs2
import Derived.Test.YtmgcmgfjaimlnaaRows
namespace Go.Proofs.Ytmgcmgfjaimlnaa
open Go.EW
theorem bulkAll_sum {H : Type} : ∀ l : List (DataW H), Rows.uptoBulkAll l = (l.map Rows.uptoBulk).sum
  | [] => rfl
  | d :: l => by rw [Rows.uptoBulkAll, bulkAll_sum l]; rfl
theorem bulk_mem {H : Type} {d : DataW H} {l : List (DataW H)} (h : d ∈ l) : Rows.uptoBulk d ≤ Rows.uptoBulkAll l := by
  rw [bulkAll_sum]
  induction l with
  | nil => cases h
  | cons x r ih =>
    simp only [List.map_cons, List.sum_cons]
    rcases List.mem_cons.1 h with rfl | h
    · omega
    have := ih h; omega
theorem bulk_law {H : Type} : BulkLaw (H := H) Rows.uptoBulk where
  one d := by
    cases d with
    | lit l => cases l <;> simp [Rows.uptoBulk]
    | nil => simp [Rows.uptoBulk]
    | ptr d => simp [Rows.uptoBulk]
    | slice e s => simp [Rows.uptoBulk]
    | agg p => simp [Rows.uptoBulk]
    | iface t d => simp [Rows.uptoBulk]
    | map e => simp [Rows.uptoBulk]
    | held h => simp [Rows.uptoBulk]
  str bytes := by simp [Rows.uptoBulk]
  slice e s := by rw [← bulkAll_sum, Rows.uptoBulk]; omega
  agg ps p h := by
    have := bulk_mem h
    rw [Rows.uptoBulk]; omega
theorem bulk_small {H : Type} (ds : List (DataW H)) (h : Rows.uptoSmall H ds = true) (d : DataW H) (hd : d ∈ ds) : Rows.uptoBulk d ≤ 1048576 := by
  have h1 : Rows.uptoBulkAll ds ≤ 1048576 := of_decide_eq_true h
  exact Nat.le_trans (bulk_mem hd) h1
end Go.Proofs.Ytmgcmgfjaimlnaa
