/- Events whose node is set, in memory; plain lists, no program. -/
import Derived.Test.YtfpmnhmdphaceaaDoorTap55
namespace Go.Proofs.YtfpmnhmdphaceaaDoor
open Go.EW
attribute [local irreducible] EW.W EW.L EW.fin block8 outB shaL
set_option linter.unusedVariables false
set_option linter.unusedSimpArgs false
theorem evm_seg (x : EvM) : x.seg = rowF 5 1 x.a (x.e.bs.map B).length x.c (x.e.bs.map B) := by unfold EvM.seg; rw [List.length_map]
/-- an event whose node is another -/
def setNd (v : Int) (x : EvM) : EvM := { x with e := { x.e with nd := v } }
/-- the first k events have the node v -/
def ndL (v : Int) (l : List EvM) (k : Nat) : List EvM := (l.take k).map (setNd v) ++ l.drop k
theorem ndL_len (v : Int) (l : List EvM) (k : Nat) : (ndL v l k).length = l.length := by
  unfold ndL
  rw [List.length_append, List.length_map, List.length_take, List.length_drop]; omega
theorem ndL_zero (v : Int) (l : List EvM) : ndL v l 0 = l := by unfold ndL; simp
theorem ndL_full (v : Int) (l : List EvM) : ndL v l l.length = l.map (setNd v) := by unfold ndL; simp
theorem evsV_cons (x : EvM) (l : List EvM) : evsV (x :: l) = x.cells ++ evsV l := by unfold evsV; rw [List.flatMap_cons]
theorem evsV_put : ∀ (l : List EvM) (i : Nat) (hi : i < l.length) (v : Int), putL (evsV l) (i * 13 + 1) [I v] = evsV (l.set i (setNd v l[i]))
  | x :: l, 0, _, v => by
    rw [evsV_cons, List.set_cons_zero, evsV_cons]; rfl
  | x :: l, i + 1, hi, v => by
    have ih := evsV_put l i (by simpa using hi) v
    rw [evsV_cons, List.set_cons_succ, evsV_cons]
    show ((x.cells ++ evsV l).set ((i + 1) * 13 + 1) (I v)) = _
    have hl : x.cells.length = 13 := rfl
    rw [List.set_append_right _ _ (by rw [hl]; omega), hl, show (i + 1) * 13 + 1 - 13 = i * 13 + 1 by omega]
    exact congrArg (x.cells ++ ·) ih
theorem ndL_get {v : Int} {l : List EvM} {k : Nat} (hk : k < l.length) (h : k < (ndL v l k).length) : (ndL v l k)[k] = l[k] := by
  have hl : ((l.take k).map (setNd v)).length = k := by rw [List.length_map, List.length_take]; omega
  have e : (ndL v l k)[k]? = l[k]? := by
    unfold ndL
    rw [List.getElem?_append_right (by omega), hl, Nat.sub_self, List.getElem?_drop, Nat.add_zero]
  rw [List.getElem?_eq_getElem h, List.getElem?_eq_getElem hk] at e
  exact Option.some.inj e
theorem ndL_step {v : Int} {l : List EvM} {k : Nat} (hk : k < l.length) : putL (evsV (ndL v l k)) (k * 13 + 1) [I v] = evsV (ndL v l (k + 1)) := by
  have hk2 : k < (ndL v l k).length := by rw [ndL_len]; exact hk
  rw [evsV_put _ k hk2, ndL_get hk hk2]
  congr 1
  unfold ndL
  have hl : ((l.take k).map (setNd v)).length = k := by rw [List.length_map, List.length_take]; omega
  rw [List.set_append_right _ _ (by omega), hl, Nat.sub_self, List.drop_eq_getElem_cons hk, List.set_cons_zero, List.take_succ_eq_append_getElem hk, List.map_append, List.append_assoc]
  rfl
end Go.Proofs.YtfpmnhmdphaceaaDoor
