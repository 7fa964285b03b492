/- The net's For answers the places of those that go there. -/
import Derived.Test.YtmgcmgfjaimlnaaNet17
namespace Go.Proofs.Ytmgcmgfjaimlnaa
open Go.EW
attribute [local irreducible] EW.W EW.L EW.fin
set_option linter.unusedVariables false
set_option linter.unusedSimpArgs false
/-- the places, below k, of those that go there -/
def forN (to : Int) (l : List Pk) : Nat → List Nat
  | 0 => []
  | k + 1 => forN to l k ++ (if (l[k]?.map Pk.to) = some to then [k] else [])
theorem forN_con {to : Int} {l l' : List Pk} (h : l'.map Pk.con = l.map Pk.con) : ∀ k, forN to l' k = forN to l k
  | 0 => rfl
  | k + 1 => by
    have e : (l'[k]?.map Pk.to) = (l[k]?.map Pk.to) := by
      have h1 : ∀ x : List Pk, x[k]?.map Pk.to = (x.map Pk.con)[k]?.map (fun c => c.2.1) := fun x => by
        rw [List.getElem?_map, Option.map_map]; rfl
      rw [h1, h1, h]
    rw [forN, forN, forN_con h k, e]
theorem forN_len (to : Int) (l : List Pk) : ∀ k, (forN to l k).length ≤ k
  | 0 => Nat.le_refl _
  | k + 1 => by
    rw [forN, List.length_append]
    have := forN_len to l k
    split <;> simp <;> omega
/-- what the body of For's loop keeps -/
def forC (lp : Nat) (o : Obj) (D bt b5 : Nat) (to : Int) (l : List Pk) (k : Nat) : Seg :=
  star (objb lp o) (star (objb D (.deferred (some []))) (star (blk bt [I64 to] 3) (ex fun ja : Option Addr × Nat => star (blk b5 [.slice ja.1 (forN to l k).length ja.2] 23) (row 3 1 ja.1 (forN to l k).length ja.2 ((forN to l k).map fun i : Nat => I64 (i : Int))))))
theorem for_open {W w : World} {F : List Seg} {lp : Nat} {o : Obj} {D bt b5 : Nat} {to : Int} {l : List Pk} {k : Nat} (H : St W w (forC lp o D bt b5 to l k :: F)) :
    ∃ ja jc, St W w (objb lp o :: objb D (.deferred (some [])) :: blk bt [I64 to] 3 :: blk b5 [.slice ja (forN to l k).length jc] 23 :: row 3 1 ja (forN to l k).length jc ((forN to l k).map fun i : Nat => I64 (i : Int)) :: F) := by
  have H := St.star.1 H
  have H := St.star.1 (St.pick [1, 0] (pre := [_, _]) rfl H rfl)
  have H := St.star.1 (St.pick [1, 0, 2] (pre := [_, _, _]) rfl H rfl)
  obtain ⟨⟨ja, jc⟩, H⟩ := St.ex.1 (St.pick [1, 0, 2, 3] (pre := [_, _, _, _]) rfl H rfl)
  have H := St.star.1 H
  exact ⟨ja, jc, St.pick [4, 3, 2, 0, 1] (pre := [_, _, _, _, _]) rfl H rfl⟩
theorem for_pack {W w : World} {F : List Seg} {lp : Nat} {o : Obj} {D bt b5 : Nat} {to : Int} {l : List Pk} {k : Nat} {ja : Option Addr} {jc : Nat}
    (H : St W w (objb lp o :: objb D (.deferred (some [])) :: blk bt [I64 to] 3 :: blk b5 [.slice ja (forN to l k).length jc] 23 :: row 3 1 ja (forN to l k).length jc ((forN to l k).map fun i : Nat => I64 (i : Int)) :: F)) : St W w (forC lp o D bt b5 to l k :: F) := by
  have H := (St.ex (f := fun ja : Option Addr × Nat => star (blk b5 [.slice ja.1 (forN to l k).length ja.2] 23) (row 3 1 ja.1 (forN to l k).length ja.2 ((forN to l k).map fun i : Nat => I64 (i : Int))))).2 ⟨(ja, jc), St.star.2 (St.pick [3, 4, 2, 1, 0] (pre := [_, _, _, _, _]) rfl H rfl)⟩
  have H := St.star.2 (St.pick [1, 0, 2, 3] (pre := [_, _, _, _]) rfl H rfl)
  have H := St.star.2 (St.pick [1, 0, 2] (pre := [_, _, _]) rfl H rfl)
  exact St.star.2 (St.pick [1, 0] (pre := [_, _]) rfl H rfl)
theorem For_ok {W w : World} {F : List Seg} {b : Nat} {st : NetS} (H : St W w (netL b st F)) (hfit : st.fit) (hroom : st.pool.length * 40 ≤ 140737488351232) (to : Int) :
    Ok Try.prog 32 [.pointer (some ⟨b, 0, none⟩), I64 to].toArray w (fun v w' => ∃ a' c', v = .slice a' (forN to st.pool st.pool.length).length c' ∧ St W w' (row 3 1 a' (forN to st.pool st.pool.length).length c' ((forN to st.pool st.pool.length).map fun i : Nat => I64 (i : Int)) :: netL b st F)) := by
  refine enter (n := 21) (rs := #[.tmp 4]) Try.func32 rfl rfl rfl rfl ?_
  refine w_seq ?_
  refine w_region ?_
  refine b_box (cs := [I64 to]) rfl rfl rfl H (fun b3 w H => ?_)
  refine l_pslice rfl rfl ?_
  refine l_nil ?_
  refine w_seq ?_
  refine w_region ?_
  refine b_alloc rfl ze_23 rfl H (fun b5 w H => ?_)
  refine l_nil ?_
  refine w_seq ?_
  refine w_seq ?_
  refine w_region ?_
  refine l_pptr rfl rfl ?_
  refine b_call rfl cb_33 rfl (Each_ok (F := blk b5 [.slice none 0 0] 23 :: blk b3 [I64 to] 3 :: F) (b := b) (st := st) (St.pick [2, 3, 4, 5, 6, 7, 8, 0, 1] (pre := [_, _, _, _, _, _, _, _, _]) rfl H rfl) hfit hroom) (fun v w hv => ?_)
  obtain ⟨be, a', c', l', rfl, hcon, hq, H⟩ := hv
  have hll : l'.length = st.pool.length := by rw [← List.length_map (f := Pk.con), hcon, List.length_map]
  refine l_nil ?_
  refine w_block ?_
  refine w_rangeFunc (gf := 53) (cap := #[.pointer (some ⟨be, 0, none⟩)]) rfl (by kernel_rfl) H (fun lp D fn w H => ?_)
  have H := for_pack (to := to) (l := l') (k := 0) (ja := none) (jc := 0) (St.pick [1, 2, 14, 13, 0, 3, 4, 5, 6, 7, 8, 9, 10, 11, 12] (pre := [_, _, _, _, _, _, _, _, _, _, _, _, _, _, _]) rfl (St.newRow (T := 3) (sz := 1) H) rfl)
  refine Ok.mono (Each1_ok (C := fun k => forC lp (.loop _) D b3 b5 to l' k) (X := fun _ => pr False) (F := netL b st F) hq (by omega) H (fun i p q F' w hp hcq hql H => ?_)) ?_
  · obtain ⟨ja, jc, H⟩ := for_open (St.pick [1, 0] (pre := [_, _]) rfl H rfl)
    have hil : i < l'.length := (List.getElem?_eq_some_iff.1 hp).1
    have hfl := forN_len to l' i
    have hqt : q.to = p.to := congrArg (fun c => c.2.1) hcq
    refine yl_round (pl := [10, 11]) H rfl ?_
    refine w_seq ?_
    refine w_region ?_
    refine l_pint rfl rfl ?_
    refine l_nil ?_
    refine w_region ?_
    refine b_alloc rfl ze_31 rfl H (fun b7 w H => ?_)
    refine b_store (cs' := q.cells) rfl sz_31 rfl rfl rfl rfl rfl H 0 rfl rfl (putL_all rfl) (fun w H => ?_)
    refine l_nil ?_
    refine ⟨_, St.pick [1, 0, 2, 3, 4, 5, 6] (pre := [_, _, _, _, _, _, _]) rfl H rfl, fun w H => ?_⟩
    refine w_block ?_
    refine w_seq ?_
    refine w_region ?_
    refine l_v rfl (q_fieldAddr rfl fo31_1 rfl) ?_
    refine l_v rfl (q_load1 rfl c1_3 rfl (by first | exact H.cell 0 rfl rfl | exact H.cell 1 rfl rfl | exact H.cell 2 rfl rfl | exact H.cell 3 rfl rfl | exact H.cell 4 rfl rfl | exact H.cell 5 rfl rfl)) ?_
    refine l_v rfl (q_load1 rfl c1_3 rfl (by first | exact H.cell 0 rfl rfl | exact H.cell 1 rfl rfl | exact H.cell 2 rfl rfl | exact H.cell 3 rfl rfl | exact H.cell 4 rfl rfl | exact H.cell 5 rfl rfl)) ?_
    refine l_pbool rfl rfl ?_
    refine l_nil ?_
    refine w_cond rfl (fun c1 => ?_) (fun c1 => ?_)
    · try simp only [sH] at c1
      refine w_region ?_
      refine l_v rfl (q_load1 rfl c1_23 rfl (by first | exact H.cell 0 rfl rfl | exact H.cell 1 rfl rfl | exact H.cell 2 rfl rfl | exact H.cell 3 rfl rfl | exact H.cell 4 rfl rfl | exact H.cell 5 rfl rfl)) ?_
      refine l_pint rfl rfl ?_
      refine b_buildSlice (cs := [_]) rfl el_23 ze_3 rfl rfl rfl H (fun b18 w H => ?_)
      refine b_append rfl el_23 ze_3 rfl rfl rfl H 6 rfl (ys := [I64 (i : Int)]) (Rd.mk (H.cells0 0 rfl)) rfl (fun u hu => by obtain rfl := List.mem_singleton.1 hu; rfl) ⟨by omega, by simp only [maxLen]; omega⟩ (fun a19 c19 w H => ?_)
      have H := H.drop1
      refine b_store (cs' := [.slice a19 ((forN to l' i).length + 1) c19]) rfl sz_23 rfl rfl rfl rfl rfl H 4 rfl rfl rfl (fun w H => ?_)
      refine l_nil ?_
      refine ⟨_, H, fun w H => ⟨true, rfl, ?_⟩⟩
      have e1 : forN to l' (i + 1) = forN to l' i ++ [i] := by rw [forN, hp]; simp [← hqt, c1]
      refine for_pack (ja := a19) (jc := c19) ?_
      rw [e1, List.map_append, List.length_append]
      exact St.pick [0, 2, 3, 4, 5] (pre := [_, _, _, _, _, _, _]) rfl H rfl
    try simp only [sH] at c1
    refine w_skip ?_
    refine ⟨_, H, fun w H => ⟨true, rfl, ?_⟩⟩
    have e1 : forN to l' (i + 1) = forN to l' i := by rw [forN, hp, if_neg (by simpa [← hqt] using c1), List.append_nil]
    refine for_pack (ja := ja) (jc := jc) ?_
    rw [e1]
    exact St.pick [0, 2, 3, 4, 5] (pre := [_, _, _, _, _, _, _]) rfl H rfl
  rintro v w hv
  have H := hv.resolve_right (fun ⟨k, H⟩ => (St.pr.1 H).1)
  obtain ⟨ja, jc, H⟩ := for_open H
  refine ⟨.ready, none, _, by simp, H, fun w H => ?_⟩
  rw [hll] at H
  refine w_seq ?_
  refine w_region ?_
  refine l_v rfl (q_load1 rfl c1_23 rfl (by first | exact H.cell 0 rfl rfl | exact H.cell 1 rfl rfl | exact H.cell 2 rfl rfl | exact H.cell 3 rfl rfl | exact H.cell 4 rfl rfl | exact H.cell 5 rfl rfl)) ?_
  refine l_pslice rfl rfl ?_
  refine l_nil ?_
  refine w_ret ?_
  refine fin_mark rfl H (fun w H => ?_)
  refine fin1 (v := .slice _ _ _) rfl ?_
  rw [forN_con hcon] at H ⊢
  exact ⟨ja, jc, rfl, St.pick [2, 6, 7, 8, 9, 10, 11, 12] (pre := [_, _, _, _, _, _, _, _, _, _, _, _, _]) rfl H rfl⟩
end Go.Proofs.Ytmgcmgfjaimlnaa
