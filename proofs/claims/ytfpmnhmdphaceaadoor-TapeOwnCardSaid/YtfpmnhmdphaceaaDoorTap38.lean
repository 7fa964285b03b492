/- The law's sameEvents and within do what their contracts say, of any lists of events and any numbers. -/
import Derived.Test.YtfpmnhmdphaceaaDoorTap34
namespace Go.Proofs.YtfpmnhmdphaceaaDoor
open Go.EW
attribute [local irreducible] EW.W EW.L EW.fin block8 outB shaL
set_option linter.unusedVariables false
set_option linter.unusedSimpArgs false
attribute [local irreducible] crcN crcB crcL sealL openR sealR putEv getEv
/-- bytes of events that are held -/
def EvsR (W : World) (F : List Seg) (l : List EvM) : Prop := ∀ x ∈ l, RdIn W F x.a (x.e.bs.map B)
theorem EvsR.segs {W : World} {S : List Seg} {es : List EvM} (i : Nat) (hi : S[i]? = some (Segs (es.map EvM.seg))) : EvsR W S es := fun x hx => by
  obtain ⟨j, hj, rfl⟩ := List.getElem_of_mem hx
  exact RdIn.segsF i hi j (by rw [List.getElem?_map, List.getElem?_eq_getElem hj]; rfl)
theorem EvsIn.r {W : World} {S : List Seg} {es : List EvM} (h : EvsIn W S es) : EvsR W S es := fun x hx => (h x hx).1
theorem EvsR.sub {W : World} {S : List Seg} {es fs : List EvM} (h : EvsR W S es) (hs : ∀ x ∈ fs, x ∈ es) : EvsR W S fs := fun x hx => h x (hs x hx)
theorem EvsR.up {W : World} {F S : List Seg} {l : List EvM} (h : EvsR W F l) (k : Nat) (hk : S.drop k = F) : EvsR W S l := fun x hx => (h x hx).up k hk
theorem EvsIn.up {W : World} {F S : List Seg} {l : List EvM} (h : EvsIn W F l) (k : Nat) (hk : S.drop k = F) : EvsIn W S l := fun x hx => ⟨(h x hx).1.up k hk, (h x hx).2⟩
theorem take_eq {α : Type} {x y : List α} {i : Nat} (hx : i < x.length) (hy : i < y.length) (h : x.take i = y.take i) : (x.take (i + 1) = y.take (i + 1)) ↔ x[i] = y[i] := by
  rw [List.take_succ_eq_append_getElem hx, List.take_succ_eq_append_getElem hy, h]
  exact ⟨fun h => by simpa using List.append_cancel_left h, fun h => by rw [h]⟩
theorem map_get {l : List EvM} {i : Nat} (hi : i < l.length) : (l.map EvM.e)[i]'(by rw [List.length_map]; exact hi) = l[i].e := List.getElem_map ..
set_option maxHeartbeats 1000000 in
theorem sameEvents_ok {W w : World} {F : List Seg} (H : St W w F) {xs ys : List EvM} {xa ya : Option Addr} {n xc n' yc : Nat} (hx : RdIn W F xa (evsV xs)) (hl : xs.length = n) (hxr : EvsR W F xs) (hy : RdIn W F ya (evsV ys)) (hl' : ys.length = n') (hyr : EvsR W F ys) (hn : n ≤ 9223372036854775807) :
    Ok Tryd.prog 27 [.slice xa n xc, .slice ya n' yc].toArray w (fun r w' => ∃ b, (b = true ↔ xs.map EvM.e = ys.map EvM.e) ∧ r = .bool b ∧ St W w' F) := by
  subst hl; subst hl'
  refine enter (n := 27) (rs := #[.tmp 4]) Tryd.func27 rfl rfl rfl rfl ?_
  refine w_seq ?_
  refine w_region ?_
  refine l_pbool rfl rfl ?_
  refine l_nil ?_
  refine w_seq ?_
  refine w_seq ?_
  refine w_region ?_
  refine l_pslice rfl rfl ?_
  refine l_v rfl (q_lenSlice rfl el_57 rfl) ?_
  refine l_pslice rfl rfl ?_
  refine l_v rfl (q_lenSlice rfl el_57 rfl) ?_
  refine l_pbool rfl rfl ?_
  refine l_nil ?_
  refine w_cond rfl (fun c1 => ?_) (fun c1 => ?_)
  · try simp only [sH] at c1
    refine w_seq ?_
    refine w_region ?_
    refine l_pbool rfl rfl ?_
    refine l_nil ?_
    refine w_ret ?_
    refine fin1 (v := .bool _) rfl ?_
    refine ⟨false, ⟨fun h => (by cases h), fun h => ?_⟩, rfl, H⟩
    exfalso
    exact c1 (by have h2 := congrArg List.length h; rw [List.length_map, List.length_map] at h2; omega)
  try simp only [sH] at c1
  have hle : xs.length = ys.length := by omega
  refine w_skip ?_
  refine w_seq ?_
  refine w_seq ?_
  refine w_region ?_
  refine l_pint rfl rfl ?_
  refine l_nil ?_
  refine w_block ?_
  refine w_loopG (G := Nat) [4, 5, 11, 12, 13, 14, 15, 16, 17, 18, 19, 20, 21, 22, 23, 24, 25, 26] (fun i => [(5, .int .i64 ((i : Nat) : Int))]) (fun m i w => m + i = xs.length ∧ (xs.map EvM.e).take i = (ys.map EvM.e).take i ∧ St W w F) (fun _ => rfl) ?_ ?_
  · exact ⟨xs.length, 0, ⟨rfl, trivial⟩, rfl, rfl, H⟩
  rintro m i ρ1 w ⟨hmi, htk, H⟩
  refine w_seq ?_
  refine w_seq ?_
  refine w_region ?_
  refine l_pint rfl rfl ?_
  refine l_pslice rfl rfl ?_
  refine l_v rfl (q_lenSlice rfl el_57 rfl) ?_
  refine l_pbool rfl rfl ?_
  refine l_nil ?_
  refine w_cond rfl (fun c2 => ?_) (fun c2 => ?_)
  · try simp only [sH] at c2
    have hi : i < xs.length := by omega
    have hj : i < ys.length := by omega
    obtain ⟨xb, xo, hxa⟩ := evs_ex (hx.use H 0 rfl) hi
    obtain ⟨yb, yo, hya⟩ := evs_ex (hy.use H 0 rfl) hj
    refine w_skip ?_
    refine w_seq ?_
    refine w_block ?_
    refine w_seq ?_
    refine w_drawT [8] [3, 7] [(0, 0), (1, 0), (2, 0), (3, 1), (4, 0), (5, 0), (6, 0), (7, 1), (8, 2), (9, 0)] mixed (by kernel_rfl) (fun _ _ _ h => fin_panic h) H (fun H => ?_)
    refine r_pslice rfl rfl rfl ?_
    refine r_pint rfl rfl rfl ?_
    refine r_w rfl rfl (fun w => q_indexSliceE i rfl el_57 rfl hxa rfl rfl hi) ?_
    refine r_v rfl rfl (fun w hS => q_loadN (vs := xs[i].cells) rfl ag_30 rfl rfl (evs_at hxa (hx.use hS 0 rfl) hi)) ?_
    refine r_pslice rfl rfl rfl ?_
    refine r_pint rfl rfl rfl ?_
    refine r_w rfl rfl (fun w => q_indexSliceE i rfl el_57 rfl hya rfl rfl hj) ?_
    refine r_v rfl rfl (fun w hS => q_loadN (vs := ys[i].cells) rfl ag_30 rfl rfl (evs_at hya (hy.use hS 0 rfl) hj)) ?_
    refine r_do rfl ?_
    refine b_call rfl cb_17 rfl (sameEvent_ok H (x := xs[i].e) (y := ys[i].e) (hxr _ (List.getElem_mem hi)) (hyr _ (List.getElem_mem hj))) (fun v w hv => ?_)
    obtain ⟨bb, hbb, rfl, H⟩ := hv
    refine l_nil ⟨(fun h => nomatch h), ?_⟩
    refine r_pbool rfl rfl rfl ?_
    refine r_nil ?_
    refine w_cond rfl (fun c3 => ?_) (fun c3 => ?_)
    · try simp only [sH] at c3
      refine w_seq ?_
      refine w_region ?_
      refine l_pbool rfl rfl ?_
      refine l_nil ?_
      refine w_ret ?_
      refine fin1 (v := .bool _) rfl ?_
      refine ⟨false, ⟨fun h => (by cases h), fun h => ?_⟩, rfl, H⟩
      exfalso
      obtain rfl : bb = false := by simpa using c3
      have h2 : xs[i].e = ys[i].e := by rw [← map_get hi, ← map_get hj]; simp only [h]
      exact absurd (hbb.2 h2) (by decide)
    try simp only [sH] at c3
    refine w_skip ?_
    refine w_region ?_
    refine l_pint rfl rfl ?_
    first | refine l_v rfl (q_add rfl rfl rfl (by simp only [inK]; omega)) ?_ | refine l_pint rfl rfl ?_
    refine l_pint rfl rfl ?_
    refine l_nil ?_
    refine ⟨by repeat' first | exact aM | exact aR | refine aI rfl ?_ | refine aU rfl ?_ | refine aL rfl ?_, ?_⟩
    obtain rfl : bb = true := by simpa using c3
    exact ⟨m - 1, i + 1, by omega, ⟨by exact congrArg (Value.int IntKind.i64) (Int.natCast_succ i).symm, trivial⟩, by omega, (take_eq (by rw [List.length_map]; exact hi) (by rw [List.length_map]; exact hj) htk).2 (by rw [map_get hi, map_get hj]; exact hbb.1 rfl), H⟩
  try simp only [sH] at c2
  refine w_exit ?_
  refine w_seq ?_
  refine w_region ?_
  refine l_pbool rfl rfl ?_
  refine l_nil ?_
  refine w_ret ?_
  refine fin1 (v := .bool _) rfl ?_
  refine ⟨true, ⟨fun _ => ?_, fun _ => rfl⟩, rfl, H⟩
  obtain rfl : i = xs.length := by omega
  rw [List.take_of_length_le (by rw [List.length_map]; omega), List.take_of_length_le (by rw [List.length_map]; omega)] at htk
  exact htk
end Go.Proofs.YtfpmnhmdphaceaaDoor
