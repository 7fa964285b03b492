/- The laws' helpers few, unlike and split, and what pairs of digests are. -/
import Derived.Test.YtcmmhpkgjcepdaaTre9
import Derived.ChangeKeysEq
namespace Go.Proofs.Ytcmmhpkgjcepdaa
open Go.EW
attribute [local irreducible] EW.W EW.L EW.fin block8 outB shaL
set_option linter.unusedVariables false
set_option linter.unusedSimpArgs false
attribute [local irreducible] swp headH leafH nodeH inclN sidesN bothN lenN incR incdR extR

theorem bytes_inj {a b : ByteArray} (h : a.toList = b.toList) : a = b := by
  rw [ByteArray.toList_eq, ByteArray.toList_eq] at h
  have : a.data = b.data := Array.toList_inj.1 h
  cases a; cases b; simp_all
/-- are two entries one? -/
def entEq (x y : Ent) : Bool := eqL x.cells y.cells
theorem entEq_iff {x y : Ent} : entEq x y = true ↔ x = y := by
  constructor
  · intro h
    simp only [entEq, Ent.cells, eqL, eqC, Bool.and_eq_true, beq_iff_eq] at h
    obtain ⟨h1, h2, h3, h4, h5, _⟩ := h
    have h6 := bytes_inj h5
    cases x; cases y
    simp_all
  · rintro rfl
    simp [entEq, Ent.cells, eqL, eqC]
theorem ent_fit (x : Ent) : Fit [.int .i64, .int .i64, .int .i64, .int .i64, .str] x.cells := ⟨⟨_, rfl⟩, ⟨_, rfl⟩, ⟨_, rfl⟩, ⟨_, rfl⟩, ⟨_, rfl⟩, trivial⟩
theorem flatEnt : flatK Try.prog 8 28 = some [.int .i64, .int .i64, .int .i64, .int .i64, .str] := by kernel_rfl
theorem mk_struct {T : TypeId} (h : (match Try.prog.underlying T with | some (.struct _) => true | _ => false) = true) (xs : List Value) : mkV Try.prog T xs = .agg xs.toArray := by
  unfold mkV
  split at h
  · rename_i fs hu
    rw [hu]
  · cases h
theorem mkEnt (xs : List Value) : mkV Try.prog 28 xs = .agg xs.toArray := mk_struct (by kernel_rfl) xs
theorem gdEnt : Try.prog.eqGuardType Try.prog.depth 28 = false := by kernel_rfl
theorem q_neqEnt {e : Operand → Value} {oo : Oper} {x y : Operand} {T' : TypeId} {a b : Ent} {w : World} (ho : oo.op = .binOp .neq 28 x y T') (hx : e x = .agg a.cells.toArray) (hy : e y = .agg b.cells.toArray) :
    (execOp e oo).run Try.prog w = .ok (.value (.bool (!entEq a b))) w := q_neqAgg ho flatEnt (mkEnt _) (mkEnt _) gdEnt hx hy (ent_fit a) (ent_fit b)
/-- two digests -/
abbrev Pair := List UInt8 × List UInt8
def Pair.cells (p : Pair) : List Value := (p.1 ++ p.2).map B
def PairOk (p : Pair) : Prop := p.1.length = 32 ∧ p.2.length = 32
theorem flatPair : flatK Try.prog 8 116 = some (List.replicate 64 (.int .u8)) := by kernel_rfl
theorem mkPair (xs : List Value) : mkV Try.prog 116 xs = .agg xs.toArray := mk_struct (by kernel_rfl) xs
theorem gdPair : Try.prog.eqGuardType Try.prog.depth 116 = false := by kernel_rfl
theorem q_neqPair {e : Operand → Value} {oo : Oper} {x y : Operand} {T' : TypeId} {p q : Pair} {w : World} (hp : PairOk p) (hq : PairOk q) (ho : oo.op = .binOp .neq 116 x y T') (hx : e x = .agg p.cells.toArray) (hy : e y = .agg q.cells.toArray) :
    (execOp e oo).run Try.prog w = .ok (.value (.bool (!decide (p = q)))) w := by
  have hl : (p.1 ++ p.2).length = (q.1 ++ q.2).length := by rw [List.length_append, List.length_append, hp.1, hp.2, hq.1, hq.2]
  have h64 : (p.1 ++ p.2).length = 64 := by rw [List.length_append, hp.1, hp.2]
  have e1 : decide (p = q) = decide (p.1 ++ p.2 = q.1 ++ q.2) := decide_eq_decide.2 ⟨fun h => by rw [h], fun h => by
    have := List.append_inj h (by rw [hp.1, hq.1])
    exact Prod.ext this.1 this.2⟩
  rw [e1, ← eqL_bytes _ _ hl]
  exact q_neqAgg ho flatPair (mkPair _) (mkPair _) gdPair hx hy (by rw [← h64]; exact fit_bytes _) (by rw [← h64, hl]; exact fit_bytes _)
def oneB (p q : Pair) : Bool := !decide (p = q) && decide (nodeH p.1 p.2 = nodeH q.1 q.2)
def halvesP (es : List Ent) : Pair := (headH (es.take (splitN es.length)), headH (es.drop (splitN es.length)))
theorem halvesP_ok (es : List Ent) : PairOk (halvesP es) := ⟨headH_len _, headH_len _⟩
/-- are two logs unlike? -/
def unlikeN (a b : List Ent) : Bool := (a.zip b).any (fun p => !entEq p.1 p.2)
theorem unlike_eq : ∀ {a b : List Ent}, a.length = b.length → unlikeN a b = false → a = b
  | [], [], _, _ => rfl
  | x :: a, y :: b, hl, h => by
    simp only [unlikeN, List.zip_cons_cons, List.any_cons, Bool.or_eq_false_iff] at h
    have h1 : x = y := entEq_iff.1 (by simpa using h.1)
    rw [h1, unlike_eq (a := a) (b := b) (by simpa using hl) h.2]
theorem zip_split : ∀ (k : Nat) (a b : List Ent), a.zip b = (a.take k).zip (b.take k) ++ (a.drop k).zip (b.drop k)
  | 0, a, b => by simp
  | k + 1, [], b => by simp
  | k + 1, x :: a, [] => by simp
  | k + 1, x :: a, y :: b => by simp [zip_split k a b]
theorem unlike_take_drop {a b : List Ent} (k : Nat) : unlikeN a b = (unlikeN (a.take k) (b.take k) || unlikeN (a.drop k) (b.drop k)) := by
  unfold unlikeN
  rw [← List.any_append, ← zip_split]
theorem zip_get {a b : List Ent} {i : Nat} (ha : i < a.length) (hb : i < b.length) : (a.zip b)[i]? = some (a[i], b[i]) := by
  rw [List.getElem?_zip_eq_some]
  exact ⟨List.getElem?_eq_getElem ha, List.getElem?_eq_getElem hb⟩
theorem any_next {a b : List Ent} {i : Nat} (ha : i < a.length) (hb : i < b.length) : ((a.zip b).take (i + 1)).any (fun p => !entEq p.1 p.2) = (((a.zip b).take i).any (fun p => !entEq p.1 p.2) || !entEq a[i] b[i]) := by
  rw [List.take_add_one, zip_get ha hb, List.any_append]
  simp

theorem few_ok {W w : World} {F : List Seg} {a : Option Addr} {n c : Nat} {es : List Ent} (hr : RdIn W F a (entsV es)) (hl : es.length = n) (hnc : n ≤ c) (hnb : n ≤ 140737488355328) :
    Ok Try.prog 29 [.slice a n c].toArray w (fun r w' => ∃ n' a', r = .slice a' n' c ∧ RdIn W F a' (entsV (es.take 200)) ∧ (es.take 200).length = n' ∧ n' ≤ c ∧ n' ≤ 200 ∧ (es.take 200).length ≤ 200 ∧ w' = w) := by
  refine enter (n := 9) (rs := #[.tmp 2]) Try.func29 rfl rfl rfl rfl ?_
  refine w_seq ?_
  refine w_region ?_
  refine l_pslice rfl rfl ?_
  refine l_nil ?_
  refine w_seq ?_
  refine w_seq ?_
  refine w_region ?_
  refine l_pslice rfl rfl ?_
  refine l_v rfl (q_lenSlice rfl el_22 rfl) ?_
  refine l_pbool rfl rfl ?_
  refine l_nil ?_
  refine w_cond rfl (fun c1 => ?_) (fun c1 => ?_)
  · try simp only [decide_eq_true_eq, decide_eq_false_iff_not, Bool.not_eq_true', Bool.not_eq_false', beq_iff_eq, beq_eq_false_iff_ne, bne_iff_ne, bne_eq_false_iff_eq, ne_eq, Int.not_lt, Int.not_le] at c1
    refine w_seq ?_
    refine w_region ?_
    refine l_pslice rfl rfl ?_
    refine l_v rfl (q_slice (h := 200) rfl el_22 rfl Bnd.none (Bnd.nat (j := 200) (Nat.le_trans (by omega : 200 ≤ n) hnc)) Bnd.none (by simp)) ?_
    refine l_pslice rfl rfl ?_
    refine l_nil ?_
    refine w_ret ?_
    refine fin1 (v := .slice _ _ _) rfl ?_
    exact ⟨200, subA a 5 0 c, rfl, rdin_take5 hr 200 c, by rw [List.length_take]; omega, Nat.le_trans (by omega : 200 ≤ n) hnc, Nat.le_refl _, by rw [List.length_take]; omega, rfl⟩
  · try simp only [decide_eq_true_eq, decide_eq_false_iff_not, Bool.not_eq_true', Bool.not_eq_false', beq_iff_eq, beq_eq_false_iff_ne, bne_iff_ne, bne_eq_false_iff_eq, ne_eq, Int.not_lt, Int.not_le] at c1
    refine w_skip ?_
    refine w_seq ?_
    refine w_region ?_
    refine l_pslice rfl rfl ?_
    refine l_pslice rfl rfl ?_
    refine l_nil ?_
    refine w_ret ?_
    refine fin1 (v := .slice _ _ _) rfl ?_
    exact ⟨n, a, rfl, by rw [List.take_of_length_le (by omega)]; exact hr, by rw [List.length_take]; omega, hnc, by omega, by rw [List.length_take]; omega, rfl⟩

theorem ent_at2 {w : World} {a : Option Addr} {b o i : Nat} {es : List Ent} (ha : a = some ⟨b, o, none⟩) (h : Rd w a (entsV es)) (hi : i < es.length) : Cells w b (o + i * 5) es[i].cells := by
  obtain ⟨b', o', h1, h2⟩ := ent_cells h hi
  rw [ha] at h1; cases h1
  exact h2

theorem unlike_ok {W w : World} {F : List Seg} (H : St W w F) {a a2 : Option Addr} {n c n2 cc2 : Nat} {x y : List Ent} (hrx : RdIn W F a (entsV x)) (hry : RdIn W F a2 (entsV y)) (hlx : x.length = n) (hly : n ≤ y.length) (hly2 : y.length = n2) (hnb : n ≤ 140737488355328) :
    Ok Try.prog 34 [.slice a n c, .slice a2 n2 cc2].toArray w (fun r w' => r = .bool (unlikeN x y) ∧ St W w' F) := by
  refine enter (n := 21) (rs := #[.tmp 4]) Try.func34 rfl rfl rfl rfl ?_
  refine w_seq ?_
  refine w_region ?_
  refine l_pbool rfl rfl ?_
  refine l_nil ?_
  refine w_seq ?_
  refine w_seq ?_
  refine w_region ?_
  refine l_pint rfl rfl ?_
  refine l_nil ?_
  refine w_block ?_
  refine w_loopG (G := Nat) [4, 5, 6, 7, 8, 9, 10, 11, 12, 13, 14, 15, 16, 17, 18, 19, 20] (fun i => [(5, .int .i64 ((i : Nat) : Int))]) (fun m i w => m + i = n ∧ ((x.zip y).take i).any (fun p => !entEq p.1 p.2) = false ∧ St W w F) (fun _ => rfl) ?_ ?_
  · exact ⟨n, 0, ⟨rfl, trivial⟩, rfl, by rw [List.take_zero]; rfl, H⟩
  · rintro m i ρ1 w ⟨hmi, hany, H⟩
    refine w_seq ?_
    refine w_seq ?_
    refine w_region ?_
    refine l_pint rfl rfl ?_
    refine l_pslice rfl rfl ?_
    refine l_v rfl (q_lenSlice rfl el_22 rfl) ?_
    refine l_pbool rfl rfl ?_
    refine l_nil ?_
    refine w_cond rfl (fun c1 => ?_) (fun c1 => ?_)
    · try simp only [decide_eq_true_eq, decide_eq_false_iff_not, Bool.not_eq_true', Bool.not_eq_false', beq_iff_eq, beq_eq_false_iff_ne, bne_iff_ne, bne_eq_false_iff_eq, ne_eq, Int.not_lt, Int.not_le] at c1
      have hix : i < x.length := by omega
      have hiy : i < y.length := by omega
      obtain ⟨bx, ox, hax, _⟩ := ent_cells (hrx.use H 0 rfl) hix
      obtain ⟨bY, oY, hay, _⟩ := ent_cells (hry.use H 0 rfl) hiy
      refine w_skip ?_
      refine w_seq ?_
      refine w_block ?_
      refine w_seq ?_
      refine w_drawT [] [3, 7] [(0, 0), (1, 0), (2, 0), (3, 1), (4, 0), (5, 0), (6, 0), (7, 1), (8, 0)] mixed (by kernel_rfl) (fun _ _ _ h => fin_panic h) H (fun H => ?_)
      refine r_pslice rfl rfl rfl ?_
      refine r_pint rfl rfl rfl ?_
      refine r_w rfl rfl (fun w => q_indexSliceE i rfl el_22 rfl hax rfl rfl (by omega)) ?_
      refine r_v rfl rfl (fun w hS => q_loadN (vs := x[i].cells) rfl ag_28 rfl rfl (ent_at2 hax (hrx.use hS 0 rfl) hix)) ?_
      refine r_pslice rfl rfl rfl ?_
      refine r_pint rfl rfl rfl ?_
      refine r_w rfl rfl (fun w => q_indexSliceE i rfl el_22 rfl hay rfl rfl (by omega)) ?_
      refine r_v rfl rfl (fun w hS => q_loadN (vs := y[i].cells) rfl ag_28 rfl rfl (ent_at2 hay (hry.use hS 0 rfl) hiy)) ?_
      refine r_w rfl rfl (fun w => q_neqEnt rfl rfl rfl) ?_
      refine r_nil ?_
      refine w_cond rfl (fun c2 => ?_) (fun c2 => ?_)
      · try simp only [decide_eq_true_eq, decide_eq_false_iff_not, Bool.not_eq_true', Bool.not_eq_false', beq_iff_eq, beq_eq_false_iff_ne, bne_iff_ne, bne_eq_false_iff_eq, ne_eq, Int.not_lt, Int.not_le] at c2
        refine w_seq ?_
        refine w_region ?_
        refine l_pbool rfl rfl ?_
        refine l_nil ?_
        refine w_ret ?_
        refine fin1 (v := .bool _) rfl ?_
        refine ⟨?_, H⟩
        have h1 : unlikeN x y = true := by
          unfold unlikeN
          rw [← List.take_append_drop (i + 1) (x.zip y), List.any_append, any_next hix hiy, show (!entEq x[i] y[i]) = true from by simpa using c2]; simp
        rw [h1]
      · try simp only [decide_eq_true_eq, decide_eq_false_iff_not, Bool.not_eq_true', Bool.not_eq_false', beq_iff_eq, beq_eq_false_iff_ne, bne_iff_ne, bne_eq_false_iff_eq, ne_eq, Int.not_lt, Int.not_le] at c2
        refine w_skip ?_
        refine w_region ?_
        refine l_pint rfl rfl ?_
        first | refine l_v rfl (q_add rfl rfl rfl (by simp only [inK]; omega)) ?_ | refine l_pint rfl rfl ?_
        refine l_pint rfl rfl ?_
        refine l_nil ?_
        refine ⟨by repeat' first | exact Agr.mix _ _ _ | exact Agr.refl _ _ | refine Agr.inner rfl ?_ | refine Agr.upd rfl ?_ | refine Agr.updL' rfl ?_, ?_⟩
        exact ⟨m - 1, i + 1, by omega, ⟨by exact congrArg (Value.int IntKind.i64) (Int.natCast_succ i).symm, trivial⟩, by omega, by rw [any_next hix hiy, hany]; simpa using c2, H⟩
    · try simp only [decide_eq_true_eq, decide_eq_false_iff_not, Bool.not_eq_true', Bool.not_eq_false', beq_iff_eq, beq_eq_false_iff_ne, bne_iff_ne, bne_eq_false_iff_eq, ne_eq, Int.not_lt, Int.not_le] at c1
      refine w_exit ?_
      refine w_seq ?_
      refine w_region ?_
      refine l_pbool rfl rfl ?_
      refine l_nil ?_
      refine w_ret ?_
      refine fin1 (v := .bool _) rfl ?_
      refine ⟨?_, H⟩
      have h1 : unlikeN x y = false := by
        unfold unlikeN
        rw [← hany, List.take_of_length_le (by rw [List.length_zip]; omega)]
      rw [h1]

theorem split2_ok {w : World} {n : Nat} (hn : 1 ≤ n ∧ n ≤ 140737488355328) :
    Ok Try.prog 73 [.int .i64 (n : Int)].toArray w (fun r w' => r = .int .i64 (splitN n : Int) ∧ w' = w) := by
  refine enter (n := 11) (rs := #[.tmp 2]) Try.func73 rfl rfl rfl rfl ?_
  refine w_seq ?_
  refine w_region ?_
  refine l_pint rfl rfl ?_
  refine l_nil ?_
  refine w_seq ?_
  refine w_region ?_
  refine l_pint rfl rfl ?_
  refine l_nil ?_
  refine w_seq ?_
  refine w_block ?_
  refine w_loopG (G := Nat) [3, 4, 5, 6, 7, 8, 9] (fun k => [(3, .int .i64 ((k : Nat) : Int))]) (fun m k w' => w' = w ∧ (1 ≤ k ∧ k ≤ n ∧ n ≤ k + m) ∧ sgo n m k = splitN n) (fun _ => rfl) ?_ ?_
  · exact ⟨n, 1, ⟨rfl, trivial⟩, rfl, ⟨by omega, by omega, by omega⟩, rfl⟩
  · rintro m k ρ1 w' ⟨rfl, ⟨hk1, hkn, hmk⟩, hs⟩
    refine w_seq ?_
    refine w_seq ?_
    refine w_region ?_
    refine l_pint rfl rfl ?_
    first | refine l_v rfl (q_mul rfl rfl rfl (by simp only [inK]; omega)) ?_ | refine l_pint rfl rfl ?_
    refine l_pint rfl rfl ?_
    refine l_pbool rfl rfl ?_
    refine l_nil ?_
    refine w_cond rfl (fun c1 => ?_) (fun c1 => ?_)
    · try simp only [decide_eq_true_eq, decide_eq_false_iff_not, Bool.not_eq_true', Bool.not_eq_false', beq_iff_eq, beq_eq_false_iff_ne, bne_iff_ne, bne_eq_false_iff_eq, ne_eq, Int.not_lt, Int.not_le] at c1
      obtain ⟨m', rfl⟩ : ∃ m', m = m' + 1 := ⟨m - 1, by omega⟩
      rw [sgo, if_pos (by omega)] at hs
      refine w_skip ?_
      refine w_block ?_
      refine w_region ?_
      refine l_pint rfl rfl ?_
      first | refine l_v rfl (q_mul rfl rfl rfl (by simp only [inK]; omega)) ?_ | refine l_pint rfl rfl ?_
      refine l_pint rfl rfl ?_
      refine l_nil ?_
      refine ⟨by repeat' first | exact Agr.mix _ _ _ | exact Agr.refl _ _ | refine Agr.inner rfl ?_ | refine Agr.upd rfl ?_ | refine Agr.updL' rfl ?_, ?_⟩
      exact ⟨m', 2 * k, by omega, ⟨congrArg (Value.int .i64) (by omega), trivial⟩, rfl, ⟨by omega, by omega, by omega⟩, hs⟩
    · try simp only [decide_eq_true_eq, decide_eq_false_iff_not, Bool.not_eq_true', Bool.not_eq_false', beq_iff_eq, beq_eq_false_iff_ne, bne_iff_ne, bne_eq_false_iff_eq, ne_eq, Int.not_lt, Int.not_le] at c1
      have e : k = splitN n := by
        rw [← hs]
        match m with
        | 0 => rfl
        | m + 1 => rw [sgo, if_neg (by omega)]
      refine w_exit ?_
      refine w_seq ?_
      refine w_region ?_
      refine l_pint rfl rfl ?_
      refine l_pint rfl rfl ?_
      refine l_nil ?_
      refine w_ret ?_
      refine fin1 (v := .int _ _) rfl ?_
      exact ⟨by rw [e], rfl⟩

end Go.Proofs.Ytcmmhpkgjcepdaa
