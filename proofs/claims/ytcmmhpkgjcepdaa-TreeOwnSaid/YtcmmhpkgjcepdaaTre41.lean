/- The law TreeOwn answers true, of every two logs and every place. -/
import Derived.Test.YtcmmhpkgjcepdaaTre40
import Derived.Test.YtcmmhpkgjcepdaaArgsAll
namespace Go.Proofs.Ytcmmhpkgjcepdaa
open Go.EW
attribute [local irreducible] EW.W EW.L EW.fin block8 outB shaL
set_option linter.unusedVariables false
set_option linter.unusedSimpArgs false
attribute [local irreducible] swp headH leafH nodeH inclN sidesN bothN lenN splitN upN incdR extR incR conR unlikeN oneB metB hatT inclT conT askT

theorem q_max {P : Program} {w : World} {e : Operand → Value} {o : Oper} {x y : Operand} {T T' : TypeId} {k : IntKind} {a b : Int} (m : Int) (ho : o.op = .call { callee := .builtin .max, args := #[x, y], argTypes := #[T, T'] })
    (hx : e x = .int k a) (hy : e y = .int k b) (hm : m = if a < b then b else a) : (execOp e o).run P w = .ok (.value (.int k m)) w := by
  subst hm
  unfold execOp
  simp only [ho, resolve, invoke, builtin, Sem.run_bind, Sem.run_pure, Result.andThen_ok, List.map_toArray, List.map_cons, List.map_nil, hx, hy, Builtin.max_, List.foldlM_cons, List.foldlM_nil, Builtin.max2]
def b4 (ws : List Ent) (wp wz : Int) (x : List Ent) (p s : Int) : List (List (List UInt8)) := [(incR ws wp).1, (conR ws wz).1, (inclT x p x.length).1, (conT x s x.length).1]
def bk (x y : List Ent) (p s : Int) (t : Nat) : List (List (List UInt8)) := if t = 1 then b4 y 1 ((y.length / 2 : Nat) : Int) x p s else b4 x p s x p s
def pss (x y : List Ent) (p s : Int) : Nat → List (List (List UInt8))
  | 0 => []
  | t + 1 => pss x y p s t ++ bk x y p s t
def PsOk (ps : List (List (List UInt8))) : Prop := ∀ p ∈ ps, PathOk p ∧ p.length ≤ 1000
theorem b4_ok {ws x : List Ent} {wp wz p s : Int} (hw : ws.length ≤ 200) (hx : x.length ≤ 200) : PsOk (b4 ws wp wz x p s) := fun q hq => by
  simp only [b4, List.mem_cons, List.not_mem_nil, or_false] at hq
  rcases hq with rfl | rfl | rfl | rfl
  · exact ⟨(incR_ok _ _).1, by have := (incR_ok ws wp).2; omega⟩
  · exact ⟨(conR_ok _ _).1, by have := (conR_ok ws wz).2; omega⟩
  · exact ⟨(inclT_path _ _ _).1, by have := (inclT_path x p x.length).2; omega⟩
  · exact ⟨(conT_path _ _ _).1, by have := (conT_path x s x.length).2; omega⟩
theorem bk_ok {x y : List Ent} {p s : Int} {t : Nat} (hx : x.length ≤ 200) (hy : y.length ≤ 200) : PsOk (bk x y p s t) := by
  unfold bk
  split
  · exact b4_ok hy hx
  · exact b4_ok hx hx
theorem pss_ok {x y : List Ent} {p s : Int} (hx : x.length ≤ 200) (hy : y.length ≤ 200) : ∀ t, PsOk (pss x y p s t)
  | 0 => fun q hq => absurd hq (by simp [pss])
  | t + 1 => fun q hq => by
    rcases List.mem_append.1 hq with hq | hq
    · exact pss_ok hx hy t q hq
    · exact bk_ok hx hy q hq
theorem bk_len {x y : List Ent} {p s : Int} {t : Nat} : (bk x y p s t).length = 4 := by unfold bk; split <;> rfl
theorem pss_len {x y : List Ent} {p s : Int} : ∀ t, (pss x y p s t).length = 4 * t
  | 0 => rfl
  | t + 1 => by rw [pss, List.length_append, pss_len t, bk_len]; omega
theorem pss_same {x y : List Ent} {p s : Int} {i : Nat} (hi : i < 4) : (pss x y p s 3)[i]? = (pss x y p s 3)[8 + i]? := by
  have h0 : bk x y p s 0 = b4 x p s x p s := if_neg (by decide)
  have h1 : bk x y p s 1 = b4 y 1 ((y.length / 2 : Nat) : Int) x p s := if_pos rfl
  have h2 : bk x y p s 2 = b4 x p s x p s := if_neg (by decide)
  simp only [pss, h0, h1, h2, List.nil_append]
  match i, hi with
  | 0, _ => rfl
  | 1, _ => rfl
  | 2, _ => rfl
  | 3, _ => rfl
theorem rs_len {x y : List Ent} {p s : Int} {rs : List PR} {t : Nat} (h : rs.map PR.p = pss x y p s t) : rs.length = 4 * t := by
  have := congrArg List.length h
  rwa [List.length_map, pss_len] at this
theorem rs_ok {x y : List Ent} {p s : Int} {rs : List PR} (hx : x.length ≤ 200) (hy : y.length ≤ 200) (h : rs.map PR.p = pss x y p s 3) : RsOk rs := by
  refine ⟨by rw [rs_len h]; omega, fun r hr => pss_ok (x := x) (y := y) (p := p) (s := s) hx hy 3 r.p ?_⟩
  rw [← h]
  exact List.mem_map.2 ⟨r, hr, rfl⟩
theorem rs_same {x y : List Ent} {p s : Int} {rs : List PR} (h : rs.map PR.p = pss x y p s 3) {i : Nat} (hi : i < 4) (h1 : i < rs.length) (h2 : 8 + i < rs.length) : rs[i].p = rs[8 + i].p := by
  have h3 := pss_same (x := x) (y := y) (p := p) (s := s) hi
  rw [← h, List.getElem?_map, List.getElem?_map, List.getElem?_eq_getElem h1, List.getElem?_eq_getElem h2] at h3
  exact Option.some.inj h3
theorem sget {rs : List PR} {i : Nat} (hi : i < rs.length) : (rs.map PR.seg)[i]? = some (row 24 32 rs[i].a rs[i].p.length rs[i].c (pathV rs[i].p)) := by rw [List.getElem?_map, List.getElem?_eq_getElem hi]; rfl
def flip1 (e : Ent) : Ent := { e with nu := bitI .xor .i64 e.nu 1 }
theorem xor1_ne (n : Int) : bitI .xor .i64 n 1 ≠ n := by
  intro h
  have h2 := congrArg (BitVec.ofInt 64) h
  simp only [bitI, IntKind.bits] at h2
  have h3 : BitVec.ofInt 64 (IntKind.wrap .i64 (((BitVec.ofInt 64 n ^^^ BitVec.ofInt 64 1).toNat : Nat) : Int)) = BitVec.ofInt 64 n ^^^ BitVec.ofInt 64 1 := by
    generalize BitVec.ofInt 64 n ^^^ BitVec.ofInt 64 1 = z
    apply BitVec.eq_of_toNat_eq
    rw [BitVec.toNat_ofInt]
    have := z.isLt
    simp only [IntKind.wrap, IntKind.signed, IntKind.bits, if_true, Bool.true_eq]
    first
      | omega
      | (split <;> omega)
      | (simp; omega)
  have h2 := h3.symm.trans h2
  have h4 : (BitVec.ofInt 64 n ^^^ (BitVec.ofInt 64 n ^^^ BitVec.ofInt 64 1)) = BitVec.ofInt 64 n ^^^ BitVec.ofInt 64 n := by rw [h2]
  rw [← BitVec.xor_assoc, BitVec.xor_self, BitVec.zero_xor] at h4
  exact absurd h4 (by decide)
theorem head_leaf {e e' : Ent} (h : leafH e' = leafH e) : ∀ (k : Nat) (xt : List Ent), xt.length ≤ k → headH (e' :: xt) = headH (e :: xt)
  | 0, xt, hk => by
    obtain rfl := List.eq_nil_of_length_eq_zero (Nat.le_zero.1 hk)
    rw [headH_one, headH_one, h]
  | k + 1, [], _ => by rw [headH_one, headH_one, h]
  | k + 1, z :: xt, hk => by
    have hs := splitN_spec (n := (z :: xt).length + 1) (by simp)
    rw [headH_two (es := e' :: z :: xt) (by simp), headH_two (es := e :: z :: xt) (by simp)]
    simp only [List.length_cons] at hs hk ⊢
    obtain ⟨j, hj⟩ : ∃ j, splitN (xt.length + 1 + 1) = j + 1 := ⟨splitN (xt.length + 1 + 1) - 1, by omega⟩
    rw [hj, List.take_succ_cons, List.take_succ_cons, List.drop_succ_cons, List.drop_succ_cons, head_leaf h k _ (by rw [List.length_take]; simp only [List.length_cons]; omega)]
theorem own_dec {x0 : Ent} {xt : List Ent} (h : decide (headH (flip1 x0 :: xt) = headH (x0 :: xt)) = false) : decide (headH (flip1 x0 :: xt) = headH (x0 :: xt)) = decide (leafH (flip1 x0) = leafH x0) := by
  rw [h]
  refine (decide_eq_false fun hl => ?_).symm
  exact absurd (head_leaf hl _ xt (Nat.le_refl _)) (of_decide_eq_false h)
theorem unlike_flip {x0 : Ent} {xt : List Ent} : unlikeN (flip1 x0 :: xt) (x0 :: xt) = true := by
  cases h : unlikeN (flip1 x0 :: xt) (x0 :: xt) with
  | true => rfl
  | false =>
    have h2 := unlike_eq (by rfl) h
    have h3 := congrArg Ent.nu (List.cons.inj h2).1
    exact absurd h3 (xor1_ne _)
theorem take_ok {es : List Ent} (h : EntsOk es) : EntsOk (es.take 200) := fun e he => h e (List.mem_of_mem_take he)

set_option maxRecDepth 8000 in
set_option maxHeartbeats 1000000 in
theorem TreeOwn_ok {W w : World} {F : List Seg} (H : St W w F) {a0 a1 : Option Addr} {n0 cc0 n1 cc1 : Nat} {e0 e1 : List Ent} (hr0 : RdIn W F a0 (entsV e0)) (hl0 : e0.length = n0) (hc0 : n0 ≤ cc0) (hb0 : n0 ≤ 140737488355328) (ho0 : EntsOk e0) (hr1 : RdIn W F a1 (entsV e1)) (hl1 : e1.length = n1) (hc1 : n1 ≤ cc1) (hb1 : n1 ≤ 140737488355328) (ho1 : EntsOk e1) (pl : Int) :
    Ok Try.prog 11 [.slice a0 n0 cc0, .slice a1 n1 cc1, .int .i64 pl].toArray w (fun r w' => r = .bool true ∧ ∃ S, St W w' S) := by
  have hreach : True := trivial
  refine enter (n := 217) (rs := #[.tmp 6]) Try.func11 rfl rfl rfl rfl ?_
  refine w_seq ?_
  refine w_region ?_
  refine l_pbool rfl rfl ?_
  refine l_nil ?_
  refine w_seq ?_
  refine w_region ?_
  refine l_pslice rfl rfl ?_
  refine b_call rfl cb_29 rfl (few_ok hr0 hl0 hc0 hb0) (fun v w hv => ?_)
  obtain ⟨nx, ax, rfl, hrx, hlx, hcx, hnx, _, rfl⟩ := hv
  have hox := take_ok ho0
  generalize e0.take 200 = x at hrx hlx hox
  subst hlx
  refine l_pslice rfl rfl ?_
  refine l_nil ?_
  refine w_seq ?_
  refine w_region ?_
  refine l_pslice rfl rfl ?_
  refine b_call rfl cb_29 rfl (few_ok hr1 hl1 hc1 hb1) (fun v w hv => ?_)
  obtain ⟨ny, ay, rfl, hry, hly, hcy, hny, _, rfl⟩ := hv
  have hoy := take_ok ho1
  generalize e1.take 200 = y at hry hly hoy
  subst hly
  refine l_pslice rfl rfl ?_
  refine l_nil ?_
  refine w_seq ?_
  refine w_region ?_
  refine b_call rfl cb_41 rfl (TNew_ok H) (fun v w hv => ?_)
  obtain ⟨b33, rfl, H⟩ := hv
  refine l_pptr rfl rfl ?_
  refine l_nil ?_
  refine w_seq ?_
  refine w_region ?_
  refine b_call rfl cb_41 rfl (TNew_ok H) (fun v w hv => ?_)
  obtain ⟨b34, rfl, H⟩ := hv
  refine l_pptr rfl rfl ?_
  refine l_nil ?_
  refine w_seq ?_
  refine w_seq ?_
  refine w_region ?_
  refine l_pptr rfl rfl ?_
  refine l_v rfl (q_eqlNilF rfl pt_68 rfl rfl) ?_
  refine l_pbool rfl rfl ?_
  refine l_pptr rfl rfl ?_
  refine l_v rfl (q_eqlNilF rfl pt_68 rfl rfl) ?_
  refine l_pickF (v := .bool _) rfl rfl rfl ?_
  refine l_pbool rfl rfl ?_
  refine b_call rfl cb_22 rfl (works_ok H) (fun v w hv => ?_)
  obtain ⟨rfl, H⟩ := hv
  refine l_pbool rfl rfl ?_
  refine l_pickF (v := .bool _) rfl rfl rfl ?_
  refine l_nil ?_
  refine w_cond_f rfl ?_
  refine w_skip ?_
  refine w_seq ?_
  refine w_region ?_
  refine l_pslice rfl rfl ?_
  refine l_nil ?_
  refine w_seq ?_
  refine w_region ?_
  refine l_pslice rfl rfl ?_
  refine l_pslice rfl rfl ?_
  refine b_append rfl el_22 ze_28 rfl rfl rfl (St.newRow (T := 28) (sz := 5) H) 0 rfl (ys := entsV x) (hrx.use H 4 rfl) (by rw [entsV_len]; omega) (oneE _) ⟨by omega, by simp only [maxLen]; omega⟩ (fun ao co w H => ?_)
  rw [Nat.zero_add x.length] at H ⊢
  have H : St W w (treeL b33 none 0 [] edge0 (treeL b34 none 0 [] edge0 (row 28 5 ao x.length co (entsV x) :: F))) := St.pick [3, 4, 1, 2, 0] (pre := [_, _, _, _, _]) rfl H rfl
  have hco : x.length ≤ co := (H.rowInv (i := 4) rfl).2.1
  refine l_pslice rfl rfl ?_
  refine l_nil ?_
  refine w_seq ?_
  refine w_seq ?_
  refine w_region ?_
  refine l_pint rfl rfl ?_
  refine l_nil ?_
  refine w_block ?_
  refine w_loopG (G := Nat × Option Addr × Nat × List (List UInt8)) [10, 48, 49, 50, 51, 52, 53, 54, 55, 56, 57, 58, 59] (fun ⟨i, ta, tc, TE⟩ => [(10, .int .i64 ((i : Nat) : Int))]) (fun m ⟨i, ta, tc, TE⟩ w => m + i = x.length ∧ EdgeOk TE (x.take i) ∧ St W w (treeL b33 ta tc (x.take i) TE (treeL b34 none 0 [] edge0 (row 28 5 ao x.length co (entsV x) :: F)))) (fun _ => rfl) ?_ ?_
  · exact ⟨x.length, (0, none, 0, edge0), ⟨rfl, trivial⟩, rfl, edge_new, H⟩
  · rintro m ⟨i, ta, tc, TE⟩ ρ1 w ⟨hmi, he, H⟩
    refine w_seq ?_
    refine w_seq ?_
    refine w_region ?_
    refine l_pint rfl rfl ?_
    refine l_pslice rfl rfl ?_
    refine l_v rfl (q_lenSlice rfl el_22 rfl) ?_
    refine l_pbool rfl rfl ?_
    refine l_nil ?_
    refine w_cond rfl (fun c1 => ?_) (fun c1 => ?_)
    · try simp only [decide_eq_true_eq, decide_eq_false_iff_not, Bool.not_eq_true', Bool.not_eq_false', beq_iff_eq, beq_eq_false_iff_ne, bne_iff_ne, bne_eq_false_iff_eq, ne_eq, Int.not_lt, Int.not_le] at c1
      have hi : i < x.length := by omega
      obtain ⟨bx, ox, hax, _⟩ := ent_cells (hrx.use H 5 rfl) hi
      refine w_skip ?_
      refine w_seq ?_
      refine w_block ?_
      refine w_region ?_
      refine l_pptr rfl rfl ?_
      refine l_pslice rfl rfl ?_
      refine l_pint rfl rfl ?_
      refine l_v rfl (q_indexSliceE i rfl el_22 rfl hax rfl rfl hi) ?_
      refine l_v rfl (q_loadN (vs := x[i].cells) rfl ag_28 rfl rfl (ent_at2 hax (hrx.use H 5 rfl) hi)) ?_
      refine b_call rfl cb_42 rfl (TAdd_ok H he (by rw [List.length_take]; omega) (by rw [List.length_take]; omega) x[i] (hox _ (List.getElem_mem hi))) (fun v w hv => ?_)
      obtain ⟨rfl, a', c', E', he', H⟩ := hv
      refine l_nil ?_
      refine w_region ?_
      refine l_pint rfl rfl ?_
      first | refine l_v rfl (q_add rfl rfl rfl (by simp only [inK]; omega)) ?_ | refine l_pint rfl rfl ?_
      refine l_pint rfl rfl ?_
      refine l_nil ?_
      refine ⟨by repeat' first | exact Agr.mix _ _ _ | exact Agr.refl _ _ | refine Agr.inner rfl ?_ | refine Agr.upd rfl ?_ | refine Agr.updL' rfl ?_, ?_⟩
      refine ⟨m - 1, (i + 1, a', c', E'), by omega, ⟨by exact congrArg (Value.int IntKind.i64) (Int.natCast_succ i).symm, trivial⟩, by omega, ?_⟩
      rw [List.take_succ_eq_append_getElem hi]
      exact ⟨he', H⟩
    · try simp only [decide_eq_true_eq, decide_eq_false_iff_not, Bool.not_eq_true', Bool.not_eq_false', beq_iff_eq, beq_eq_false_iff_ne, bne_iff_ne, bne_eq_false_iff_eq, ne_eq, Int.not_lt, Int.not_le] at c1
      obtain rfl : i = x.length := by omega
      rw [List.take_length] at he H
      refine w_exit ?_
      refine w_seq ?_
      refine w_region ?_
      refine l_pptr rfl rfl ?_
      refine b_call rfl cb_43 rfl (THead_ok H he (by omega)) (fun v w hv => ?_)
      obtain ⟨rfl, H⟩ := hv
      refine b_alloc rfl ze_24 rfl H (fun b11 w H => ?_)
      have hvl : ((headH x).map B).length = 32 := by rw [List.length_map, headH_len]
      refine b_store (vs := (headH x).map B) rfl sz_24 rfl rfl rfl (by rw [hvl]; rfl) (all1 _) H 0 rfl (by rw [hvl]; rfl) (putL_all (by rw [hvl]; rfl)) (fun w H => ?_)
      refine l_nil ?_
      refine w_seq ?_
      refine w_seq ?_
      refine w_region ?_
      refine l_pint rfl rfl ?_
      refine l_nil ?_
      refine w_block ?_
      refine w_loopG (G := Nat × Option Addr × Nat × List (List UInt8)) [12, 62, 63, 64, 65, 66, 67, 68, 69, 70, 71, 72, 73] (fun ⟨i, ua, uc, UE⟩ => [(12, .int .i64 ((i : Nat) : Int))]) (fun m ⟨i, ua, uc, UE⟩ w => m + i = y.length ∧ EdgeOk UE (y.take i) ∧ St W w (treeL b34 ua uc (y.take i) UE (blk b11 ((headH x).map B) 24 :: treeL b33 ta tc x TE (row 28 5 ao x.length co (entsV x) :: F)))) (fun _ => rfl) ?_ ?_
      · exact ⟨y.length, (0, none, 0, edge0), ⟨rfl, trivial⟩, rfl, edge_new, St.pick [3, 4, 0, 1, 2, 5] (pre := [_, _, _, _, _, _]) rfl H rfl⟩
      · rintro m ⟨i, ua, uc, UE⟩ ρ1 w ⟨hmi2, hu, H⟩
        refine w_seq ?_
        refine w_seq ?_
        refine w_region ?_
        refine l_pint rfl rfl ?_
        refine l_pslice rfl rfl ?_
        refine l_v rfl (q_lenSlice rfl el_22 rfl) ?_
        refine l_pbool rfl rfl ?_
        refine l_nil ?_
        refine w_cond rfl (fun c2 => ?_) (fun c2 => ?_)
        · try simp only [decide_eq_true_eq, decide_eq_false_iff_not, Bool.not_eq_true', Bool.not_eq_false', beq_iff_eq, beq_eq_false_iff_ne, bne_iff_ne, bne_eq_false_iff_eq, ne_eq, Int.not_lt, Int.not_le] at c2
          have hi : i < y.length := by omega
          obtain ⟨by_, oy, hay, _⟩ := ent_cells (hry.use H 6 rfl) hi
          refine w_skip ?_
          refine w_seq ?_
          refine w_block ?_
          refine w_region ?_
          refine l_pptr rfl rfl ?_
          refine l_pslice rfl rfl ?_
          refine l_pint rfl rfl ?_
          refine l_v rfl (q_indexSliceE i rfl el_22 rfl hay rfl rfl hi) ?_
          refine l_v rfl (q_loadN (vs := y[i].cells) rfl ag_28 rfl rfl (ent_at2 hay (hry.use H 6 rfl) hi)) ?_
          refine b_call rfl cb_42 rfl (TAdd_ok H hu (by rw [List.length_take]; omega) (by rw [List.length_take]; omega) y[i] (hoy _ (List.getElem_mem hi))) (fun v w hv => ?_)
          obtain ⟨rfl, a', c', E', he', H⟩ := hv
          refine l_nil ?_
          refine w_region ?_
          refine l_pint rfl rfl ?_
          first | refine l_v rfl (q_add rfl rfl rfl (by simp only [inK]; omega)) ?_ | refine l_pint rfl rfl ?_
          refine l_pint rfl rfl ?_
          refine l_nil ?_
          refine ⟨by repeat' first | exact Agr.mix _ _ _ | exact Agr.refl _ _ | refine Agr.inner rfl ?_ | refine Agr.upd rfl ?_ | refine Agr.updL' rfl ?_, ?_⟩
          refine ⟨m - 1, (i + 1, a', c', E'), by omega, ⟨by exact congrArg (Value.int IntKind.i64) (Int.natCast_succ i).symm, trivial⟩, by omega, ?_⟩
          rw [List.take_succ_eq_append_getElem hi]
          exact ⟨he', H⟩
        · try simp only [decide_eq_true_eq, decide_eq_false_iff_not, Bool.not_eq_true', Bool.not_eq_false', beq_iff_eq, beq_eq_false_iff_ne, bne_iff_ne, bne_eq_false_iff_eq, ne_eq, Int.not_lt, Int.not_le] at c2
          obtain rfl : i = y.length := by omega
          rw [List.take_length] at hu H
          refine w_exit ?_
          refine w_seq ?_
          refine w_seq ?_
          refine w_drawT [] [2, 19] [(0, 0), (2, 1), (1, 2), (3, 0), (4, 0), (5, 0), (7, 0), (8, 0), (6, 2), (9, 0), (10, 0), (11, 0), (12, 0), (14, 0), (15, 0), (13, 2), (16, 0), (17, 0), (18, 0), (19, 1), (20, 0), (21, 2), (22, 0), (23, 0)] mixed (by kernel_rfl) (fun _ _ _ h => fin_panic h) H (fun H => ?_)
          refine r_pptr rfl rfl rfl ?_
          refine r_v rfl rfl (fun w hS => q_loadN (vs := (headH x).map B) rfl ag_24 rfl (by rw [List.length_map, headH_len]) (hS.cells 2 rfl)) ?_
          refine r_do rfl ?_
          refine b_call rfl cb_43 rfl (Ok_perm (pickP [3, 4, 0, 1, 2] (pre := [_, _, _, _, _]) rfl rfl) (fun H => THead_ok H he (by omega)) H) (fun v w hv => ?_)
          obtain ⟨rfl, H⟩ := hv
          refine l_nil ⟨fun _ _ => (by first | exact H | exact H.drop1 | exact H.drop1.drop1 | exact H.drop1.drop1.drop1), ?_⟩
          refine r_w rfl rfl (fun w => q_neqHash rfl rfl rfl (headH_len _) (headH_len _)) ?_
          refine r_pbool rfl rfl rfl ?_
          refine r_split 78 rfl (fun h78 => absurd h78 (by simp)) (fun h78 => ?_)
          try simp only [decide_eq_true_eq, decide_eq_false_iff_not, Bool.not_eq_true', Bool.not_eq_false', beq_iff_eq, beq_eq_false_iff_ne, bne_iff_ne, bne_eq_false_iff_eq, ne_eq, Int.not_lt, Int.not_le] at h78
          refine r_pptr rfl rfl rfl ?_
          refine r_pslice rfl rfl rfl ?_
          refine r_w rfl rfl (fun w => q_lenSlice rfl el_22 rfl) ?_
          refine r_do rfl ?_
          refine b_call rfl cb_44 rfl (Ok_perm (pickP [3, 4, 0, 1, 2] (pre := [_, _, _, _, _]) rfl rfl) (fun H => TSize_ok H he (by omega)) H) (fun v w hv => ?_)
          obtain ⟨rfl, H⟩ := hv
          refine l_nil ⟨fun _ _ => (by first | exact H | exact H.drop1 | exact H.drop1.drop1 | exact H.drop1.drop1.drop1), ?_⟩
          refine r_pbool rfl rfl rfl ?_
          refine r_pickF (v := .bool _) rfl rfl rfl rfl ?_
          refine r_pbool rfl rfl rfl ?_
          refine r_split 85 rfl (fun h85 => absurd h85 (by simp)) (fun h85 => ?_)
          try simp only [decide_eq_true_eq, decide_eq_false_iff_not, Bool.not_eq_true', Bool.not_eq_false', beq_iff_eq, beq_eq_false_iff_ne, bne_iff_ne, bne_eq_false_iff_eq, ne_eq, Int.not_lt, Int.not_le] at h85
          refine r_pptr rfl rfl rfl ?_
          refine r_pslice rfl rfl rfl ?_
          refine r_w rfl rfl (fun w => q_lenSlice rfl el_22 rfl) ?_
          refine r_do rfl ?_
          refine b_call rfl cb_44 rfl (TSize_ok H hu (by omega)) (fun v w hv => ?_)
          obtain ⟨rfl, H⟩ := hv
          refine l_nil ⟨fun _ _ => (by first | exact H | exact H.drop1 | exact H.drop1.drop1 | exact H.drop1.drop1.drop1), ?_⟩
          refine r_pbool rfl rfl rfl ?_
          refine r_pickF (v := .bool _) rfl rfl rfl rfl ?_
          refine r_pbool rfl rfl rfl ?_
          refine r_split 92 rfl (fun h92 => absurd h92 (by simp)) (fun h92 => ?_)
          try simp only [decide_eq_true_eq, decide_eq_false_iff_not, Bool.not_eq_true', Bool.not_eq_false', beq_iff_eq, beq_eq_false_iff_ne, bne_iff_ne, bne_eq_false_iff_eq, ne_eq, Int.not_lt, Int.not_le] at h92
          refine r_v rfl rfl (fun w hS => q_loadN (vs := (headH x).map B) rfl ag_24 rfl (by rw [List.length_map, headH_len]) (hS.cells 2 rfl)) ?_
          refine r_pslice rfl rfl rfl ?_
          refine r_do rfl ?_
          refine b_call rfl cb_14 rfl (Head_ok _ H (RdIn.row 5 rfl) rfl hco hox rfl (by omega)) (fun v w hv => ?_)
          obtain ⟨rfl, H⟩ := hv
          refine l_nil ⟨fun _ _ => (by first | exact H | exact H.drop1 | exact H.drop1.drop1 | exact H.drop1.drop1.drop1), ?_⟩
          refine r_w rfl rfl (fun w => q_neqHash rfl rfl rfl (headH_len _) (headH_len _)) ?_
          refine r_pickF (v := .bool _) rfl rfl rfl rfl ?_
          refine r_nil ?_
          refine w_cond rfl (fun c3 => ?_) (fun c3 => ?_)
          · try simp only [decide_eq_true_eq, decide_eq_false_iff_not, Bool.not_eq_true', Bool.not_eq_false', beq_iff_eq, beq_eq_false_iff_ne, bne_iff_ne, bne_eq_false_iff_eq, ne_eq, Int.not_lt, Int.not_le] at c3
            exact absurd c3 (by simp)
          · try simp only [decide_eq_true_eq, decide_eq_false_iff_not, Bool.not_eq_true', Bool.not_eq_false', beq_iff_eq, beq_eq_false_iff_ne, bne_iff_ne, bne_eq_false_iff_eq, ne_eq, Int.not_lt, Int.not_le] at c3
            have H : St W w (blk b11 ((headH x).map B) 24 :: treeL b33 ta tc x TE (row 28 5 ao x.length co (entsV x) :: F)) := H.drop1.drop1
            refine w_skip ?_
            refine w_seq ?_
            refine w_region ?_
            refine l_pint rfl rfl ?_
            refine l_pslice rfl rfl ?_
            refine l_v rfl (q_lenSlice rfl el_22 rfl) ?_
            first | refine l_v rfl (q_sub rfl rfl rfl (by simp only [inK]; omega)) ?_ | refine l_pint rfl rfl ?_
            refine l_v rfl (q_max ((x.length - 1 : Nat) : Int) rfl rfl rfl (by split <;> omega)) ?_
            refine b_call rfl cb_30 rfl (within_ok pl (n := x.length - 1) (by omega)) (fun v w hv => ?_)
            obtain ⟨q, hq, rfl, rfl⟩ := hv
            first | refine l_v rfl (q_add rfl rfl rfl (by simp only [inK]; omega)) ?_ | refine l_pint rfl rfl ?_
            refine l_pint rfl rfl ?_
            refine l_nil ?_
            refine w_seq ?_
            refine w_region ?_
            refine l_pint rfl rfl ?_
            refine l_pslice rfl rfl ?_
            refine l_v rfl (q_lenSlice rfl el_22 rfl) ?_
            refine b_call rfl cb_30 rfl (within_ok pl (n := x.length) (by omega)) (fun v w hv => ?_)
            obtain ⟨ms, hms, rfl, rfl⟩ := hv
            refine l_pint rfl rfl ?_
            refine l_nil ?_
            refine w_seq ?_
            refine w_region ?_
            refine l_pslice rfl rfl ?_
            refine l_nil ?_
            refine w_seq ?_
            refine w_seq ?_
            refine w_region ?_
            refine l_pint rfl rfl ?_
            refine l_nil ?_
            refine w_block ?_
            refine w_loopG (G := Nat × Option Addr × Nat × List PR) [15, 16, 17, 18, 19, 20, 21, 22, 23, 24, 25, 26, 27, 109, 110, 111, 112, 113, 114, 115, 116, 117, 118, 119, 120, 121, 122, 123, 124, 125, 126, 127, 128, 129, 130, 131, 132, 133, 134, 135, 136, 137, 138, 139, 140, 141, 142, 143, 144, 145, 146, 147, 148, 149, 150, 151, 152, 153, 154, 155, 156] (fun ⟨tu, ak, kc, rs⟩ => [(15, .slice ak rs.length kc), (16, .int .i64 ((tu : Nat) : Int))]) (fun m ⟨tu, ak, kc, rs⟩ w => m + tu = 3 ∧ rs.map PR.p = pss x y (1 + (q : Int)) (ms : Int) tu ∧ St W w (row 42 1 ak rs.length kc (rs.map PR.v) :: Segs (rs.map PR.seg) :: blk b11 ((headH x).map B) 24 :: treeL b33 ta tc x TE (row 28 5 ao x.length co (entsV x) :: F))) (fun _ => rfl) ?_ ?_
            · exact ⟨3, (0, none, 0, []), ⟨rfl, rfl, trivial⟩, rfl, rfl, St.newRow (St.nilseg.2 H)⟩
            · rintro m ⟨tu, ak, kc, rs⟩ ρ1 w ⟨hmt, hps, H⟩
              refine w_seq ?_
              refine w_seq ?_
              refine w_region ?_
              refine l_pint rfl rfl ?_
              refine l_pbool rfl rfl ?_
              refine l_nil ?_
              refine w_cond rfl (fun c4 => ?_) (fun c4 => ?_)
              · try simp only [decide_eq_true_eq, decide_eq_false_iff_not, Bool.not_eq_true', Bool.not_eq_false', beq_iff_eq, beq_eq_false_iff_ne, bne_iff_ne, bne_eq_false_iff_eq, ne_eq, Int.not_lt, Int.not_le] at c4
                refine w_skip ?_
                refine w_seq ?_
                refine w_block ?_
                refine w_seq ?_
                refine w_region ?_
                refine l_pslice rfl rfl ?_
                refine l_pslice rfl rfl ?_
                refine l_nil ?_
                refine w_seq ?_
                refine w_region ?_
                refine l_pint rfl rfl ?_
                refine l_pint rfl rfl ?_
                refine l_nil ?_
                refine w_seq ?_
                refine w_region ?_
                refine l_pint rfl rfl ?_
                refine l_pint rfl rfl ?_
                refine l_nil ?_
                refine w_cutG (G := Option Addr × Nat × List Ent × Int × Int) [17, 18, 19, 116, 117, 118, 119, 120, 121] (fun ⟨wa, wc, ws, wp, wz⟩ => [(17, .slice wa ws.length wc), (18, .int .i64 wp), (19, .int .i64 wz)]) (fun ⟨wa, wc, ws, wp, wz⟩ w => RdIn W (row 28 5 ao x.length co (entsV x) :: F) wa (entsV ws) ∧ ws.length ≤ wc ∧ EntsOk ws ∧ ws.length ≤ 200 ∧ bk x y (1 + (q : Int)) (ms : Int) tu = b4 ws wp wz x (1 + (q : Int)) (ms : Int) ∧ St W w (row 42 1 ak rs.length kc (rs.map PR.v) :: Segs (rs.map PR.seg) :: blk b11 ((headH x).map B) 24 :: treeL b33 ta tc x TE (row 28 5 ao x.length co (entsV x) :: F))) (fun _ => rfl) ?_ ?_
                · refine w_seq ?_
                  refine w_region ?_
                  refine l_pint rfl rfl ?_
                  refine l_pbool rfl rfl ?_
                  refine l_nil ?_
                  refine w_cond rfl (fun c5 => ?_) (fun c5 => ?_)
                  · try simp only [decide_eq_true_eq, decide_eq_false_iff_not, Bool.not_eq_true', Bool.not_eq_false', beq_iff_eq, beq_eq_false_iff_ne, bne_iff_ne, bne_eq_false_iff_eq, ne_eq, Int.not_lt, Int.not_le] at c5
                    refine w_seq ?_
                    refine w_region ?_
                    refine l_pslice rfl rfl ?_
                    refine l_pslice rfl rfl ?_
                    refine l_nil ?_
                    refine w_seq ?_
                    refine w_region ?_
                    refine l_pint rfl rfl ?_
                    refine l_nil ?_
                    refine w_region ?_
                    refine l_pslice rfl rfl ?_
                    refine l_v rfl (q_lenSlice rfl el_22 rfl) ?_
                    refine l_v rfl (q_quoI (a := y.length) (b := 2) rfl rfl rfl (by omega) (by omega)) ?_
                    refine l_pint rfl rfl ?_
                    refine l_nil ?_
                    refine ⟨by repeat' first | exact Agr.mix _ _ _ | exact Agr.refl _ _ | refine Agr.inner rfl ?_ | refine Agr.upd rfl ?_ | refine Agr.updL' rfl ?_, ?_⟩
                    exact ⟨(ay, cc1, y, 1, ((y.length / 2 : Nat) : Int)), ⟨rfl, rfl, rfl, trivial⟩, hry.up 1 rfl, hcy, hoy, hny, if_pos (by omega), H⟩
                  · try simp only [decide_eq_true_eq, decide_eq_false_iff_not, Bool.not_eq_true', Bool.not_eq_false', beq_iff_eq, beq_eq_false_iff_ne, bne_iff_ne, bne_eq_false_iff_eq, ne_eq, Int.not_lt, Int.not_le] at c5
                    refine w_skip ?_
                    refine ⟨by repeat' first | exact Agr.mix _ _ _ | exact Agr.refl _ _ | refine Agr.inner rfl ?_ | refine Agr.upd rfl ?_ | refine Agr.updL' rfl ?_, ?_⟩
                    exact ⟨(ao, co, x, 1 + (q : Int), (ms : Int)), ⟨rfl, rfl, rfl, trivial⟩, RdIn.row 0 rfl, hco, hox, hnx, if_neg (by omega), H⟩
                · rintro ⟨wa, wc, ws, wp, wz⟩ ρ1 w ⟨hrw, hcw, how, hnw, hbk, H⟩
                  refine w_seq ?_
                  refine w_region ?_
                  refine l_pslice rfl rfl ?_
                  refine l_pint rfl rfl ?_
                  refine b_call rfl cb_31 rfl (Inclusion_ok H (hrw.up 5 rfl) rfl hcw how (by omega) wp) (fun v w hv => ?_)
                  obtain ⟨ka, kca, rfl, H⟩ := hv
                  refine l_ptup rfl rfl ?_
                  refine l_pslice rfl rfl ?_
                  refine l_pint rfl rfl ?_
                  refine l_pslice rfl rfl ?_
                  refine l_pint rfl rfl ?_
                  refine l_nil ?_
                  refine w_seq ?_
                  refine w_region ?_
                  refine l_pslice rfl rfl ?_
                  refine l_pint rfl rfl ?_
                  refine b_call rfl cb_37 rfl (Consistency_ok H (hrw.up 6 rfl) rfl hcw how (by omega) wz) (fun v w hv => ?_)
                  obtain ⟨kb, kcb, rfl, H⟩ := hv
                  refine l_ptup rfl rfl ?_
                  refine l_pslice rfl rfl ?_
                  refine l_pint rfl rfl ?_
                  refine l_pslice rfl rfl ?_
                  refine l_pint rfl rfl ?_
                  refine l_nil ?_
                  refine w_seq ?_
                  refine w_region ?_
                  refine l_pptr rfl rfl ?_
                  refine l_pint rfl rfl ?_
                  refine l_pslice rfl rfl ?_
                  refine l_v rfl (q_lenSlice rfl el_22 rfl) ?_
                  refine b_call rfl cb_45 rfl (TIncl_ok (St.pick [5, 6, 0, 1, 2, 3, 4, 7] (pre := [_, _, _, _, _, _, _, _]) rfl H rfl) he (by omega) hox (1 + (q : Int)) (x.length : Int)) (fun v w hv => ?_)
                  obtain ⟨k3, kc3, rfl, H⟩ := hv
                  refine l_ptup rfl rfl ?_
                  refine l_pslice rfl rfl ?_
                  refine l_pint rfl rfl ?_
                  refine l_pslice rfl rfl ?_
                  refine l_pint rfl rfl ?_
                  refine l_nil ?_
                  refine w_seq ?_
                  refine w_region ?_
                  refine l_pptr rfl rfl ?_
                  refine l_pint rfl rfl ?_
                  refine l_pslice rfl rfl ?_
                  refine l_v rfl (q_lenSlice rfl el_22 rfl) ?_
                  refine b_call rfl cb_46 rfl (TCons_ok (St.pick [1, 2, 0, 3, 4, 5, 6, 7, 8] (pre := [_, _, _, _, _, _, _, _, _]) rfl H rfl) he (by omega) hox (ms : Int) (x.length : Int)) (fun v w hv => ?_)
                  obtain ⟨k4, kc4, rfl, H⟩ := hv
                  refine l_ptup rfl rfl ?_
                  refine l_pslice rfl rfl ?_
                  refine l_pint rfl rfl ?_
                  refine l_pslice rfl rfl ?_
                  refine l_pint rfl rfl ?_
                  refine l_nil ?_
                  refine w_region ?_
                  refine l_pslice rfl rfl ?_
                  refine l_pslice rfl rfl ?_
                  refine l_pslice rfl rfl ?_
                  refine l_pslice rfl rfl ?_
                  refine l_pslice rfl rfl ?_
                  refine b_buildSlice (cs := [.slice ka (incR ws wp).1.length kca, .slice kb (conR ws wz).1.length kcb, .slice k3 (inclT x (1 + (q : Int)) x.length).1.length kc3, .slice k4 (conT x ms x.length).1.length kc4]) rfl el_73 ze_42 rfl rfl rfl H (fun b155 w H => ?_)
                  have hlr := rs_len hps
                  refine b_append rfl el_73 ze_42 rfl rfl rfl H 7 rfl (Rd.mk (H.cells0 0 rfl)) rfl (fun u hu => by simp only [List.mem_cons, List.not_mem_nil, or_false] at hu; rcases hu with rfl | rfl | rfl | rfl <;> rfl) ⟨by omega, by simp only [maxLen]; omega⟩ (fun a156 c156 w H => ?_)
                  refine l_pslice rfl rfl ?_
                  refine l_nil ?_
                  refine w_region ?_
                  refine l_pint rfl rfl ?_
                  first | refine l_v rfl (q_add rfl rfl rfl (by simp only [inK]; omega)) ?_ | refine l_pint rfl rfl ?_
                  refine l_pint rfl rfl ?_
                  refine l_nil ?_
                  refine ⟨by repeat' first | exact Agr.mix _ _ _ | exact Agr.refl _ _ | refine Agr.inner rfl ?_ | refine Agr.upd rfl ?_ | refine Agr.updL' rfl ?_, ?_⟩
                  have hlr := rs_len hps
                  refine ⟨m - 1, (tu + 1, a156, c156, rs ++ [⟨ka, kca, (incR ws wp).1⟩, ⟨kb, kcb, (conR ws wz).1⟩, ⟨k3, kc3, (inclT x (1 + (q : Int)) x.length).1⟩, ⟨k4, kc4, (conT x ms x.length).1⟩]), by omega, ⟨congrArg (fun z => Value.slice a156 z c156) (by simp), by exact congrArg (Value.int IntKind.i64) (Int.natCast_succ tu).symm, trivial⟩, by omega, ?_, ?_⟩
                  · rw [List.map_append, hps, pss, hbk]; rfl
                  have H2 := St.pick [8, 6, 5, 4, 1, 7, 9, 2, 3] (pre := [_, _, _, _, _, _, _, _, _, _]) rfl H rfl
                  have H3 := (St.snocseg.1 (St.snocseg.1 (St.snocseg.1 (St.snocseg.1 H2)))).swap01
                  rw [show (rs ++ [(⟨ka, kca, (incR ws wp).1⟩ : PR), ⟨kb, kcb, (conR ws wz).1⟩, ⟨k3, kc3, (inclT x (1 + (q : Int)) x.length).1⟩, ⟨k4, kc4, (conT x ms x.length).1⟩]).length = rs.length + 4 by simp, List.map_append, List.map_append]
                  simp only [List.append_assoc, List.cons_append, List.nil_append] at H3
                  exact H3
              · try simp only [decide_eq_true_eq, decide_eq_false_iff_not, Bool.not_eq_true', Bool.not_eq_false', beq_iff_eq, beq_eq_false_iff_ne, bne_iff_ne, bne_eq_false_iff_eq, ne_eq, Int.not_lt, Int.not_le] at c4
                refine w_exit ?_
                refine w_seq ?_
                refine w_seq ?_
                refine w_region ?_
                refine l_pint rfl rfl ?_
                refine l_nil ?_
                refine w_block ?_
                refine w_loopG (G := Nat) [6, 28, 157, 158, 159, 160, 161, 162, 163, 164, 165, 166, 167, 168, 169, 170, 171] (fun i => [(28, .int .i64 ((i : Nat) : Int))]) (fun m i w => m + i = 4 ∧ St W w (row 42 1 ak rs.length kc (rs.map PR.v) :: Segs (rs.map PR.seg) :: blk b11 ((headH x).map B) 24 :: treeL b33 ta tc x TE (row 28 5 ao x.length co (entsV x) :: F))) (fun _ => rfl) ?_ ?_
                · obtain rfl : tu = 3 := by omega
                  have hlr := rs_len hps
                  exact ⟨4, 0, ⟨rfl, trivial⟩, rfl, H⟩
                · rintro m i ρ1 w ⟨hmi3, H⟩
                  obtain rfl : tu = 3 := by omega
                  have hlr := rs_len hps
                  have hrs := rs_ok hnx hny hps
                  obtain ⟨kb, hka, _⟩ := row_addr (i := 0) H rfl (vget (i := 0) (by omega))
                  refine w_seq ?_
                  refine w_seq ?_
                  refine w_region ?_
                  refine l_pint rfl rfl ?_
                  refine l_pbool rfl rfl ?_
                  refine l_nil ?_
                  refine w_cond rfl (fun c6 => ?_) (fun c6 => ?_)
                  · try simp only [decide_eq_true_eq, decide_eq_false_iff_not, Bool.not_eq_true', Bool.not_eq_false', beq_iff_eq, beq_eq_false_iff_ne, bne_iff_ne, bne_eq_false_iff_eq, ne_eq, Int.not_lt, Int.not_le] at c6
                    have hi1 : i < rs.length := by omega
                    have hi8 : 8 + i < rs.length := by omega
                    refine w_skip ?_
                    refine w_seq ?_
                    refine w_block ?_
                    refine w_seq ?_
                    refine w_drawT [] [3, 8] [(0, 0), (1, 0), (2, 0), (3, 1), (4, 0), (5, 0), (6, 0), (7, 0), (8, 1), (9, 2), (10, 0)] mixed (by kernel_rfl) (fun _ _ _ h => fin_panic h) H (fun H => ?_)
                    refine r_pslice rfl rfl rfl ?_
                    refine r_pint rfl rfl rfl ?_
                    refine r_w rfl rfl (fun w => q_indexSliceE i rfl el_73 rfl hka rfl rfl (by omega)) ?_
                    refine r_v rfl rfl (fun w hS => q_load1 rfl c1_42 rfl (row_cell (i := 0) hS rfl hka (vget (i := i) (by omega)))) ?_
                    refine r_pslice rfl rfl rfl ?_
                    refine r_pint rfl rfl rfl ?_
                    first | refine r_w rfl rfl (fun w => q_add rfl rfl rfl (by simp only [inK]; omega)) ?_ | refine r_pint rfl rfl rfl ?_
                    refine r_w rfl rfl (fun w => q_indexSliceE (8 + i) rfl el_73 rfl hka rfl (by omega) (by omega)) ?_
                    refine r_v rfl rfl (fun w hS => q_load1 rfl c1_42 rfl (row_cell (i := 0) hS rfl hka (vget (i := 8 + i) (by omega)))) ?_
                    refine r_do rfl ?_
                    refine b_call rfl cb_32 rfl (same_ok (p := rs[i].p) (q := rs[8 + i].p) H (hrs.get hi1).1 (hrs.get hi8).1 (RdIn.segs 1 rfl i (sget hi1)) (RdIn.segs 1 rfl (8 + i) (sget hi8)) (by have := (hrs.get hi1).2; omega)) (fun v w hv => ?_)
                    obtain ⟨rfl, H⟩ := hv
                    refine l_nil ⟨fun _ _ => (by first | exact H | exact H.drop1 | exact H.drop1.drop1 | exact H.drop1.drop1.drop1), ?_⟩
                    refine r_pbool rfl rfl rfl ?_
                    refine r_nil ?_
                    refine w_cond rfl (fun c7 => ?_) (fun c7 => ?_)
                    · try simp only [decide_eq_true_eq, decide_eq_false_iff_not, Bool.not_eq_true', Bool.not_eq_false', beq_iff_eq, beq_eq_false_iff_ne, bne_iff_ne, bne_eq_false_iff_eq, ne_eq, Int.not_lt, Int.not_le] at c7
                      exact absurd c7 (by simp [rs_same hps (i := i) (by omega) (by omega) (by omega)])
                    · try simp only [decide_eq_true_eq, decide_eq_false_iff_not, Bool.not_eq_true', Bool.not_eq_false', beq_iff_eq, beq_eq_false_iff_ne, bne_iff_ne, bne_eq_false_iff_eq, ne_eq, Int.not_lt, Int.not_le] at c7
                      refine w_skip ?_
                      refine w_region ?_
                      refine l_pint rfl rfl ?_
                      first | refine l_v rfl (q_add rfl rfl rfl (by simp only [inK]; omega)) ?_ | refine l_pint rfl rfl ?_
                      refine l_pint rfl rfl ?_
                      refine l_nil ?_
                      refine ⟨by repeat' first | exact Agr.mix _ _ _ | exact Agr.refl _ _ | refine Agr.inner rfl ?_ | refine Agr.upd rfl ?_ | refine Agr.updL' rfl ?_, ?_⟩
                      exact ⟨m - 1, i + 1, by omega, ⟨by exact congrArg (Value.int IntKind.i64) (Int.natCast_succ i).symm, trivial⟩, by omega, H⟩
                  · try simp only [decide_eq_true_eq, decide_eq_false_iff_not, Bool.not_eq_true', Bool.not_eq_false', beq_iff_eq, beq_eq_false_iff_ne, bne_iff_ne, bne_eq_false_iff_eq, ne_eq, Int.not_lt, Int.not_le] at c6
                    refine w_exit ?_
                    refine w_seq ?_
                    refine w_seq ?_
                    refine w_region ?_
                    refine l_pslice rfl rfl ?_
                    refine b_call rfl cb_47 rfl (apart_ok H hrs) (fun v w hv => ?_)
                    obtain ⟨rfl, H⟩ := hv
                    refine l_pbool rfl rfl ?_
                    refine l_nil ?_
                    refine w_cond_f rfl ?_
                    refine w_skip ?_
                    refine w_seq ?_
                    refine w_seq ?_
                    refine w_region ?_
                    refine l_pslice rfl rfl ?_
                    refine l_v rfl (q_lenSlice rfl el_22 rfl) ?_
                    refine l_pbool rfl rfl ?_
                    refine l_nil ?_
                    refine w_cond rfl (fun c8 => ?_) (fun c8 => ?_)
                    · try simp only [decide_eq_true_eq, decide_eq_false_iff_not, Bool.not_eq_true', Bool.not_eq_false', beq_iff_eq, beq_eq_false_iff_ne, bne_iff_ne, bne_eq_false_iff_eq, ne_eq, Int.not_lt, Int.not_le] at c8
                      obtain ⟨x0, xt, rfl⟩ : ∃ x0 xt, x = x0 :: xt := by
                        match x, c8 with
                        | [], h => exact absurd h (by simp)
                        | x0 :: xt, _ => exact ⟨x0, xt, rfl⟩
                      obtain ⟨ob, hao, hnu⟩ := row_addr (i := 3) (k := 1) (v := .int .i64 x0.nu) H rfl rfl
                      obtain ⟨bx, ox, hax, _⟩ := ent_cells (i := 0) (hrx.use H 4 rfl) (by simp)
                      refine w_seq ?_
                      refine w_region ?_
                      refine l_pslice rfl rfl ?_
                      refine l_pslice rfl rfl ?_
                      refine l_v rfl (q_indexSliceE 0 rfl el_22 rfl hao rfl rfl (by simp)) ?_
                      refine l_v rfl (q_fieldAddr rfl fo28_1 rfl) ?_
                      refine l_v rfl (q_load1 rfl c1_3 rfl hnu) ?_
                      refine l_pint rfl rfl ?_
                      refine l_v rfl (q_indexSliceE 0 rfl el_22 rfl hao rfl rfl (by simp)) ?_
                      refine l_v rfl (q_fieldAddr rfl fo28_1 rfl) ?_
                      refine b_storeRow (vs := [.int .i64 (bitI .xor .i64 x0.nu 1)]) (xs' := entsV (flip1 x0 :: xt)) rfl sz_3 rfl rfl rfl rfl rfl H 3 rfl hao (by rw [entsV_len]; simp; omega) rfl (fun w H => ?_)
                      have hox1 : EntsOk (flip1 x0 :: xt) := fun e he => by
                        rcases List.mem_cons.1 he with rfl | he
                        · exact hox x0 List.mem_cons_self
                        · exact hox e (List.mem_cons_of_mem _ he)
                      refine l_nil ?_
                      refine w_seq ?_
                      refine w_drawT [] [2, 6, 10, 17, 23] [(0, 0), (2, 1), (4, 0), (5, 0), (6, 1), (8, 0), (9, 0), (10, 1), (1, 2), (3, 0), (7, 2), (11, 2), (12, 0), (13, 0), (14, 0), (15, 0), (17, 1), (16, 2), (18, 0), (19, 0), (20, 0), (21, 0), (23, 1), (22, 2), (24, 0), (25, 0), (26, 0), (27, 0), (28, 2), (29, 0), (30, 0), (31, 0)] mixed (by kernel_rfl) (fun _ _ _ h => fin_panic h) H (fun H => ?_)
                      refine r_pslice rfl rfl rfl ?_
                      refine r_v rfl rfl (fun w hS => q_loadN (vs := (headH (x0 :: xt)).map B) rfl ag_24 rfl (by rw [List.length_map, headH_len]) (hS.cells 0 rfl)) ?_
                      refine r_pslice rfl rfl rfl ?_
                      refine r_w rfl rfl (fun w => q_indexSliceE 0 rfl el_22 rfl hao rfl rfl (by simp)) ?_
                      refine r_v rfl rfl (fun w hS => q_loadN (vs := (flip1 x0).cells) rfl ag_28 rfl rfl (ent_at2 (i := 0) hao (hS.rowInv (i := 3) rfl).2.2.2.2 (by simp))) ?_
                      refine r_pslice rfl rfl rfl ?_
                      refine r_w rfl rfl (fun w => q_indexSliceE 0 rfl el_22 rfl hax rfl rfl (by simp)) ?_
                      refine r_v rfl rfl (fun w hS => q_loadN (vs := x0.cells) rfl ag_28 rfl rfl (ent_at2 (i := 0) hax (hrx.use hS 4 rfl) (by simp))) ?_
                      refine r_do rfl ?_
                      refine b_call rfl cb_14 rfl (Head_ok _ H (RdIn.row 3 rfl) rfl hco hox1 rfl (by omega)) (fun v w hv => ?_)
                      obtain ⟨rfl, H⟩ := hv
                      refine l_nil ⟨fun _ _ => (by first | exact H | exact H.drop1 | exact H.drop1.drop1 | exact H.drop1.drop1.drop1), ?_⟩
                      refine r_w rfl rfl (fun w => q_eqlHash rfl rfl rfl (headH_len _) (headH_len _)) ?_
                      refine r_do rfl ?_
                      refine b_call rfl cb_19 rfl (Leaf_ok H (flip1 x0) (hox1 _ List.mem_cons_self)) (fun v w hv => ?_)
                      obtain ⟨rfl, H⟩ := hv
                      refine l_nil ⟨fun _ _ => (by first | exact H | exact H.drop1 | exact H.drop1.drop1 | exact H.drop1.drop1.drop1), ?_⟩
                      refine r_do rfl ?_
                      refine b_call rfl cb_19 rfl (Leaf_ok H x0 (hox _ List.mem_cons_self)) (fun v w hv => ?_)
                      obtain ⟨rfl, H⟩ := hv
                      refine l_nil ⟨fun _ _ => (by first | exact H | exact H.drop1 | exact H.drop1.drop1 | exact H.drop1.drop1.drop1), ?_⟩
                      refine r_w rfl rfl (fun w => q_eqlHash rfl rfl rfl (leafH_len _) (leafH_len _)) ?_
                      refine r_w rfl rfl (fun w => q_eqlBool rfl bo_4 rfl rfl) ?_
                      refine r_pbool rfl rfl rfl ?_
                      refine r_split 200 rfl (fun h200 => ?_) (fun h200 => ?_)
                      · try simp only [decide_eq_true_eq, decide_eq_false_iff_not, Bool.not_eq_true', Bool.not_eq_false', beq_iff_eq, beq_eq_false_iff_ne, bne_iff_ne, bne_eq_false_iff_eq, ne_eq, Int.not_lt, Int.not_le] at h200
                        refine r_pptr rfl rfl rfl ?_
                        refine r_v rfl rfl (fun w hS => q_loadN (vs := (headH (x0 :: xt)).map B) rfl ag_24 rfl (by rw [List.length_map, headH_len]) (hS.cells 0 rfl)) ?_
                        refine r_do rfl ?_
                        refine b_call rfl cb_43 rfl (Ok_perm (pickP [1, 2, 0, 3] (pre := [_, _, _, _]) rfl rfl) (fun H => THead_ok H he (by omega)) H) (fun v w hv => ?_)
                        obtain ⟨rfl, H⟩ := hv
                        refine l_nil ⟨fun _ _ => (by first | exact H | exact H.drop1 | exact H.drop1.drop1 | exact H.drop1.drop1.drop1), ?_⟩
                        refine r_w rfl rfl (fun w => q_eqlHash rfl rfl rfl (headH_len _) (headH_len _)) ?_
                        refine r_pickT (v := .bool _) rfl rfl rfl rfl ?_
                        refine r_pbool rfl rfl rfl ?_
                        refine r_split 206 rfl (fun h206 => ?_) (fun h206 => absurd h206 (by simp))
                        try simp only [decide_eq_true_eq, decide_eq_false_iff_not, Bool.not_eq_true', Bool.not_eq_false', beq_iff_eq, beq_eq_false_iff_ne, bne_iff_ne, bne_eq_false_iff_eq, ne_eq, Int.not_lt, Int.not_le] at h206
                        refine r_no rfl rfl ?_
                        refine r_no1 rfl rfl ?_
                        refine r_do rfl (l_no rfl (l_nil ⟨fun _ _ => (by first | exact H | exact H.drop1 | exact H.drop1.drop1), ?_⟩))
                        refine r_no rfl rfl ?_
                        refine r_no rfl rfl ?_
                        refine r_no rfl rfl ?_
                        refine r_no rfl rfl ?_
                        refine r_do rfl (l_no rfl (l_nil ⟨fun _ _ => (by first | exact H | exact H.drop1 | exact H.drop1.drop1), ?_⟩))
                        refine r_no rfl rfl ?_
                        refine r_pickT (v := .bool _) rfl rfl rfl rfl ?_
                        refine r_pbool rfl rfl rfl ?_
                        refine r_nil ?_
                        refine w_ret ?_
                        refine fin1 (v := .bool _) rfl ?_
                        exact ⟨congrArg Value.bool (by simp), _, H⟩
                      · try simp only [decide_eq_true_eq, decide_eq_false_iff_not, Bool.not_eq_true', Bool.not_eq_false', beq_iff_eq, beq_eq_false_iff_ne, bne_iff_ne, bne_eq_false_iff_eq, ne_eq, Int.not_lt, Int.not_le] at h200
                        refine r_no rfl rfl ?_
                        refine r_no1 rfl rfl ?_
                        refine r_do rfl (l_no rfl (l_nil ⟨fun _ _ => (by first | exact H | exact H.drop1 | exact H.drop1.drop1), ?_⟩))
                        refine r_no rfl rfl ?_
                        refine r_pickF (v := .bool _) rfl rfl rfl rfl ?_
                        refine r_pbool rfl rfl rfl ?_
                        refine r_pslice rfl rfl rfl ?_
                        refine r_v rfl rfl (fun w hS => q_loadN (vs := (headH (x0 :: xt)).map B) rfl ag_24 rfl (by rw [List.length_map, headH_len]) (hS.cells 0 rfl)) ?_
                        refine r_do rfl ?_
                        refine b_call rfl cb_14 rfl (Head_ok _ H (RdIn.row 3 rfl) rfl hco hox1 rfl (by omega)) (fun v w hv => ?_)
                        obtain ⟨rfl, H⟩ := hv
                        refine l_nil ⟨fun _ _ => (by first | exact H | exact H.drop1 | exact H.drop1.drop1 | exact H.drop1.drop1.drop1), ?_⟩
                        refine r_w rfl rfl (fun w => q_eqlHash rfl rfl rfl (headH_len _) (headH_len _)) ?_
                        refine r_pbool rfl rfl rfl ?_
                        refine r_split 211 rfl (fun h211 => ?_) (fun h211 => absurd h211 (by exact fun h => h200 (own_dec h)))
                        try simp only [decide_eq_true_eq, decide_eq_false_iff_not, Bool.not_eq_true', Bool.not_eq_false', beq_iff_eq, beq_eq_false_iff_ne, bne_iff_ne, bne_eq_false_iff_eq, ne_eq, Int.not_lt, Int.not_le] at h211
                        refine r_pslice rfl rfl rfl ?_
                        refine r_pslice rfl rfl rfl ?_
                        refine r_do rfl ?_
                        refine b_call rfl cb_35 rfl (clash_ok _ H (RdIn.row 3 rfl) (hrx.up 4 rfl) rfl rfl hco hcx hox1 hox rfl (by simp) (by omega) h211 unlike_flip) (fun v w hv => ?_)
                        obtain ⟨rfl, H⟩ := hv
                        refine l_nil ⟨fun _ _ => (by first | exact H | exact H.drop1 | exact H.drop1.drop1 | exact H.drop1.drop1.drop1), ?_⟩
                        refine r_pickT (v := .bool _) rfl rfl rfl rfl ?_
                        refine r_pickF (v := .bool _) rfl rfl rfl rfl ?_
                        refine r_pbool rfl rfl rfl ?_
                        refine r_nil ?_
                        refine w_ret ?_
                        refine fin1 (v := .bool _) rfl ?_
                        exact ⟨congrArg Value.bool (by simp), _, H⟩
                    · try simp only [decide_eq_true_eq, decide_eq_false_iff_not, Bool.not_eq_true', Bool.not_eq_false', beq_iff_eq, beq_eq_false_iff_ne, bne_iff_ne, bne_eq_false_iff_eq, ne_eq, Int.not_lt, Int.not_le] at c8
                      refine w_skip ?_
                      refine w_seq ?_
                      refine w_region ?_
                      refine l_pbool rfl rfl ?_
                      refine l_nil ?_
                      refine w_ret ?_
                      refine fin1 (v := .bool _) rfl ?_
                      exact ⟨rfl, _, H⟩

end Go.Proofs.Ytcmmhpkgjcepdaa
