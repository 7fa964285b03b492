/- Paths that are held, and how they grow, as segments of memory. -/
import Derived.Test.YtcmmhpkgjcepdaaTre38
import Derived.Test.YtcmmhpkgjcepdaaBaseAll
namespace Go.Proofs.Ytcmmhpkgjcepdaa
open Go.EW
attribute [local irreducible] EW.W EW.L EW.fin block8 outB shaL
set_option linter.unusedVariables false
set_option linter.unusedSimpArgs false
attribute [local irreducible] swp headH leafH nodeH inclN sidesN bothN lenN splitN upN incdR extR incR conR unlikeN oneB metB hatT inclT conT askT

def mk (i k : Nat) : List UInt8 := UInt8.ofNat i :: UInt8.ofNat k :: 1 :: List.replicate 29 0
theorem mk_len (i k : Nat) : (mk i k).length = 32 := rfl
def mks (i n : Nat) : List (List UInt8) := (List.range n).map (mk i)
theorem mks_len (i n : Nat) : (mks i n).length = n := by unfold mks; simp
theorem mks_succ (i n : Nat) : mks i (n + 1) = mks i n ++ [mk i n] := by unfold mks; rw [List.range_succ, List.map_append]; rfl
theorem mks_ok (i n : Nat) : PathOk (mks i n) := fun x hx => by
  obtain ⟨k, _, rfl⟩ := List.mem_map.1 hx
  exact mk_len i k
theorem mks_get {i n k : Nat} (h : k < (mks i n).length) : (mks i n)[k] = mk i k := by
  have h2 : (mks i n)[k]? = some (mk i k) := by
    rw [mks_len] at h
    unfold mks
    rw [List.getElem?_map, List.getElem?_range h]; rfl
  rw [List.getElem?_eq_getElem h] at h2
  exact Option.some.inj h2
theorem mks_take {i n k : Nat} (h : k ≤ n) : (mks i n).take k = mks i k := by
  unfold mks
  rw [← List.map_take, List.take_range, Nat.min_eq_left h]
/-- a path that is held -/
structure PR where
  a : Option Addr
  c : Nat
  p : List (List UInt8)
def PR.v (r : PR) : Value := .slice r.a r.p.length r.c
def PR.seg (r : PR) : Seg := row 24 32 r.a r.p.length r.c (pathV r.p)
def PR.prt (i k : Nat) (r : PR) : List (List UInt8) := mks i k ++ r.p.drop k
theorem prt_len {i k : Nat} {r : PR} (h : k ≤ r.p.length) : (r.prt i k).length = r.p.length := by
  unfold PR.prt; rw [List.length_append, mks_len, List.length_drop]; omega
theorem prt_zero {i : Nat} {r : PR} : r.prt i 0 = r.p := by unfold PR.prt mks; simp
theorem prt_full {i : Nat} {r : PR} : r.prt i r.p.length = mks i r.p.length := by unfold PR.prt; simp
theorem prt_ok {i k : Nat} {r : PR} (h : PathOk r.p) : PathOk (r.prt i k) := fun x hx => by
  rcases List.mem_append.1 hx with hx | hx
  · exact mks_ok _ _ _ hx
  · exact h.drop _ _ hx
theorem prt_set {i k : Nat} {r : PR} (h : k < r.p.length) : (r.prt i k).set k (mk i k) = r.prt i (k + 1) := by
  unfold PR.prt
  rw [List.set_append_right _ _ (by rw [mks_len]; omega), mks_len, Nat.sub_self, List.drop_eq_getElem_cons h, List.set_cons_zero, mks_succ, List.append_assoc]; rfl
def PR.sg (i k : Nat) (r : PR) : Seg := row 24 32 r.a r.p.length r.c (pathV (r.prt i k))
def cnt (rs : List PR) (i k : Nat) : List Seg := rs.mapIdx (fun j r => r.sg j (if j < i then r.p.length else if j = i then k else 0))
theorem cnt_len {rs : List PR} {i k : Nat} : (cnt rs i k).length = rs.length := by unfold cnt; simp
theorem cnt_zero {rs : List PR} : cnt rs 0 0 = rs.map PR.seg := by
  apply List.ext_getElem
  · simp [cnt]
  · intro j h1 h2
    simp only [cnt, List.getElem_mapIdx, List.getElem_map, Nat.not_lt_zero, if_false]
    unfold PR.sg PR.seg
    split <;> rw [prt_zero]
theorem cnt_get {rs : List PR} {i k : Nat} (hi : i < rs.length) : (cnt rs i k)[i]? = some (rs[i].sg i k) := by
  rw [List.getElem?_eq_getElem (by rw [cnt_len]; exact hi)]
  simp [cnt]
theorem cnt_set {rs : List PR} {i k : Nat} (hi : i < rs.length) : (cnt rs i k).set i (rs[i].sg i (k + 1)) = cnt rs i (k + 1) := by
  apply List.ext_getElem
  · simp [cnt]
  · intro j h1 h2
    rw [List.getElem_set]
    by_cases h : i = j
    · subst h
      simp [cnt]
    · simp only [cnt, List.getElem_mapIdx, if_neg h]
      by_cases hj : j < i
      · rw [if_pos hj, if_pos hj]
      · rw [if_neg hj, if_neg hj, if_neg (Ne.symm h), if_neg (Ne.symm h)]
theorem cnt_next {rs : List PR} {i : Nat} (hi : i < rs.length) : cnt rs i rs[i].p.length = cnt rs (i + 1) 0 := by
  apply List.ext_getElem
  · simp [cnt]
  · intro j h1 h2
    simp only [cnt, List.getElem_mapIdx]
    by_cases hj : j < i
    · rw [if_pos hj, if_pos (by omega)]
    · by_cases hj2 : j = i
      · subst hj2
        rw [if_neg (by omega), if_pos rfl, if_pos (by omega)]
      · rw [if_neg hj, if_neg hj2, if_neg (by omega)]
        split <;> rfl
/-- a held path that has been grown: where it lay, or elsewhere -/
def grS (i : Nat) (r : PR) (k : Nat) (ga : Option Addr) (gc : Nat) : Seg :=
  orS (star (pr (ga = r.a ∧ gc = r.c)) (row 24 32 r.a (r.p.length + k) r.c (pathV (mks i (r.p.length + k)))))
    (ex fun k0 => star (row 24 32 ga (r.p.length + k) gc (pathV (mks i (r.p.length + k)))) (row 24 32 r.a (r.p.length + k0) r.c (pathV (mks i (r.p.length + k0)))))
theorem gr_start {W w : World} {S : List Seg} {i : Nat} {r : PR} (H : St W w (r.sg i r.p.length :: S)) : St W w (grS i r 0 r.a r.c :: S) := by
  refine St.orL (St.star.2 (St.pr.2 ⟨⟨rfl, rfl⟩, ?_⟩))
  unfold PR.sg at H
  rw [prt_full] at H
  exact H
theorem mks_pre {w : World} {a : Option Addr} {i n k : Nat} (hk : k ≤ n) (h : Rd w a (pathV (mks i n))) : Rd w a (pathV (mks i k)) := by
  have e := pathV_take (mks_ok i n) k
  rw [mks_take hk] at e
  rw [e]
  intro j v hj
  refine h j v ?_
  rw [List.getElem?_take] at hj
  split at hj
  · exact hj
  · cases hj
theorem gr_rd {W w : World} {S : List Seg} {i j : Nat} {r : PR} {k : Nat} {ga : Option Addr} {gc : Nat} (H : St W w S) (hj : S[j]? = some (grS i r k ga gc)) : Rd w ga (pathV (mks i (r.p.length + k))) ∧ Rd w r.a (pathV (mks i r.p.length)) := by
  rcases (H.front j hj).orE with H | H
  · obtain ⟨⟨rfl, rfl⟩, H2⟩ := St.pr.1 (St.star.1 H)
    have h := (H2.rowInv (i := 0) rfl).2.2.2.2
    exact ⟨h, mks_pre (by omega) h⟩
  · obtain ⟨k0, H⟩ := St.ex.1 H
    have H := St.star.1 H
    exact ⟨(H.rowInv (i := 0) rfl).2.2.2.2, mks_pre (by omega) (H.rowInv (i := 1) rfl).2.2.2.2⟩
theorem b_appendG {n : Nat} {Q : Post} {ρ : Env} {W w : World} {S : List Seg} {ops : Array Oper} {rest : List Oper} {d : Nat} {ty : TypeId} {ps : String} {af : Array Edge} {gd : Option (Nat × Bool)} {s x : Operand} {i k len b : Nat} {r : PR} {ga : Option Addr} {gc : Nat} (hg : gst n ops ρ ⟨some d, .call { callee := .builtin .append, args := #[s, x], argTypes := #[42, 42] }, ty, ps, af, gd⟩ = some true)
    (hs : ev n ρ s = .slice ga len gc) (hlen : len = r.p.length + k) (hx : ev n ρ x = .slice (some ⟨b, 0, none⟩) 1 1) (H : St W w (blk0 b ((mk i len).map B) 24 :: grS i r k ga gc :: S)) (hb : len ≤ 1000000000)
    (h : ∀ ga' gc' w', St W w' (grS i r (k + 1) ga' gc' :: S) → L Try.prog n ops rest Q (upd ρ d (.slice ga' (len + 1) gc')) w') :
    L Try.prog n ops (⟨some d, .call { callee := .builtin .append, args := #[s, x], argTypes := #[42, 42] }, ty, ps, af, gd⟩ :: rest) Q ρ w := by
  subst hlen
  have hrd : Rd w (some ⟨b, 0, none⟩) ((mk i (r.p.length + k)).map B) := Rd.mk (H.cells0 0 rfl)
  have hm : pathV (mks i (r.p.length + k)) ++ (mk i (r.p.length + k)).map B = pathV (mks i (r.p.length + (k + 1))) := by
    rw [← Nat.add_assoc, mks_succ, pathV_append, pathV_one]
  have hml : maxLen = 9223372036854775807 := rfl
  rcases (H.drop1).orE with H | H
  · obtain ⟨⟨rfl, rfl⟩, H2⟩ := St.pr.1 (St.star.1 H)
    refine l_appendK hg rfl el_42 ze_24 rfl hs hx H2 hrd (by rw [List.length_map, mk_len]) (Go.EW.oneB _) ⟨.inl (by omega), by omega⟩ (fun _ w' H' => ?_) (fun _ a' c' w' H' => ?_)
    · rw [hm] at H'
      exact h r.a r.c w' (St.orL (St.star.2 (St.pr.2 ⟨⟨rfl, rfl⟩, H'⟩)))
    · rw [hm] at H'
      exact h a' c' w' (St.orR (St.ex.2 ⟨k, St.star.2 H'⟩))
  · obtain ⟨k0, H⟩ := St.ex.1 H
    have H := St.star.1 H
    refine b_append hg el_42 ze_24 rfl hs hx H 0 rfl hrd (by rw [List.length_map, mk_len]) (Go.EW.oneB _) ⟨.inl (by omega), by omega⟩ (fun a' c' w' H' => ?_)
    rw [hm] at H'
    exact h a' c' w' (St.orR (St.ex.2 ⟨k0, St.star.2 H'⟩))
def gcn (rs : List PR) (i : Nat) (gs : List PR) : List Seg := rs.mapIdx (fun j r => if j < i then grS j r 12 (gs.getD j ⟨none, 0, []⟩).a (gs.getD j ⟨none, 0, []⟩).c else r.sg j r.p.length)
theorem gcn_len {rs gs : List PR} {i : Nat} : (gcn rs i gs).length = rs.length := by unfold gcn; simp
theorem gcn_zero {rs gs : List PR} : gcn rs 0 gs = cnt rs rs.length 0 := by
  apply List.ext_getElem
  · simp [cnt, gcn]
  · intro j h1 h2
    have hj : j < rs.length := by simpa [gcn_len] using h1
    simp [cnt, gcn, hj]
theorem gcn_get {rs gs : List PR} {i : Nat} (hi : i < rs.length) : (gcn rs i gs)[i]? = some (rs[i].sg i rs[i].p.length) := by
  rw [List.getElem?_eq_getElem (by rw [gcn_len]; exact hi)]
  simp [gcn]
theorem gcn_got {rs gs : List PR} {i j : Nat} (hj : j < i) (hi : j < rs.length) (hg : j < gs.length) : (gcn rs i gs)[j]? = some (grS j rs[j] 12 gs[j].a gs[j].c) := by
  rw [List.getElem?_eq_getElem (by rw [gcn_len]; exact hi)]
  simp [gcn, hj, List.getD, hg]
theorem gcn_set {rs gs : List PR} {i : Nat} {g : PR} (hi : i < rs.length) (hg : gs.length = i) : (gcn rs i gs).set i (grS i rs[i] 12 g.a g.c) = gcn rs (i + 1) (gs ++ [g]) := by
  apply List.ext_getElem
  · simp [gcn]
  · intro j h1 h2
    rw [List.getElem_set]
    by_cases h : i = j
    · subst h
      simp [gcn, List.getD, ← hg]
    · simp only [gcn, List.getElem_mapIdx, if_neg h]
      by_cases hj : j < i
      · rw [if_pos hj, if_pos (by omega), List.getD_eq_getElem?_getD, List.getD_eq_getElem?_getD, List.getElem?_append_left (by omega)]
      · rw [if_neg hj, if_neg (by omega)]
/-- the grown paths' contents -/
def GOk (rs gs : List PR) : Prop := ∀ j (hj : j < gs.length) (hr : j < rs.length), gs[j].p = mks j (rs[j].p.length + 12)
theorem gok_snoc {rs gs : List PR} {g : PR} (h : GOk rs gs) (hi : gs.length < rs.length) (hg : g.p = mks gs.length (rs[gs.length].p.length + 12)) : GOk rs (gs ++ [g]) := fun j hj hr => by
  rw [List.length_append, List.length_singleton] at hj
  by_cases h1 : j < gs.length
  · rw [List.getElem_append_left h1]; exact h j h1 hr
  · have e : j = gs.length := by omega
    subst e
    rw [List.getElem_append_right (Nat.le_refl _)]
    simpa using hg
theorem drop_app {W w : World} {l F : List Seg} (H : St W w (l ++ F)) : St W w F := by
  have := H.dropN l.length
  rwa [List.drop_left] at this

end Go.Proofs.Ytcmmhpkgjcepdaa
