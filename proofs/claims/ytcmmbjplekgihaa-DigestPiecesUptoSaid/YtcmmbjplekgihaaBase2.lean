/- A layer over the model's own weakest preconditions: environments as functions, memory as a list of owned segments, a law for each operation; it holds of every program, on the conditions that each theorem names. -/
import Derived.Test.YtcmmbjplekgihaaBase1
namespace Go.EW
/-! A region that draws its order: the quiet operations first, the others in the one order that is left. -/
section
variable {P : Program} {ops : Array Oper} {n : Nat}

/-- after each operation but those of the tail S holds -/
def anyT (P : Program) (ops : Array Oper) (Q : Exit → Act → World → Prop) (tl : Nat → Bool) (S : World → Prop) : Nat → Array Bool → Act → World → Prop
  | 0, listed, a, w => Region.ready .any ops listed = [] ∧ Q .normal a w
  | fuel + 1, listed, a, w =>
    (Region.ready .any ops listed = [] → Q .normal a w) ∧
    ∀ i ∈ Region.ready .any ops listed, wpOp P ops Q i (fun a' w' => (tl i = false → S w → S w') ∧ anyT P ops Q tl S fuel (listed.setIfInBounds i true) a' w') a w

theorem any_of_anyT {Q : Exit → Act → World → Prop} {tl : Nat → Bool} {S : World → Prop} : ∀ (fuel : Nat) (listed : Array Bool) (a : Act) (w : World),
    anyT P ops Q tl S fuel listed a w → wpAny P .any ops Q fuel listed a w
  | 0, _, _, _, h => h
  | fuel + 1, _, _, _, h => ⟨h.1, fun i hi => wpOp_mono (fun a' w' h' => any_of_anyT fuel _ a' w' h'.2) (h.2 i hi)⟩

/-- does t wait for i? -/
def waits (ops : Array Oper) : Nat → Nat → Nat → Bool
  | 0, _, _ => false
  | fuel + 1, t, i => match ops[t]? with
    | some o => o.after.any fun e => Region.binds .any e && (Nat.beq e.on i || waits ops fuel e.on i)
    | none => false
def tailB (ops : Array Oper) (tl sq : List Nat) : Bool :=
  (List.range ops.size).all fun t => !memb tl t || (List.range ops.size).all fun i => !memb sq i || waits ops 8 t i
/-- what has come up waits for nothing that has not -/
def Closed (ops : Array Oper) (listed : Array Bool) : Prop := ∀ (j : Nat) oj, ops[j]? = some oj → listed.getD j false = true → ∀ e ∈ oj.after, Region.binds .any e = true → listed.getD e.on false = true
theorem waits_listed {listed : Array Bool} (hc : Closed ops listed) : ∀ (fuel t i : Nat), waits ops fuel t i = true → ∀ ot, ops[t]? = some ot → (∀ e ∈ ot.after, Region.binds .any e = true → listed.getD e.on false = true) → listed.getD i false = true
  | 0, _, _, h, _, _, _ => by simp [waits] at h
  | fuel + 1, t, i, h, ot, ho, hall => by
    simp only [waits, ho] at h
    obtain ⟨e, he, hb⟩ := Array.any_eq_true'.1 h
    simp only [Bool.and_eq_true, Bool.or_eq_true] at hb
    have hl := hall e he hb.1
    rcases hb.2 with h2 | h2
    · rw [← Nat.eq_of_beq_eq_true h2]; exact hl
    · cases hoe : ops[e.on]? with
      | none => cases fuel <;> simp [waits, hoe] at h2
      | some oe => exact waits_listed hc fuel e.on i h2 oe hoe (hc e.on oe hoe hl)
theorem Closed.set {listed : Array Bool} (hc : Closed ops listed) {i : Nat} (hi : i ∈ Region.ready .any ops listed) : Closed ops (listed.setIfInBounds i true) := by
  intro j oj hj hl e he hb
  obtain ⟨hun, oi, hoi, hall⟩ := mem_ready.1 hi
  by_cases hji : i = j
  · subst hji
    rw [hoi] at hj
    cases hj
    exact getD_set_true (hall e he hb)
  · rw [getD_set_ne false hji] at hl
    exact getD_set_true (hc j oj hj hl e he hb)

theorem anyT_first {Q : Exit → Act → World → Prop} {tl sq : List Nat} {S : World → Prop} (htl : tailB ops tl sq = true) {i : Nat} {oi : Oper} {v : Value} (hi : ops[i]? = some oi) (hit : memb sq i = true)
    (hsel : ∀ (j : Nat) (o : Oper) cs b, ops[j]? = some o → o.op ≠ .select cs b) (hQ : ∀ c a w, Q (.panic c) (a.put oi.dst v) w → Q (.panic c) a w) :
    ∀ (fuel : Nat) (listed : Array Bool) (a : Act) (w : World),
      (∀ j oj, ops[j]? = some oj → j ≠ i → listed.getD j true = false → (∀ e ∈ oj.after, Region.binds .any e = true → e.on ≠ i) → oi.apart ops oj = true) →
      i ∈ Region.ready .any ops listed → Closed ops listed → YieldsIf P ops S oi v a → S w →
      anyT P ops Q (memb tl) S fuel (listed.setIfInBounds i true) (a.put oi.dst v) w → anyT P ops Q (memb tl) S (fuel + 1) listed a w := by
  intro fuel
  induction fuel with
  | zero =>
    intro listed a w _ hr hcl hy hS H
    refine ⟨fun h => (by rw [h] at hr; cases hr), fun j hj => ?_⟩
    by_cases hji : j = i
    · subst hji; exact hy.wpOp hi hS ⟨fun _ h => h, H⟩
    · have := ready_mono hj hji
      rw [H.1] at this
      cases this
  | succ fuel ih =>
    intro listed a w hfree hr hcl hy hS H
    refine ⟨fun h => (by rw [h] at hr; cases hr), fun j hj => ?_⟩
    by_cases hji : j = i
    · subst hji; exact hy.wpOp hi hS ⟨fun _ h => h, H⟩
    · have h1 := H.2 j (ready_mono hj hji)
      obtain ⟨hjun, oj, hoj, hall⟩ := mem_ready.1 hj
      have hiun : listed.getD i false = false := by
        have h0 := (mem_ready.1 hr).1
        rcases Nat.lt_or_ge i listed.size with h' | h'
        · simp [h'] at h0 ⊢; exact h0
        · simp [Array.getElem?_eq_none h']
      have hnot : ∀ e ∈ oj.after, Region.binds .any e = true → e.on ≠ i := fun e he hb heq => by
        have h1 := hall e he hb
        rw [heq, hiun] at h1
        cases h1
      have hjt : memb tl j = false := by
        cases hm : memb tl j with
        | false => rfl
        | true =>
          unfold tailB at htl
          have hjs : j < ops.size := (Array.getElem?_eq_some_iff.1 hoj).1
          have his : i < ops.size := (Array.getElem?_eq_some_iff.1 hi).1
          have h2 := List.all_eq_true.1 htl j (List.mem_range.2 hjs)
          rw [hm] at h2
          simp only [Bool.not_true, Bool.false_or] at h2
          have h3 := List.all_eq_true.1 h2 i (List.mem_range.2 his)
          rw [hit] at h3
          simp only [Bool.not_true, Bool.false_or] at h3
          have := waits_listed hcl 8 j i h3 oj hoj hall
          rw [hiun] at this
          cases this
      have h2 := wpOp_putIf hoj (hfree j oj hoj hji hjun hnot) (fun cs b => hsel i oi cs b hi) (fun cs b => hsel j oj cs b hoj) hQ hy h1
      have hfree' : ∀ k ok, ops[k]? = some ok → k ≠ i → (listed.setIfInBounds j true).getD k true = false →
          (∀ e ∈ ok.after, Region.binds .any e = true → e.on ≠ i) → oi.apart ops ok = true := fun k ok hk hki hun hno => by
        refine hfree k ok hk hki ?_ hno
        by_cases hjk : j = k
        · subst hjk; exact hjun
        · rw [getD_set_ne true hjk] at hun; exact hun
      refine wpOp_mono (fun a' w' h3 => ⟨h3.2.1, ih (listed.setIfInBounds j true) a' w' hfree' (ready_mono hr (Ne.symm hji)) (hcl.set hj) h3.1 (h3.2.1 hjt hS) ?_⟩) h2
      rw [Array.setIfInBounds_comm _ _ hji]
      exact h3.2.2

theorem anyT_pure {Q : Exit → Act → World → Prop} {tl : Nat → Bool} {S : World → Prop} {i : Nat} {oi : Oper} {v : Value} (hi : ops[i]? = some oi)
    (hsel : ∀ (j : Nat) (o : Oper) cs b, ops[j]? = some o → o.op ≠ .select cs b) (hQ : ∀ c a w, Q (.panic c) (a.put oi.dst v) w → Q (.panic c) a w) :
    ∀ (fuel : Nat) (listed : Array Bool) (a : Act) (w : World),
      (∀ j oj, ops[j]? = some oj → j ≠ i → listed.getD j true = false → (∀ e ∈ oj.after, Region.binds .any e = true → e.on ≠ i) → oi.apart ops oj = true) →
      i ∈ Region.ready .any ops listed → YieldsIf P ops (fun _ => True) oi v a →
      anyT P ops Q tl S fuel (listed.setIfInBounds i true) (a.put oi.dst v) w → anyT P ops Q tl S (fuel + 1) listed a w := by
  intro fuel
  induction fuel with
  | zero =>
    intro listed a w _ hr hy H
    refine ⟨fun h => (by rw [h] at hr; cases hr), fun j hj => ?_⟩
    by_cases hji : j = i
    · subst hji; exact hy.wpOp hi trivial ⟨fun _ h => h, H⟩
    · have := ready_mono hj hji
      rw [H.1] at this
      cases this
  | succ fuel ih =>
    intro listed a w hfree hr hy H
    refine ⟨fun h => (by rw [h] at hr; cases hr), fun j hj => ?_⟩
    by_cases hji : j = i
    · subst hji; exact hy.wpOp hi trivial ⟨fun _ h => h, H⟩
    · have h1 := H.2 j (ready_mono hj hji)
      obtain ⟨hjun, oj, hoj, hall⟩ := mem_ready.1 hj
      have hiun : listed.getD i false = false := by
        have h0 := (mem_ready.1 hr).1
        rcases Nat.lt_or_ge i listed.size with h' | h'
        · simp [h'] at h0 ⊢; exact h0
        · simp [Array.getElem?_eq_none h']
      have hnot : ∀ e ∈ oj.after, Region.binds .any e = true → e.on ≠ i := fun e he hb heq => by
        have h1 := hall e he hb
        rw [heq, hiun] at h1
        cases h1
      have h2 := wpOp_putIf hoj (hfree j oj hoj hji hjun hnot) (fun cs b => hsel i oi cs b hi) (fun cs b => hsel j oj cs b hoj) hQ hy h1
      have hfree' : ∀ k ok, ops[k]? = some ok → k ≠ i → (listed.setIfInBounds j true).getD k true = false →
          (∀ e ∈ ok.after, Region.binds .any e = true → e.on ≠ i) → oi.apart ops ok = true := fun k ok hk hki hun hno => by
        refine hfree k ok hk hki ?_ hno
        by_cases hjk : j = k
        · subst hjk; exact hjun
        · rw [getD_set_ne true hjk] at hun; exact hun
      refine wpOp_mono (fun a' w' h3 => ⟨h3.2.1, ih (listed.setIfInBounds j true) a' w' hfree' (ready_mono hr (Ne.symm hji)) h3.1 ?_⟩) h2
      rw [Array.setIfInBounds_comm _ _ hji]
      exact h3.2.2

theorem anyT_all {Q : Exit → Act → World → Prop} {tl : Nat → Bool} {S : World → Prop} {i : Nat} {fuel : Nat} {listed : Array Bool} {a : Act} {w : World} (hr : Region.ready .any ops listed = [i])
    (h : wpOp P ops Q i (fun a' w' => (tl i = false → S w → S w') ∧ anyT P ops Q tl S fuel (listed.setIfInBounds i true) a' w') a w) : anyT P ops Q tl S (fuel + 1) listed a w :=
  ⟨fun h0 => absurd (hr ▸ h0) (by simp), by
    rw [hr]
    intro j hj
    simp only [List.mem_singleton] at hj
    subst hj
    exact h⟩

/-- the plan: number i, and its kind: 0 it yields in whatever world, 1 in every world of S, 2 it acts -/
def chk (ops : Array Oper) (tl sq : List Nat) : Bool → List (Nat × Nat) → Array Bool → Bool
  | _, [], listed => (Region.ready .any ops listed).isEmpty
  | s, (i, 0) :: r, listed => Region.free .any ops listed i && (Region.ready .any ops listed).contains i && chk ops tl sq s r (listed.setIfInBounds i true)
  | s, (i, 1) :: r, listed => s && memb sq i && Region.free .any ops listed i && (Region.ready .any ops listed).contains i && chk ops tl sq s r (listed.setIfInBounds i true)
  | s, (i, _) :: r, listed => Region.ready .any ops listed == [i] && chk ops tl sq (s && !memb tl i) r (listed.setIfInBounds i true)

/-- an operation that yields v in every world of S, in an environment -/
def Yd (P : Program) (n : Nat) (ops : Array Oper) (S : World → Prop) (o : Oper) (v : Value) (ρ : Env) : Prop :=
  (gst n ops ρ o = some true ∧ ∀ w, S w → (execOp (ev n ρ) o).run P w = .ok (.value v) w) ∨ (gst n ops ρ o = some false ∧ v = undef)

theorem Yd.yieldsIf {S : World → Prop} {o : Oper} {v : Value} {ρ : Env} (h : Yd P n ops S o v ρ) : YieldsIf P ops S o v (actOf n ρ) := by
  rcases h with ⟨hg, hr⟩ | ⟨hg, hv⟩
  · exact .inl ⟨gst_spec hg, fun w hw => by rw [evalF_actOf]; exact hr w hw⟩
  · exact .inr ⟨gst_spec hg, hv⟩

/-- one operation that is not quiet: as in 'L', what follows behind a name -/
def O (P : Program) (n : Nat) (ops : Array Oper) (o : Oper) (Q : Post) (K : Env → World → Prop) (ρ : Env) (w : World) : Prop :=
  L P n ops [o] (thn K Q) ρ w

def R (P : Program) (n : Nat) (ops : Array Oper) (tl : List Nat) (S : World → Prop) (Q : Post) : List (Nat × Nat) → Env → World → Prop
  | [], ρ, w => Q .normal ρ w
  | (i, 0) :: r, ρ, w => ∃ o v, ops[i]? = some o ∧ Yd P n ops (fun _ => True) o v ρ ∧ R P n ops tl S Q r (putE ρ o.dst v) w
  | (i, 1) :: r, ρ, w => ∃ o v, ops[i]? = some o ∧ Yd P n ops S o v ρ ∧ R P n ops tl S Q r (putE ρ o.dst v) w
  | (i, _ + 2) :: r, ρ, w => ∃ o, ops[i]? = some o ∧ O P n ops o Q (fun ρ' w' => (memb tl i = false → S w → S w') ∧ R P n ops tl S Q r ρ' w') ρ w

theorem wpOp_of_O {o : Oper} {Q : Post} {K : Env → World → Prop} {ρ : Env} {w : World} {i : Nat} (hi : ops[i]? = some o) {K' : Act → World → Prop} (hk : ∀ ρ w, K ρ w → K' (actOf n ρ) w)
    (h : O P n ops o Q K ρ w) : wpOp P ops (lift n Q) i K' (actOf n ρ) w := by
  unfold O L wpList at h
  unfold Go.wpOp
  simp only [hi]
  have hl : ∀ a w, wpList P ops (lift n (thn K Q)) [] a w → K' a w := by
    rintro a w ⟨ρ', rfl, h⟩
    exact hk ρ' w h
  split at h
  · rename_i hw
    rw [if_pos hw]
    rcases h with h | ⟨h1, h2⟩
    · refine .inl ?_
      have h3 := Oper.wp_mono hl h
      unfold Oper.wp at h3 ⊢
      generalize (execOp (actOf n ρ).eval o).run P w = r at h3 ⊢
      cases r with
      | ok nx w' =>
        cases nx <;> simp only [Oper.upon] at h3 ⊢ <;> first
          | exact h3
          | exact Calls.mono h3 (fun e w'' he => by cases e <;> exact he)
      | halt x w' => cases x <;> simp only [Oper.upon] at h3 ⊢ <;> exact h3
    · exact .inr ⟨h1, h2⟩
  · rename_i hw
    rw [if_neg hw]
    exact hl _ _ h

theorem R_sound {tl sq : List Nat} (htl : tailB ops tl sq = true) (hs : Region.noSelect ops = true) {S : World → Prop} {Q : Post} (hQ : ∀ c ρ w, ¬ Q (.panic c) ρ w) :
    ∀ (plan : List (Nat × Nat)) (s : Bool) (listed : Array Bool) (ρ : Env) (w : World), chk ops tl sq s plan listed = true → Closed ops listed → (s = true → S w) →
      R P n ops tl S Q plan ρ w → anyT P ops (lift n Q) (memb tl) S plan.length listed (actOf n ρ) w := by
  intro plan
  induction plan with
  | nil =>
    intro s listed ρ w hc _ _ h
    exact ⟨by simpa [chk] using hc, ρ, rfl, h⟩
  | cons x r ih =>
    intro s listed ρ w hc hcl hS h
    obtain ⟨i, q⟩ := x
    match q with
    | 0 =>
      obtain ⟨o, v, ho, hy, hr⟩ := h
      simp only [chk, Bool.and_eq_true] at hc
      obtain ⟨⟨hf, hrd⟩, hc⟩ := hc
      refine anyT_pure ho (Region.noSelect_spec hs) ?_ r.length listed _ w (Region.free_spec ho hf) (by simpa using hrd) hy.yieldsIf ?_
      · rintro c a w ⟨ρ', _, h⟩
        exact (hQ _ _ _ h).elim
      · rw [put_actOf']
        exact ih s _ _ w hc (hcl.set (by simpa using hrd)) hS hr
    | 1 =>
      obtain ⟨o, v, ho, hy, hr⟩ := h
      simp only [chk, Bool.and_eq_true] at hc
      obtain ⟨⟨⟨⟨rfl, hit⟩, hf⟩, hrd⟩, hc⟩ := hc
      refine anyT_first htl ho hit (Region.noSelect_spec hs) ?_ r.length listed _ w (Region.free_spec ho hf) (by simpa using hrd) hcl hy.yieldsIf (hS rfl) ?_
      · rintro c a w ⟨ρ', _, h⟩
        exact (hQ _ _ _ h).elim
      · rw [put_actOf']
        exact ih true _ _ w hc (hcl.set (by simpa using hrd)) hS hr
    | k + 2 =>
      obtain ⟨o, ho, h⟩ := h
      simp only [chk, Bool.and_eq_true, beq_iff_eq] at hc
      refine anyT_all hc.1 (wpOp_of_O ho ?_ h)
      rintro ρ' w' ⟨h1, h2⟩
      refine ⟨h1, ih _ _ ρ' w' hc.2 (hcl.set (by rw [hc.1]; exact List.mem_singleton.2 rfl)) ?_ h2⟩
      intro hs'
      simp only [Bool.and_eq_true, Bool.not_eq_true'] at hs'
      exact h1 hs'.2 (hS hs'.1)

theorem w_draw {id : Nat} {ρ : Env} {w : World} {l : List Oper} {Q : Post} (tl sq : List Nat) (S : World → Prop) (plan : List (Nat × Nat)) (hm : P.follows .mixedOrders = true)
    (hb : (tailB l.toArray tl sq && Region.noSelect l.toArray && Nat.beq plan.length l.length && chk l.toArray tl sq true plan (Array.replicate l.length false)) = true) (hQ : ∀ c ρ w, ¬ Q (.panic c) ρ w)
    (hS : S w.drew) (h : R P n l.toArray tl S Q plan ρ w.drew) : W P n (.region id l.toArray true) Q ρ w := by
  simp only [Bool.and_eq_true] at hb
  obtain ⟨⟨⟨h1, h2⟩, h3⟩, h4⟩ := hb
  have h3 := Nat.eq_of_beq_eq_true h3
  have hcl : Closed l.toArray (Array.replicate l.length false) := by
    intro j oj _ hl
    simp only [Array.getD_eq_getD_getElem?, Array.getElem?_replicate] at hl
    split at hl <;> simp at hl
  have := R_sound h1 h2 hQ plan true _ ρ w.drew h4 hcl (fun _ => hS) h
  rw [h3] at this
  exact wp_region_any hm (any_of_anyT _ _ _ _ (by simpa using this))
end
end Go.EW
