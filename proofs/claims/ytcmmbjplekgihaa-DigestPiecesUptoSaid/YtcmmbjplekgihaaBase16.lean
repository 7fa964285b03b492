/- A layer over the model's own weakest preconditions: environments as functions, memory as a list of owned segments, a law for each operation; it holds of every program, on the conditions that each theorem names. -/
import Derived.Test.YtcmmbjplekgihaaBase15
namespace Go.EW
/-! a region that draws its order, where several operations that act may come next: a plan that forks -/
inductive Pt where
  | leaf (l : List (Nat × Nat))
  | alt (l : List (Nat × Nat)) (p q : Pt)
inductive Pn where
  | nil
  | qu (i k : Nat) (r : Pn)
  | act (i : Nat) (r : Pn)
  | alt (p r : Pn)
def Pn.of : List (Nat × Nat) → Pn → Pn
  | [], p => p
  | (i, 0) :: l, p => .qu i 0 (Pn.of l p)
  | (i, 1) :: l, p => .qu i 1 (Pn.of l p)
  | (i, _ + 2) :: l, p => .act i (Pn.of l p)
def Pt.pn : Pt → Pn
  | .leaf l => Pn.of l .nil
  | .alt l p q => Pn.of l (.alt p.pn q.pn)
def Pn.len : Pn → Nat
  | .nil => 0
  | .qu _ _ r => r.len + 1
  | .act _ r => r.len + 1
  | .alt p _ => p.len
def Pn.heads : Pn → List Nat
  | .act i _ => [i]
  | .alt p r => p.heads ++ r.heads
  | _ => []
section
variable {P : Program} {ops : Array Oper} {n : Nat}
def chkP (ops : Array Oper) (tl sq : List Nat) : Bool → Bool → Pn → Array Bool → Bool
  | t, _, .nil, listed => t && (Region.ready .any ops listed).isEmpty
  | t, s, .qu i 0 r, listed => t && Region.free .any ops listed i && (Region.ready .any ops listed).contains i && chkP ops tl sq true s r (listed.setIfInBounds i true)
  | t, s, .qu i (_ + 1) r, listed => t && s && memb sq i && Region.free .any ops listed i && (Region.ready .any ops listed).contains i && chkP ops tl sq true s r (listed.setIfInBounds i true)
  | t, s, .act i r, listed => (!t || (Region.ready .any ops listed).all (fun j => Nat.beq j i)) && (Region.ready .any ops listed).contains i && chkP ops tl sq true (s && !memb tl i) r (listed.setIfInBounds i true)
  | t, s, .alt p q, listed => (!t || (Region.ready .any ops listed).all (fun j => memb (p.heads ++ q.heads) j)) && !(Region.ready .any ops listed).isEmpty && Nat.beq p.len q.len && Nat.blt 0 p.len && chkP ops tl sq false s p listed && chkP ops tl sq false s q listed
def RP (P : Program) (n : Nat) (ops : Array Oper) (tl : List Nat) (S : World → Prop) (Q : Post) : Pt → Env → World → Prop
  | .leaf l, ρ, w => R P n ops tl S Q l ρ w
  | .alt l p q, ρ, w => R P n ops tl S (thn (fun ρ' w' => RP P n ops tl S Q p ρ' w' ∧ RP P n ops tl S Q q ρ' w') Q) l ρ w
def RN (P : Program) (n : Nat) (ops : Array Oper) (tl : List Nat) (S : World → Prop) (Q : Post) : Pn → Env → World → Prop
  | .nil, ρ, w => Q .normal ρ w
  | .qu i 0 r, ρ, w => ∃ o v, ops[i]? = some o ∧ Yd P n ops (fun _ => True) o v ρ ∧ RN P n ops tl S Q r (putE ρ o.dst v) w
  | .qu i (_ + 1) r, ρ, w => ∃ o v, ops[i]? = some o ∧ Yd P n ops S o v ρ ∧ RN P n ops tl S Q r (putE ρ o.dst v) w
  | .act i r, ρ, w => ∃ o, ops[i]? = some o ∧ O P n ops o Q (fun ρ' w' => (memb tl i = false → S w → S w') ∧ RN P n ops tl S Q r ρ' w') ρ w
  | .alt p q, ρ, w => RN P n ops tl S Q p ρ w ∧ RN P n ops tl S Q q ρ w
theorem thn_thn {K K' : Env → World → Prop} {Q : Post} : thn K (thn K' Q) = thn K Q := by
  funext e ρ w
  cases e <;> rfl
theorem O_mono {o : Oper} {Q : Post} {K K' : Env → World → Prop} {ρ : Env} {w : World} (hk : ∀ ρ w, K ρ w → K' ρ w) (h : O P n ops o Q K ρ w) : O P n ops o Q K' ρ w := by
  unfold O L wpList at h ⊢
  have hl : ∀ a w, wpList P ops (lift n (thn K Q)) [] a w → wpList P ops (lift n (thn K' Q)) [] a w := by
    rintro a w ⟨ρ', rfl, h⟩
    exact ⟨ρ', rfl, hk _ _ h⟩
  split at h
  · rename_i hw
    rw [if_pos hw]
    rcases h with h | ⟨h1, h2⟩
    · refine .inl ?_
      have h3 := Oper.wp_mono hl h
      unfold Oper.wp at h3 ⊢
      generalize (execOp (actOf n ρ).eval o).run P w = r at h3 ⊢
      cases r with
      | ok nx w' =>
        cases nx <;> simp only [Oper.upon] at h3 ⊢ <;> first
          | exact h3
          | exact Calls.mono h3 (fun e w'' he => by cases e <;> exact he)
      | halt x w' => cases x <;> simp only [Oper.upon] at h3 ⊢ <;> exact h3
    · exact .inr ⟨h1, h2⟩
  · rename_i hw
    rw [if_neg hw]
    exact hl _ _ h
theorem O_thn {o : Oper} {Q : Post} {K K' : Env → World → Prop} {ρ : Env} {w : World} : O P n ops o (thn K' Q) K ρ w = O P n ops o Q K ρ w := by
  unfold O; rw [thn_thn]
theorem R_mono {tl : List Nat} {S : World → Prop} {Q : Post} {K K' : Env → World → Prop} (hk : ∀ ρ w, K ρ w → K' ρ w) : ∀ (l : List (Nat × Nat)) (ρ : Env) (w : World), R P n ops tl S (thn K Q) l ρ w → R P n ops tl S (thn K' Q) l ρ w
  | [], ρ, w, h => hk _ _ h
  | (i, 0) :: l, ρ, w, h => by
    obtain ⟨o, v, ho, hy, hr⟩ := h
    exact ⟨o, v, ho, hy, R_mono hk l _ _ hr⟩
  | (i, 1) :: l, ρ, w, h => by
    obtain ⟨o, v, ho, hy, hr⟩ := h
    exact ⟨o, v, ho, hy, R_mono hk l _ _ hr⟩
  | (i, k + 2) :: l, ρ, w, h => by
    obtain ⟨o, ho, hr⟩ := h
    refine ⟨o, ho, ?_⟩
    rw [O_thn] at hr ⊢
    exact O_mono (fun ρ' w' h' => ⟨h'.1, R_mono hk l _ _ h'.2⟩) hr
theorem RN_of {tl : List Nat} {S : World → Prop} {Q : Post} {p : Pn} : ∀ (l : List (Nat × Nat)) (ρ : Env) (w : World), R P n ops tl S (thn (fun ρ' w' => RN P n ops tl S Q p ρ' w') Q) l ρ w → RN P n ops tl S Q (Pn.of l p) ρ w
  | [], ρ, w, h => h
  | (i, 0) :: l, ρ, w, h => by
    obtain ⟨o, v, ho, hy, hr⟩ := h
    exact ⟨o, v, ho, hy, RN_of l _ _ hr⟩
  | (i, 1) :: l, ρ, w, h => by
    obtain ⟨o, v, ho, hy, hr⟩ := h
    exact ⟨o, v, ho, hy, RN_of l _ _ hr⟩
  | (i, k + 2) :: l, ρ, w, h => by
    obtain ⟨o, ho, hr⟩ := h
    refine ⟨o, ho, ?_⟩
    rw [O_thn] at hr
    exact O_mono (fun ρ' w' h' => ⟨h'.1, RN_of l _ _ h'.2⟩) hr
theorem RP_pn {tl : List Nat} {S : World → Prop} {Q : Post} : ∀ (p : Pt) (ρ : Env) (w : World), RP P n ops tl S Q p ρ w → RN P n ops tl S Q p.pn ρ w
  | .leaf l, ρ, w, h => RN_of l ρ w (by
      have : (thn (fun ρ' w' => RN P n ops tl S Q .nil ρ' w') Q) = Q := by
        funext e ρ w
        cases e <;> rfl
      rw [this]; exact h)
  | .alt l p q, ρ, w, h => RN_of l ρ w (R_mono (fun ρ' w' he => ⟨RP_pn p _ _ he.1, RP_pn q _ _ he.2⟩) l ρ w h)
theorem memb_append {i : Nat} : ∀ {l m : List Nat}, memb (l ++ m) i = true → memb l i = true ∨ memb m i = true
  | [], m, h => .inr h
  | a :: l, m, h => by
    cases hb : Nat.beq i a with
    | true => exact .inl (by simp [memb, hb])
    | false =>
      simp only [List.cons_append, memb, hb] at h ⊢
      exact memb_append h
theorem RN_sound {tl sq : List Nat} (htl : tailB ops tl sq = true) (hs : Region.noSelect ops = true) {S : World → Prop} {Q : Post} (hQ : ∀ c ρ w, ¬ Q (.panic c) ρ w) :
    ∀ (p : Pn) (t s : Bool) (listed : Array Bool) (ρ : Env) (w : World), chkP ops tl sq t s p listed = true → Closed ops listed → (s = true → S w) → RN P n ops tl S Q p ρ w →
      (t = true → anyT P ops (lift n Q) (memb tl) S p.len listed (actOf n ρ) w) ∧
      ∀ j, memb p.heads j = true → wpOp P ops (lift n Q) j (fun a' w' => (memb tl j = false → S w → S w') ∧ anyT P ops (lift n Q) (memb tl) S (p.len - 1) (listed.setIfInBounds j true) a' w') (actOf n ρ) w := by
  intro p
  induction p with
  | nil =>
    intro t s listed ρ w hc _ _ h
    simp only [chkP, Bool.and_eq_true] at hc
    exact ⟨fun _ => ⟨by simpa using hc.2, ρ, rfl, h⟩, fun j hj => by simp [Pn.heads, memb] at hj⟩
  | qu i k r ih =>
    intro t s listed ρ w hc hcl hS h
    refine ⟨fun _ => ?_, fun j hj => by simp [Pn.heads, memb] at hj⟩
    match k with
    | 0 =>
      obtain ⟨o, v, ho, hy, hr⟩ := h
      simp only [chkP, Bool.and_eq_true] at hc
      obtain ⟨⟨⟨_, hf⟩, hrd⟩, hc⟩ := hc
      refine anyT_pure ho (Region.noSelect_spec hs) ?_ r.len listed _ w (Region.free_spec ho hf) (by simpa using hrd) hy.yieldsIf ?_
      · rintro c a w ⟨ρ', _, h⟩
        exact (hQ _ _ _ h).elim
      · rw [put_actOf']
        exact (ih true s _ _ w hc (hcl.set (by simpa using hrd)) hS hr).1 rfl
    | k + 1 =>
      obtain ⟨o, v, ho, hy, hr⟩ := h
      simp only [chkP, Bool.and_eq_true] at hc
      obtain ⟨⟨⟨⟨⟨_, rfl⟩, hit⟩, hf⟩, hrd⟩, hc⟩ := hc
      refine anyT_first htl ho hit (Region.noSelect_spec hs) ?_ r.len listed _ w (Region.free_spec ho hf) (by simpa using hrd) hcl hy.yieldsIf (hS rfl) ?_
      · rintro c a w ⟨ρ', _, h⟩
        exact (hQ _ _ _ h).elim
      · rw [put_actOf']
        exact (ih true true _ _ w hc (hcl.set (by simpa using hrd)) hS hr).1 rfl
  | act i r ih =>
    intro t s listed ρ w hc hcl hS h
    obtain ⟨o, ho, h⟩ := h
    simp only [chkP, Bool.and_eq_true] at hc
    obtain ⟨⟨h1, h2⟩, h3⟩ := hc
    have hi : i ∈ Region.ready .any ops listed := by simpa using h2
    have key : wpOp P ops (lift n Q) i (fun a' w' => (memb tl i = false → S w → S w') ∧ anyT P ops (lift n Q) (memb tl) S r.len (listed.setIfInBounds i true) a' w') (actOf n ρ) w := by
      refine wpOp_of_O ho ?_ h
      rintro ρ' w' ⟨h4, h5⟩
      refine ⟨h4, (ih true _ _ ρ' w' h3 (hcl.set hi) ?_ h5).1 rfl⟩
      intro hs'
      simp only [Bool.and_eq_true, Bool.not_eq_true'] at hs'
      exact h4 hs'.2 (hS hs'.1)
    refine ⟨fun ht => ?_, fun j hj => ?_⟩
    · subst ht
      simp only [Bool.not_true, Bool.false_or, List.all_eq_true] at h1
      refine ⟨fun h0 => absurd hi (by rw [h0]; simp), fun j hj => ?_⟩
      obtain rfl : j = i := Nat.eq_of_beq_eq_true (h1 j hj)
      exact key
    · obtain rfl : j = i := by
        cases hb : Nat.beq j i with
        | true => exact Nat.eq_of_beq_eq_true hb
        | false => simp [Pn.heads, memb, hb] at hj
      exact key
  | alt p q ihp ihq =>
    intro t s listed ρ w hc hcl hS h
    simp only [chkP, Bool.and_eq_true] at hc
    obtain ⟨⟨⟨⟨⟨h1, h2⟩, h3⟩, h4⟩, h5⟩, h6⟩ := hc
    have hl := Nat.eq_of_beq_eq_true h3
    have kp := (ihp false s listed ρ w h5 hcl hS h.1).2
    have kq := (ihq false s listed ρ w h6 hcl hS h.2).2
    have key : ∀ j, memb (p.heads ++ q.heads) j = true → wpOp P ops (lift n Q) j (fun a' w' => (memb tl j = false → S w → S w') ∧ anyT P ops (lift n Q) (memb tl) S (p.len - 1) (listed.setIfInBounds j true) a' w') (actOf n ρ) w := by
      intro j hj
      rcases memb_append hj with hj | hj
      · exact kp j hj
      · rw [hl]; exact kq j hj
    refine ⟨fun ht => ?_, fun j hj => key j hj⟩
    subst ht
    simp only [Bool.not_true, Bool.false_or, List.all_eq_true] at h1
    have h4 : 0 < p.len := by simpa [Nat.blt_eq] using h4
    obtain ⟨m, hm⟩ : ∃ m, p.len = m + 1 := ⟨p.len - 1, by omega⟩
    show anyT P ops (lift n Q) (memb tl) S p.len listed (actOf n ρ) w
    rw [hm] at key ⊢
    refine ⟨fun h0 => absurd h2 (by rw [h0]; simp), fun j hj => key j (h1 j hj)⟩
theorem w_drawP {id : Nat} {ρ : Env} {W w : World} {S : List Seg} {l : List Oper} {Q : Post} (tl sq : List Nat) (p : Pt) (hm : P.follows .mixedOrders = true)
    (hb : (tailB l.toArray tl sq && Region.noSelect l.toArray && Nat.beq p.pn.len l.length && chkP l.toArray tl sq true true p.pn (Array.replicate l.length false)) = true) (hQ : ∀ c ρ w, ¬ Q (.panic c) ρ w)
    (H : St W w S) (h : St W w.drew S → RP P n l.toArray tl (fun w => St W w S) Q p ρ w.drew) : EW.W P n (.region id l.toArray true) Q ρ w := by
  simp only [Bool.and_eq_true] at hb
  obtain ⟨⟨⟨h1, h2⟩, h3⟩, h4⟩ := hb
  have h3 := Nat.eq_of_beq_eq_true h3
  have hcl : Closed l.toArray (Array.replicate l.length false) := by
    intro j oj _ hl
    simp only [Array.getD_eq_getD_getElem?, Array.getElem?_replicate] at hl
    split at hl <;> simp at hl
  have := (RN_sound h1 h2 hQ p.pn true true _ ρ w.drew h4 hcl (fun _ => H.drew) (RP_pn p ρ _ (h H.drew))).1 rfl
  rw [h3] at this
  exact wp_region_any hm (any_of_anyT _ _ _ _ (by simpa using this))
theorem rp_leaf {tl : List Nat} {S : World → Prop} {Q : Post} {l : List (Nat × Nat)} {ρ : Env} {w : World} (h : R P n ops tl S Q l ρ w) : RP P n ops tl S Q (.leaf l) ρ w := h
theorem rp_alt {tl : List Nat} {S : World → Prop} {Q : Post} {l : List (Nat × Nat)} {p q : Pt} {ρ : Env} {w : World} (h : R P n ops tl S (thn (fun ρ' w' => RP P n ops tl S Q p ρ' w' ∧ RP P n ops tl S Q q ρ' w') Q) l ρ w) : RP P n ops tl S Q (.alt l p q) ρ w := h
theorem rp_two {tl : List Nat} {S : World → Prop} {Q : Post} {p q : Pt} {ρ : Env} {w : World} (hp : RP P n ops tl S Q p ρ w) (hq : RP P n ops tl S Q q ρ w) : R P n ops tl S (thn (fun ρ' w' => RP P n ops tl S Q p ρ' w' ∧ RP P n ops tl S Q q ρ' w') Q) [] ρ w := ⟨hp, hq⟩
end
end Go.EW
