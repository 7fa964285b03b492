/- A layer over the model's own weakest preconditions: environments as functions, memory as a list of owned segments, a law for each operation; it holds of every program, on the conditions that each theorem names. -/
import Derived.Test.YtcmmbjplekgihaaBase13
namespace Go.EW
def knows (ρ : Env) : List (Nat × Value) → Prop
  | [] => True
  | (t, v) :: r => ρ t = v ∧ knows ρ r
def updL (ρ : Env) : List (Nat × Value) → Env
  | [] => ρ
  | (t, v) :: r => upd (updL ρ r) t v
theorem updL_knows {ρ : Env} : ∀ {l : List (Nat × Value)}, knows ρ l → updL ρ l = ρ
  | [], _ => rfl
  | (t, v) :: r, h => by simp only [updL, updL_knows h.2]; exact upd_self h.1
theorem knows_mix {wr : List Nat} {a ρ : Env} : ∀ {l : List (Nat × Value)}, l.all (fun p => memb wr p.1) = true → knows a l → knows (mix wr a ρ) l
  | [], _, _ => trivial
  | (t, v) :: r, hm, h => by
    simp only [List.all_cons, Bool.and_eq_true] at hm
    exact ⟨by simp only [mix, hm.1, cond_true]; exact h.1, knows_mix hm.2 h.2⟩
theorem w_loopG {P : Program} {n : Nat} {Q : Post} {ρ : Env} {w : World} {c : Code} {G : Type} (wr : List Nat) (K : G → List (Nat × Value)) (I : Nat → G → World → Prop) (hm : ∀ g, (K g).all (fun p => memb wr p.1) = true)
    (h0 : ∃ m g, knows ρ (K g) ∧ I m g w)
    (step : ∀ m g ρ1 w1, I m g w1 → W P n c (thn (fun ρ' w' => Agr wr ρ ρ' ∧ ∃ m' g', m' < m ∧ knows ρ' (K g') ∧ I m' g' w') Q) (updL (mix wr ρ1 ρ) (K g)) w1) : W P n (.loop c) Q ρ w := by
  obtain ⟨m0, g0, hk0, h0⟩ := h0
  refine w_loop wr (fun m ρ w => ∃ g, knows ρ (K g) ∧ I m g w) ⟨m0, g0, hk0, h0⟩ ?_
  rintro m ρ1 w1 ⟨g, hk, hI⟩
  have h := step m g ρ1 w1 hI
  rw [updL_knows (knows_mix (hm g) hk)] at h
  refine W.mono h ?_
  intro e ρ' w' h
  cases e with
  | normal => obtain ⟨ha, m', g', hlt, hk', hI'⟩ := h; exact ⟨ha, m', hlt, g', hk', hI'⟩
  | _ => exact h
theorem Agr.updL' {wr : List Nat} {ρ σ : Env} : ∀ {l : List (Nat × Value)}, l.all (fun p => memb wr p.1) = true → Agr wr ρ σ → Agr wr ρ (EW.updL σ l)
  | [], _, h => h
  | (t, v) :: r, hm, h => by
    simp only [List.all_cons, Bool.and_eq_true] at hm
    exact Agr.upd hm.1 (Agr.updL' hm.2 h)
/-- a shorter row out of a longer one -/
theorem row_shrink {T sz : Nat} {a : Option Addr} {m k cap : Nat} {xs : List Value} (hk : k ≤ m) : ∀ c, row T sz a m cap xs c → row T sz a k cap (xs.take (k * sz)) c := by
  intro c ⟨⟨h1, h2, h3⟩, h4⟩
  have hl : (xs.take (k * sz)).length = k * sz := by rw [List.length_take, h1]; exact Nat.min_eq_left (Nat.mul_le_mul_right sz hk)
  refine ⟨⟨hl, by omega, h3⟩, h4.imp id ?_⟩
  rintro ⟨g, cur, ha, hc, ht, hb⟩
  refine ⟨g, cur, ha, hc, ?_, hb⟩
  rw [hl, ← ht, List.take_take]
  congr 1
  have := Nat.mul_le_mul_right sz hk
  omega
theorem subA_z (a : Option Addr) (sz m : Nat) : subA a sz 0 m = a := by
  unfold subA
  split
  · rfl
  · cases a <;> simp [Addr.add]
/-- all segments but the first k dropped; their readings stay -/
theorem RdIn.sub {W : World} {S S' : List Seg} {a : Option Addr} {xs : List Value} (h : RdIn W S a xs) (T : List Seg) (hp : S'.Perm (T ++ S)) : RdIn W S' a xs := fun w X H =>
  h w (X ++ T) (H.perm (by rw [List.append_assoc]; exact hp.append_left X))
/-- what is owned stands through all of a region that draws, but for its tail -/
theorem w_drawT {P : Program} {n : Nat} {Q : Post} {ρ : Env} {W w : World} {S : List Seg} {id : Nat} {l : List Oper} (tl sq : List Nat) (plan : List (Nat × Nat)) (hm : P.follows .mixedOrders = true)
    (hb : (tailB l.toArray tl sq && Region.noSelect l.toArray && Nat.beq plan.length l.length && chk l.toArray tl sq true plan (Array.replicate l.length false)) = true) (hQ : ∀ c ρ w, ¬ Q (.panic c) ρ w)
    (H : St W w S) (h : St W w.drew S → R P n l.toArray tl (fun w => St W w S) Q plan ρ w.drew) : EW.W P n (.region id l.toArray true) Q ρ w :=
  w_draw tl sq (fun w => St W w S) plan hm hb hQ H.drew (h H.drew)
theorem St.heapMI {W w : World} {S : List Seg} {b : Nat} {es : List MapEntry} {clock : Nat} (H : St W w S) (i : Nat) (hi : S[i]? = some (mapb b es clock)) : w.heap[b]? = some (.map es.toArray clock) := H.heapM hi
theorem Sx.heapMI {W w : World} {S : List Seg} {b : Nat} {es : List MapEntry} {clock : Nat} (H : Sx W S w) (i : Nat) (hi : S[i]? = some (mapb b es clock)) : w.heap[b]? = some (.map es.toArray clock) := H.heapM i hi
end Go.EW
