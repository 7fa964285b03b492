/- A layer over the model's own weakest preconditions: environments as functions, memory as a list of owned segments, a law for each operation; it holds of every program, on the conditions that each theorem names. -/
import Derived.Test.YtcmmbjplekgihaaBase16
namespace Go.EW
section
variable {P : Program} {n : Nat} {Q : Post} {ρ : Env} {W w : World} {S : List Seg} {ops : Array Oper} {rest : List Oper} {d : Nat} {ty : TypeId} {ps : String} {af : Array Edge} {gd : Option (Nat × Bool)}
theorem putL_app : ∀ (vs cs sp : List Value) (k : Nat), k + vs.length ≤ cs.length → putL (cs ++ sp) k vs = putL cs k vs ++ sp
  | [], _, _, _, _ => rfl
  | v :: vs, cs, sp, k, h => by
    simp only [List.length_cons] at h
    rw [putL, putL, List.set_append_left _ _ (by omega), putL_app vs _ sp (k + 1) (by rw [List.length_set]; omega)]
theorem St.backAt {s : Seg} {i : Nat} (hi : i < S.length) (H : St W w (s :: S.eraseIdx i)) : St W w (S.set i s) := by
  refine H.perm ?_
  rw [List.eraseIdx_eq_take_drop_succ, List.set_eq_take_append_cons_drop, if_pos hi]
  exact List.perm_middle.symm
/-- a store into a row -/
theorem b_storeRow {T T' : TypeId} {x y : Operand} {b k m sz mm cap : Nat} {a : Option Addr} {xs xs' vs : List Value} {v : Value} (hg : gst n ops ρ ⟨none, .store T x y, ty, ps, af, gd⟩ = some true) (hT : sizeV P T = some m)
    (hx : ev n ρ x = .pointer (some ⟨b, k, none⟩)) (hy : ev n ρ y = v) (hv : v.cells = vs.toArray) (hm : Nat.beq vs.length m = true) (h1 : vs.all Value.oneCell' = true) (H : St W w S) (i : Nat) (hi : S[i]? = some (row T' sz a mm cap xs))
    (ha : a = some ⟨b, 0, none⟩) (hk : k + vs.length ≤ xs.length) (hcs : putL xs k vs = xs') (h : ∀ w', St W w' (S.set i (row T' sz a mm cap xs')) → L P n ops rest Q ρ w') : L P n ops (⟨none, .store T x y, ty, ps, af, gd⟩ :: rest) Q ρ w := by
  subst ha
  subst hcs
  obtain ⟨_, _, hxl, hmc, hcap, spare, hsp, H1⟩ := (H.front i hi).rowOpen
  refine b_store0 hg hT hx hy hv hm h1 H1 0 rfl (by rw [List.length_append]; omega) (fun w' H2 => h w' ?_)
  rw [List.set_cons_zero, putL_app _ _ _ _ hk] at H2
  have hl : (putL xs k vs).length = xs.length := length_putL _ _ _
  exact (St.rowShut (m := mm) (cap := cap) (sz := sz) H2 (by rw [hl]; exact hsp) (by rw [hl]; exact hxl) hmc hcap).backAt (List.getElem?_eq_some_iff.1 hi).1
theorem row_addr {T sz m cap k : Nat} {a : Option Addr} {xs : List Value} {v : Value} {i : Nat} (H : St W w S) (hi : S[i]? = some (row T sz a m cap xs)) (hk : xs[k]? = some v) : ∃ b, a = some ⟨b, 0, none⟩ ∧ w.cell? ⟨b, 0 + k * 1, none⟩ = some v := by
  obtain ⟨b, o, ha, hc⟩ := (H.rowInv hi).2.2.2.2 k v hk
  subst ha
  obtain ⟨rfl, _, _⟩ := (H.front i hi).rowOpen
  exact ⟨b, rfl, by rw [Nat.mul_one]; exact hc⟩
end
end Go.EW
