/- What is handed in reads as its type's shape says, and is no more than its bulk. -/
import Derived.Test.YtcmmbjplekgihaaGlue2
import Derived.JoinedCond
import Derived.Deep.CondSized
namespace Go.EW
open Go.ChangeShapes Go.WideShapes Go.RowKit
/-! what is handed in, and how much it is -/
structure BulkLaw {H : Type} (bk : DataW H → Nat) : Prop where
  one : ∀ d, 1 ≤ bk d
  str : ∀ bytes, bytes.length ≤ bk (.lit (.string bytes))
  slice : ∀ e s, (e.map bk).sum ≤ bk (.slice e s)
  agg : ∀ ps, ∀ p ∈ ps, bk p ≤ bk (.agg ps)
theorem sum_len {H : Type} {bk : DataW H → Nat} (h1 : ∀ (d : DataW H), True → 1 ≤ bk d) : ∀ l : List (DataW H), l.length ≤ (l.map bk).sum
  | [] => Nat.le_refl _
  | d :: l => by
    have := sum_len h1 l
    have := h1 d trivial
    simp only [List.length_cons, List.map_cons, List.sum_cons]; omega
def Sh.okN (W : World) : Sh → Nat → List Value → Prop
  | .int k, _, cs => ∃ x, cs = [.int k x] ∧ (Lit.int k x).wf = true
  | .bool, _, cs => ∃ b, cs = [.bool b]
  | .str, N, cs => ∃ s : ByteArray, cs = [.string s] ∧ s.size ≤ reachBytes ∧ s.size ≤ N
  | .sl e sz by_, N, cs => ∃ (a : Option Addr) (n cap : Nat) (xss : List (List Value)) (Ns : List Nat), cs = [.slice a n cap] ∧ n ≤ cap ∧ cap * by_ ≤ reachBytes ∧ xss.length = n ∧ Rd W a xss.flatten ∧ Ns.length = n ∧ n ≤ N ∧ Ns.sum ≤ N ∧
      ∀ (i : Nat) (xs : List Value) (M : Nat), xss[i]? = some xs → Ns[i]? = some M → xs.length = sz ∧ e.okN W M xs
  | .st m fs, N, cs => cs.length = m ∧ fs.okN W N cs
  | .nil, _, _ => True
  | .cons f off sz r, N, cs => f.okN W N ((cs.drop off).take sz) ∧ r.okN W N cs
  | .arr n e sz, N, cs => cs.length = n * sz ∧ ∀ i, i < n → e.okN W N ((cs.drop (i * sz)).take sz)
section
variable {H : Type} {enc : TypeId × Value → H} {P : Program} {W : World}
def SrcN (bk : DataW H → Nat) (enc : TypeId × Value → H) (P : Program) (W : World) : TypeId ⊕ List Field → Nat → List Value → Prop
  | .inl t, N, cs => ∃ fuel x, DataW.trod enc P W 0 (fun _ => true) true fuel t cs = some x ∧ (∀ n ∈ x.1.weights P t, n ≤ reachBytes) ∧ bk x.1 ≤ N
  | .inr fs, N, cs => ∃ (fuel : Nat) (xs : List (DataW H × List MemPlace)), xs.length = fs.length ∧ (∀ (i : Nat) (f : Field), fs[i]? = some f → DataW.trod enc P W 0 (fun _ => true) true fuel f.type ((cs.drop f.offset).take (P.cellsOf f.type)) = xs[i]?) ∧
      (∀ n ∈ DataW.weightsEach P (fs.map (·.type)) (xs.map (·.1)), n ≤ reachBytes) ∧ ∀ y ∈ xs, bk y.1 ≤ N
theorem sh_okN {bk : DataW H → Nat} (hB : BulkLaw bk) : ∀ (sh : Sh) (r : TypeId ⊕ List Field) (N : Nat) (cs : List Value), shB P sh r = true → SrcN bk enc P W r N cs → sh.okN W N cs
  | .int k, .inl t, N, cs, hb, hs => by
    obtain ⟨fuel, x, hx, _, hbk⟩ := hs
    simp only [shB] at hb
    split at hb
    · rename_i k' hu
      obtain rfl : k' = k := by simpa using hb
      obtain ⟨n, rfl, _, hw⟩ := DataW.trod_int hu hx
      exact ⟨n, rfl, hw⟩
    · cases hb
  | .bool, .inl t, N, cs, hb, hs => by
    obtain ⟨fuel, x, hx, _, hbk⟩ := hs
    simp only [shB] at hb
    split at hb
    · rename_i hu
      obtain ⟨b, rfl, _⟩ := DataW.trod_bool hu hx
      exact ⟨b, rfl⟩
    · cases hb
  | .str, .inl t, N, cs, hb, hs => by
    obtain ⟨fuel, x, hx, hw, hbk⟩ := hs
    simp only [shB] at hb
    split at hb
    · rename_i hu
      obtain ⟨s, rfl, rfl, _⟩ := DataW.trod_string hu hx
      refine ⟨s, rfl, ?_, ?_⟩
      · have := hw s.data.toList.length (by simp [DataW.weights])
        simpa using this
      · have := hB.str s.data.toList
        simp only [Array.length_toList] at this
        exact Nat.le_trans this hbk
    · cases hb
  | .sl e sz by_, .inl t, N, cs, hb, hs => by
    obtain ⟨fuel, x, hx, hw, hbk⟩ := hs
    simp only [shB] at hb
    split at hb
    · rename_i u hu
      simp only [Bool.and_eq_true] at hb
      obtain ⟨⟨h1, h2⟩, h3⟩ := hb
      have h1 := Nat.eq_of_beq_eq_true h1
      have h2 := Nat.eq_of_beq_eq_true h2
      subst h1; subst h2
      rcases DataW.trod_slice hu hx with ⟨rfl, _⟩ | ⟨a, len, cap, elems, rest, n, _, rfl, rfl, _, hl, hc, hc0, hget, hsp, _⟩
      · exact ⟨none, 0, 0, [], [], rfl, Nat.le_refl _, by simp, rfl, fun j v h => by simp at h, rfl, Nat.zero_le _, Nat.zero_le _, fun i xs M h => by simp at h⟩
      · have hrl := (hsp rfl).1
        obtain ⟨xss, hxl, hxs⟩ := list_choose (n := len) (p := fun i cs' => W.cells? 0 (a.add (i * P.cellsOf u)) (P.cellsOf u) = some cs' ∧ ∃ y, DataW.trod enc P W 0 (fun _ => true) true n u cs' = some y ∧ elems[i]? = some y) (fun i hi => by
          have hg := hget i hi
          rw [List.getElem?_eq_getElem (by omega)] at hg
          simp only [Option.bind_eq_some_iff] at hg
          obtain ⟨cs', h4, h5⟩ := hg
          exact ⟨cs', h4, _, h5, List.getElem?_eq_getElem (by omega)⟩)
        have hget : ∀ (i : Nat) (xs : List Value), xss[i]? = some xs → xs.length = P.cellsOf u ∧ ∀ (k : Nat) (v : Value), xs[k]? = some v → W.cell? ((a.add (i * P.cellsOf u)).add k) = some v := by
          intro i xs hi
          obtain ⟨h4, _⟩ := hxs i xs hi
          unfold World.cells? at h4
          rw [if_pos (Nat.zero_le _)] at h4
          have hlen := mapM_some_length h4
          rw [List.length_range] at hlen
          refine ⟨hlen, fun k v hk => ?_⟩
          have hkl := (List.getElem?_eq_some_iff.1 hk).1
          have hg := mapM_some_get h4 k k (by rw [List.getElem?_range]; omega)
          rw [hk] at hg
          exact hg
        have hcells : ∀ (i : Nat) (xs : List Value), xss[i]? = some xs → xs.length = P.cellsOf u ∧ ∀ (k : Nat) (v : Value), xs[k]? = some v → ∃ b o, some a = some ⟨b, o, none⟩ ∧ W.cell? ⟨b, o + (0 + i * P.cellsOf u + k), none⟩ = some v := by
          intro i xs hi
          obtain ⟨h5, h6⟩ := hget i xs hi
          refine ⟨h5, fun k v hk => ?_⟩
          have hkl := (List.getElem?_eq_some_iff.1 hk).1
          have hil := (List.getElem?_eq_some_iff.1 hi).1
          obtain ⟨x0, hx0⟩ : ∃ x0, xss[0]? = some x0 := ⟨_, List.getElem?_eq_getElem (by omega)⟩
          obtain ⟨h7, h8⟩ := hget 0 x0 hx0
          obtain ⟨v0, hv0⟩ : ∃ v0, x0[0]? = some v0 := ⟨_, List.getElem?_eq_getElem (by omega)⟩
          have hsp2 := World.cell?_spot (h8 0 v0 hv0)
          obtain ⟨b, o, s⟩ := a
          have : s = none := by simpa [Addr.add] using hsp2
          subst this
          refine ⟨b, o, rfl, ?_⟩
          have hg := h6 k v hk
          rw [add_mk, add_mk] at hg
          rw [← hg]; congr 2; omega
        have hsl := hB.slice (elems.map (·.1)) (rest.map (·.1))
        have hlen := sum_len (fun d _ => hB.one d) (elems.map (·.1))
        rw [List.length_map] at hlen
        have hbk2 : bk (.slice (elems.map (·.1)) (rest.map (·.1))) ≤ N := hbk
        refine ⟨some a, len, cap, xss, (elems.map (·.1)).map bk, rfl, hl, ?_, hxl, fun j v hj => ?_, by simp [hc0], by omega, by omega, ?_⟩
        · have := hw ((elems.length + rest.length) * P.bytesOf u) (by simp [DataW.weights, hu])
          rwa [show elems.length + rest.length = cap by omega] at this
        · have := rd_flatten (a := some a) 0 hcells j v hj
          simpa using this
        · intro i xs M hi hM
          refine ⟨(hcells i xs hi).1, sh_okN hB e (.inl u) M xs h3 ?_⟩
          obtain ⟨_, y, h5, h6⟩ := hxs i xs hi
          have hyM : bk y.1 = M := by simpa [h6] using hM
          refine ⟨n, y, h5, fun m hmm => hw m ?_, Nat.le_of_eq hyM⟩
          simp only [DataW.weights, hu, List.mem_cons, List.mem_append]
          exact .inr (.inl (weights_all (List.mem_map.2 ⟨y, List.mem_of_getElem? h6, rfl⟩) hmm))
    · cases hb
  | .st m fs, .inl t, N, cs, hb, hs => by
    obtain ⟨fuel, x, hx, hw, hbk⟩ := hs
    simp only [shB] at hb
    split at hb
    · rename_i f hu
      simp only [Bool.and_eq_true] at hb
      obtain ⟨h1, h3⟩ := hb
      have h1 := Nat.eq_of_beq_eq_true h1
      obtain ⟨xs, n, _, rfl, hl, hxl, hf⟩ := DataW.trod_struct hu hx
      refine ⟨by omega, sh_okN hB fs (.inr f.toList) N cs h3 ⟨n, xs, by simpa using hxl, fun i g hg => hf i g (by simpa using hg), fun m hm => hw m ?_, fun y hy => Nat.le_trans (hB.agg _ _ (List.mem_map.2 ⟨y, hy, rfl⟩)) hbk⟩⟩
      simp only [DataW.weights, hu]
      exact hm
    · cases hb
  | .arr k e sz, .inl t, N, cs, hb, hs => by
    obtain ⟨fuel, x, hx, hw, hbk⟩ := hs
    simp only [shB] at hb
    split at hb
    · rename_i n' u hu
      simp only [Bool.and_eq_true] at hb
      obtain ⟨⟨⟨h0, h1⟩, h2⟩, h3⟩ := hb
      have h0 := Nat.eq_of_beq_eq_true h0
      have h1 := Nat.eq_of_beq_eq_true h1
      have h2 := Nat.eq_of_beq_eq_true h2
      subst h0; subst h1
      cases fuel with
      | zero => simp [DataW.trod] at hx
      | succ n =>
        rw [DataW.trod_step] at hx
        simp only [DataW.trodStep, hu] at hx
        split at hx
        · rename_i hcl
          simp only [Option.map_eq_some_iff] at hx
          obtain ⟨xs, hm, rfl⟩ := hx
          refine ⟨by omega, fun i hi => sh_okN hB e (.inl u) N _ h3 ?_⟩
          have hxl := mapM_some_length hm
          have hg := mapM_some_get hm i i (by simp [hi])
          rw [List.getElem?_eq_getElem (by simp at hxl; omega)] at hg
          refine ⟨n, _, hg, fun m hmm => hw m ?_, Nat.le_trans (hB.agg _ _ (List.mem_map.2 ⟨_, List.getElem_mem (by simp at hxl; omega), rfl⟩)) hbk⟩
          simp only [DataW.weights, hu]
          exact weights_all (List.mem_map.2 ⟨_, List.getElem_mem (by simp at hxl; omega), rfl⟩) hmm
        · cases hx
    · cases hb
  | .nil, .inr _, _, _, _, _ => trivial
  | .cons f off sz r, .inr (x :: xs), N, cs, hb, hs => by
    obtain ⟨fuel, ys, hl, hf, hw, hbk⟩ := hs
    simp only [shB, Bool.and_eq_true] at hb
    obtain ⟨⟨⟨h0, h1⟩, h2⟩, h3⟩ := hb
    have h0 := Nat.eq_of_beq_eq_true h0
    have h1 := Nat.eq_of_beq_eq_true h1
    subst h0; subst h1
    match ys, hl with
    | y :: ys, hl =>
      refine ⟨sh_okN hB f (.inl x.type) N _ h2 ⟨fuel, y, hf 0 x rfl, fun n hn => hw n ?_, hbk y List.mem_cons_self⟩, sh_okN hB r (.inr xs) N cs h3 ⟨fuel, ys, by simpa using hl, fun i g hg => by simpa using hf (i + 1) g (by simpa using hg), fun n hn => hw n ?_, fun z hz => hbk z (List.mem_cons_of_mem _ hz)⟩⟩
      · simp only [List.map_cons, DataW.weightsEach, List.mem_append]; exact .inl hn
      · simp only [List.map_cons, DataW.weightsEach, List.mem_append]; exact .inr hn
  | .int _, .inr _, _, _, hb, _ => by simp [shB] at hb
  | .bool, .inr _, _, _, hb, _ => by simp [shB] at hb
  | .str, .inr _, _, _, hb, _ => by simp [shB] at hb
  | .sl _ _ _, .inr _, _, _, hb, _ => by simp [shB] at hb
  | .st _ _, .inr _, _, _, hb, _ => by simp [shB] at hb
  | .arr _ _ _, .inr _, _, _, hb, _ => by simp [shB] at hb
  | .nil, .inl _, _, _, hb, _ => by simp [shB] at hb
  | .cons _ _ _ _, .inl _, _, _, hb, _ => by simp [shB] at hb
  | .cons _ _ _ _, .inr [], _, _, hb, _ => by simp [shB] at hb
def argsN (W : World) : Nat → List Sh → List Value → Prop
  | _, [], [] => True
  | N, sh :: r, v :: vs => (sh.okN W N v.cells.toList ∧ sh.val v) ∧ argsN W N r vs
  | _, _, _ => False
theorem argsN_cons {W : World} {N : Nat} {sh : Sh} {r : List Sh} {vs : List Value} (h : argsN W N (sh :: r) vs) : ∃ v vs', vs = v :: vs' ∧ sh.okN W N v.cells.toList ∧ sh.val v ∧ argsN W N r vs' := by
  cases vs with
  | nil => exact h.elim
  | cons v vs => exact ⟨v, vs, rfl, h.1.1, h.1.2, h.2⟩
theorem argsN_nil {W : World} {N : Nat} {vs : List Value} (h : argsN W N [] vs) : vs = [] := by
  cases vs with
  | nil => rfl
  | cons v vs => exact h.elim
theorem args_okN {bk : DataW H → Nat} (hB : BulkLaw bk) {base N : Nat} : ∀ {shs : List Sh} {ts : List TypeId} {vs : List Value} {ds : List (DataW H)} {ps : List MemPlace}, shsB P shs ts = true →
    DataW.TrodAll enc P W 0 (fun _ => true) true ts vs ds ps → (∀ (j : Nat) t v, ts[j]? = some t → vs[j]? = some v → Value.okWide P W .any base t v) → (∀ n ∈ DataW.weightsEach P ts ds, n ≤ reachBytes) → (∀ d ∈ ds, bk d ≤ N) → argsN W N shs vs
  | [], [], vs, ds, ps, _, h, _, _, _ => by
    obtain ⟨rfl, _, _⟩ := trodAll_nil h
    exact trivial
  | sh :: r, t :: ts, vs, ds, ps, hb, h, hv, hw, hbk => by
    simp only [shsB, Bool.and_eq_true] at hb
    obtain ⟨v, vs1, d, ds1, p, q, rfl, rfl, rfl, h1, h2⟩ := trodAll_cons h
    refine ⟨⟨?_, sh_val hb.1 (hv 0 t v rfl rfl)⟩, args_okN hB hb.2 h2 (fun j t v ht hj => hv (j + 1) t v (by simpa using ht) (by simpa using hj)) (fun n hn => hw n (by simp only [DataW.weightsEach, List.mem_append]; exact .inr hn)) (fun d hd => hbk d (List.mem_cons_of_mem _ hd))⟩
    obtain ⟨fuel, hf⟩ := h1
    exact sh_okN hB sh (.inl t) N _ hb.1 ⟨fuel, _, hf, fun n hn => hw n (by simp only [DataW.weightsEach, List.mem_append]; exact .inl hn), hbk d List.mem_cons_self⟩
  | [], _ :: _, _, _, _, hb, _, _, _, _ => by simp [shsB] at hb
  | _ :: _, [], _, _, _, hb, _, _, _, _ => by simp [shsB] at hb
end
end Go.EW
