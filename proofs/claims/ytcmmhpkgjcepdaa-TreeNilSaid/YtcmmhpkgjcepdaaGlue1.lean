/- What is handed in reads as its type's shape says; it holds of every program whose table of types has that shape. -/
import Derived.Test.YtcmmhpkgjcepdaaBaseAll
import Derived.ChangeArms
import Derived.SizedLaws
import Derived.ProofKit
import Derived.Carry
namespace Go.EW
/-- the shapes of what is handed in -/
inductive Sh where
  | int (k : IntKind)
  | bool
  | str
  | sl (e : Sh) (sz by_ : Nat)
  | st (m : Nat) (fs : Sh)
  | nil
  | cons (f : Sh) (off sz : Nat) (r : Sh)
  | arr (n : Nat) (e : Sh) (sz : Nat)
def shB (P : Program) : Sh → TypeId ⊕ List Field → Bool
  | .int k, .inl t => match P.underlying t with | some (.int k') => decide (k' = k) | _ => false
  | .bool, .inl t => match P.underlying t with | some .bool => true | _ => false
  | .str, .inl t => match P.underlying t with | some .string => true | _ => false
  | .sl e sz by_, .inl t => match P.underlying t with | some (.slice u) => Nat.beq (P.cellsOf u) sz && Nat.beq (P.bytesOf u) by_ && shB P e (.inl u) | _ => false
  | .st m fs, .inl t => match P.underlying t with | some (.struct f) => Nat.beq (P.cellsOf t) m && shB P fs (.inr f.toList) | _ => false
  | .arr n e sz, .inl t => match P.underlying t with | some (.array n' u) => Nat.beq n' n && Nat.beq (P.cellsOf u) sz && Nat.beq (P.cellsOf t) (n * sz) && shB P e (.inl u) | _ => false
  | .nil, .inr [] => true
  | .cons f off sz r, .inr (x :: xs) => Nat.beq x.offset off && Nat.beq (P.cellsOf x.type) sz && shB P f (.inl x.type) && shB P r (.inr xs)
  | _, _ => false
def Sh.ok (W : World) : Sh → List Value → Prop
  | .int k, cs => ∃ x, cs = [.int k x] ∧ (Lit.int k x).wf = true
  | .bool, cs => ∃ b, cs = [.bool b]
  | .str, cs => ∃ s : ByteArray, cs = [.string s] ∧ s.size ≤ reachBytes
  | .sl e sz by_, cs => ∃ (a : Option Addr) (n cap : Nat) (xss : List (List Value)), cs = [.slice a n cap] ∧ n ≤ cap ∧ cap * by_ ≤ reachBytes ∧ xss.length = n ∧ Rd W a xss.flatten ∧ ∀ xs ∈ xss, xs.length = sz ∧ e.ok W xs
  | .st m fs, cs => cs.length = m ∧ fs.ok W cs
  | .nil, _ => True
  | .cons f off sz r, cs => f.ok W ((cs.drop off).take sz) ∧ r.ok W cs
  | .arr n e sz, cs => cs.length = n * sz ∧ ∀ i, i < n → e.ok W ((cs.drop (i * sz)).take sz)
theorem rd_flatten {w : World} {a : Option Addr} {sz : Nat} : ∀ {xss : List (List Value)} (off : Nat),
    (∀ (i : Nat) (xs : List Value), xss[i]? = some xs → xs.length = sz ∧ ∀ (k : Nat) (v : Value), xs[k]? = some v → ∃ b o, a = some ⟨b, o, none⟩ ∧ w.cell? ⟨b, o + (off + i * sz + k), none⟩ = some v) →
    ∀ (j : Nat) (v : Value), xss.flatten[j]? = some v → ∃ b o, a = some ⟨b, o, none⟩ ∧ w.cell? ⟨b, o + (off + j), none⟩ = some v
  | [], off, _, j, v, hj => by simp at hj
  | xs :: xss, off, h, j, v, hj => by
    obtain ⟨hl, hx⟩ := h 0 xs rfl
    rw [List.flatten_cons] at hj
    by_cases hlt : j < sz
    · rw [List.getElem?_append_left (by omega)] at hj
      obtain ⟨b, o, ha, hc⟩ := hx j v hj
      exact ⟨b, o, ha, by rw [Nat.zero_mul, Nat.add_zero] at hc; exact hc⟩
    · rw [List.getElem?_append_right (by omega), hl] at hj
      obtain ⟨b, o, ha, hc⟩ := rd_flatten (xss := xss) (off + sz) (fun i ys hi => by
        obtain ⟨h1, h2⟩ := h (i + 1) ys (by simpa using hi)
        refine ⟨h1, fun k u hk => ?_⟩
        obtain ⟨b, o, ha, hc⟩ := h2 k u hk
        refine ⟨b, o, ha, ?_⟩
        rw [show off + sz + i * sz + k = off + (i + 1) * sz + k by rw [Nat.add_mul]; omega]
        exact hc) (j - sz) v hj
      exact ⟨b, o, ha, by rw [show off + j = off + sz + (j - sz) by omega]; exact hc⟩
theorem list_choose {α : Type} {n : Nat} {p : Nat → α → Prop} (h : ∀ i, i < n → ∃ x, p i x) : ∃ l : List α, l.length = n ∧ ∀ i x, l[i]? = some x → p i x := by
  induction n with
  | zero => exact ⟨[], rfl, fun i x h => by simp at h⟩
  | succ n ih =>
    obtain ⟨l, hl, hp⟩ := ih (fun i hi => h i (by omega))
    obtain ⟨x, hx⟩ := h n (by omega)
    refine ⟨l ++ [x], by simp [hl], fun i y hy => ?_⟩
    by_cases hi : i < n
    · rw [List.getElem?_append_left (by omega)] at hy
      exact hp i y hy
    · rw [List.getElem?_append_right (by omega), hl] at hy
      have : i - n = 0 := by
        rcases Nat.lt_or_ge (i - n) 1 with h | h
        · omega
        · rw [List.getElem?_eq_none (by simpa using h)] at hy; cases hy
      rw [this] at hy
      cases hy
      rw [show i = n by omega]; exact hx
section
variable {H : Type} {enc : TypeId × Value → H} {P : Program} {W : World}
def Src (enc : TypeId × Value → H) (P : Program) (W : World) : TypeId ⊕ List Field → List Value → Prop
  | .inl t, cs => ∃ fuel x, DataW.trod enc P W 0 (fun _ => true) true fuel t cs = some x ∧ ∀ n ∈ x.1.weights P t, n ≤ reachBytes
  | .inr fs, cs => ∃ (fuel : Nat) (xs : List (DataW H × List MemPlace)), xs.length = fs.length ∧ (∀ (i : Nat) (f : Field), fs[i]? = some f → DataW.trod enc P W 0 (fun _ => true) true fuel f.type ((cs.drop f.offset).take (P.cellsOf f.type)) = xs[i]?) ∧
      ∀ n ∈ DataW.weightsEach P (fs.map (·.type)) (xs.map (·.1)), n ≤ reachBytes
theorem weights_all {e : TypeId} {n : Nat} : ∀ {ds : List (DataW H)} {d : DataW H}, d ∈ ds → n ∈ d.weights P e → n ∈ DataW.weightsAll P e ds
  | d0 :: ds, d, hd, hn => by
    simp only [DataW.weightsAll, List.mem_append]
    rcases List.mem_cons.1 hd with rfl | hd
    · exact .inl hn
    · exact .inr (weights_all hd hn)
theorem sh_ok : ∀ (sh : Sh) (r : TypeId ⊕ List Field) (cs : List Value), shB P sh r = true → Src enc P W r cs → sh.ok W cs
  | .int k, .inl t, cs, hb, hs => by
    obtain ⟨fuel, x, hx, _⟩ := hs
    simp only [shB] at hb
    split at hb
    · rename_i k' hu
      obtain rfl : k' = k := by simpa using hb
      obtain ⟨n, rfl, _, hw⟩ := DataW.trod_int hu hx
      exact ⟨n, rfl, hw⟩
    · cases hb
  | .bool, .inl t, cs, hb, hs => by
    obtain ⟨fuel, x, hx, _⟩ := hs
    simp only [shB] at hb
    split at hb
    · rename_i hu
      obtain ⟨b, rfl, _⟩ := DataW.trod_bool hu hx
      exact ⟨b, rfl⟩
    · cases hb
  | .str, .inl t, cs, hb, hs => by
    obtain ⟨fuel, x, hx, hw⟩ := hs
    simp only [shB] at hb
    split at hb
    · rename_i hu
      obtain ⟨s, rfl, rfl, _⟩ := DataW.trod_string hu hx
      refine ⟨s, rfl, ?_⟩
      have := hw s.data.toList.length (by simp [DataW.weights])
      simpa using this
    · cases hb
  | .sl e sz by_, .inl t, cs, hb, hs => by
    obtain ⟨fuel, x, hx, hw⟩ := hs
    simp only [shB] at hb
    split at hb
    · rename_i u hu
      simp only [Bool.and_eq_true] at hb
      obtain ⟨⟨h1, h2⟩, h3⟩ := hb
      have h1 := Nat.eq_of_beq_eq_true h1
      have h2 := Nat.eq_of_beq_eq_true h2
      subst h1; subst h2
      rcases DataW.trod_slice hu hx with ⟨rfl, _⟩ | ⟨a, len, cap, elems, rest, n, _, rfl, rfl, _, hl, hc, hel, hget, hsp, _⟩
      · exact ⟨none, 0, 0, [], rfl, Nat.le_refl _, by simp, rfl, fun j v h => by simp at h, by simp⟩
      · have hrl := (hsp rfl).1
        obtain ⟨xss, hxl, hxs⟩ := list_choose (n := len) (p := fun i cs' => W.cells? 0 (a.add (i * P.cellsOf u)) (P.cellsOf u) = some cs' ∧ ∃ y, DataW.trod enc P W 0 (fun _ => true) true n u cs' = some y ∧ elems[i]? = some y) (fun i hi => by
          have hg := hget i hi
          rw [List.getElem?_eq_getElem (by omega)] at hg
          simp only [Option.bind_eq_some_iff] at hg
          obtain ⟨cs', h4, h5⟩ := hg
          exact ⟨cs', h4, _, h5, List.getElem?_eq_getElem (by omega)⟩)
        have hget : ∀ (i : Nat) (xs : List Value), xss[i]? = some xs → xs.length = P.cellsOf u ∧ ∀ (k : Nat) (v : Value), xs[k]? = some v → W.cell? ((a.add (i * P.cellsOf u)).add k) = some v := by
          intro i xs hi
          obtain ⟨h4, _⟩ := hxs i xs hi
          unfold World.cells? at h4
          rw [if_pos (Nat.zero_le _)] at h4
          have hlen := mapM_some_length h4
          rw [List.length_range] at hlen
          refine ⟨hlen, fun k v hk => ?_⟩
          have hkl := (List.getElem?_eq_some_iff.1 hk).1
          have hg := mapM_some_get h4 k k (by rw [List.getElem?_range]; omega)
          rw [hk] at hg
          exact hg
        have hcells : ∀ (i : Nat) (xs : List Value), xss[i]? = some xs → xs.length = P.cellsOf u ∧ ∀ (k : Nat) (v : Value), xs[k]? = some v → ∃ b o, some a = some ⟨b, o, none⟩ ∧ W.cell? ⟨b, o + (0 + i * P.cellsOf u + k), none⟩ = some v := by
          intro i xs hi
          obtain ⟨h5, h6⟩ := hget i xs hi
          refine ⟨h5, fun k v hk => ?_⟩
          have hkl := (List.getElem?_eq_some_iff.1 hk).1
          have hil := (List.getElem?_eq_some_iff.1 hi).1
          obtain ⟨x0, hx0⟩ : ∃ x0, xss[0]? = some x0 := ⟨_, List.getElem?_eq_getElem (by omega)⟩
          obtain ⟨h7, h8⟩ := hget 0 x0 hx0
          obtain ⟨v0, hv0⟩ : ∃ v0, x0[0]? = some v0 := ⟨_, List.getElem?_eq_getElem (by omega)⟩
          have hsp2 := World.cell?_spot (h8 0 v0 hv0)
          obtain ⟨b, o, s⟩ := a
          have : s = none := by simpa [Addr.add] using hsp2
          subst this
          refine ⟨b, o, rfl, ?_⟩
          have hg := h6 k v hk
          rw [add_mk, add_mk] at hg
          rw [← hg]; congr 2; omega
        refine ⟨some a, len, cap, xss, rfl, hl, ?_, hxl, fun j v hj => ?_, ?_⟩
        · have := hw ((elems.length + rest.length) * P.bytesOf u) (by simp [DataW.weights, hu])
          rwa [show elems.length + rest.length = cap by omega] at this
        · have := rd_flatten (a := some a) 0 hcells j v hj
          simpa using this
        · intro xs hm
          obtain ⟨i, hi⟩ := List.mem_iff_getElem?.1 hm
          refine ⟨(hcells i xs hi).1, sh_ok e (.inl u) xs h3 ?_⟩
          obtain ⟨_, y, h5, h6⟩ := hxs i xs hi
          refine ⟨n, y, h5, fun m hmm => hw m ?_⟩
          simp only [DataW.weights, hu, List.mem_cons, List.mem_append]
          exact .inr (.inl (weights_all (List.mem_map.2 ⟨y, List.mem_of_getElem? h6, rfl⟩) hmm))
    · cases hb
  | .st m fs, .inl t, cs, hb, hs => by
    obtain ⟨fuel, x, hx, hw⟩ := hs
    simp only [shB] at hb
    split at hb
    · rename_i f hu
      simp only [Bool.and_eq_true] at hb
      obtain ⟨h1, h3⟩ := hb
      have h1 := Nat.eq_of_beq_eq_true h1
      obtain ⟨xs, n, _, rfl, hl, hxl, hf⟩ := DataW.trod_struct hu hx
      refine ⟨by omega, sh_ok fs (.inr f.toList) cs h3 ⟨n, xs, by simpa using hxl, fun i g hg => hf i g (by simpa using hg), fun m hm => hw m ?_⟩⟩
      simp only [DataW.weights, hu]
      exact hm
    · cases hb
  | .arr k e sz, .inl t, cs, hb, hs => by
    obtain ⟨fuel, x, hx, hw⟩ := hs
    simp only [shB] at hb
    split at hb
    · rename_i n' u hu
      simp only [Bool.and_eq_true] at hb
      obtain ⟨⟨⟨h0, h1⟩, h2⟩, h3⟩ := hb
      have h0 := Nat.eq_of_beq_eq_true h0
      have h1 := Nat.eq_of_beq_eq_true h1
      have h2 := Nat.eq_of_beq_eq_true h2
      subst h0; subst h1
      cases fuel with
      | zero => simp [DataW.trod] at hx
      | succ n =>
        rw [DataW.trod_step] at hx
        simp only [DataW.trodStep, hu] at hx
        split at hx
        · rename_i hcl
          simp only [Option.map_eq_some_iff] at hx
          obtain ⟨xs, hm, rfl⟩ := hx
          refine ⟨by omega, fun i hi => sh_ok e (.inl u) _ h3 ?_⟩
          have hxl := mapM_some_length hm
          have hg := mapM_some_get hm i i (by simp [hi])
          rw [List.getElem?_eq_getElem (by simp at hxl; omega)] at hg
          refine ⟨n, _, hg, fun m hmm => hw m ?_⟩
          simp only [DataW.weights, hu]
          exact weights_all (List.mem_map.2 ⟨_, List.getElem_mem (by simp at hxl; omega), rfl⟩) hmm
        · cases hx
    · cases hb
  | .nil, .inr _, _, _, _ => trivial
  | .cons f off sz r, .inr (x :: xs), cs, hb, hs => by
    obtain ⟨fuel, ys, hl, hf, hw⟩ := hs
    simp only [shB, Bool.and_eq_true] at hb
    obtain ⟨⟨⟨h0, h1⟩, h2⟩, h3⟩ := hb
    have h0 := Nat.eq_of_beq_eq_true h0
    have h1 := Nat.eq_of_beq_eq_true h1
    subst h0; subst h1
    match ys, hl with
    | y :: ys, hl =>
      refine ⟨sh_ok f (.inl x.type) _ h2 ⟨fuel, y, hf 0 x rfl, fun n hn => hw n ?_⟩, sh_ok r (.inr xs) cs h3 ⟨fuel, ys, by simpa using hl, fun i g hg => by simpa using hf (i + 1) g (by simpa using hg), fun n hn => hw n ?_⟩⟩
      · simp only [List.map_cons, DataW.weightsEach, List.mem_append]; exact .inl hn
      · simp only [List.map_cons, DataW.weightsEach, List.mem_append]; exact .inr hn
  | .int _, .inr _, _, hb, _ => by simp [shB] at hb
  | .bool, .inr _, _, hb, _ => by simp [shB] at hb
  | .str, .inr _, _, hb, _ => by simp [shB] at hb
  | .sl _ _ _, .inr _, _, hb, _ => by simp [shB] at hb
  | .st _ _, .inr _, _, hb, _ => by simp [shB] at hb
  | .arr _ _ _, .inr _, _, hb, _ => by simp [shB] at hb
  | .nil, .inl _, _, hb, _ => by simp [shB] at hb
  | .cons _ _ _ _, .inl _, _, hb, _ => by simp [shB] at hb
  | .cons _ _ _ _, .inr [], _, hb, _ => by simp [shB] at hb
end
end Go.EW
