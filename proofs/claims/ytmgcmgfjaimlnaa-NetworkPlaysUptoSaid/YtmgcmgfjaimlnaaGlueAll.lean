/- A part of this claim: laws of the tape's functions and of plain lists; no conditions beyond those that the theorems name. -/
import Derived.Test.YtmgcmgfjaimlnaaBaseAll
import Derived.ChangeArms
import Derived.SizedLaws
import Derived.ProofKit
import Derived.Carry
import Derived.OpenShut
import Derived.JoinedCond
import Derived.Deep.CondSized
namespace Go.EW
/-- the shapes of what is handed in -/
inductive Sh where
  | int (k : IntKind)
  | bool
  | str
  | sl (e : Sh) (sz by_ : Nat)
  | st (m : Nat) (fs : Sh)
  | nil
  | cons (f : Sh) (off sz : Nat) (r : Sh)
  | arr (n : Nat) (e : Sh) (sz : Nat)
def shB (P : Program) : Sh → TypeId ⊕ List Field → Bool
  | .int k, .inl t => match P.underlying t with | some (.int k') => decide (k' = k) | _ => false
  | .bool, .inl t => match P.underlying t with | some .bool => true | _ => false
  | .str, .inl t => match P.underlying t with | some .string => true | _ => false
  | .sl e sz by_, .inl t => match P.underlying t with | some (.slice u) => Nat.beq (P.cellsOf u) sz && Nat.beq (P.bytesOf u) by_ && shB P e (.inl u) | _ => false
  | .st m fs, .inl t => match P.underlying t with | some (.struct f) => Nat.beq (P.cellsOf t) m && shB P fs (.inr f.toList) | _ => false
  | .arr n e sz, .inl t => match P.underlying t with | some (.array n' u) => Nat.beq n' n && Nat.beq (P.cellsOf u) sz && Nat.beq (P.cellsOf t) (n * sz) && shB P e (.inl u) | _ => false
  | .nil, .inr [] => true
  | .cons f off sz r, .inr (x :: xs) => Nat.beq x.offset off && Nat.beq (P.cellsOf x.type) sz && shB P f (.inl x.type) && shB P r (.inr xs)
  | _, _ => false
def Sh.ok (W : World) : Sh → List Value → Prop
  | .int k, cs => ∃ x, cs = [.int k x] ∧ (Lit.int k x).wf = true
  | .bool, cs => ∃ b, cs = [.bool b]
  | .str, cs => ∃ s : ByteArray, cs = [.string s] ∧ s.size ≤ reachBytes
  | .sl e sz by_, cs => ∃ (a : Option Addr) (n cap : Nat) (xss : List (List Value)), cs = [.slice a n cap] ∧ n ≤ cap ∧ cap * by_ ≤ reachBytes ∧ xss.length = n ∧ Rd W a xss.flatten ∧ ∀ xs ∈ xss, xs.length = sz ∧ e.ok W xs
  | .st m fs, cs => cs.length = m ∧ fs.ok W cs
  | .nil, _ => True
  | .cons f off sz r, cs => f.ok W ((cs.drop off).take sz) ∧ r.ok W cs
  | .arr n e sz, cs => cs.length = n * sz ∧ ∀ i, i < n → e.ok W ((cs.drop (i * sz)).take sz)
theorem rd_flatten {w : World} {a : Option Addr} {sz : Nat} : ∀ {xss : List (List Value)} (off : Nat),
    (∀ (i : Nat) (xs : List Value), xss[i]? = some xs → xs.length = sz ∧ ∀ (k : Nat) (v : Value), xs[k]? = some v → ∃ b o, a = some ⟨b, o, none⟩ ∧ w.cell? ⟨b, o + (off + i * sz + k), none⟩ = some v) →
    ∀ (j : Nat) (v : Value), xss.flatten[j]? = some v → ∃ b o, a = some ⟨b, o, none⟩ ∧ w.cell? ⟨b, o + (off + j), none⟩ = some v
  | [], off, _, j, v, hj => by simp at hj
  | xs :: xss, off, h, j, v, hj => by
    obtain ⟨hl, hx⟩ := h 0 xs rfl
    rw [List.flatten_cons] at hj
    by_cases hlt : j < sz
    · rw [List.getElem?_append_left (by omega)] at hj
      obtain ⟨b, o, ha, hc⟩ := hx j v hj
      exact ⟨b, o, ha, by rw [Nat.zero_mul, Nat.add_zero] at hc; exact hc⟩
    rw [List.getElem?_append_right (by omega), hl] at hj
    obtain ⟨b, o, ha, hc⟩ := rd_flatten (xss := xss) (off + sz) (fun i ys hi => by
      obtain ⟨h1, h2⟩ := h (i + 1) ys (by simpa using hi)
      refine ⟨h1, fun k u hk => ?_⟩
      obtain ⟨b, o, ha, hc⟩ := h2 k u hk
      refine ⟨b, o, ha, ?_⟩
      rw [show off + sz + i * sz + k = off + (i + 1) * sz + k by rw [Nat.add_mul]; omega]
      exact hc) (j - sz) v hj
    exact ⟨b, o, ha, by rw [show off + j = off + sz + (j - sz) by omega]; exact hc⟩
theorem list_choose {α : Type} {n : Nat} {p : Nat → α → Prop} (h : ∀ i, i < n → ∃ x, p i x) : ∃ l : List α, l.length = n ∧ ∀ i x, l[i]? = some x → p i x := by
  induction n with
  | zero => exact ⟨[], rfl, fun i x h => by simp at h⟩
  | succ n ih =>
    obtain ⟨l, hl, hp⟩ := ih (fun i hi => h i (by omega))
    obtain ⟨x, hx⟩ := h n (by omega)
    refine ⟨l ++ [x], by simp [hl], fun i y hy => ?_⟩
    by_cases hi : i < n
    · rw [List.getElem?_append_left (by omega)] at hy
      exact hp i y hy
    rw [List.getElem?_append_right (by omega), hl] at hy
    have : i - n = 0 := by
      rcases Nat.lt_or_ge (i - n) 1 with h | h
      · omega
      rw [List.getElem?_eq_none (by simpa using h)] at hy; cases hy
    rw [this] at hy
    cases hy
    rw [show i = n by omega]; exact hx
section
variable {H : Type} {enc : TypeId × Value → H} {P : Program} {W : World}
theorem weights_all {e : TypeId} {n : Nat} : ∀ {ds : List (DataW H)} {d : DataW H}, d ∈ ds → n ∈ d.weights P e → n ∈ DataW.weightsAll P e ds
  | d0 :: ds, d, hd, hn => by
    simp only [DataW.weightsAll, List.mem_append]
    rcases List.mem_cons.1 hd with rfl | hd
    · exact .inl hn
    exact .inr (weights_all hd hn)
end
end Go.EW
namespace Go.EW
open Go.ChangeShapes Go.WideShapes Go.RowKit
def Sh.val : Sh → Value → Prop
  | .int k, v => ∃ x, v = .int k x
  | .bool, v => ∃ b, v = .bool b
  | .str, v => ∃ s, v = .string s
  | .sl _ _ _, v => ∃ a n c, v = .slice a n c
  | .st _ _, v => ∃ cs, v = .agg cs
  | .arr _ _ _, v => ∃ cs, v = .agg cs
  | _, _ => True
def shsB (P : Program) : List Sh → List TypeId → Bool
  | [], [] => true
  | sh :: r, t :: ts => shB P sh (.inl t) && shsB P r ts
  | _, _ => false
section
variable {H : Type} {enc : TypeId × Value → H} {P : Program} {W : World}
theorem sh_val {sh : Sh} {t : TypeId} {v : Value} {base : Nat} (hb : shB P sh (.inl t) = true) (h : Value.okWide P W .any base t v) : sh.val v := by
  cases sh with
  | int k =>
    simp only [shB] at hb
    split at hb
    · rename_i k' hu
      obtain rfl : k' = k := by simpa using hb
      exact okWide_int hu h
    cases hb
  | bool =>
    simp only [shB] at hb
    split at hb
    · rename_i hu; exact okWide_bool hu h
    cases hb
  | str =>
    simp only [shB] at hb
    split at hb
    · rename_i hu; exact okWide_string hu h
    cases hb
  | sl e sz by_ =>
    simp only [shB] at hb
    split at hb
    · rename_i hu; exact okWide_slice hu h
    cases hb
  | st m fs =>
    simp only [shB] at hb
    split at hb
    · rename_i hu
      obtain ⟨cs, h1, _⟩ := okWide_struct hu h
      exact ⟨cs, h1⟩
    cases hb
  | arr n e sz =>
    simp only [shB] at hb
    split at hb
    · rename_i hu
      simp only [Value.okWide, hu] at h
      obtain ⟨cs, h1, _⟩ := h
      exact ⟨cs, h1⟩
    cases hb
  | nil => trivial
  | cons _ _ _ _ => trivial
theorem St.below {W w : World} {S : List Seg} (H : St W w S) : Below W.heap.size W w := ⟨H.os, H.tape, H.output, H.size, H.ro⟩
theorem trodAll_below (hl : laidOutB P = true) {W' : World} : ∀ {ts : List TypeId} {vs : List Value} {ds : List (DataW H)} {ps : List MemPlace}, (ts.all fun t => P.readableRec t && decide (t < P.types.size)) = true →
    DataW.TrodAll enc P W 0 (fun _ => true) true ts vs ds ps → Below W.heap.size W W' → (∀ x ∈ ps, x.block < W.heap.size) → DataW.TrodAll enc P W' 0 (fun b => decide (b < W.heap.size)) true ts vs ds ps
  | [], vs, ds, ps, _, h, _, _ => by
    obtain ⟨rfl, rfl, rfl⟩ := trodAll_nil h
    exact trodAll_mk0
  | t :: ts, vs, ds, ps, hr, h, hb, hlt => by
    simp only [List.all_cons, Bool.and_eq_true, decide_eq_true_eq] at hr
    obtain ⟨v, vs1, d, ds1, p, q, rfl, rfl, rfl, h1, h2⟩ := trodAll_cons h
    exact trodAll_cons_mk (Below.trod hl hr.1.1 hr.1.2 h1 hb (fun x hx => hlt x (List.mem_append_left _ hx))) (trodAll_below hl (by simpa using hr.2) h2 hb (fun x hx => hlt x (List.mem_append_right _ hx)))
end
end Go.EW
namespace Go.EW
open Go.ChangeShapes Go.WideShapes Go.RowKit
/-! what is handed in, and how much it is -/
structure BulkLaw {H : Type} (bk : DataW H → Nat) : Prop where
  one : ∀ d, 1 ≤ bk d
  str : ∀ bytes, bytes.length ≤ bk (.lit (.string bytes))
  slice : ∀ e s, (e.map bk).sum ≤ bk (.slice e s)
  agg : ∀ ps, ∀ p ∈ ps, bk p ≤ bk (.agg ps)
theorem sum_len {H : Type} {bk : DataW H → Nat} (h1 : ∀ (d : DataW H), True → 1 ≤ bk d) : ∀ l : List (DataW H), l.length ≤ (l.map bk).sum
  | [] => Nat.le_refl _
  | d :: l => by
    have := sum_len h1 l
    have := h1 d trivial
    simp only [List.length_cons, List.map_cons, List.sum_cons]; omega
def Sh.okN (W : World) : Sh → Nat → List Value → Prop
  | .int k, _, cs => ∃ x, cs = [.int k x] ∧ (Lit.int k x).wf = true
  | .bool, _, cs => ∃ b, cs = [.bool b]
  | .str, N, cs => ∃ s : ByteArray, cs = [.string s] ∧ s.size ≤ reachBytes ∧ s.size ≤ N
  | .sl e sz by_, N, cs => ∃ (a : Option Addr) (n cap : Nat) (xss : List (List Value)) (Ns : List Nat), cs = [.slice a n cap] ∧ n ≤ cap ∧ cap * by_ ≤ reachBytes ∧ xss.length = n ∧ Rd W a xss.flatten ∧ Ns.length = n ∧ n ≤ N ∧ Ns.sum ≤ N ∧
      ∀ (i : Nat) (xs : List Value) (M : Nat), xss[i]? = some xs → Ns[i]? = some M → xs.length = sz ∧ e.okN W M xs
  | .st m fs, N, cs => cs.length = m ∧ fs.okN W N cs
  | .nil, _, _ => True
  | .cons f off sz r, N, cs => f.okN W N ((cs.drop off).take sz) ∧ r.okN W N cs
  | .arr n e sz, N, cs => cs.length = n * sz ∧ ∀ i, i < n → e.okN W N ((cs.drop (i * sz)).take sz)
section
variable {H : Type} {enc : TypeId × Value → H} {P : Program} {W : World}
def SrcN (bk : DataW H → Nat) (enc : TypeId × Value → H) (P : Program) (W : World) : TypeId ⊕ List Field → Nat → List Value → Prop
  | .inl t, N, cs => ∃ fuel x, DataW.trod enc P W 0 (fun _ => true) true fuel t cs = some x ∧ (∀ n ∈ x.1.weights P t, n ≤ reachBytes) ∧ bk x.1 ≤ N
  | .inr fs, N, cs => ∃ (fuel : Nat) (xs : List (DataW H × List MemPlace)), xs.length = fs.length ∧ (∀ (i : Nat) (f : Field), fs[i]? = some f → DataW.trod enc P W 0 (fun _ => true) true fuel f.type ((cs.drop f.offset).take (P.cellsOf f.type)) = xs[i]?) ∧
      (∀ n ∈ DataW.weightsEach P (fs.map (·.type)) (xs.map (·.1)), n ≤ reachBytes) ∧ ∀ y ∈ xs, bk y.1 ≤ N
theorem sh_okN {bk : DataW H → Nat} (hB : BulkLaw bk) : ∀ (sh : Sh) (r : TypeId ⊕ List Field) (N : Nat) (cs : List Value), shB P sh r = true → SrcN bk enc P W r N cs → sh.okN W N cs
  | .int k, .inl t, N, cs, hb, hs => by
    obtain ⟨fuel, x, hx, _, hbk⟩ := hs
    simp only [shB] at hb
    split at hb
    · rename_i k' hu
      obtain rfl : k' = k := by simpa using hb
      obtain ⟨n, rfl, _, hw⟩ := DataW.trod_int hu hx
      exact ⟨n, rfl, hw⟩
    cases hb
  | .bool, .inl t, N, cs, hb, hs => by
    obtain ⟨fuel, x, hx, _, hbk⟩ := hs
    simp only [shB] at hb
    split at hb
    · rename_i hu
      obtain ⟨b, rfl, _⟩ := DataW.trod_bool hu hx
      exact ⟨b, rfl⟩
    cases hb
  | .str, .inl t, N, cs, hb, hs => by
    obtain ⟨fuel, x, hx, hw, hbk⟩ := hs
    simp only [shB] at hb
    split at hb
    · rename_i hu
      obtain ⟨s, rfl, rfl, _⟩ := DataW.trod_string hu hx
      refine ⟨s, rfl, ?_, ?_⟩
      · have := hw s.data.toList.length (by simp [DataW.weights])
        simpa using this
      have := hB.str s.data.toList
      simp only [Array.length_toList] at this
      exact Nat.le_trans this hbk
    cases hb
  | .sl e sz by_, .inl t, N, cs, hb, hs => by
    obtain ⟨fuel, x, hx, hw, hbk⟩ := hs
    simp only [shB] at hb
    split at hb
    · rename_i u hu
      simp only [Bool.and_eq_true] at hb
      obtain ⟨⟨h1, h2⟩, h3⟩ := hb
      have h1 := Nat.eq_of_beq_eq_true h1
      have h2 := Nat.eq_of_beq_eq_true h2
      subst h1; subst h2
      rcases DataW.trod_slice hu hx with ⟨rfl, _⟩ | ⟨a, len, cap, elems, rest, n, _, rfl, rfl, _, hl, hc, hc0, hget, hsp, _⟩
      · exact ⟨none, 0, 0, [], [], rfl, Nat.le_refl _, by simp, rfl, fun j v h => by simp at h, rfl, Nat.zero_le _, Nat.zero_le _, fun i xs M h => by simp at h⟩
      have hrl := (hsp rfl).1
      obtain ⟨xss, hxl, hxs⟩ := list_choose (n := len) (p := fun i cs' => W.cells? 0 (a.add (i * P.cellsOf u)) (P.cellsOf u) = some cs' ∧ ∃ y, DataW.trod enc P W 0 (fun _ => true) true n u cs' = some y ∧ elems[i]? = some y) (fun i hi => by
        have hg := hget i hi
        rw [List.getElem?_eq_getElem (by omega)] at hg
        simp only [Option.bind_eq_some_iff] at hg
        obtain ⟨cs', h4, h5⟩ := hg
        exact ⟨cs', h4, _, h5, List.getElem?_eq_getElem (by omega)⟩)
      have hget : ∀ (i : Nat) (xs : List Value), xss[i]? = some xs → xs.length = P.cellsOf u ∧ ∀ (k : Nat) (v : Value), xs[k]? = some v → W.cell? ((a.add (i * P.cellsOf u)).add k) = some v := by
        intro i xs hi
        obtain ⟨h4, _⟩ := hxs i xs hi
        unfold World.cells? at h4
        rw [if_pos (Nat.zero_le _)] at h4
        have hlen := mapM_some_length h4
        rw [List.length_range] at hlen
        refine ⟨hlen, fun k v hk => ?_⟩
        have hkl := (List.getElem?_eq_some_iff.1 hk).1
        have hg := mapM_some_get h4 k k (by rw [List.getElem?_range]; omega)
        rw [hk] at hg
        exact hg
      have hcells : ∀ (i : Nat) (xs : List Value), xss[i]? = some xs → xs.length = P.cellsOf u ∧ ∀ (k : Nat) (v : Value), xs[k]? = some v → ∃ b o, some a = some ⟨b, o, none⟩ ∧ W.cell? ⟨b, o + (0 + i * P.cellsOf u + k), none⟩ = some v := by
        intro i xs hi
        obtain ⟨h5, h6⟩ := hget i xs hi
        refine ⟨h5, fun k v hk => ?_⟩
        have hkl := (List.getElem?_eq_some_iff.1 hk).1
        have hil := (List.getElem?_eq_some_iff.1 hi).1
        obtain ⟨x0, hx0⟩ : ∃ x0, xss[0]? = some x0 := ⟨_, List.getElem?_eq_getElem (by omega)⟩
        obtain ⟨h7, h8⟩ := hget 0 x0 hx0
        obtain ⟨v0, hv0⟩ : ∃ v0, x0[0]? = some v0 := ⟨_, List.getElem?_eq_getElem (by omega)⟩
        have hsp2 := World.cell?_spot (h8 0 v0 hv0)
        obtain ⟨b, o, s⟩ := a
        have : s = none := by simpa [Addr.add] using hsp2
        subst this
        refine ⟨b, o, rfl, ?_⟩
        have hg := h6 k v hk
        rw [add_mk, add_mk] at hg
        rw [← hg]; congr 2; omega
      have hsl := hB.slice (elems.map (·.1)) (rest.map (·.1))
      have hlen := sum_len (fun d _ => hB.one d) (elems.map (·.1))
      rw [List.length_map] at hlen
      have hbk2 : bk (.slice (elems.map (·.1)) (rest.map (·.1))) ≤ N := hbk
      refine ⟨some a, len, cap, xss, (elems.map (·.1)).map bk, rfl, hl, ?_, hxl, fun j v hj => ?_, by simp [hc0], by omega, by omega, ?_⟩
      · have := hw ((elems.length + rest.length) * P.bytesOf u) (by simp [DataW.weights, hu])
        rwa [show elems.length + rest.length = cap by omega] at this
      · have := rd_flatten (a := some a) 0 hcells j v hj
        simpa using this
      intro i xs M hi hM
      refine ⟨(hcells i xs hi).1, sh_okN hB e (.inl u) M xs h3 ?_⟩
      obtain ⟨_, y, h5, h6⟩ := hxs i xs hi
      have hyM : bk y.1 = M := by simpa [h6] using hM
      refine ⟨n, y, h5, fun m hmm => hw m ?_, Nat.le_of_eq hyM⟩
      simp only [DataW.weights, hu, List.mem_cons, List.mem_append]
      exact .inr (.inl (weights_all (List.mem_map.2 ⟨y, List.mem_of_getElem? h6, rfl⟩) hmm))
    cases hb
  | .st m fs, .inl t, N, cs, hb, hs => by
    obtain ⟨fuel, x, hx, hw, hbk⟩ := hs
    simp only [shB] at hb
    split at hb
    · rename_i f hu
      simp only [Bool.and_eq_true] at hb
      obtain ⟨h1, h3⟩ := hb
      have h1 := Nat.eq_of_beq_eq_true h1
      obtain ⟨xs, n, _, rfl, hl, hxl, hf⟩ := DataW.trod_struct hu hx
      refine ⟨by omega, sh_okN hB fs (.inr f.toList) N cs h3 ⟨n, xs, by simpa using hxl, fun i g hg => hf i g (by simpa using hg), fun m hm => hw m ?_, fun y hy => Nat.le_trans (hB.agg _ _ (List.mem_map.2 ⟨y, hy, rfl⟩)) hbk⟩⟩
      simp only [DataW.weights, hu]
      exact hm
    cases hb
  | .arr k e sz, .inl t, N, cs, hb, hs => by
    obtain ⟨fuel, x, hx, hw, hbk⟩ := hs
    simp only [shB] at hb
    split at hb
    · rename_i n' u hu
      simp only [Bool.and_eq_true] at hb
      obtain ⟨⟨⟨h0, h1⟩, h2⟩, h3⟩ := hb
      have h0 := Nat.eq_of_beq_eq_true h0
      have h1 := Nat.eq_of_beq_eq_true h1
      have h2 := Nat.eq_of_beq_eq_true h2
      subst h0; subst h1
      cases fuel with
      | zero => simp [DataW.trod] at hx
      | succ n =>
        rw [DataW.trod_step] at hx
        simp only [DataW.trodStep, hu] at hx
        split at hx
        · rename_i hcl
          simp only [Option.map_eq_some_iff] at hx
          obtain ⟨xs, hm, rfl⟩ := hx
          refine ⟨by omega, fun i hi => sh_okN hB e (.inl u) N _ h3 ?_⟩
          have hxl := mapM_some_length hm
          have hg := mapM_some_get hm i i (by simp [hi])
          rw [List.getElem?_eq_getElem (by simp at hxl; omega)] at hg
          refine ⟨n, _, hg, fun m hmm => hw m ?_, Nat.le_trans (hB.agg _ _ (List.mem_map.2 ⟨_, List.getElem_mem (by simp at hxl; omega), rfl⟩)) hbk⟩
          simp only [DataW.weights, hu]
          exact weights_all (List.mem_map.2 ⟨_, List.getElem_mem (by simp at hxl; omega), rfl⟩) hmm
        cases hx
    cases hb
  | .nil, .inr _, _, _, _, _ => trivial
  | .cons f off sz r, .inr (x :: xs), N, cs, hb, hs => by
    obtain ⟨fuel, ys, hl, hf, hw, hbk⟩ := hs
    simp only [shB, Bool.and_eq_true] at hb
    obtain ⟨⟨⟨h0, h1⟩, h2⟩, h3⟩ := hb
    have h0 := Nat.eq_of_beq_eq_true h0
    have h1 := Nat.eq_of_beq_eq_true h1
    subst h0; subst h1
    match ys, hl with
    | y :: ys, hl =>
      refine ⟨sh_okN hB f (.inl x.type) N _ h2 ⟨fuel, y, hf 0 x rfl, fun n hn => hw n ?_, hbk y List.mem_cons_self⟩, sh_okN hB r (.inr xs) N cs h3 ⟨fuel, ys, by simpa using hl, fun i g hg => by simpa using hf (i + 1) g (by simpa using hg), fun n hn => hw n ?_, fun z hz => hbk z (List.mem_cons_of_mem _ hz)⟩⟩
      · simp only [List.map_cons, DataW.weightsEach, List.mem_append]; exact .inl hn
      simp only [List.map_cons, DataW.weightsEach, List.mem_append]; exact .inr hn
  | .int _, .inr _, _, _, hb, _ => by simp [shB] at hb
  | .bool, .inr _, _, _, hb, _ => by simp [shB] at hb
  | .str, .inr _, _, _, hb, _ => by simp [shB] at hb
  | .sl _ _ _, .inr _, _, _, hb, _ => by simp [shB] at hb
  | .st _ _, .inr _, _, _, hb, _ => by simp [shB] at hb
  | .arr _ _ _, .inr _, _, _, hb, _ => by simp [shB] at hb
  | .nil, .inl _, _, _, hb, _ => by simp [shB] at hb
  | .cons _ _ _ _, .inl _, _, _, hb, _ => by simp [shB] at hb
  | .cons _ _ _ _, .inr [], _, _, hb, _ => by simp [shB] at hb
def argsN (W : World) : Nat → List Sh → List Value → Prop
  | _, [], [] => True
  | N, sh :: r, v :: vs => (sh.okN W N v.cells.toList ∧ sh.val v) ∧ argsN W N r vs
  | _, _, _ => False
theorem argsN_cons {W : World} {N : Nat} {sh : Sh} {r : List Sh} {vs : List Value} (h : argsN W N (sh :: r) vs) : ∃ v vs', vs = v :: vs' ∧ sh.okN W N v.cells.toList ∧ sh.val v ∧ argsN W N r vs' := by
  cases vs with
  | nil => exact h.elim
  | cons v vs => exact ⟨v, vs, rfl, h.1.1, h.1.2, h.2⟩
theorem argsN_nil {W : World} {N : Nat} {vs : List Value} (h : argsN W N [] vs) : vs = [] := by
  cases vs with
  | nil => rfl
  | cons v vs => exact h.elim
theorem args_okN {bk : DataW H → Nat} (hB : BulkLaw bk) {base N : Nat} : ∀ {shs : List Sh} {ts : List TypeId} {vs : List Value} {ds : List (DataW H)} {ps : List MemPlace}, shsB P shs ts = true →
    DataW.TrodAll enc P W 0 (fun _ => true) true ts vs ds ps → (∀ (j : Nat) t v, ts[j]? = some t → vs[j]? = some v → Value.okWide P W .any base t v) → (∀ n ∈ DataW.weightsEach P ts ds, n ≤ reachBytes) → (∀ d ∈ ds, bk d ≤ N) → argsN W N shs vs
  | [], [], vs, ds, ps, _, h, _, _, _ => by
    obtain ⟨rfl, _, _⟩ := trodAll_nil h
    exact trivial
  | sh :: r, t :: ts, vs, ds, ps, hb, h, hv, hw, hbk => by
    simp only [shsB, Bool.and_eq_true] at hb
    obtain ⟨v, vs1, d, ds1, p, q, rfl, rfl, rfl, h1, h2⟩ := trodAll_cons h
    refine ⟨⟨?_, sh_val hb.1 (hv 0 t v rfl rfl)⟩, args_okN hB hb.2 h2 (fun j t v ht hj => hv (j + 1) t v (by simpa using ht) (by simpa using hj)) (fun n hn => hw n (by simp only [DataW.weightsEach, List.mem_append]; exact .inr hn)) (fun d hd => hbk d (List.mem_cons_of_mem _ hd))⟩
    obtain ⟨fuel, hf⟩ := h1
    exact sh_okN hB sh (.inl t) N _ hb.1 ⟨fuel, _, hf, fun n hn => hw n (by simp only [DataW.weightsEach, List.mem_append]; exact .inl hn), hbk d List.mem_cons_self⟩
  | [], _ :: _, _, _, _, hb, _, _, _, _ => by simp [shsB] at hb
  | _ :: _, [], _, _, _, hb, _, _, _, _ => by simp [shsB] at hb
end
end Go.EW
namespace Go.EW
open Go.ChangeShapes Go.WideShapes Go.RowKit
/-- a law that answers true where what is handed in is of a bulk of at most N -/
theorem lifted_upto {C : Checked} {os : Os} {fid : FuncId} {fn : Func} {s : ChangeSpec} {kk : (H : Type) → List (DataW H) → Bool} {doms : List PathCond} {H : Type} {enc : TypeId × Value → H} {F : Stop.Interp} {tb : TypeId} (N : Nat) (shs : List Sh) {bk : DataW H → Nat} (hB : BulkLaw bk)
    (hkk : ∀ ds : List (DataW H), kk H ds = true → ∀ d ∈ ds, bk d ≤ N)
    (own : ownKnob C.prog.godebug = none) (started : os.Started) (noInit : C.prog.inits.idxOf? fid = none) (hfn : C.prog.funcs[fid]? = some fn)
    (witness : ∃ (w : World) (tape : Tape) (i : Input), w.os = os ∧ (w.forCall tape i).Shaped C.prog ∧ i.vars = [] ∧ Input.okWide C.prog (w.forCall tape i) .any w.heap.size fid i ∧
      ({ OpenSpec.ofChange s with cond := some kk } : OpenSpec).pre6 enc C.prog fn doms false (w.forCall tape i).memory i.args ∧ ({} : Assume).holds C.prog (lone (Frame.enter C.prog fid i.args .normal) [] (w.forCall tape i)))
    (hvars : s.vars = []) (hspec : ∀ ds : List (DataW H), ds.length = fn.params.size → s.fn H ds = { results := [.lit (.bool true)], args := ds }) (hrt : fn.resultTypes = #[tb]) (hbool : C.prog.underlying tb = some .bool)
    (hl : laidOutB C.prog = true) (hr : (fn.params.toList.all fun t => C.prog.readableRec t && decide (t < C.prog.types.size)) = true) (hshs : shsB C.prog shs fn.params.toList = true)
    (walk : ∀ (W : World) (args : List Value), argsN W N shs args → Ok C.prog fid args.toArray W (fun v w' => v = .bool true ∧ ∃ S, St W w' S)) :
    ReturnsInHanded {} C os fid .any (({ OpenSpec.ofChange s with cond := some kk } : OpenSpec).pre6 enc C.prog fn doms false) ((({ OpenSpec.ofChange s with cond := some kk } : OpenSpec).at F).post enc C.prog fn false true false false) := by
  refine returnsInHanded_of_cond_sized (s := { OpenSpec.ofChange s with cond := some kk }) (k := kk) rfl own started noInit hfn witness ?_
  intro W base args ds gs before hval hW _ hkb hsz _
  have hW' := hW
  obtain ⟨p, q, hA, hV, rfl, _, _⟩ := hW
  have hV' : DataW.TrodVars enc C.prog W (fun _ => true) s.vars gs q := hV
  rw [hvars] at hV'
  obtain ⟨rfl, rfl⟩ := trodVars_none hV'
  have hlt : ∀ x ∈ p, x.block < W.heap.size := fun x hx => by simpa using hW'.lt x (List.mem_append_left _ hx)
  have hlen : ∀ {ts : List TypeId} {vs : List Value} {ds : List (DataW H)} {ps : List MemPlace}, DataW.TrodAll enc C.prog W 0 (fun _ => true) true ts vs ds ps → ds.length = ts.length := by
    intro ts
    induction ts with
    | nil => intro vs ds ps h; obtain ⟨rfl, rfl, rfl⟩ := trodAll_nil h; rfl
    | cons t ts ih => intro vs ds ps h; obtain ⟨v, vs1, d, ds1, p, q, rfl, rfl, rfl, h1, h2⟩ := trodAll_cons h; simp [ih h2]
  have hdl : ds.length = fn.params.size := by simpa using hlen hA
  have hargs := args_okN hB (base := base) (N := N) hshs hA (fun j t v ht hv => hval j t v (by simpa using ht) (by simpa using hv)) (fun n hn => by
    have := List.all_eq_true.1 hsz n ?_
    · simpa using this
    have hvt : ({ OpenSpec.ofChange s with cond := some kk } : OpenSpec).bare.plain.varTypes C.prog = [] := by
      show s.plain.varTypes C.prog = []
      unfold DataSpec.varTypes ChangeSpec.plain; simp [hvars]
    rw [hvt, List.append_nil, List.append_nil]; exact hn) (hkk ds (by rw [List.append_nil] at hkb; exact hkb))
  have hw := walk W args.toList hargs
  unfold Ok at hw
  rw [show args.toList.toArray = args from by simp] at hw
  refine hw.mono fun e W' ⟨v, he, hv, S, hst⟩ => ?_
  subst hv
  have hb := hst.below
  have e1 : s.fn H (ds ++ []) = { results := [.lit (.bool true)], args := ds } := by rw [List.append_nil]; exact hspec ds hdl
  refine ⟨_, he, ?_⟩
  show s.post enc C.prog fn false true false false W args (.bool true) W'
  refine ⟨ds, [], p ++ [], [], p, [], hW', ?_, ?_, ?_, hb.frame _, fun h => by cases h⟩
  · rw [e1, hrt]
    exact trodAll_mk1 (shut_bool hbool _)
  · rw [e1]
    exact trodAll_below hl hr hA hb hlt
  rw [e1, hvars]; rfl
end Go.EW
