/- What is proved is taken, and paths are short, as plain laws. -/
import Derived.Test.YtcmmhpkgjcepdaaTre12
namespace Go.Proofs.Ytcmmhpkgjcepdaa
open Go.EW
set_option linter.unusedVariables false
attribute [local irreducible] headH leafH nodeH
/-! what is proved is taken: plain laws -/
theorem sgo_same {n m K : Nat} (hm : m ≤ n) : ∀ (f g k : Nat), 1 ≤ k → sgo n f k = K → K < m → n ≤ k + f → m ≤ k + g → sgo m g k = K
  | 0, g, k, h1, hK, hk, hf, hg => by
    simp only [sgo] at hK
    subst hK
    omega
  | f + 1, g, k, h1, hK, hk, hf, hg => by
    rw [sgo] at hK
    split at hK
    · have hge := sgo_ge n f (2 * k)
      match g with
      | 0 => omega
      | g + 1 =>
        rw [sgo, if_pos (by omega)]
        exact sgo_same hm f g (2 * k) (by omega) hK hk (by omega) (by omega)
    · subst hK
      match g with
      | 0 => rfl
      | g + 1 => rw [sgo, if_neg (by omega)]
theorem splitN_same {n m : Nat} (hm : m ≤ n) (hk : splitN n < m) : splitN m = splitN n := by
  have h1 := sgo_ge n n 1
  unfold splitN at *
  exact sgo_same hm n m 1 (Nat.le_refl _) rfl hk (by omega) (by omega)
/-- the path of a consistency -/
def consF : Nat → Nat → List Ent → Bool → List (List UInt8)
  | 0, _, _, _ => []
  | f + 1, m, es, wh => if m = es.length then (bif wh then [] else [headH es]) else
    if m ≤ splitN es.length then consF f m (es.take (splitN es.length)) wh ++ [headH (es.drop (splitN es.length))]
    else consF f (m - splitN es.length) (es.drop (splitN es.length)) false ++ [headH (es.take (splitN es.length))]
theorem consF_fuel : ∀ (k m : Nat) (es : List Ent) (wh : Bool) (f g : Nat), 1 ≤ m → m ≤ es.length → es.length ≤ k → es.length ≤ f → es.length ≤ g → consF f m es wh = consF g m es wh := by
  intro k
  induction k with
  | zero => intro m es wh f g h1 h2 h3; omega
  | succ k ih =>
    intro m es wh f g h1 h2 h3 hf hg
    match f, g, hf, hg with
    | 0, _, hf, _ => omega
    | _ + 1, 0, _, hg => omega
    | f + 1, g + 1, hf, hg =>
      rw [consF, consF]
      by_cases he : m = es.length
      · rw [if_pos he, if_pos he]
      · have hs := splitN_spec (n := es.length) (by omega)
        rw [if_neg he, if_neg he]
        by_cases hk : m ≤ splitN es.length
        · rw [if_pos hk, if_pos hk, ih m (es.take (splitN es.length)) wh f g h1 (by rw [List.length_take]; omega) (by rw [List.length_take]; omega) (by rw [List.length_take]; omega) (by rw [List.length_take]; omega)]
        · rw [if_neg hk, if_neg hk, ih (m - splitN es.length) (es.drop (splitN es.length)) false f g (by omega) (by rw [List.length_drop]; omega) (by rw [List.length_drop]; omega) (by rw [List.length_drop]; omega) (by rw [List.length_drop]; omega)]
def consN (m : Nat) (es : List Ent) (wh : Bool) : List (List UInt8) := consF es.length m es wh
theorem consN_eq {m : Nat} {es : List Ent} {wh : Bool} (h1 : 1 ≤ m) (h : m = es.length) : consN m es wh = bif wh then [] else [headH es] := by
  unfold consN
  obtain ⟨f, hf⟩ : ∃ f, es.length = f + 1 := ⟨es.length - 1, by omega⟩
  rw [hf, consF, if_pos (by omega)]
theorem consN_ne {m : Nat} {es : List Ent} {wh : Bool} (h1 : 1 ≤ m) (h : m < es.length) : consN m es wh = if m ≤ splitN es.length then consN m (es.take (splitN es.length)) wh ++ [headH (es.drop (splitN es.length))] else consN (m - splitN es.length) (es.drop (splitN es.length)) false ++ [headH (es.take (splitN es.length))] := by
  have hs := splitN_spec (n := es.length) (by omega)
  unfold consN
  obtain ⟨f, hf⟩ : ∃ f, es.length = f + 1 := ⟨es.length - 1, by omega⟩
  conv => lhs; rw [hf]
  rw [consF, if_neg (by omega)]
  by_cases hk : m ≤ splitN es.length
  · rw [if_pos hk, if_pos hk, consF_fuel es.length m (es.take (splitN es.length)) wh f (es.take (splitN es.length)).length h1 (by rw [List.length_take]; omega) (by rw [List.length_take]; omega) (by rw [List.length_take]; omega) (by omega)]
  · rw [if_neg hk, if_neg hk, consF_fuel es.length (m - splitN es.length) (es.drop (splitN es.length)) false f (es.drop (splitN es.length)).length (by omega) (by rw [List.length_drop]; omega) (by rw [List.length_drop]; omega) (by rw [List.length_drop]; omega) (by omega)]
theorem consF_ok : ∀ (f m : Nat) (es : List Ent) (wh : Bool), PathOk (consF f m es wh) ∧ (consF f m es wh).length ≤ f
  | 0, _, _, _ => ⟨(fun h hh => absurd hh (by simp [consF])), Nat.le_refl _⟩
  | f + 1, m, es, wh => by
    rw [consF]
    split
    · cases wh with
      | true => exact ⟨(fun h hh => absurd hh (by simp)), Nat.zero_le _⟩
      | false => exact ⟨(fun h hh => by obtain rfl := List.mem_singleton.1 hh; exact headH_len _), by simp⟩
    · split
      · have := consF_ok f m (es.take (splitN es.length)) wh
        exact ⟨this.1.snoc (headH_len _), by simp; omega⟩
      · have := consF_ok f (m - splitN es.length) (es.drop (splitN es.length)) false
        exact ⟨this.1.snoc (headH_len _), by simp; omega⟩
theorem consN_ok (m : Nat) (es : List Ent) (wh : Bool) : PathOk (consN m es wh) ∧ (consN m es wh).length ≤ es.length := consF_ok _ _ _ _
theorem last_snoc {p : List (List UInt8)} {x : List UInt8} : (p ++ [x]).getD ((p ++ [x]).length - 1) [] = x ∧ (p ++ [x]).take ((p ++ [x]).length - 1) = p := by
  rw [List.length_append, List.length_singleton, Nat.add_sub_cancel]
  exact ⟨by simp [List.getD], by simp⟩
theorem cons_law : ∀ (k m : Nat) (es : List Ent) (wh : Bool) (old : List UInt8), es.length ≤ k → 1 ≤ m → m ≤ es.length → (wh = true → old = headH (es.take m)) →
    (consN m es wh).length = lenN m es.length wh ∧ bothN m es.length wh old (consN m es wh) = (headH (es.take m), headH es) := by
  intro k
  induction k with
  | zero => intro m es wh old h0 h1 h2; omega
  | succ k ih =>
    intro m es wh old h0 h1 h2 ho
    by_cases he : m = es.length
    · have e1 := consN_eq (wh := wh) h1 he
      have e2 : es.take m = es := by rw [he, List.take_length]
      rw [e2] at ho ⊢
      rw [← he, lenN_eq h1, bothN_eq h1, e1]
      cases wh with
      | true => rw [ho rfl]; exact ⟨rfl, rfl⟩
      | false => exact ⟨rfl, rfl⟩
    · have hs := splitN_spec (n := es.length) (by omega)
      have h3 : m < es.length := by omega
      rw [consN_ne h1 h3, lenN_ne h1 h3]
      by_cases hk : m ≤ splitN es.length
      · have e3 : (es.take (splitN es.length)).length = splitN es.length := by rw [List.length_take]; omega
        have ht : (es.take (splitN es.length)).take m = es.take m := by rw [List.take_take, Nat.min_eq_left hk]
        have := ih m (es.take (splitN es.length)) wh old (by rw [e3]; omega) h1 (by rw [e3]; exact hk) (fun hw => by rw [ht]; exact ho hw)
        rw [e3, ht] at this
        rw [if_pos hk, if_pos hk, bothN_le h1 h3 hk, last_snoc.1, last_snoc.2, this.2, List.length_append, this.1]
        exact ⟨rfl, by rw [headH_two (es := es) (by omega)]⟩
      · have e3 : (es.drop (splitN es.length)).length = es.length - splitN es.length := by rw [List.length_drop]
        have := ih (m - splitN es.length) (es.drop (splitN es.length)) false old (by rw [e3]; omega) (by omega) (by rw [e3]; omega) (fun hw => by cases hw)
        rw [e3] at this
        rw [if_neg hk, if_neg hk, bothN_gt h3 (by omega), last_snoc.1, last_snoc.2, this.2, List.length_append, this.1]
        refine ⟨rfl, ?_⟩
        have hm2 : 2 ≤ (es.take m).length := by rw [List.length_take]; omega
        have hml : (es.take m).length = m := by rw [List.length_take]; omega
        have hsp := splitN_same (n := es.length) (m := m) (by omega) (by omega)
        rw [headH_two (es := es) (by omega), headH_two hm2, hml, hsp, List.take_take, Nat.min_eq_left (by omega), List.drop_take]
/-- Consistency's answer -/
def conR (es : List Ent) (x : Int) : List (List UInt8) × Int := if x < 0 ∨ x > (es.length : Int) then ([], 200) else if x = 0 ∨ x = (es.length : Int) then ([], 0) else (consN x.toNat es true, 0)
theorem ext_law {es : List Ent} {m : Nat} (hm : m ≤ es.length) : (conR es m).2 = 0 ∧ extR (headH (es.take m)) m (headH es) es.length (conR es m).1 = 0 := by
  unfold conR
  rw [if_neg (by omega)]
  by_cases h0 : (m : Int) = 0 ∨ (m : Int) = es.length
  · rw [if_pos h0]
    refine ⟨rfl, ?_⟩
    unfold extR
    rw [if_neg (by omega), if_neg (show ¬ (([] : List (List UInt8)).length ≠ _) from by rw [if_neg (by omega)]; simp), if_neg, if_neg (by omega)]
    rintro (⟨h1, h2⟩ | ⟨h1, h2⟩)
    · have : m = 0 := by omega
      subst this
      exact h2 (by rw [List.take_zero]; exact headH_nil)
    · have : m = es.length := by omega
      subst this
      exact h2 (by rw [List.take_length])
  · rw [if_neg h0]
    refine ⟨rfl, ?_⟩
    have hl := cons_law es.length m es true (headH (es.take m)) (Nat.le_refl _) (by omega) hm (fun _ => rfl)
    unfold extR
    rw [Int.toNat_natCast, Int.toNat_natCast, if_neg (by omega), if_neg, if_neg (by omega), if_pos (by omega), hl.2, if_neg (by simp)]
    rw [if_pos (by omega), hl.1]; simp
theorem tds_fuel : ∀ (k n p f g : Nat), n ≤ k → n ≤ f → n ≤ g → tds f n p = tds g n p := by
  intro k
  induction k with
  | zero => intro n p f g h0 hf hg; rw [tds_end (by omega), tds_end (by omega)]
  | succ k ih =>
    intro n p f g h0 hf hg
    by_cases h1 : 1 < n
    · have hs := splitN_spec (n := n) (by omega)
      match f, g, hf, hg with
      | 0, _, hf, _ => omega
      | _ + 1, 0, _, hg => omega
      | f + 1, g + 1, hf, hg =>
        rw [tds, tds, if_pos h1, if_pos h1]
        by_cases hk : splitN n < p
        · rw [if_pos hk, if_pos hk, ih (n - splitN n) (p - splitN n) f g (by omega) (by omega) (by omega)]
        · rw [if_neg hk, if_neg hk, ih (splitN n) p f g (by omega) (by omega) (by omega)]
    · rw [tds_end (by omega), tds_end (by omega)]
theorem sidesN_two {n p : Nat} (h : 2 ≤ n) : sidesN n p = if splitN n < p then sidesN (n - splitN n) (p - splitN n) ++ [true] else sidesN (splitN n) p ++ [false] := by
  have hs := splitN_spec h
  unfold sidesN
  obtain ⟨f, hf⟩ : ∃ f, n = f + 1 := ⟨n - 1, by omega⟩
  conv => lhs; rw [show tds n n p = tds (f + 1) n p from by rw [← hf]]
  rw [tds, if_pos (by omega)]
  by_cases hk : splitN n < p
  · rw [if_pos hk, if_pos hk, List.reverse_cons, tds_fuel n (n - splitN n) (p - splitN n) f (n - splitN n) (by omega) (by omega) (by omega)]
  · rw [if_neg hk, if_neg hk, List.reverse_cons, tds_fuel n (splitN n) p f (splitN n) (by omega) (by omega) (by omega)]
theorem sidesN_one {n p : Nat} (h : n ≤ 1) : sidesN n p = [] := by unfold sidesN; rw [tds_end h]; rfl
theorem upN_snoc {s : List Bool} {b : Bool} {path : List (List UInt8)} {x h : List UInt8} (hl : s.length = path.length) : ∀ i, i ≤ path.length → upN (s ++ [b]) (path ++ [x]) h i = upN s path h i
  | 0, _ => rfl
  | i + 1, hi => by
    rw [upN, upN, upN_snoc hl i (by omega)]
    have e1 : (s ++ [b]).getD i false = s.getD i false := by simp [List.getD, List.getElem?_append_left (show i < s.length by omega)]
    have e2 : (path ++ [x]).getD i [] = path.getD i [] := by simp [List.getD, List.getElem?_append_left (show i < path.length by omega)]
    rw [e1, e2]
theorem upN_last {s : List Bool} {b : Bool} {path : List (List UInt8)} {x h : List UInt8} (hl : s.length = path.length) : upN (s ++ [b]) (path ++ [x]) h (path.length + 1) = bif b then nodeH x (upN s path h path.length) else nodeH (upN s path h path.length) x := by
  rw [upN, upN_snoc hl _ (Nat.le_refl _)]
  have e1 : (s ++ [b]).getD path.length false = b := by rw [← hl]; simp [List.getD]
  have e2 : (path ++ [x]).getD path.length [] = x := by simp [List.getD]
  rw [e1, e2]
theorem incl_law : ∀ (k : Nat) (es : List Ent) (p : Nat) (e : Ent), es.length ≤ k → 1 ≤ p → p ≤ es.length → es[p - 1]? = some e →
    (sidesN es.length p).length = (inclN es p).length ∧ upN (sidesN es.length p) (inclN es p) (leafH e) (inclN es p).length = headH es := by
  intro k
  induction k with
  | zero => intro es p e h0 h1 h2; omega
  | succ k ih =>
    intro es p e h0 h1 h2 hge
    by_cases h : es.length = 1
    · have hp : p = 1 := by omega
      subst hp
      rw [inclN_one h, sidesN_one (by omega)]
      have hh := headH_single (es := es) (by omega) h
      have : es[0]? = some es[0] := List.getElem?_eq_getElem (by omega)
      rw [show (1 - 1 : Nat) = 0 from rfl, this] at hge
      cases hge
      exact ⟨rfl, hh.symm⟩
    · have hs := splitN_spec (n := es.length) (by omega)
      rw [inclN_two (by omega), sidesN_two (by omega)]
      by_cases hk : p ≤ splitN es.length
      · have e3 : (es.take (splitN es.length)).length = splitN es.length := by rw [List.length_take]; omega
        have hi := ih (es.take (splitN es.length)) p e (by omega) h1 (by omega) (by rw [List.getElem?_take_of_lt (by omega)]; exact hge)
        rw [e3] at hi
        rw [if_pos hk, if_neg (by omega)]
        refine ⟨by rw [List.length_append, List.length_append, hi.1]; rfl, ?_⟩
        rw [List.length_append, List.length_singleton, upN_last hi.1, headH_two (es := es) (by omega), hi.2]; rfl
      · have e3 : (es.drop (splitN es.length)).length = es.length - splitN es.length := by rw [List.length_drop]
        have hi := ih (es.drop (splitN es.length)) (p - splitN es.length) e (by omega) (by omega) (by omega) (by rw [List.getElem?_drop, show splitN es.length + (p - splitN es.length - 1) = p - 1 by omega]; exact hge)
        rw [e3] at hi
        rw [if_neg hk, if_pos (by omega)]
        refine ⟨by rw [List.length_append, List.length_append, hi.1]; rfl, ?_⟩
        rw [List.length_append, List.length_singleton, upN_last hi.1, headH_two (es := es) (by omega), hi.2]; rfl
theorem incd_law {es : List Ent} {p : Nat} {e : Ent} (h1 : 1 ≤ p) (hp : p ≤ es.length) (hge : es[p - 1]? = some e) : incdR (headH es) es.length p e (inclN es p) = 0 := by
  have hi := incl_law es.length es p e (Nat.le_refl _) h1 hp hge
  unfold incdR
  rw [Int.toNat_natCast, Int.toNat_natCast, if_neg (by omega), if_neg (by omega), if_neg (fun h => h hi.1), hi.2, if_neg (fun h => h rfl)]
theorem incl_short : ∀ (c : Nat) (es : List Ent) (p : Nat), 1 ≤ es.length → es.length ≤ 2 ^ c → (inclN es p).length ≤ c
  | 0, es, p, h1, h2 => by rw [inclN_one (by omega)]; exact Nat.le_refl _
  | c + 1, es, p, h1, h2 => by
    by_cases h : es.length = 1
    · rw [inclN_one h]; exact Nat.zero_le _
    · have hs := splitN_spec (n := es.length) (by omega)
      obtain ⟨j, hj⟩ := splitN_pow es.length
      have hh : splitN es.length ≤ 2 ^ c := by rw [hj]; exact pow_half (by rw [← hj]; omega)
      rw [inclN_two (by omega)]
      split
      · have := incl_short c (es.take (splitN es.length)) p (by rw [List.length_take]; omega) (by rw [List.length_take]; omega)
        rw [List.length_append, List.length_singleton]; omega
      · have := incl_short c (es.drop (splitN es.length)) (p - splitN es.length) (by rw [List.length_drop]; omega) (by rw [List.length_drop]; omega)
        rw [List.length_append, List.length_singleton]; omega
theorem cons_short : ∀ (c m : Nat) (es : List Ent) (wh : Bool), 1 ≤ m → m ≤ es.length → es.length ≤ 2 ^ c → (consN m es wh).length ≤ c + 1
  | 0, m, es, wh, h1, hm, h2 => by
    rw [consN_eq h1 (by omega)]
    cases wh <;> simp
  | c + 1, m, es, wh, h1, hm, h2 => by
    by_cases h : m = es.length
    · rw [consN_eq h1 h]
      cases wh <;> simp
    · have hs := splitN_spec (n := es.length) (by omega)
      obtain ⟨j, hj⟩ := splitN_pow es.length
      have hh : splitN es.length ≤ 2 ^ c := by rw [hj]; exact pow_half (by rw [← hj]; omega)
      rw [consN_ne h1 (by omega)]
      split
      · have := cons_short c m (es.take (splitN es.length)) wh h1 (by rw [List.length_take]; omega) (by rw [List.length_take]; omega)
        rw [List.length_append, List.length_singleton]; omega
      · have := cons_short c (m - splitN es.length) (es.drop (splitN es.length)) false (by omega) (by rw [List.length_drop]; omega) (by rw [List.length_drop]; omega)
        rw [List.length_append, List.length_singleton]; omega
end Go.Proofs.Ytcmmhpkgjcepdaa
