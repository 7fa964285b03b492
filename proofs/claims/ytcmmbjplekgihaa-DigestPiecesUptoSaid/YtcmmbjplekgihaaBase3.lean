/- A layer over the model's own weakest preconditions: environments as functions, memory as a list of owned segments, a law for each operation; it holds of every program, on the conditions that each theorem names. -/
import Derived.Test.YtcmmbjplekgihaaBase2
import Derived.Laws.Rows
import Derived.Laws.NewBlocks
namespace Go.EW
/-! Memory that the call owns: a list of segments. -/
abbrev Chunk := Nat × Obj
abbrev Seg := List Chunk → Prop
def star (a b : Seg) : Seg := fun c => ∃ c1 c2, c = c1 ++ c2 ∧ a c1 ∧ b c2
def Segs : List Seg → Seg
  | [] => fun c => c = []
  | s :: S => star s (Segs S)
def ex {α : Type} (f : α → Seg) : Seg := fun c => ∃ a, f a c
def pr (p : Prop) : Seg := fun c => p ∧ c = []
/-- a block of cells, none of them frozen -/
def blk (b : Nat) (cs : List Value) (T : TypeId) : Seg := fun c => ∃ fr : Nat × Nat, (∀ k, k < cs.length → ¬ (fr.1 ≤ k ∧ k < fr.2)) ∧ c = [(b, .cells cs.toArray T fr)]
/-- a block of cells that bears no mark at all -/
def blk0 (b : Nat) (cs : List Value) (T : TypeId) : Seg := fun c => c = [(b, .cells cs.toArray T (0, 0))]
def mapb (b : Nat) (es : List MapEntry) (clock : Nat) : Seg := fun c => c = [(b, .map es.toArray clock)]

structure St (W w : World) (S : List Seg) : Prop where
  os : w.os = W.os
  tape : w.tape = W.tape
  output : w.output = W.output
  size : W.heap.size ≤ w.heap.size
  ro : ∀ k, k < W.heap.size → w.heap[k]? = W.heap[k]?
  own : ∃ c, Segs S c ∧ (c.map Prod.fst).Nodup ∧ ∀ x ∈ c, W.heap.size ≤ x.1 ∧ w.heap[x.1]? = some x.2

theorem Segs.perm {S S' : List Seg} (p : S.Perm S') : ∀ {c : List Chunk}, Segs S c → ∃ c', c.Perm c' ∧ Segs S' c' := by
  induction p with
  | nil => intro c h; exact ⟨c, .refl _, h⟩
  | cons s _ ih =>
    rintro c ⟨c1, c2, rfl, h1, h2⟩
    obtain ⟨c', hp, hs⟩ := ih h2
    exact ⟨c1 ++ c', hp.append_left c1, c1, c', rfl, h1, hs⟩
  | swap s t l =>
    rintro c ⟨c1, c2, rfl, h1, c3, c4, rfl, h2, h3⟩
    refine ⟨c3 ++ (c1 ++ c4), ?_, c3, _, rfl, h2, c1, c4, rfl, h1, h3⟩
    rw [← List.append_assoc, ← List.append_assoc]
    exact (List.perm_append_comm).append_right c4
  | trans _ _ ih1 ih2 =>
    intro c h
    obtain ⟨c1, p1, h1⟩ := ih1 h
    obtain ⟨c2, p2, h2⟩ := ih2 h1
    exact ⟨c2, p1.trans p2, h2⟩

section
variable {W w : World} {S : List Seg}

theorem St.perm {S' : List Seg} (H : St W w S) (p : S.Perm S') : St W w S' := by
  obtain ⟨c, hs, hn, hc⟩ := H.own
  obtain ⟨c', pc, hs'⟩ := Segs.perm p hs
  exact ⟨H.os, H.tape, H.output, H.size, H.ro, c', hs', (pc.map _).nodup_iff.1 hn, fun x hx => hc x (pc.mem_iff.2 hx)⟩

theorem perm_front : ∀ {S : List Seg} {s : Seg} {i : Nat}, S[i]? = some s → S.Perm (s :: S.eraseIdx i)
  | [], _, _, h => by simp at h
  | x :: S, s, 0, h => by simp at h; subst h; exact .refl _
  | x :: S, s, i + 1, h => by
    have := perm_front (S := S) (i := i) (s := s) (by simpa using h)
    exact (this.cons x).trans (.swap _ _ _)
theorem perm_set {t : Seg} : ∀ {S : List Seg} {s : Seg} {i : Nat}, S[i]? = some s → (t :: S.eraseIdx i).Perm (S.set i t)
  | [], _, _, h => by simp at h
  | x :: S, s, 0, h => .refl _
  | x :: S, s, i + 1, h => by
    have := perm_set (t := t) (S := S) (i := i) (s := s) (by simpa using h)
    exact (List.Perm.swap _ _ _).trans (this.cons x)
theorem St.front {s : Seg} (H : St W w S) (i : Nat) (hi : S[i]? = some s) : St W w (s :: S.eraseIdx i) := H.perm (perm_front hi)

/-- what the first segment says may be said otherwise -/
theorem St.imp {s t : Seg} (H : St W w (s :: S)) (h : ∀ c, s c → t c) : St W w (t :: S) := by
  obtain ⟨c, ⟨c1, c2, rfl, h1, h2⟩, hn, hc⟩ := H.own
  exact ⟨H.os, H.tape, H.output, H.size, H.ro, _, ⟨c1, c2, rfl, h _ h1, h2⟩, hn, hc⟩
theorem St.drop1 {s : Seg} (H : St W w (s :: S)) : St W w S := by
  obtain ⟨c, ⟨c1, c2, rfl, h1, h2⟩, hn, hc⟩ := H.own
  rw [List.map_append] at hn
  exact ⟨H.os, H.tape, H.output, H.size, H.ro, c2, h2, (List.nodup_append.1 hn).2.1, fun x hx => hc x (List.mem_append_right _ hx)⟩
theorem St.dropN (H : St W w S) (k : Nat) : St W w (S.drop k) := by
  induction k generalizing S with
  | zero => exact H
  | succ k ih =>
    cases S with
    | nil => simpa using H
    | cons s S => simpa using ih H.drop1
theorem St.star {a b : Seg} : St W w (star a b :: S) ↔ St W w (a :: b :: S) := by
  constructor
  · intro H
    obtain ⟨c, ⟨c1, c2, rfl, ⟨c3, c4, rfl, h3, h4⟩, h2⟩, hn, hc⟩ := H.own
    exact ⟨H.os, H.tape, H.output, H.size, H.ro, _, ⟨c3, c4 ++ c2, by rw [List.append_assoc], h3, c4, c2, rfl, h4, h2⟩, hn, hc⟩
  · intro H
    obtain ⟨c, ⟨c1, c2, rfl, h1, c3, c4, rfl, h3, h4⟩, hn, hc⟩ := H.own
    exact ⟨H.os, H.tape, H.output, H.size, H.ro, _, ⟨c1 ++ c3, c4, by rw [List.append_assoc], ⟨c1, c3, rfl, h1, h3⟩, h4⟩, hn, hc⟩
theorem St.ex {α : Type} {f : α → Seg} : St W w (ex f :: S) ↔ ∃ a, St W w (f a :: S) := by
  constructor
  · intro H
    obtain ⟨c, ⟨c1, c2, rfl, ⟨a, h1⟩, h2⟩, hn, hc⟩ := H.own
    exact ⟨a, H.os, H.tape, H.output, H.size, H.ro, _, ⟨c1, c2, rfl, h1, h2⟩, hn, hc⟩
  · rintro ⟨a, H⟩
    exact H.imp fun c h => ⟨a, h⟩
theorem St.pr {p : Prop} : St W w (pr p :: S) ↔ p ∧ St W w S := by
  constructor
  · intro H
    obtain ⟨c, ⟨c1, c2, rfl, ⟨h1, rfl⟩, h2⟩, hn, hc⟩ := H.own
    exact ⟨h1, H.os, H.tape, H.output, H.size, H.ro, c2, h2, hn, hc⟩
  · rintro ⟨hp, H⟩
    obtain ⟨c, h2, hn, hc⟩ := H.own
    exact ⟨H.os, H.tape, H.output, H.size, H.ro, c, ⟨[], c, rfl, ⟨hp, rfl⟩, h2⟩, hn, hc⟩
theorem St.nilseg : St W w (Segs [] :: S) ↔ St W w S := by
  constructor
  · exact St.drop1
  · intro H
    obtain ⟨c, h2, hn, hc⟩ := H.own
    exact ⟨H.os, H.tape, H.output, H.size, H.ro, c, ⟨[], c, rfl, rfl, h2⟩, hn, hc⟩
theorem St.consseg {s : Seg} {l : List Seg} : St W w (Segs (s :: l) :: S) ↔ St W w (s :: Segs l :: S) := St.star
theorem St.segs {l : List Seg} : St W w (Segs l :: S) ↔ St W w (l ++ S) := by
  induction l generalizing S with
  | nil => exact St.nilseg
  | cons s l ih =>
    rw [St.consseg]
    constructor
    · intro H
      have H := H.front 1 rfl
      have H2 : St W w (Segs l :: s :: S) := H
      have H3 := (ih.1 H2)
      exact H3.perm List.perm_middle
    · intro H
      have H2 : St W w (l ++ s :: S) := H.perm (show (s :: (l ++ S)).Perm (l ++ s :: S) from List.perm_middle.symm)
      have H3 : St W w (Segs l :: s :: S) := ih.2 H2
      exact H3.front 1 rfl

/-! the world takes a step -/
theorem St.drew (H : St W w S) : St W w.drew S := ⟨H.os, H.tape, H.output, H.size, H.ro, H.own⟩
theorem St.refl (W : World) : St W W [] := ⟨rfl, rfl, rfl, Nat.le_refl _, fun _ _ => rfl, [], rfl, List.nodup_nil, by simp⟩

theorem St.allocO {s : Seg} (H : St W w S) (o : Obj) (h : s [(w.heap.size, o)]) : St W (w.alloc o) (s :: S) := by
  obtain ⟨c, hs, hn, hc⟩ := H.own
  refine ⟨H.os, H.tape, H.output, by have := H.size; simp; omega, fun k hk => ?_, (w.heap.size, o) :: c, ⟨[_], c, rfl, h, hs⟩, ?_, ?_⟩
  · rw [heap_alloc_old _ _ _ (Nat.lt_of_lt_of_le hk H.size)]; exact H.ro k hk
  · rw [List.map_cons, List.nodup_cons]
    refine ⟨?_, hn⟩
    intro hm
    obtain ⟨x, hx, he⟩ := List.mem_map.1 hm
    have := (Array.getElem?_eq_some_iff.1 (hc x hx).2).1
    simp only at he
    omega
  · intro x hx
    rcases List.mem_cons.1 hx with rfl | hx
    · exact ⟨H.size, heap_alloc_new w o⟩
    · have := hc x hx
      refine ⟨this.1, ?_⟩
      rw [heap_alloc_old _ _ _ (Array.getElem?_eq_some_iff.1 this.2).1]
      exact this.2
theorem blk_of_blk0 {b : Nat} {cs : List Value} {T : TypeId} {c : List Chunk} (h : blk0 b cs T c) : blk b cs T c := ⟨(0, 0), by simp, h⟩
theorem St.alloc (H : St W w S) (cs : List Value) (T : TypeId) : St W (w.alloc (.cells cs.toArray T)) (blk0 w.heap.size cs T :: S) := H.allocO _ rfl
theorem St.allocMap (H : St W w S) : St W (w.alloc (.map #[] 0)) (mapb w.heap.size [] 0 :: S) := H.allocO _ rfl

/-- one block of the first segment is turned, or a new one takes its place -/
theorem St.turn {s t : Seg} {w' : World} (H : St W w (s :: S)) (hos : w'.os = w.os) (htape : w'.tape = w.tape) (hout : w'.output = w.output) (hsize : w.heap.size ≤ w'.heap.size)
    (h : ∀ c, s c → (∀ x ∈ c, W.heap.size ≤ x.1 ∧ w.heap[x.1]? = some x.2) → (c.map Prod.fst).Nodup →
      (∀ k, k < w.heap.size → k ∉ c.map Prod.fst → w'.heap[k]? = w.heap[k]?) ∧
      ∃ c', t c' ∧ (c'.map Prod.fst).Nodup ∧ ∀ x ∈ c', W.heap.size ≤ x.1 ∧ w'.heap[x.1]? = some x.2 ∧ (x.1 ∈ c.map Prod.fst ∨ w.heap.size ≤ x.1)) : St W w' (t :: S) := by
  obtain ⟨c, ⟨c1, c2, rfl, h1, h2⟩, hn, hc⟩ := H.own
  rw [List.map_append] at hn
  obtain ⟨n1, n2, n3⟩ := List.nodup_append.1 hn
  obtain ⟨hk, c', ht, hn', hc'⟩ := h c1 h1 (fun x hx => hc x (List.mem_append_left _ hx)) n1
  refine ⟨hos.trans H.os, htape.trans H.tape, hout.trans H.output, Nat.le_trans H.size hsize, ?_, c' ++ c2, ⟨c', c2, rfl, ht, h2⟩, ?_, ?_⟩
  · intro k hkW
    rw [hk k (Nat.lt_of_lt_of_le hkW H.size)]
    · exact H.ro k hkW
    · intro hm
      obtain ⟨x, hx, rfl⟩ := List.mem_map.1 hm
      have := (hc x (List.mem_append_left _ hx)).1
      omega
  · rw [List.map_append]
    refine List.nodup_append.2 ⟨hn', n2, ?_⟩
    intro a ha b hb hab
    subst hab
    obtain ⟨x, hx, rfl⟩ := List.mem_map.1 ha
    obtain ⟨y, hy, hxy⟩ := List.mem_map.1 hb
    rcases (hc' x hx).2.2 with h | h
    · exact n3 _ h _ hb rfl
    · have := (Array.getElem?_eq_some_iff.1 (hc y (List.mem_append_right _ hy)).2).1
      omega
  · intro x hx
    rcases List.mem_append.1 hx with hx | hx
    · exact ⟨(hc' x hx).1, (hc' x hx).2.1⟩
    · have := hc x (List.mem_append_right _ hx)
      refine ⟨this.1, ?_⟩
      rw [hk x.1 (Array.getElem?_eq_some_iff.1 this.2).1]
      · exact this.2
      · intro hm
        exact n3 _ hm _ (List.mem_map.2 ⟨x, hx, rfl⟩) rfl
theorem St.at_ {s t : Seg} {i : Nat} {w' : World} (hi : S[i]? = some s) (h : St W w (s :: S.eraseIdx i) → St W w' (t :: S.eraseIdx i)) (H : St W w S) : St W w' (S.set i t) :=
  (h (H.front i hi)).perm (perm_set hi)

/-! reading -/
theorem St.heap {b : Nat} {cs : List Value} {T : TypeId} {i : Nat} (H : St W w S) (hi : S[i]? = some (blk b cs T)) :
    ∃ fr : Nat × Nat, (∀ k, k < cs.length → ¬ (fr.1 ≤ k ∧ k < fr.2)) ∧ w.heap[b]? = some (.cells cs.toArray T fr) := by
  obtain ⟨c, ⟨c1, c2, rfl, ⟨fr, hf, rfl⟩, h2⟩, hn, hc⟩ := (H.front i hi).own
  exact ⟨fr, hf, (hc (b, _) (List.mem_append_left _ (List.mem_singleton.2 rfl))).2⟩
theorem St.heap0 {b : Nat} {cs : List Value} {T : TypeId} {i : Nat} (H : St W w S) (hi : S[i]? = some (blk0 b cs T)) : w.heap[b]? = some (.cells cs.toArray T (0, 0)) := by
  obtain ⟨c, ⟨c1, c2, rfl, rfl, h2⟩, hn, hc⟩ := (H.front i hi).own
  exact (hc (b, _) (List.mem_append_left _ (List.mem_singleton.2 rfl))).2
theorem St.heapM {b : Nat} {es : List MapEntry} {clock : Nat} {i : Nat} (H : St W w S) (hi : S[i]? = some (mapb b es clock)) : w.heap[b]? = some (.map es.toArray clock) := by
  obtain ⟨c, ⟨c1, c2, rfl, rfl, h2⟩, hn, hc⟩ := (H.front i hi).own
  exact (hc (b, _) (List.mem_append_left _ (List.mem_singleton.2 rfl))).2
theorem St.cell {b : Nat} {cs : List Value} {T : TypeId} {k : Nat} {v : Value} (H : St W w S) (i : Nat) (hi : S[i]? = some (blk b cs T)) (hk : cs[k]? = some v) : w.cell? ⟨b, k, none⟩ = some v := by
  obtain ⟨fr, _, h⟩ := H.heap hi
  rw [cell_of_row w b k _ T fr h]
  simpa using hk
theorem St.notFrozen {b : Nat} {cs : List Value} {T : TypeId} {k : Nat} {i : Nat} (H : St W w S) (hi : S[i]? = some (blk b cs T)) (hk : k < cs.length) : w.frozen? ⟨b, k, none⟩ = false := by
  obtain ⟨fr, hf, h⟩ := H.heap hi
  simp only [World.frozen?, h]
  have := hf k hk
  simpa using this

theorem heap_setCell_cells {b k : Nat} {cs : List Value} {T : TypeId} {fr : Nat × Nat} {v : Value} (h : w.heap[b]? = some (.cells cs.toArray T fr)) :
    (w.setCell ⟨b, k, none⟩ v).heap[b]? = some (.cells (cs.set k v).toArray T fr) := by
  simp only [World.setCell, Array.getElem?_modify, if_true, h, Option.map_some]
  simp
theorem St.setCell {b : Nat} {cs : List Value} {T : TypeId} {k : Nat} {v : Value} {i : Nat} (H : St W w S) (hi : S[i]? = some (blk b cs T)) : St W (w.setCell ⟨b, k, none⟩ v) (S.set i (blk b (cs.set k v) T)) := by
  refine St.at_ (w := w) hi (fun H => H.turn rfl rfl rfl (by simp) ?_) H
  rintro c ⟨fr, hf, rfl⟩ hc _
  refine ⟨fun j hj hne => heap_setCell_other _ _ _ _ (by simpa using hne), [(b, .cells (cs.set k v).toArray T fr)], ⟨fr, by simpa using hf, rfl⟩, by simp, ?_⟩
  intro x hx
  rw [List.mem_singleton.1 hx]
  have := hc _ (List.mem_singleton.2 rfl)
  exact ⟨this.1, heap_setCell_cells this.2, .inl (by simp)⟩
end

/-- cells that lie one behind the other -/
def Cells (w : World) (b : Nat) : Nat → List Value → Prop
  | _, [] => True
  | k, v :: l => w.cell? ⟨b, k, none⟩ = some v ∧ Cells w b (k + 1) l
theorem Cells.get {w : World} {b : Nat} : ∀ {l : List Value} {k : Nat}, Cells w b k l → ∀ j v, l[j]? = some v → w.cell? ⟨b, k + j, none⟩ = some v
  | [], _, _, _, _, h => by simp at h
  | x :: l, k, ⟨h1, h2⟩, 0, v, h => by simp at h; subst h; exact h1
  | x :: l, k, ⟨h1, h2⟩, j + 1, v, h => by
    have := Cells.get h2 j v (by simpa using h)
    rw [show k + (j + 1) = k + 1 + j by omega]
    exact this
theorem Cells.mk {w : World} {b : Nat} : ∀ {l : List Value} {k : Nat}, (∀ j v, l[j]? = some v → w.cell? ⟨b, k + j, none⟩ = some v) → Cells w b k l
  | [], _, _ => trivial
  | x :: l, k, h => ⟨h 0 x rfl, Cells.mk fun j v hj => by
    have := h (j + 1) v (by simpa using hj)
    rwa [show k + (j + 1) = k + 1 + j by omega] at this⟩
theorem Cells.sub {w : World} {b k : Nat} {l : List Value} (h : Cells w b k l) (i m : Nat) : Cells w b (k + i) ((l.drop i).take m) :=
  Cells.mk fun j v hj => by
    have : l[i + j]? = some v := by
      rw [List.getElem?_take] at hj
      split at hj
      · simpa using hj
      · cases hj
    have := h.get _ _ this
    rwa [← Nat.add_assoc] at this
theorem St.cells {W w : World} {S : List Seg} {b : Nat} {cs : List Value} {T : TypeId} (H : St W w S) (i : Nat) (hi : S[i]? = some (blk b cs T)) : Cells w b 0 cs :=
  Cells.mk fun j v hj => by rw [Nat.zero_add]; exact H.cell i hi hj
/-- a slice's cells, where the slice may be nil -/
def Rd (w : World) (a : Option Addr) (xs : List Value) : Prop := ∀ j v, xs[j]? = some v → ∃ b o, a = some ⟨b, o, none⟩ ∧ w.cell? ⟨b, o + j, none⟩ = some v
theorem Rd.mk {w : World} {b o : Nat} {xs : List Value} (h : Cells w b o xs) : Rd w (some ⟨b, o, none⟩) xs := fun j v hj => ⟨b, o, rfl, h.get j v hj⟩
theorem Rd.cells {w : World} {b o : Nat} {s : Option Nat} {xs : List Value} (h : Rd w (some ⟨b, o, s⟩) xs) : Cells w b o xs := Cells.mk fun j v hj => by
  obtain ⟨b', o', he, hc⟩ := h j v hj
  cases he
  exact hc
/-- readable as long as these segments, and what the call found, stand -/
def RdIn (W : World) (F : List Seg) (a : Option Addr) (xs : List Value) : Prop := ∀ w S, St W w (S ++ F) → Rd w a xs
theorem RdIn.use {W w : World} {F S : List Seg} {a : Option Addr} {xs : List Value} (h : RdIn W F a xs) (H : St W w S) (k : Nat) (hk : S.drop k = F) : Rd w a xs :=
  h w (S.take k) (by rw [← hk, List.take_append_drop]; exact H)
theorem RdIn.up {W : World} {F S : List Seg} {a : Option Addr} {xs : List Value} (h : RdIn W F a xs) (k : Nat) (hk : S.drop k = F) : RdIn W S a xs := fun w S' H =>
  h w (S' ++ S.take k) (by rw [← hk, List.append_assoc, List.take_append_drop]; exact H)
theorem RdIn.ro {W : World} {S : List Seg} {a : Option Addr} {xs : List Value} (h : RdIn W [] a xs) : RdIn W S a xs := fun w S' H => h w (S' ++ S) (by simpa using H)
theorem RdIn.mem {W : World} {S : List Seg} {b : Nat} {cs : List Value} {T : TypeId} (i : Nat) (hi : S[i]? = some (blk b cs T)) (k m : Nat) : RdIn W S (some ⟨b, k, none⟩) ((cs.drop k).take m) := fun w S' H => by
  refine Rd.mk ?_
  have := (H.cells (S'.length + i) (by rw [List.getElem?_append_right (by omega)]; simpa using hi)).sub k m
  rwa [Nat.zero_add] at this
theorem RdIn.rdro {W : World} {a : Option Addr} {xs : List Value} (h : Rd W a xs) : RdIn W [] a xs := fun w S H => by
  intro j v hj
  obtain ⟨b, o, ha, hc⟩ := h j v hj
  refine ⟨b, o, ha, ?_⟩
  have hlt : b < W.heap.size := World.block_lt_of_cell? W _ hc
  have := H.ro b hlt
  simp only [World.cell?, this]
  simpa [World.cell?] using hc
theorem RdIn.nil {W : World} {S : List Seg} {a : Option Addr} : RdIn W S a [] := fun _ _ _ j v h => by simp at h
end Go.EW
