/- A layer over the model's own weakest preconditions: environments as functions, memory as a list of owned segments, a law for each operation; it holds of every program, on the conditions that each theorem names. -/
import Derived.Test.YtcmmbjplekgihaaBase11
import Derived.MapKept
namespace Go.EW
/-! maps whose keys are packets' addresses and text -/
abbrev Ky := Int × Int × List UInt8
def kc (k : Ky) : List Value := [.int .i64 k.1, .int .i64 k.2.1, .string ⟨k.2.2.toArray⟩]
def kcv (k : Ky) : Value := .agg #[.int .i64 k.1, .int .i64 k.2.1, .string ⟨k.2.2.toArray⟩]
def ents : Nat → List (Ky × Int) → List MapEntry
  | _, [] => []
  | i, (k, v) :: l => { key := kcv k, val := .int .i64 v, born := i } :: ents (i + 1) l
def kmap (b : Nat) (l : List (Ky × Int)) : Seg := mapb b (ents 0 l) l.length
theorem length_ents : ∀ (i : Nat) (l : List (Ky × Int)), (ents i l).length = l.length
  | _, [] => rfl
  | i, (k, v) :: l => by simp [ents, length_ents]
theorem ents_app : ∀ (i : Nat) (l r : List (Ky × Int)), ents i (l ++ r) = ents i l ++ ents (i + l.length) r
  | i, [], r => by simp [ents]
  | i, (k, v) :: l, r => by simp only [List.cons_append, ents, ents_app (i + 1) l r, List.length_cons]; rw [show i + 1 + l.length = i + (l.length + 1) by omega]
theorem ents_get : ∀ (i : Nat) (l : List (Ky × Int)) (j : Nat) (k : Ky) (v : Int), l[j]? = some (k, v) → (ents i l)[j]? = some { key := kcv k, val := .int .i64 v, born := i + j }
  | _, [], j, k, v, h => by simp at h
  | i, (k', v') :: l, 0, k, v, h => by simp at h; obtain ⟨rfl, rfl⟩ := h; simp [ents]
  | i, (k', v') :: l, j + 1, k, v, h => by
    have := ents_get (i + 1) l j k v (by simpa using h)
    simp only [ents, List.getElem?_cons_succ, this]
    rw [show i + 1 + j = i + (j + 1) by omega]
/-- what a key is worth; where -/
def kget (k : Ky) (l : List (Ky × Int)) : Option Int := (l.find? fun p => decide (p.1 = k)).map (·.2)
def kgetI (k : Ky) : List (Ky × Int) → Nat → Option (Nat × Int)
  | [], _ => none
  | p :: l, i => if p.1 = k then some (i, p.2) else kgetI k l (i + 1)
theorem kgetI_kget (k : Ky) : ∀ (l : List (Ky × Int)) (i : Nat), (kgetI k l i).map (·.2) = kget k l
  | [], _ => rfl
  | p :: l, i => by
    simp only [kgetI, kget, List.find?_cons]
    by_cases h : p.1 = k
    · simp [h]
    · simp only [h, if_false, decide_false]; exact kgetI_kget k l (i + 1)
theorem kgetI_some (k : Ky) : ∀ (l : List (Ky × Int)) (i j : Nat) (v : Int), kgetI k l i = some (j, v) → i ≤ j ∧ l[j - i]? = some (k, v)
  | [], _, _, _, h => by simp [kgetI] at h
  | p :: l, i, j, v, h => by
    simp only [kgetI] at h
    split at h
    · rename_i hp
      simp only [Option.some.injEq, Prod.mk.injEq] at h
      obtain ⟨rfl, rfl⟩ := h
      exact ⟨Nat.le_refl _, by subst hp; simp⟩
    · obtain ⟨h1, h2⟩ := kgetI_some k l (i + 1) j v h
      refine ⟨by omega, ?_⟩
      rw [show j - i = (j - (i + 1)) + 1 by omega]
      simpa using h2
/-- the key's type, as the table has it -/
def kyB (P : Program) (T : TypeId) : Bool :=
  match P.underlying T with
  | some (.struct fs) => fs.toList.all (fun f => f.name != "_") && (match flatK P 8 T with | some [.int .i64, .int .i64, .str] => true | _ => false) && (match fs.toList with | [f, g, h] => f.offset == 0 && g.offset == 1 && h.offset == 2 && cell1B P f.type && cell1B P g.type && cell1B P h.type && (match P.underlying f.type, P.underlying g.type, P.underlying h.type with | some (.int _), some (.int _), some .string => true | _, _, _ => false) | _ => false)
  | _ => false
def mapB (P : Program) (M T E : TypeId) : Bool := match P.underlying M with | some (.map k e) => k == T && e == E | _ => false
section
variable {P : Program} {w : World}
theorem fit_kc (k : Ky) : Fit [.int .i64, .int .i64, .str] (kc k) := ⟨⟨_, rfl⟩, ⟨_, rfl⟩, ⟨_, rfl⟩, trivial⟩
theorem eq_kc (a b : Ky) : eqL (kc a) (kc b) = decide (b = a) := by
  obtain ⟨a1, a2, a3⟩ := a
  obtain ⟨b1, b2, b3⟩ := b
  rw [Bool.eq_iff_iff]
  simp only [kc, eqL, eqC, Bool.and_true, Bool.and_eq_true, beq_iff_eq, decide_eq_true_eq, Prod.mk.injEq, ByteArray.toList_eq]
  constructor
  · rintro ⟨rfl, rfl, h⟩; exact ⟨rfl, rfl, by simpa using h.symm⟩
  · rintro ⟨rfl, rfl, rfl⟩; exact ⟨rfl, rfl, rfl⟩
theorem run_eqKy {T : TypeId} (hT : kyB P T = true) (a b : Ky) (w : World) : (Op.equal T (kcv a) (kcv b)).run P w = .ok (decide (b = a)) w := by
  unfold kyB at hT
  split at hT
  · rename_i fs hu
    simp only [Bool.and_eq_true] at hT
    obtain ⟨⟨_, h2⟩, _⟩ := hT
    split at h2
    · rename_i hk
      have := run_eqFlat (P := P) 9992 8 T _ hk (kc a) (kc b) w (fit_kc a) (fit_kc b)
      rw [eq_kc] at this
      simp only [mkV, hu] at this
      exact this
    · cases h2
  · cases hT
theorem run_checkPlain {em : Bool} {n : Nat} {t : TypeId} {v : Value} (h : (match P.underlying t with | some (.int _) | some .string => true | _ => false) = true) : (Instr.checkKey em (n + 1) t v).run P w = .ok () w := by
  cases hu : P.underlying t with
  | none => rw [hu] at h; cases h
  | some u =>
    rw [hu] at h
    cases u <;> simp only at h <;> first
      | (cases h; done)
      | (simp [Instr.checkKey, run_underlying hu])
theorem run_checkKy {T : TypeId} (hT : kyB P T = true) (em : Bool) (k : Ky) : (Instr.checkKey em 10000 T (kcv k)).run P w = .ok () w := by
  unfold kyB at hT
  split at hT
  · rename_i fs hu
    simp only [Bool.and_eq_true] at hT
    obtain ⟨⟨h1, _⟩, h3⟩ := hT
    split at h3
    · rename_i f g h hfs
      simp only [Bool.and_eq_true, beq_iff_eq] at h3
      obtain ⟨⟨⟨⟨⟨⟨o1, o2⟩, o3⟩, c1⟩, c2⟩, c3⟩, hm⟩ := h3
      split at hm
      · rename_i e1 e2 e3
        rw [hfs] at h1
        simp only [List.all_cons, List.all_nil, Bool.and_true, Bool.and_eq_true, bne_iff_ne, ne_eq] at h1
        obtain ⟨n1, n2, n3⟩ := h1
        rw [show (10000 : Nat) = 9998 + 1 + 1 from rfl, Instr.checkKey]
        simp only [Sem.run_bind, run_underlying hu, Result.andThen_ok, kcv]
        rw [← Array.forIn_toList, hfs]
        have p1 : (part f.type #[Value.int .i64 k.1, .int .i64 k.2.1, .string ⟨k.2.2.toArray⟩] f.offset).run P w = .ok (.int .i64 k.1) w := by simp [part, run_isAgg e1, oneD, o1]
        have p2 : (part g.type #[Value.int .i64 k.1, .int .i64 k.2.1, .string ⟨k.2.2.toArray⟩] g.offset).run P w = .ok (.int .i64 k.2.1) w := by simp [part, run_isAgg e2, oneD, o2]
        have p3 : (part h.type #[Value.int .i64 k.1, .int .i64 k.2.1, .string ⟨k.2.2.toArray⟩] h.offset).run P w = .ok (.string ⟨k.2.2.toArray⟩) w := by simp [part, run_isAgg e3, oneD, o3]
        have q1 : ∀ v, (Instr.checkKey em (9998 + 1) f.type v).run P w = .ok () w := fun v => run_checkPlain (by rw [e1])
        have q2 : ∀ v, (Instr.checkKey em (9998 + 1) g.type v).run P w = .ok () w := fun v => run_checkPlain (by rw [e2])
        have q3 : ∀ v, (Instr.checkKey em (9998 + 1) h.type v).run P w = .ok () w := fun v => run_checkPlain (by rw [e3])
        simp only [List.forIn_cons, List.forIn_nil, Sem.run_bind, n1, n2, n3, not_false_eq_true, if_true, ne_eq, p1, p2, p3, q1, q2, q3, Result.andThen_ok, Sem.run_pure]
      · cases hm
    · cases h3
  · cases hT
theorem run_asking {T : TypeId} (hT : kyB P T = true) (k : Ky) : ∀ (l : List (Ky × Int)) (i s : Nat) (w : World), (Instr.findAsking T (kcv k) (ents s l) i).run P w = .ok ((kgetI k l i).map fun p => (p.1, .int .i64 p.2)) w
  | [], _, _, _ => rfl
  | (k', v) :: l, i, s, w => by
    simp only [ents, Instr.findAsking, Sem.run_bind, run_eqKy hT k k' w, Result.andThen_ok, kgetI]
    by_cases h : k' = k
    · simp [h]
    · simp only [h, decide_false, Bool.false_eq_true, if_false]
      exact run_asking hT k l (i + 1) (s + 1) w
theorem run_findKy {T : TypeId} (hT : kyB P T = true) (k : Ky) (l : List (Ky × Int)) : (Instr.findKey T (kcv k) (ents 0 l)).run P w = .ok ((kgetI k l 0).map fun p => (p.1, .int .i64 p.2)) w := by
  have hT' := hT
  unfold kyB at hT'
  split at hT'
  · rename_i fs hu
    unfold Instr.findKey
    simp only [Sem.run_bind, run_underlying hu, Result.andThen_ok]
    cases l with
    | nil => simp [ents, Instr.findNow, kgetI]
    | cons p l =>
      obtain ⟨k', v⟩ := p
      have : Instr.findNow (.struct fs) (kcv k) (ents 0 ((k', v) :: l)) 0 = none := by simp [ents, Instr.findNow, Instr.sameNow]
      rw [this]
      exact run_asking hT k _ 0 0 w
  · cases hT'
theorem map_spec {M T E : TypeId} (h : mapB P M T E = true) : P.underlying M = some (.map T E) := by
  unfold mapB at h
  split at h
  · rename_i k e hu
    simp only [Bool.and_eq_true, beq_iff_eq] at h
    rw [hu, h.1, h.2]
  · cases h
theorem run_getMap {b : Nat} {es : Array MapEntry} {c : Nat} (h : w.heap[b]? = some (.map es c)) : (getObj b).run P w = .ok (.map es c) w := by simp [getObj, Sem.run, h]
/-- v, ok := m[k] -/
theorem q_lookup2 {e : Operand → Value} {o : Oper} {M T E : TypeId} {x i : Operand} {b : Nat} {l : List (Ky × Int)} {k : Ky} (ho : o.op = .lookup M x i true) (hM : mapB P M T E = true) (hT : kyB P T = true) (hz : zeroV P E = some (.int .i64 0))
    (hx : e x = .map (some b)) (hi : e i = kcv k) (hb : w.heap[b]? = some (.map (ents 0 l).toArray l.length)) :
    (execOp e o).run P w = .ok (.value (.tuple #[.int .i64 ((kget k l).getD 0), .bool (kget k l).isSome])) w := by
  unfold execOp
  simp only [ho, hx, hi, Instr.lookup, Sem.run_bind, run_underlying (map_spec hM), Result.andThen_ok, run_getMap hb, Sem.run_pure, run_checkKy hT, run_findKy hT]
  rw [← kgetI_kget k l 0]
  cases kgetI k l 0 with
  | none => simp [run_zero hz]
  | some p => simp
theorem q_lookup1 {e : Operand → Value} {o : Oper} {M T E : TypeId} {x i : Operand} {b : Nat} {l : List (Ky × Int)} {k : Ky} (ho : o.op = .lookup M x i false) (hM : mapB P M T E = true) (hT : kyB P T = true) (hz : zeroV P E = some (.int .i64 0))
    (hx : e x = .map (some b)) (hi : e i = kcv k) (hb : w.heap[b]? = some (.map (ents 0 l).toArray l.length)) :
    (execOp e o).run P w = .ok (.value (.int .i64 ((kget k l).getD 0))) w := by
  unfold execOp
  simp only [ho, hx, hi, Instr.lookup, Sem.run_bind, run_underlying (map_spec hM), Result.andThen_ok, run_getMap hb, Sem.run_pure, run_checkKy hT, run_findKy hT]
  rw [← kgetI_kget k l 0]
  cases kgetI k l 0 with
  | none => simp [run_zero hz]
  | some p => simp
theorem run_setMap {b : Nat} {es es' : Array MapEntry} {c c' : Nat} (h : w.heap[b]? = some (.map es c)) : (setObj b (.map es' c')).run P w = .ok () { w with heap := w.heap.setIfInBounds b (.map es' c') } := by
  simp [setObj, Sem.run, h]
theorem St.setMap {W : World} {S : List Seg} {b : Nat} {es es' : List MapEntry} {c c' i : Nat} (H : St W w S) (hi : S[i]? = some (mapb b es c)) :
    St W { w with heap := w.heap.setIfInBounds b (.map es'.toArray c') } (S.set i (mapb b es' c')) := by
  refine St.at_ (w := w) hi (fun H => H.turn rfl rfl rfl (by simp) ?_) H
  rintro ch rfl hc _
  have hb := hc _ (List.mem_singleton.2 rfl)
  have hlt := (Array.getElem?_eq_some_iff.1 hb.2).1
  refine ⟨fun j hj hne => ?_, [(b, .map es'.toArray c')], rfl, by simp, ?_⟩
  · have : b ≠ j := by simpa using Ne.symm (by simpa using hne)
    simp [this]
  · intro x hx
    rw [List.mem_singleton.1 hx]
    refine ⟨hb.1, ?_, .inl (by simp)⟩
    simp only at hlt
    simp [hlt]
variable {n : Nat} {Q : Post} {ρ : Env} {W : World} {S : List Seg} {ops : Array Oper} {rest : List Oper} {d : Nat} {ty : TypeId} {ps : String} {af : Array Edge} {gd : Option (Nat × Bool)}
/-- m[k] = v, where k is new -/
theorem b_mapNew {M T E : TypeId} {x y z : Operand} {b : Nat} {l : List (Ky × Int)} {k : Ky} {v : Int} (hg : gst n ops ρ ⟨none, .mapUpdate M x y z, ty, ps, af, gd⟩ = some true) (hM : mapB P M T E = true) (hT : kyB P T = true)
    (hx : ev n ρ x = .map (some b)) (hy : ev n ρ y = kcv k) (hz : ev n ρ z = .int .i64 v) (hk : kget k l = none) (H : St W w S) (i : Nat) (hi : S[i]? = some (kmap b l))
    (h : ∀ w', St W w' (S.set i (kmap b (l ++ [(k, v)]))) → L P n ops rest Q ρ w') : L P n ops (⟨none, .mapUpdate M x y z, ty, ps, af, gd⟩ :: rest) Q ρ w := by
  have hb := H.heapM hi
  refine l_do (o := ⟨none, .mapUpdate M x y z, ty, ps, af, gd⟩) (w' := { w with heap := w.heap.setIfInBounds b (.map (ents 0 (l ++ [(k, v)])).toArray (l ++ [(k, v)]).length) }) hg ?_ (h _ (H.setMap hi))
  have hn : kgetI k l 0 = none := by
    have := kgetI_kget k l 0
    rw [hk] at this
    simpa using this
  unfold execOp
  simp only [hx, hy, hz, Instr.mapUpdate, Sem.run_bind, run_underlying (map_spec hM), Result.andThen_ok, run_getMap hb, run_checkKy hT, run_findKy hT, hn, Option.map_none, run_setMap hb, Sem.run_pure]
  rw [ents_app]
  simp [ents]
def midK (k : Ky) (l : List (Ky × Int)) : List (Ky × Int) := match kgetI k l 0 with | some _ => l | none => l ++ [(k, 0)]
def idxK (k : Ky) (l : List (Ky × Int)) : Nat := match kgetI k l 0 with | some p => p.1 | none => l.length
def updK (k : Ky) (v : Int) (l : List (Ky × Int)) : List (Ky × Int) := (midK k l).set (idxK k l) (k, v)
theorem kget_midK (k : Ky) (l : List (Ky × Int)) : (kget k (midK k l)).getD 0 = (kget k l).getD 0 := by
  unfold midK
  cases h : kgetI k l 0 with
  | some p => rfl
  | none =>
    have := kgetI_kget k l 0
    rw [h] at this
    have hn : kget k l = none := by simpa using this.symm
    rw [hn]
    simp only [kget, List.find?_append] at hn ⊢
    have : l.find? (fun p => decide (p.1 = k)) = none := by simpa using hn
    simp [this]
theorem modify_self {es : List MapEntry} {j : Nat} {f : MapEntry → MapEntry} {e : MapEntry} (h : es[j]? = some e) (hf : f e = e) : es.toArray.modify j f = es.toArray := by
  apply Array.ext
  · simp
  · intro i h1 h2
    rw [Array.getElem_modify]
    split
    · rename_i hij
      subst hij
      have : es.toArray[j] = e := by
        have := (List.getElem?_eq_some_iff.1 h).2
        simpa using this
      rw [this, hf]
    · rfl
theorem sameBits_kcv (k : Ky) : Instr.sameBits 10000 (kcv k) (kcv k) = true := by
  rw [show (10000 : Nat) = 9999 + 1 from rfl]
  simp [kcv, Instr.sameBits, beq_toListBytes]
/-- the first half of m[k]++ -/
theorem b_mapEntry {M T E : TypeId} {x y : Operand} {b : Nat} {l : List (Ky × Int)} {k : Ky} (hg : gst n ops ρ ⟨some d, .mapEntry M x y, ty, ps, af, gd⟩ = some true) (hM : mapB P M T E = true) (hT : kyB P T = true) (hz : zeroV P E = some (.int .i64 0))
    (hx : ev n ρ x = .map (some b)) (hy : ev n ρ y = kcv k) (H : St W w S) (i : Nat) (hi : S[i]? = some (kmap b l))
    (h : ∀ w', St W w' (S.set i (kmap b (midK k l))) → L P n ops rest Q (upd ρ d (.tuple #[.int .i64 ((kget k l).getD 0), .int .i64 (idxK k l : Int)])) w') : L P n ops (⟨some d, .mapEntry M x y, ty, ps, af, gd⟩ :: rest) Q ρ w := by
  have hb := H.heapM hi
  refine l_val (o := ⟨some d, .mapEntry M x y, ty, ps, af, gd⟩) (w' := { w with heap := w.heap.setIfInBounds b (.map (ents 0 (midK k l)).toArray (midK k l).length) }) hg ?_ (h _ (H.setMap hi))
  unfold execOp
  simp only [hx, hy, Instr.mapEntry, Sem.run_bind, run_underlying (map_spec hM), Result.andThen_ok, run_getMap hb, run_checkKy hT, run_findKy hT]
  have hlk := kgetI_kget k l 0
  unfold midK idxK
  cases hf : kgetI k l 0 with
  | none =>
    rw [hf] at hlk
    have hn : kget k l = none := by simpa using hlk.symm
    simp only [Option.map_none, Sem.run_bind, run_zero hz, Result.andThen_ok, run_setMap hb, Sem.run_pure, hn, Option.getD_none, goInt]
    rw [ents_app]
    simp [ents]
  | some p =>
    obtain ⟨j, v⟩ := p
    rw [hf] at hlk
    obtain ⟨_, hj⟩ := kgetI_some k l 0 j v hf
    have he := ents_get 0 l j k v (by simpa using hj)
    have hs : kget k l = some v := by simpa using hlk.symm
    have hg2 : (ents 0 l).toArray[j]? = some { key := kcv k, val := .int .i64 v, born := 0 + j } := by simpa using he
    have hmod := modify_self (f := fun e : MapEntry => { e with key := kcv k }) he rfl
    simp only [Option.map_some, Sem.run_bind, hg2, Option.getD_some, Instr.keyThatStays, sameBits_kcv, if_true, Sem.run_pure, Result.andThen_ok, run_setMap hb, hs, goInt]
    rw [hmod]
    simp
theorem ents_set : ∀ (i : Nat) (l : List (Ky × Int)) (j : Nat) (k : Ky) (v u : Int), l[j]? = some (k, u) → (ents i l).toArray.modify j (fun e => { e with val := .int .i64 v }) = (ents i (l.set j (k, v))).toArray := by
  intro i l j k v u h
  apply Array.ext
  · simp [length_ents]
  · intro x h1 h2
    have hx : x < l.length := by simpa [length_ents] using h1
    rw [Array.getElem_modify]
    have e1 : (ents i l)[x]'(by simpa [length_ents] using hx) = { key := kcv (l[x]).1, val := .int .i64 (l[x]).2, born := i + x } := by
      have := ents_get i l x (l[x]).1 (l[x]).2 (by simp [hx])
      exact (List.getElem?_eq_some_iff.1 this).2
    split
    · rename_i hjx
      subst hjx
      have hlj : l[j] = (k, u) := (List.getElem?_eq_some_iff.1 h).2
      have := ents_get i (l.set j (k, v)) j k v (by simp [hx])
      have e2 := (List.getElem?_eq_some_iff.1 this).2
      simp only [List.getElem_toArray, e1, e2, hlj]
    · rename_i hjx
      have := ents_get i (l.set j (k, v)) x (l[x]).1 (l[x]).2 (by simp [hx, hjx])
      have e2 := (List.getElem?_eq_some_iff.1 this).2
      simp only [List.getElem_toArray, e1, e2]
theorem find_born : ∀ (i : Nat) (l : List (Ky × Int)) (j : Nat), j < l.length → (ents i l).findIdx? (fun e => (e.born : Int) == ((i + j : Nat) : Int)) = some j
  | _, [], _, h => by simp at h
  | i, (k, v) :: l, 0, _ => by simp [ents, List.findIdx?_cons]
  | i, (k, v) :: l, j + 1, h => by
    have ih := find_born (i + 1) l j (by simpa using h)
    rw [show i + 1 + j = i + (j + 1) by omega] at ih
    simp only [ents, List.findIdx?_cons]
    have : ((i : Int) == ((i + (j + 1) : Nat) : Int)) = false := by simp; omega
    rw [this, ih]
    simp
/-- the second half -/
theorem b_entryStore {M : TypeId} {x y z : Operand} {b j : Nat} {m : List (Ky × Int)} {k : Ky} {u v : Int} (hg : gst n ops ρ ⟨none, .entryStore M x y z, ty, ps, af, gd⟩ = some true)
    (hx : ev n ρ x = .map (some b)) (hy : ev n ρ y = .int .i64 (j : Int)) (hz : ev n ρ z = .int .i64 v) (hj : m[j]? = some (k, u)) (H : St W w S) (i : Nat) (hi : S[i]? = some (kmap b m))
    (h : ∀ w', St W w' (S.set i (kmap b (m.set j (k, v)))) → L P n ops rest Q ρ w') : L P n ops (⟨none, .entryStore M x y z, ty, ps, af, gd⟩ :: rest) Q ρ w := by
  have hb := H.heapM hi
  have hH : St W { w with heap := w.heap.setIfInBounds b (.map (ents 0 (m.set j (k, v))).toArray m.length) } (S.set i (kmap b (m.set j (k, v)))) := by
    have := H.setMap (es' := ents 0 (m.set j (k, v))) (c' := m.length) hi
    unfold kmap
    rw [List.length_set]
    exact this
  refine l_do (o := ⟨none, .entryStore M x y z, ty, ps, af, gd⟩) hg ?_ (h _ hH)
  have hfb := find_born 0 m j (List.getElem?_eq_some_iff.1 hj).1
  rw [Nat.zero_add] at hfb
  have hfb' : (ents 0 m).toArray.findIdx? (fun e => (e.born : Int) == (j : Int)) = some j := by simpa using hfb
  unfold execOp
  simp only [hx, hy, hz, Instr.entryStore, Sem.run_bind, Result.andThen_ok, run_getMap hb, asInt, asIntOf, Sem.run_pure, hfb', run_setMap hb, ents_set 0 m j k v u hj]
theorem midK_idx (k : Ky) (l : List (Ky × Int)) : ∃ u, (midK k l)[idxK k l]? = some (k, u) := by
  unfold midK idxK
  cases hf : kgetI k l 0 with
  | none => exact ⟨0, by simp⟩
  | some p =>
    obtain ⟨j, v⟩ := p
    have := (kgetI_some k l 0 j v hf).2
    exact ⟨v, by simpa using this⟩
theorem Sx.heapM {S0 : List Seg} {b : Nat} {es : List MapEntry} {clock : Nat} (h : Sx W S0 w) (i : Nat) (hi : S0[i]? = some (mapb b es clock)) : w.heap[b]? = some (.map es.toArray clock) := by
  obtain ⟨X, H⟩ := h
  refine St.heapM (i := i) H ?_
  rw [List.getElem?_append_left (List.getElem?_eq_some_iff.1 hi).1]; exact hi
end
end Go.EW
