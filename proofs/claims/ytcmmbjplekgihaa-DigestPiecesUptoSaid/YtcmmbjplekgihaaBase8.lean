/- A layer over the model's own weakest preconditions: environments as functions, memory as a list of owned segments, a law for each operation; it holds of every program, on the conditions that each theorem names. -/
import Derived.Test.YtcmmbjplekgihaaBase7
namespace Go.EW
/-! slicing -/
/-- a bound of a slice expression: absent, or a number between 0 and the top -/
def Bnd (v : Option Value) (dflt top r : Nat) : Prop := (v = none ∧ r = dflt) ∨ ∃ k j, v = some (.int k j) ∧ 0 ≤ j ∧ j ≤ (top : Int) ∧ r = j.toNat
theorem Bnd.none {dflt top : Nat} : Bnd none dflt top dflt := .inl ⟨rfl, rfl⟩
theorem Bnd.mk {k : IntKind} {j : Int} {dflt top : Nat} (h : 0 ≤ j ∧ j ≤ (top : Int)) : Bnd (some (.int k j)) dflt top j.toNat := .inr ⟨k, j, rfl, h.1, h.2, rfl⟩
theorem Bnd.nat {k : IntKind} {j dflt top : Nat} (h : j ≤ top) : Bnd (some (.int k (j : Int))) dflt top j := .inr ⟨k, j, rfl, by omega, by omega, by simp⟩
section
variable {P : Program} {n : Nat} {Q : Post} {ρ : Env} {W w : World} {S : List Seg}
theorem run_bound (k : IntKind) (j : Int) (y : Nat) (c : BoundsCode) (h : 0 ≤ j ∧ j ≤ (y : Int)) : (Instr.sliceBound (.int k j) y c).run P w = .ok j.toNat w := by
  simp [Instr.sliceBound, asIntOf, h]
theorem run_sliceBounds {isS : Bool} {len cap l h m : Nat} {lo hi mx : Option Value} (hm : Bnd mx cap cap m) (hh : Bnd hi len m h) (hl : Bnd lo 0 h l) (hx : mx.isSome = true → hi.isSome = true) :
    (Instr.sliceBounds isS len cap lo hi mx).run P w = .ok (l, h, m) w := by
  unfold Instr.sliceBounds
  rcases hm with ⟨rfl, rfl⟩ | ⟨km, jm, rfl, hm0, hm1, rfl⟩ <;> rcases hh with ⟨rfl, rfl⟩ | ⟨kh, jh, rfl, hh0, hh1, rfl⟩ <;> rcases hl with ⟨rfl, rfl⟩ | ⟨kl, jl, rfl, hl0, hl1, rfl⟩ <;>
    first
      | (simp at hx; done)
      | simp only [Sem.run_bind, Sem.run_pure, Result.andThen_ok, run_bound, *, and_self]
/-- the address of a part of a slice -/
def subA (a : Option Addr) (sz l m : Nat) : Option Addr := if m = l then a else a.map (·.add (l * sz))
theorem q_slice {e : Operand → Value} {o : Oper} {T E : TypeId} {sz by_ : Nat} {x : Operand} {lo hi mx : Option Operand} {a : Option Addr} {len cap l h m : Nat} (ho : o.op = .slice T x lo hi mx) (hT : elT P T = some (E, sz, by_))
    (hx : e x = .slice a len cap) (hm : Bnd (mx.map e) cap cap m) (hh : Bnd (hi.map e) len m h) (hl : Bnd (lo.map e) 0 h l) (hmx : (mx.map e).isSome = true → (hi.map e).isSome = true) :
    (execOp e o).run P w = .ok (.value (.slice (subA a sz l m) (h - l) (m - l))) w := by
  obtain ⟨i, hu, hi', rfl, rfl⟩ := elT_spec hT
  have hb := run_sliceBounds (P := P) (w := w) (isS := true) hm hh hl hmx
  unfold execOp
  simp only [ho, hx, Instr.sliceAt, Instr.slice, Sem.run_bind, run_underlying hu, Result.andThen_ok, hb, run_sizeOf hi', Sem.run_pure]
  rfl
theorem q_sliceStr {e : Operand → Value} {o : Oper} {T : TypeId} {x : Operand} {lo hi : Option Operand} {s : ByteArray} {l h : Nat} (ho : o.op = .slice T x lo hi none) (hT : isStrT P T = true)
    (hx : e x = .string s) (hh : Bnd (hi.map e) s.size s.size h) (hl : Bnd (lo.map e) 0 h l) :
    (execOp e o).run P w = .ok (.value (.string (s.extract l h))) w := by
  have hu : P.underlying T = some .string := by unfold isStrT at hT; split at hT <;> first | assumption | cases hT
  have hb := run_sliceBounds (P := P) (w := w) (isS := false) (mx := none) Bnd.none hh hl (by simp)
  unfold execOp
  simp only [ho, hx, Instr.sliceAt, Instr.slice, Sem.run_bind, run_underlying hu, Result.andThen_ok, Option.map_none, Option.isSome_none, Bool.false_eq_true, if_false, hb, Sem.run_pure]
theorem q_sliceArr {e : Operand → Value} {o : Oper} {T E : TypeId} {sz k b len : Nat} {x : Operand} {lo hi mx : Option Operand} {l h m : Nat} (ho : o.op = .slice T x lo hi mx) (hT : arrT P T = some (len, E, sz))
    (hx : e x = .pointer (some ⟨b, k, none⟩)) (hm : Bnd (mx.map e) len len m) (hh : Bnd (hi.map e) len m h) (hl : Bnd (lo.map e) 0 h l) (hmx : (mx.map e).isSome = true → (hi.map e).isSome = true) :
    (execOp e o).run P w = .ok (.value (.slice (subA (some ⟨b, k, none⟩) sz l m) (h - l) (m - l))) w := by
  obtain ⟨i, hu, hi', rfl⟩ := arrT_spec hT
  have hb := run_sliceBounds (P := P) (w := w) (isS := false) hm hh hl hmx
  unfold execOp
  simp only [ho, hx, Instr.sliceAt, Instr.sureAddr, Sem.run_bind, run_underlying hu, Result.andThen_ok, hb, run_sizeOf hi', Sem.run_pure]
  unfold subA
  split <;> rfl
/-- what a part of a slice reads -/
theorem Rd.subA {a : Option Addr} {xs : List Value} {sz l m : Nat} {j : Nat} (h : Rd w a xs) (hm : m = l → j = 0 ∨ l = 0) : Rd w (subA a sz l m) ((xs.drop (l * sz)).take j) := by
  intro i v hi
  rw [List.getElem?_take] at hi
  split at hi
  · rename_i hij
    rw [List.getElem?_drop] at hi
    obtain ⟨b, o, ha, hc⟩ := h _ v hi
    unfold EW.subA
    split
    · rename_i hml
      rcases hm hml with h0 | h0
      · omega
      · subst h0
        exact ⟨b, o, ha, by simpa using hc⟩
    · refine ⟨b, o + l * sz, by simp [ha, add_mk], ?_⟩
      rw [Nat.add_assoc]; exact hc
  · cases hi
theorem RdIn.subA {a : Option Addr} {xs : List Value} {sz l m : Nat} {j : Nat} (h : RdIn W S a xs) (hm : m = l → j = 0 ∨ l = 0) : RdIn W S (subA a sz l m) ((xs.drop (l * sz)).take j) :=
  fun w S' H => (h w S' H).subA hm

/-! copying into a block -/
theorem l_copy {ops : Array Oper} {o : Oper} {rest : List Oper} {T T' E E' : TypeId} {sz by_ : Nat} {d s : Operand} {b k dl dc sl sc : Nat} {a2 : Option Addr} {cs ys : List Value} (hg : gst n ops ρ o = some true)
    (ho : o.op = .call { callee := .builtin .copy, args := #[d, s], argTypes := #[T, T'] }) (hT : elT P T = some (E, sz, by_)) (hd : ev n ρ d = .slice (some ⟨b, k, none⟩) dl dc) (hs : ev n ρ s = .slice a2 sl sc)
    (H : St W w S) (i : Nat) (hi : S[i]? = some (blk b cs E')) (hr : Rd w a2 ys) (hy : ys.length = (min sl dl) * sz) (hk : k + ys.length ≤ cs.length) (h1 : ∀ u ∈ ys, u.oneCell' = true)
    (h : ∀ w', St W w' (S.set i (blk b (putL cs k ys) E')) → L P n ops rest Q (putE ρ o.dst (.int .i64 ((min sl dl : Nat) : Int))) w') : L P n ops (o :: rest) Q ρ w := by
  obtain ⟨inf, hu, hin, rfl, rfl⟩ := elT_spec hT
  have hst := run_storeCells_blk (P := P) (k := k) H hi hk h1
  have hf := firstCells_rd' (P := P) (w := w) (k := min sl dl) (len := sl) (cap := sc) hr hy
  refine l_val (v := .int .i64 ((min sl dl : Nat) : Int)) (w' := w.setCells b k ys) hg ?_ (h _ (H.setCells hi))
  unfold execOp
  simp only [ho, resolve, invoke, builtin, Sem.run_bind, Sem.run_pure, Result.andThen_ok, List.map_toArray, List.map_cons, List.map_nil, hs, hd, Builtin.copy_]
  simp [run_underlying hu, Builtin.lenOf, run_sizeOf hin, goInt, Nat.min_def]
  have : (Builtin.firstCells inf.size (if sl ≤ dl then sl else dl) (Value.slice a2 sl sc)).run P w = .ok ys.toArray w := by
    have := hf
    rwa [Nat.min_def] at this
  simp [this, hst]
/-! text -/
theorem q_bytesStr {e : Operand → Value} {o : Oper} {x : Operand} {T T' : TypeId} {a : Option Addr} {len cap : Nat} {bs : List UInt8} (ho : o.op = .convert T T' x) (hT : isBytesT P T = true) (hT' : isStrT P T' = true)
    (hx : e x = .slice a len cap) (hr : Rd w a (bs.map B)) (hl : bs.length = len) : (execOp e o).run P w = .ok (.value (.string ⟨bs.toArray⟩)) w := by
  have hu : P.underlying T' = some .string := by unfold isStrT at hT'; split at hT' <;> first | assumption | cases hT'
  unfold isBytesT at hT
  split at hT
  · rename_i E hs
    split at hT
    · rename_i hE
      unfold execOp
      simp only [ho, hx, Sem.run_bind, run_convert_bytes_string w T T' E a len cap hs hE hu]
      cases a with
      | none =>
        have : bs = [] := by
          cases bs with
          | nil => rfl
          | cons u bs => obtain ⟨b, o, he, _⟩ := hr 0 (B u) rfl; cases he
        subst this
        simp [Conv.bytesToString]
        rfl
      | some ad =>
        have hlc : (loadCells ad len).run P w = .ok ((bs.map fun u => (u.toNat : Int)).map (Value.int .u8)).toArray w := by
          have := run_loadCells_list (P := P) w ad (bs.map B) hr.at
          rw [List.length_map, hl] at this
          rw [this, List.map_map]
          rfl
        rw [run_bytesToString w ad len cap _ hlc]
        simp only [Result.andThen_ok, Sem.run_pure]
        have : ∀ (l : List UInt8) (s : ByteArray), (l.map fun u => (u.toNat : Int)).foldl (fun r n => r.push (UInt8.ofNat n.toNat)) s = ⟨s.data ++ l.toArray⟩ := by
          intro l
          induction l with
          | nil => intro s; simp
          | cons u l ih =>
            intro s
            simp only [List.map_cons, List.foldl_cons, ih]
            simp [ByteArray.push]
        rw [this]
        simp
    · cases hT
  · cases hT
theorem l_strBytes {ops : Array Oper} {o : Oper} {rest : List Oper} {x : Operand} {T T' E by_ : Nat} {s : ByteArray} (hg : gst n ops ρ o = some true) (ho : o.op = .convert T T' x) (hT : isStrT P T = true) (hT' : isBytesT P T' = true) (hE : elT P T' = some (E, 1, by_))
    (hx : ev n ρ x = .string s) (H : St W w S)
    (h : ∀ b cap spare w', s.size + spare.length = cap → St W w' (blk b (s.data.toList.map B ++ spare) E :: S) → L P n ops rest Q (putE ρ o.dst (.slice (some ⟨b, 0, none⟩) s.size cap)) w') : L P n ops (o :: rest) Q ρ w := by
  have hu : P.underlying T = some .string := by unfold isStrT at hT; split at hT <;> first | assumption | cases hT
  obtain ⟨i, hs, hi, _, _⟩ := elT_spec hE
  have hE8 : P.underlying E = some (.int .u8) := by
    unfold isBytesT at hT'
    rw [hs] at hT'
    simp only at hT'
    split at hT' <;> first | assumption | cases hT'
  have hge := grownCap_ge w s.size 0 E
  have hcells : (Lib.bytesCells w E s).toList = s.data.toList.map B ++ List.replicate (grownCap w s.size 0 E - s.size) (.int .u8 0) := by
    simp [Lib.bytesCells, B]
  have hsz : (s.data.toList.map B ++ List.replicate (grownCap w s.size 0 E - s.size) (Value.int .u8 0)).length = (Lib.bytesCells w E s).size := by rw [← hcells]; simp
  refine l_val hg (w' := Lib.bytesWorld w E s) ?_ (h w.heap.size (grownCap w s.size 0 E) (List.replicate (grownCap w s.size 0 E - s.size) (.int .u8 0)) _ (by simp; omega) ?_)
  · unfold execOp
    simp only [ho, hx, Sem.run_bind, Lib.run_convert_string_bytes w T T' E s hu hs hE8, Result.andThen_ok, Sem.run_pure]
  · obtain ⟨c, hc1, hn, hc⟩ := H.own
    have hfr := Lib.bytesWorld_at_new w E s
    refine ⟨H.os, H.tape, H.output, by rw [Lib.bytesWorld_size]; have := H.size; omega, fun k hk => ?_, (w.heap.size, _) :: c, ⟨[_], c, rfl, ⟨((Lib.bytesCells w E s).size, (Lib.bytesCells w E s).size + 1), ?_, rfl⟩, hc1⟩, ?_, ?_⟩
    · rw [Lib.bytesWorld_at_old _ _ _ _ (Nat.lt_of_lt_of_le hk H.size)]; exact H.ro k hk
    · intro k hk; rw [hsz] at hk; simp only []; omega
    · rw [List.map_cons, List.nodup_cons]
      refine ⟨?_, hn⟩
      intro hm
      obtain ⟨x, hx, he⟩ := List.mem_map.1 hm
      have := (Array.getElem?_eq_some_iff.1 (hc x hx).2).1
      simp only at he
      omega
    · intro x hx
      rcases List.mem_cons.1 hx with rfl | hx
      · refine ⟨H.size, ?_⟩
        rw [hfr]
        rw [← hcells]
      · have := hc x hx
        refine ⟨this.1, ?_⟩
        rw [Lib.bytesWorld_at_old _ _ _ _ (Array.getElem?_eq_some_iff.1 this.2).1]
        exact this.2

/-! entering and leaving a function -/
/-- what a function hands back -/
def rv (n : Nat) (ρ : Env) : ResultVar → Option (Value ⊕ (Nat × Nat × TypeId))
  | .tmp t => some (.inl (ev n ρ (.tmp t)))
  | .cell t T => match ev n ρ (.tmp t) with
    | .pointer (some ⟨b, k, none⟩) => some (.inr (b, k, T))
    | _ => none
/-- the post of a function's body: its results are read, then R -/
def fin (P : Program) (n : Nat) (rs : Array ResultVar) (R : Value → World → Prop) : Post
  | .normal, ρ, w | .ret, ρ, w => ∃ v, (results { (default : Func) with results := rs } (actOf n ρ).tmps).run P w = .ok v w ∧ R v w
  | _, _, _ => False
theorem enter {f : FuncId} {fn : Func} {c : Code} {rs : Array ResultVar} {args : List Value} {R : Value → World → Prop} (hf : P.funcs[f]? = some fn) (hb : fn.body = some c) (hn : fn.ntmps = n) (hrs : fn.results = rs) (ha : Nat.ble args.length n = true)
    (h : EW.W P n c (fin P n rs R) (envL args) w) : Ok P f args.toArray w R := by
  subst hn
  subst hrs
  refine calls_of_wp hf hb ?_
  rw [enter_eq _ _ (Nat.le_of_ble_eq_true ha)]
  refine wp_mono h ?_
  rintro e a w ⟨ρ, rfl, h⟩
  cases e with
  | normal =>
    obtain ⟨v, hv, hR⟩ := h
    exact ⟨rfl, v, hv, v, rfl, hR⟩
  | ret =>
    obtain ⟨v, hv, hR⟩ := h
    exact ⟨rfl, v, hv, v, rfl, hR⟩
  | _ => exact h.elim
theorem getD_actOf (t : Nat) : (actOf n ρ).tmps.getD t undef = ev n ρ (.tmp t) := by
  have := eval_actOf n ρ (.tmp t)
  exact this
theorem getD_actOf' (t : Nat) : (actOf n ρ).tmps[t]?.getD undef = ev n ρ (.tmp t) := by
  rw [← getD_actOf]; simp
theorem fin_panic {rs : Array ResultVar} {R : Value → World → Prop} {c : List PanicEntry} (h : fin P n rs R (.panic c) ρ w) : False := h
/-- one result in a slot -/
theorem fin1 {t : Nat} {v : Value} {R : Value → World → Prop} (hv : ev n ρ (.tmp t) = v) (h : R v w) : fin P n #[.tmp t] R .ret ρ w :=
  ⟨v, by simp [results, getD_actOf', hv], h⟩
theorem fin0 {R : Value → World → Prop} (h : R (.tuple #[]) w) : fin P n #[] R .ret ρ w :=
  ⟨_, by simp [results], h⟩
theorem fin0n {R : Value → World → Prop} (h : R (.tuple #[]) w) : fin P n #[] R .normal ρ w :=
  ⟨_, by simp [results], h⟩
theorem fin2 {t u : Nat} {v v' : Value} {R : Value → World → Prop} (hv : ev n ρ (.tmp t) = v) (hv' : ev n ρ (.tmp u) = v') (h : R (.tuple #[v, v']) w) : fin P n #[.tmp t, .tmp u] R .ret ρ w :=
  ⟨_, by simp [results, getD_actOf', hv, hv'], h⟩
theorem fin3 {t u x : Nat} {v v' v'' : Value} {R : Value → World → Prop} (hv : ev n ρ (.tmp t) = v) (hv' : ev n ρ (.tmp u) = v') (hv'' : ev n ρ (.tmp x) = v'') (h : R (.tuple #[v, v', v'']) w) : fin P n #[.tmp t, .tmp u, .tmp x] R .ret ρ w :=
  ⟨_, by simp [results, getD_actOf', hv, hv', hv''], h⟩
/-- a result that lies in memory -/
theorem run_loadVarN {T : TypeId} {b m : Nat} {vs : List Value} (hc : aggB P T m = true) (hl : Nat.beq vs.length m = true) (hv : Cells w b 0 vs) : (loadVar T ⟨b, 0, none⟩).run P w = .ok (.agg vs.toArray) w := by
  obtain ⟨i, d, hi, hs, hd, h1⟩ := agg_spec hc
  have hl := Nat.eq_of_beq_eq_true hl
  have hr := run_loadCells_list (P := P) w ⟨b, 0, none⟩ vs (fun j v hj => by rw [add_mk]; exact hv.get j v hj)
  simp only [loadVar, Sem.run_bind, run_isAgg hd, h1, Bool.not_false, if_true, run_sizeOf hi, hs, Result.andThen_ok]
  rw [← hl, hr]
  rfl
theorem finc {t b m : Nat} {T : TypeId} {vs : List Value} {R : Value → World → Prop} (hv : ev n ρ (.tmp t) = .pointer (some ⟨b, 0, none⟩)) (hc : aggB P T m = true) (hl : Nat.beq vs.length m = true) (hb : Cells w b 0 vs) (h : R (.agg vs.toArray) w) :
    fin P n #[.cell t T] R .ret ρ w :=
  ⟨_, by simp [results, getD_actOf', hv, asAddr, run_loadVarN hc hl hb], h⟩
theorem finc2 {t b m u : Nat} {T : TypeId} {vs : List Value} {v' : Value} {R : Value → World → Prop} (hv : ev n ρ (.tmp t) = .pointer (some ⟨b, 0, none⟩)) (hc : aggB P T m = true) (hl : Nat.beq vs.length m = true) (hb : Cells w b 0 vs) (hv' : ev n ρ (.tmp u) = v') (h : R (.tuple #[.agg vs.toArray, v']) w) :
    fin P n #[.cell t T, .tmp u] R .ret ρ w :=
  ⟨_, by simp [results, getD_actOf', hv, hv', asAddr, run_loadVarN hc hl hb], h⟩
end
end Go.EW
