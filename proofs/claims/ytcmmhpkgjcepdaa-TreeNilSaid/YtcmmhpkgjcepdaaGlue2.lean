/- A function whose walk ends in true, with nothing turned that was there, satisfies the row of a law; on the conditions that the theorem names. -/
import Derived.Test.YtcmmhpkgjcepdaaGlue1
import Derived.OpenShut
namespace Go.EW
open Go.ChangeShapes Go.WideShapes Go.RowKit
def Sh.val : Sh → Value → Prop
  | .int k, v => ∃ x, v = .int k x
  | .bool, v => ∃ b, v = .bool b
  | .str, v => ∃ s, v = .string s
  | .sl _ _ _, v => ∃ a n c, v = .slice a n c
  | .st _ _, v => ∃ cs, v = .agg cs
  | .arr _ _ _, v => ∃ cs, v = .agg cs
  | _, _ => True
def argsOk (W : World) : List Sh → List Value → Prop
  | [], [] => True
  | sh :: r, v :: vs => (sh.ok W v.cells.toList ∧ sh.val v) ∧ argsOk W r vs
  | _, _ => False
theorem argsOk_cons {W : World} {sh : Sh} {r : List Sh} {vs : List Value} (h : argsOk W (sh :: r) vs) : ∃ v vs', vs = v :: vs' ∧ sh.ok W v.cells.toList ∧ sh.val v ∧ argsOk W r vs' := by
  cases vs with
  | nil => exact h.elim
  | cons v vs => exact ⟨v, vs, rfl, h.1.1, h.1.2, h.2⟩
theorem argsOk_nil {W : World} {vs : List Value} (h : argsOk W [] vs) : vs = [] := by
  cases vs with
  | nil => rfl
  | cons v vs => exact h.elim
def shsB (P : Program) : List Sh → List TypeId → Bool
  | [], [] => true
  | sh :: r, t :: ts => shB P sh (.inl t) && shsB P r ts
  | _, _ => false
section
variable {H : Type} {enc : TypeId × Value → H} {P : Program} {W : World}
theorem sh_val {sh : Sh} {t : TypeId} {v : Value} {base : Nat} (hb : shB P sh (.inl t) = true) (h : Value.okWide P W .any base t v) : sh.val v := by
  cases sh with
  | int k =>
    simp only [shB] at hb
    split at hb
    · rename_i k' hu
      obtain rfl : k' = k := by simpa using hb
      exact okWide_int hu h
    · cases hb
  | bool =>
    simp only [shB] at hb
    split at hb
    · rename_i hu; exact okWide_bool hu h
    · cases hb
  | str =>
    simp only [shB] at hb
    split at hb
    · rename_i hu; exact okWide_string hu h
    · cases hb
  | sl e sz by_ =>
    simp only [shB] at hb
    split at hb
    · rename_i hu; exact okWide_slice hu h
    · cases hb
  | st m fs =>
    simp only [shB] at hb
    split at hb
    · rename_i hu
      obtain ⟨cs, h1, _⟩ := okWide_struct hu h
      exact ⟨cs, h1⟩
    · cases hb
  | arr n e sz =>
    simp only [shB] at hb
    split at hb
    · rename_i hu
      simp only [Value.okWide, hu] at h
      obtain ⟨cs, h1, _⟩ := h
      exact ⟨cs, h1⟩
    · cases hb
  | nil => trivial
  | cons _ _ _ _ => trivial
theorem args_ok {base : Nat} : ∀ {shs : List Sh} {ts : List TypeId} {vs : List Value} {ds : List (DataW H)} {ps : List MemPlace}, shsB P shs ts = true →
    DataW.TrodAll enc P W 0 (fun _ => true) true ts vs ds ps → (∀ (j : Nat) t v, ts[j]? = some t → vs[j]? = some v → Value.okWide P W .any base t v) → (∀ n ∈ DataW.weightsEach P ts ds, n ≤ reachBytes) → argsOk W shs vs
  | [], [], vs, ds, ps, _, h, _, _ => by
    obtain ⟨rfl, _, _⟩ := trodAll_nil h
    exact trivial
  | sh :: r, t :: ts, vs, ds, ps, hb, h, hv, hw => by
    simp only [shsB, Bool.and_eq_true] at hb
    obtain ⟨v, vs1, d, ds1, p, q, rfl, rfl, rfl, h1, h2⟩ := trodAll_cons h
    refine ⟨⟨?_, sh_val hb.1 (hv 0 t v rfl rfl)⟩, args_ok hb.2 h2 (fun j t v ht hj => hv (j + 1) t v (by simpa using ht) (by simpa using hj)) (fun n hn => hw n (by simp only [DataW.weightsEach, List.mem_append]; exact .inr hn))⟩
    obtain ⟨fuel, hf⟩ := h1
    exact sh_ok sh (.inl t) _ hb.1 ⟨fuel, _, hf, fun n hn => hw n (by simp only [DataW.weightsEach, List.mem_append]; exact .inl hn)⟩
  | [], _ :: _, _, _, _, hb, _, _, _ => by simp [shsB] at hb
  | _ :: _, [], _, _, _, hb, _, _, _ => by simp [shsB] at hb
theorem St.below {W w : World} {S : List Seg} (H : St W w S) : Below W.heap.size W w := ⟨H.os, H.tape, H.output, H.size, H.ro⟩
theorem trodAll_below (hl : laidOutB P = true) {W' : World} : ∀ {ts : List TypeId} {vs : List Value} {ds : List (DataW H)} {ps : List MemPlace}, (ts.all fun t => P.readableRec t && decide (t < P.types.size)) = true →
    DataW.TrodAll enc P W 0 (fun _ => true) true ts vs ds ps → Below W.heap.size W W' → (∀ x ∈ ps, x.block < W.heap.size) → DataW.TrodAll enc P W' 0 (fun b => decide (b < W.heap.size)) true ts vs ds ps
  | [], vs, ds, ps, _, h, _, _ => by
    obtain ⟨rfl, rfl, rfl⟩ := trodAll_nil h
    exact trodAll_mk0
  | t :: ts, vs, ds, ps, hr, h, hb, hlt => by
    simp only [List.all_cons, Bool.and_eq_true, decide_eq_true_eq] at hr
    obtain ⟨v, vs1, d, ds1, p, q, rfl, rfl, rfl, h1, h2⟩ := trodAll_cons h
    exact trodAll_cons_mk (Below.trod hl hr.1.1 hr.1.2 h1 hb (fun x hx => hlt x (List.mem_append_left _ hx))) (trodAll_below hl (by simpa using hr.2) h2 hb (fun x hx => hlt x (List.mem_append_right _ hx)))
end
/-- a law that answers true, whatever is handed in -/
theorem lifted_true {C : Checked} {os : Os} {fid : FuncId} {fn : Func} {s : ChangeSpec} {doms : List PathCond} {H : Type} {enc : TypeId × Value → H} {tb : TypeId} (shs : List Sh)
    (own : ownKnob C.prog.godebug = none) (started : os.Started) (noInit : C.prog.inits.idxOf? fid = none) (hfn : C.prog.funcs[fid]? = some fn)
    (witness : ∃ (w : World) (tape : Tape) (i : Input), w.os = os ∧ (w.forCall tape i).Shaped C.prog ∧ i.vars = [] ∧ Input.okWide C.prog (w.forCall tape i) .any w.heap.size fid i ∧
      s.pre6 enc C.prog fn doms false (w.forCall tape i).memory i.args ∧ ({} : Assume).holds C.prog (lone (Frame.enter C.prog fid i.args .normal) [] (w.forCall tape i)))
    (hvars : s.vars = []) (hspec : ∀ ds : List (DataW H), ds.length = fn.params.size → s.fn H ds = { results := [.lit (.bool true)], args := ds }) (hrt : fn.resultTypes = #[tb]) (hbool : C.prog.underlying tb = some .bool)
    (hl : laidOutB C.prog = true) (hr : (fn.params.toList.all fun t => C.prog.readableRec t && decide (t < C.prog.types.size)) = true) (hshs : shsB C.prog shs fn.params.toList = true)
    (walk : ∀ (W : World) (args : List Value), argsOk W shs args → Ok C.prog fid args.toArray W (fun v w' => v = .bool true ∧ ∃ S, St W w' S)) :
    ReturnsInHanded {} C os fid .any (s.pre6 enc C.prog fn doms false) (s.post enc C.prog fn false true false false) := by
  refine returnsInHanded_of_change_sized own started noInit hfn witness ?_
  intro W base args ds gs before hval hW _ hsz _
  have hW' := hW
  obtain ⟨p, q, hA, hV, rfl, _, _⟩ := hW
  rw [hvars] at hV
  obtain ⟨rfl, rfl⟩ := trodVars_none hV
  have hlt : ∀ x ∈ p, x.block < W.heap.size := fun x hx => by simpa using hW'.lt x (List.mem_append_left _ hx)
  have hlen : ∀ {ts : List TypeId} {vs : List Value} {ds : List (DataW H)} {ps : List MemPlace}, DataW.TrodAll enc C.prog W 0 (fun _ => true) true ts vs ds ps → ds.length = ts.length := by
    intro ts
    induction ts with
    | nil => intro vs ds ps h; obtain ⟨rfl, rfl, rfl⟩ := trodAll_nil h; rfl
    | cons t ts ih => intro vs ds ps h; obtain ⟨v, vs1, d, ds1, p, q, rfl, rfl, rfl, h1, h2⟩ := trodAll_cons h; simp [ih h2]
  have hdl : ds.length = fn.params.size := by simpa using hlen hA
  have hargs := args_ok (base := base) hshs hA (fun j t v ht hv => hval j t v (by simpa using ht) (by simpa using hv)) (fun n hn => by
    have := List.all_eq_true.1 hsz n ?_
    · simpa using this
    · have hvt : s.plain.varTypes C.prog = [] := by unfold DataSpec.varTypes ChangeSpec.plain; simp [hvars]
      rw [hvt, List.append_nil, List.append_nil]; exact hn)
  have hw := walk W args.toList hargs
  unfold Ok at hw
  rw [show args.toList.toArray = args from by simp] at hw
  refine hw.mono fun e W' ⟨v, he, hv, S, hst⟩ => ?_
  subst hv
  have hb := hst.below
  have e1 : s.fn H (ds ++ []) = { results := [.lit (.bool true)], args := ds } := by rw [List.append_nil]; exact hspec ds hdl
  refine ⟨_, he, ds, [], p ++ [], [], p, [], hW', ?_, ?_, ?_, hb.frame _, fun h => by cases h⟩
  · rw [e1, hrt]
    exact trodAll_mk1 (shut_bool hbool _)
  · rw [e1]
    exact trodAll_below hl hr hA hb hlt
  · rw [e1, hvars]; rfl
end Go.EW
