/- A function whose walk ends in true satisfies the row of a law with a bound; on the conditions that the theorem names. -/
import Derived.Test.YtcmmbjplekgihaaGlue3
namespace Go.EW
open Go.ChangeShapes Go.WideShapes Go.RowKit
/-- a law that answers true where what is handed in is of a bulk of at most N -/
theorem lifted_upto {C : Checked} {os : Os} {fid : FuncId} {fn : Func} {s : ChangeSpec} {kk : (H : Type) → List (DataW H) → Bool} {doms : List PathCond} {H : Type} {enc : TypeId × Value → H} {F : Stop.Interp} {tb : TypeId} (N : Nat) (shs : List Sh) {bk : DataW H → Nat} (hB : BulkLaw bk)
    (hkk : ∀ ds : List (DataW H), kk H ds = true → ∀ d ∈ ds, bk d ≤ N)
    (own : ownKnob C.prog.godebug = none) (started : os.Started) (noInit : C.prog.inits.idxOf? fid = none) (hfn : C.prog.funcs[fid]? = some fn)
    (witness : ∃ (w : World) (tape : Tape) (i : Input), w.os = os ∧ (w.forCall tape i).Shaped C.prog ∧ i.vars = [] ∧ Input.okWide C.prog (w.forCall tape i) .any w.heap.size fid i ∧
      ({ OpenSpec.ofChange s with cond := some kk } : OpenSpec).pre6 enc C.prog fn doms false (w.forCall tape i).memory i.args ∧ ({} : Assume).holds C.prog (lone (Frame.enter C.prog fid i.args .normal) [] (w.forCall tape i)))
    (hvars : s.vars = []) (hspec : ∀ ds : List (DataW H), ds.length = fn.params.size → s.fn H ds = { results := [.lit (.bool true)], args := ds }) (hrt : fn.resultTypes = #[tb]) (hbool : C.prog.underlying tb = some .bool)
    (hl : laidOutB C.prog = true) (hr : (fn.params.toList.all fun t => C.prog.readableRec t && decide (t < C.prog.types.size)) = true) (hshs : shsB C.prog shs fn.params.toList = true)
    (walk : ∀ (W : World) (args : List Value), argsN W N shs args → Ok C.prog fid args.toArray W (fun v w' => v = .bool true ∧ ∃ S, St W w' S)) :
    ReturnsInHanded {} C os fid .any (({ OpenSpec.ofChange s with cond := some kk } : OpenSpec).pre6 enc C.prog fn doms false) ((({ OpenSpec.ofChange s with cond := some kk } : OpenSpec).at F).post enc C.prog fn false true false false) := by
  refine returnsInHanded_of_cond_sized (s := { OpenSpec.ofChange s with cond := some kk }) (k := kk) rfl own started noInit hfn witness ?_
  intro W base args ds gs before hval hW _ hkb hsz _
  have hW' := hW
  obtain ⟨p, q, hA, hV, rfl, _, _⟩ := hW
  have hV' : DataW.TrodVars enc C.prog W (fun _ => true) s.vars gs q := hV
  rw [hvars] at hV'
  obtain ⟨rfl, rfl⟩ := trodVars_none hV'
  have hlt : ∀ x ∈ p, x.block < W.heap.size := fun x hx => by simpa using hW'.lt x (List.mem_append_left _ hx)
  have hlen : ∀ {ts : List TypeId} {vs : List Value} {ds : List (DataW H)} {ps : List MemPlace}, DataW.TrodAll enc C.prog W 0 (fun _ => true) true ts vs ds ps → ds.length = ts.length := by
    intro ts
    induction ts with
    | nil => intro vs ds ps h; obtain ⟨rfl, rfl, rfl⟩ := trodAll_nil h; rfl
    | cons t ts ih => intro vs ds ps h; obtain ⟨v, vs1, d, ds1, p, q, rfl, rfl, rfl, h1, h2⟩ := trodAll_cons h; simp [ih h2]
  have hdl : ds.length = fn.params.size := by simpa using hlen hA
  have hargs := args_okN hB (base := base) (N := N) hshs hA (fun j t v ht hv => hval j t v (by simpa using ht) (by simpa using hv)) (fun n hn => by
    have := List.all_eq_true.1 hsz n ?_
    · simpa using this
    · have hvt : ({ OpenSpec.ofChange s with cond := some kk } : OpenSpec).bare.plain.varTypes C.prog = [] := by
        show s.plain.varTypes C.prog = []
        unfold DataSpec.varTypes ChangeSpec.plain; simp [hvars]
      rw [hvt, List.append_nil, List.append_nil]; exact hn) (hkk ds (by rw [List.append_nil] at hkb; exact hkb))
  have hw := walk W args.toList hargs
  unfold Ok at hw
  rw [show args.toList.toArray = args from by simp] at hw
  refine hw.mono fun e W' ⟨v, he, hv, S, hst⟩ => ?_
  subst hv
  have hb := hst.below
  have e1 : s.fn H (ds ++ []) = { results := [.lit (.bool true)], args := ds } := by rw [List.append_nil]; exact hspec ds hdl
  refine ⟨_, he, ?_⟩
  show s.post enc C.prog fn false true false false W args (.bool true) W'
  refine ⟨ds, [], p ++ [], [], p, [], hW', ?_, ?_, ?_, hb.frame _, fun h => by cases h⟩
  · rw [e1, hrt]
    exact trodAll_mk1 (shut_bool hbool _)
  · rw [e1]
    exact trodAll_below hl hr hA hb hlt
  · rw [e1, hvars]; rfl
end Go.EW
