/- The laws' helper met, and the plain law of going through what is said of two logs. -/
import Derived.Test.YtcmmhpkgjcepdaaTre28
namespace Go.Proofs.Ytcmmhpkgjcepdaa
open Go.EW
attribute [local irreducible] EW.W EW.L EW.fin block8 outB shaL
set_option linter.unusedVariables false
set_option linter.unusedSimpArgs false
theorem splitN_small {n : Nat} (h : n < 2) : n ≤ splitN n := by
  match n, h with
  | 0, _ => exact Nat.zero_le _
  | 1, _ => decide

attribute [local irreducible] swp headH leafH nodeH inclN sidesN bothN lenN splitN upN incdR extR pathV incR conR unlikeN

theorem finc2ct {P : Program} {n : Nat} {ρ : Env} {w : World} {t t2 u b b2 m : Nat} {T : TypeId} {vs vs2 : List Value} {v' : Value} {R : Value → World → Prop} (hv : ev n ρ (.tmp t) = .pointer (some ⟨b, 0, none⟩)) (hv2 : ev n ρ (.tmp t2) = .pointer (some ⟨b2, 0, none⟩)) (hc : aggB P T m = true) (hl : Nat.beq vs.length m = true) (hl2 : Nat.beq vs2.length m = true) (hb : Cells w b 0 vs) (hb2 : Cells w b2 0 vs2) (hv' : ev n ρ (.tmp u) = v') (h : R (.tuple #[.agg vs.toArray, .agg vs2.toArray, v']) w) :
    fin P n #[.cell t T, .cell t2 T, .tmp u] R .ret ρ w := by
  unfold fin
  exact ⟨_, by simp [results, getD_actOf', hv, hv2, hv', asAddr, run_loadVarN hc hl hb, run_loadVarN hc hl2 hb2], h⟩
def metB (h : List UInt8) (a b : List Ent) : Bool := unlikeN a b && (decide (headH a = h) && decide (headH b = h))
theorem metB_true {h : List UInt8} {a b : List Ent} (h1 : unlikeN a b = true) (h2 : headH a = h) (h3 : headH b = h) : metB h a b = true := by
  unfold metB
  rw [h1, decide_eq_true h2, decide_eq_true h3]; rfl
/-- what is said of two logs' heads, of which one is no beginning of the other, meets two unlike texts with one digest -/
def StepLaw (a b : List Ent) (x y : List UInt8) (fd : Bool) : Prop := x = headH a → y = headH b → unlikeN a (b.take a.length) = true → fd = true
theorem step_eq {a b : List Ent} {h : List UInt8} (hl : a.length = b.length) : StepLaw a b h h (metB h a b) := by
  intro h1 h2 h3
  rw [List.take_of_length_le (by omega)] at h3
  exact metB_true h3 h1.symm h2.symm
theorem step_true {a b : List Ent} {x y : List UInt8} : StepLaw a b x y true := fun _ _ _ => rfl
theorem step_le {a b : List Ent} {x y' last : List UInt8} (h2 : 2 ≤ b.length) (hk : a.length ≤ splitN b.length) (hlaw : StepLaw a (b.take (splitN b.length)) x y' false) : StepLaw a b x (nodeH y' last) (oneB (y', last) (halvesP b)) := by
  intro hx hy hu
  by_cases hP : (y', last) = halvesP b
  · exfalso
    have := hlaw hx (congrArg Prod.fst hP) (by rwa [List.take_take, Nat.min_eq_left hk])
    cases this
  · exact one_true hP (by rw [headH_two h2] at hy; exact hy)
theorem step_gt {a b : List Ent} {x' y' last : List UInt8} (hab : a.length ≤ b.length) (hk : splitN b.length < a.length) (hlaw : StepLaw (a.drop (splitN b.length)) (b.drop (splitN b.length)) x' y' false) (h1 : oneB (last, x') (halvesP a) = false) (h2 : oneB (last, y') (halvesP b) = false) :
    StepLaw a b (nodeH last x') (nodeH last y') (metB last (a.take (splitN b.length)) (b.take (splitN b.length))) := by
  intro hx hy hu
  have hb2 : 2 ≤ b.length := by
    rcases Nat.lt_or_ge b.length 2 with h | h
    · exfalso
      have := splitN_small h
      omega
    · exact h
  have hsp := splitN_spec hb2
  have ha2 : 2 ≤ a.length := by omega
  have hsm : splitN a.length = splitN b.length := splitN_same hab hk
  have e1 : (last, x') = halvesP a := Classical.byContradiction fun hP => by
    rw [one_true hP (by rw [headH_two ha2] at hx; exact hx)] at h1
    cases h1
  have e2 : (last, y') = halvesP b := Classical.byContradiction fun hP => by
    rw [one_true hP (by rw [headH_two hb2] at hy; exact hy)] at h2
    cases h2
  have e1a : last = headH (a.take (splitN b.length)) := by rw [← hsm]; exact congrArg Prod.fst e1
  have e1b : x' = headH (a.drop (splitN b.length)) := by rw [← hsm]; exact congrArg Prod.snd e1
  have e2a : last = headH (b.take (splitN b.length)) := congrArg Prod.fst e2
  have e2b : y' = headH (b.drop (splitN b.length)) := congrArg Prod.snd e2
  rw [unlike_take_drop (splitN b.length), List.take_take, Nat.min_eq_left (by omega), List.drop_take] at hu
  cases hu1 : unlikeN (a.take (splitN b.length)) (b.take (splitN b.length)) with
  | true => exact metB_true hu1 e1a.symm e2a.symm
  | false =>
    exfalso
    rw [hu1, Bool.false_or] at hu
    have := hlaw e1b e2b (by rw [List.length_drop]; exact hu)
    cases this

theorem met_ok {W w : World} {F : List Seg} (H : St W w F) {x : List UInt8} (hx : x.length = 32) {aa ab : Option Addr} {n ca cb : Nat} {la lb : List Ent} (hra : RdIn W F aa (entsV la)) (hrb : RdIn W F ab (entsV lb)) (hla : la.length = n) (hlb : lb.length = n) (hca : n ≤ ca) (hcb : n ≤ cb) (hoa : EntsOk la) (hob : EntsOk lb) (hn : n ≤ 140737488355328) :
    Ok Try.prog 78 [.agg (x.map B).toArray, .slice aa n ca, .slice ab n cb].toArray w (fun r w' => r = .bool (metB x la lb) ∧ St W w' F) := by
  refine enter (n := 27) (rs := #[.tmp 6]) Try.func78 rfl rfl rfl rfl ?_
  refine w_seq ?_
  refine w_region ?_
  refine b_box rfl rfl rfl H (fun b3 w H => ?_)
  refine l_pbool rfl rfl ?_
  refine l_nil ?_
  refine w_seq ?_
  refine w_drawT [] [6, 12] [(0, 0), (1, 0), (2, 2), (3, 0), (4, 0), (6, 1), (5, 2), (7, 0), (8, 0), (9, 0), (10, 0), (12, 1), (11, 2), (13, 0), (14, 0), (15, 0), (16, 0), (17, 0), (18, 2), (19, 0), (20, 0)] mixed (by kernel_rfl) (fun _ _ _ h => fin_panic h) H (fun H => ?_)
  refine r_pslice rfl rfl rfl ?_
  refine r_pslice rfl rfl rfl ?_
  refine r_do rfl ?_
  refine b_call rfl cb_34 rfl (unlike_ok H (hra.up 1 rfl) (hrb.up 1 rfl) hla (by rw [hlb]; exact Nat.le_refl _) hlb (by omega)) (fun v w hv => ?_)
  obtain ⟨rfl, H⟩ := hv
  refine l_nil ⟨fun _ _ => (by first | exact H | exact H.drop1 | exact H.drop1.drop1 | exact H.drop1.drop1.drop1), ?_⟩
  refine r_pbool rfl rfl rfl ?_
  refine r_split 10 rfl (fun h10 => ?_) (fun h10 => ?_)
  · try simp only [decide_eq_true_eq, decide_eq_false_iff_not, Bool.not_eq_true', Bool.not_eq_false', beq_iff_eq, beq_eq_false_iff_ne, bne_iff_ne, bne_eq_false_iff_eq, ne_eq, Int.not_lt, Int.not_le] at h10
    refine r_pslice rfl rfl rfl ?_
    refine r_v rfl rfl (fun w hS => q_loadN (vs := x.map B) rfl ag_24 rfl (by simp [hx]) (hS.cells 0 rfl)) ?_
    refine r_do rfl ?_
    refine b_call rfl cb_14 rfl (Head_ok n (es := la) H (hra.up 1 rfl) hla hca hoa rfl (by omega)) (fun v w hv => ?_)
    obtain ⟨rfl, H⟩ := hv
    refine l_nil ⟨fun _ _ => (by first | exact H | exact H.drop1 | exact H.drop1.drop1 | exact H.drop1.drop1.drop1), ?_⟩
    refine r_w rfl rfl (fun w => q_eqlHash rfl rfl rfl (headH_len _) hx) ?_
    refine r_pickT (v := .bool _) rfl rfl rfl rfl ?_
    refine r_pbool rfl rfl rfl ?_
    refine r_split 16 rfl (fun h16 => ?_) (fun h16 => ?_)
    · try simp only [decide_eq_true_eq, decide_eq_false_iff_not, Bool.not_eq_true', Bool.not_eq_false', beq_iff_eq, beq_eq_false_iff_ne, bne_iff_ne, bne_eq_false_iff_eq, ne_eq, Int.not_lt, Int.not_le] at h16
      refine r_pslice rfl rfl rfl ?_
      refine r_v rfl rfl (fun w hS => q_loadN (vs := x.map B) rfl ag_24 rfl (by simp [hx]) (hS.cells 0 rfl)) ?_
      refine r_do rfl ?_
      refine b_call rfl cb_14 rfl (Head_ok n (es := lb) H (hrb.up 1 rfl) hlb hcb hob rfl (by omega)) (fun v w hv => ?_)
      obtain ⟨rfl, H⟩ := hv
      refine l_nil ⟨fun _ _ => (by first | exact H | exact H.drop1 | exact H.drop1.drop1 | exact H.drop1.drop1.drop1), ?_⟩
      refine r_w rfl rfl (fun w => q_eqlHash rfl rfl rfl (headH_len _) hx) ?_
      refine r_pickT (v := .bool _) rfl rfl rfl rfl ?_
      refine r_pbool rfl rfl rfl ?_
      refine r_split 22 rfl (fun h22 => ?_) (fun h22 => ?_)
      · try simp only [decide_eq_true_eq, decide_eq_false_iff_not, Bool.not_eq_true', Bool.not_eq_false', beq_iff_eq, beq_eq_false_iff_ne, bne_iff_ne, bne_eq_false_iff_eq, ne_eq, Int.not_lt, Int.not_le] at h22
        refine r_pslice rfl rfl rfl ?_
        refine r_pslice rfl rfl rfl ?_
        refine r_do rfl ?_
        refine b_call rfl cb_35 rfl (clash_ok n H (hra.up 1 rfl) (hrb.up 1 rfl) hla hlb hca hcb hoa hob rfl (by have := unlike_pos (show unlikeN la lb = true by simpa using h10); omega) (by omega) ((show headH la = x by simpa using h16).trans (show headH lb = x by simpa using h22).symm) (by simpa using h10)) (fun v w hv => ?_)
        obtain ⟨rfl, H⟩ := hv
        refine l_nil ⟨fun _ _ => (by first | exact H | exact H.drop1 | exact H.drop1.drop1 | exact H.drop1.drop1.drop1), ?_⟩
        refine r_pickT (v := .bool _) rfl rfl rfl rfl ?_
        refine r_pbool rfl rfl rfl ?_
        refine r_nil ?_
        refine w_ret ?_
        refine fin1 (v := .bool _) rfl ?_
        exact ⟨congrArg Value.bool (metB_true h10 h16 h22).symm, H.erase 0⟩
      · try simp only [decide_eq_true_eq, decide_eq_false_iff_not, Bool.not_eq_true', Bool.not_eq_false', beq_iff_eq, beq_eq_false_iff_ne, bne_iff_ne, bne_eq_false_iff_eq, ne_eq, Int.not_lt, Int.not_le] at h22
        refine r_no rfl rfl ?_
        refine r_no rfl rfl ?_
        refine r_do rfl (l_no rfl (l_nil ⟨fun _ _ => (by first | exact H | exact H.drop1 | exact H.drop1.drop1), ?_⟩))
        refine r_pickF (v := .bool _) rfl rfl rfl rfl ?_
        refine r_pbool rfl rfl rfl ?_
        refine r_nil ?_
        refine w_ret ?_
        refine fin1 (v := .bool _) rfl ?_
        exact ⟨congrArg Value.bool (by unfold metB; simp [h22]), H.erase 0⟩
    · try simp only [decide_eq_true_eq, decide_eq_false_iff_not, Bool.not_eq_true', Bool.not_eq_false', beq_iff_eq, beq_eq_false_iff_ne, bne_iff_ne, bne_eq_false_iff_eq, ne_eq, Int.not_lt, Int.not_le] at h16
      refine r_no rfl rfl ?_
      refine r_no1 rfl rfl ?_
      refine r_do rfl (l_no rfl (l_nil ⟨fun _ _ => (by first | exact H | exact H.drop1 | exact H.drop1.drop1), ?_⟩))
      refine r_no rfl rfl ?_
      refine r_pickF (v := .bool _) rfl rfl rfl rfl ?_
      refine r_pbool rfl rfl rfl ?_
      refine r_no rfl rfl ?_
      refine r_no rfl rfl ?_
      refine r_do rfl (l_no rfl (l_nil ⟨fun _ _ => (by first | exact H | exact H.drop1 | exact H.drop1.drop1), ?_⟩))
      refine r_pickF (v := .bool _) rfl rfl rfl rfl ?_
      refine r_pbool rfl rfl rfl ?_
      refine r_nil ?_
      refine w_ret ?_
      refine fin1 (v := .bool _) rfl ?_
      exact ⟨congrArg Value.bool (by unfold metB; simp [h16]), H.erase 0⟩
  · try simp only [decide_eq_true_eq, decide_eq_false_iff_not, Bool.not_eq_true', Bool.not_eq_false', beq_iff_eq, beq_eq_false_iff_ne, bne_iff_ne, bne_eq_false_iff_eq, ne_eq, Int.not_lt, Int.not_le] at h10
    refine r_no rfl rfl ?_
    refine r_no1 rfl rfl ?_
    refine r_do rfl (l_no rfl (l_nil ⟨fun _ _ => (by first | exact H | exact H.drop1 | exact H.drop1.drop1), ?_⟩))
    refine r_no rfl rfl ?_
    refine r_pickF (v := .bool _) rfl rfl rfl rfl ?_
    refine r_pbool rfl rfl rfl ?_
    refine r_no rfl rfl ?_
    refine r_no1 rfl rfl ?_
    refine r_do rfl (l_no rfl (l_nil ⟨fun _ _ => (by first | exact H | exact H.drop1 | exact H.drop1.drop1), ?_⟩))
    refine r_no rfl rfl ?_
    refine r_pickF (v := .bool _) rfl rfl rfl rfl ?_
    refine r_pbool rfl rfl rfl ?_
    refine r_no rfl rfl ?_
    refine r_no rfl rfl ?_
    refine r_do rfl (l_no rfl (l_nil ⟨fun _ _ => (by first | exact H | exact H.drop1 | exact H.drop1.drop1), ?_⟩))
    refine r_pickF (v := .bool _) rfl rfl rfl rfl ?_
    refine r_pbool rfl rfl rfl ?_
    refine r_nil ?_
    refine w_ret ?_
    refine fin1 (v := .bool _) rfl ?_
    exact ⟨congrArg Value.bool (by unfold metB; simp [h10]), H.erase 0⟩

end Go.Proofs.Ytcmmhpkgjcepdaa
