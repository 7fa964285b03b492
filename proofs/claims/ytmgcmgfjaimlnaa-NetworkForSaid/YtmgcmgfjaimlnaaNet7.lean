/- The laws' helper that fills a net. -/
import Derived.Test.YtmgcmgfjaimlnaaNet6
namespace Go.Proofs.Ytmgcmgfjaimlnaa
open Go.EW
attribute [local irreducible] EW.W EW.L EW.fin
set_option linter.unusedVariables false
set_option linter.unusedSimpArgs false
theorem set_mem {α : Type} : ∀ {l : List α} {j : Nat} {x y p : α}, l[j]? = some y → p ∈ l.set j x → p = x ∨ p ∈ l.eraseIdx j
  | a :: l, 0, x, y, p, _, h => by simpa using h
  | a :: l, j+1, x, y, p, hy, h => by
    simp only [List.set_cons_succ, List.mem_cons] at h
    rcases h with rfl | h
    · right; simp
    rcases set_mem (by simpa using hy) h with h | h
    · exact .inl h
    right; simp [h]
  | [], _, x, y, p, hy, h => by simp at hy
theorem updK_mem {k : Ky} {v : Int} {l : List (Ky × Int)} {p : Ky × Int} (h : p ∈ updK k v l) : p ∈ l ∨ p = (k, v) := by
  obtain ⟨u, hu⟩ := midK_idx k l
  unfold updK at h
  rcases set_mem hu h with h | h
  · exact .inr h
  unfold midK idxK at *
  cases hk : kgetI k l 0 with
  | some j => simp only [hk] at h; exact .inl (List.mem_of_mem_eraseIdx h)
  | none =>
    simp only [hk] at h
    rw [List.eraseIdx_append_of_length_le (Nat.le_refl _)] at h
    exact .inl (by simpa using h)
/-- a net of three and two, of i packets -/
structure NetOk (st : NetS) (i : Nat) : Prop where
  cl : st.clients = 2
  nd : st.nodes = 3
  pool : ∀ p ∈ st.pool, p.n ≤ 32768 ∧ adr p.to
  record : ∀ p ∈ st.record, p.n ≤ 32768
  pl : st.pool.length ≤ i
  rl : st.record.length ≤ i
  few : st.few i
theorem NetOk.fit {st : NetS} {i : Nat} (h : NetOk st i) : st.fit := ⟨by rw [h.cl]; omega, fun p hp => (h.pool p hp).1, h.record⟩
theorem NetOk.addr {st : NetS} {i : Nat} (h : NetOk st i) {x : Int} (hx : adr x) : st.addr x := by
  unfold NetS.addr; rw [h.cl, h.nd]; exact hx
theorem NetOk.new (pm cm : Nat) : NetOk (newS 3 2 pm cm) 0 := ⟨rfl, rfl, by simp [newS], by simp [newS], by simp [newS], by simp [newS], by simp [newS, NetS.few]⟩
theorem NetOk.send {st : NetS} {i : Nat} (h : NetOk st i) {fr to : Int} {n : Nat} (bs : List UInt8) (a' pa : Option Addr) (pcap : Nat) (a'' ra : Option Addr) (rcap : Nat) (ht : adr to) (hn : n ≤ 32768) : NetOk (sendS st fr to n bs a' pa pcap a'' ra rcap) (i + 1) where
  cl := h.cl
  nd := h.nd
  pool := by
    intro p hp
    simp only [sendS, List.mem_append, List.mem_singleton] at hp
    rcases hp with hp | rfl
    · exact h.pool p hp
    exact ⟨hn, ht⟩
  record := by
    intro p hp
    simp only [sendS] at hp
    split at hp
    · exact h.record p hp
    simp only [List.mem_append, List.mem_singleton] at hp
    rcases hp with hp | rfl
    · exact h.record p hp
    exact hn
  pl := by simp only [sendS, List.length_append, List.length_singleton]; have := h.pl; omega
  rl := by
    have := h.rl
    simp only [sendS]
    split
    · omega
    simp only [List.length_append, List.length_singleton]; omega
  few := by
    intro p hp
    simp only [sendS] at hp
    rcases updK_mem hp with hp | rfl
    · have := h.few p hp; omega
    have := kget_few h.few (0, to, bs)
    constructor <;> simp only <;> omega
theorem filled_ok {W w : World} {F : List Seg} (H : St W w F) {a : Option Addr} {n cap : Nat} {l : List Pk} (hr : RdIn W F a (pks l)) (hln : l.length = n) (hg : Good W F l) (hn : n * 40 ≤ 140737488351232) :
    Ok Try.prog 10 [.slice a n cap].toArray w (fun v w' => ∃ b st, v = .pointer (some ⟨b, 0, none⟩) ∧ NetOk st n ∧ st.pool.length = n ∧ St W w' (netL b st F)) := by
  refine enter (n := 25) (rs := #[.tmp 2]) Try.func10 rfl rfl rfl rfl ?_
  refine w_seq ?_
  refine w_region ?_
  refine l_pptr rfl rfl ?_
  refine l_nil ?_
  refine w_seq ?_
  refine w_region ?_
  refine b_call rfl cb_28 rfl (made_ok H) (fun v w hv => ?_)
  obtain ⟨b, pm, cm, rfl, H⟩ := hv
  refine l_pptr rfl rfl ?_
  refine l_nil ?_
  refine w_seq ?_
  refine w_seq ?_
  refine w_region ?_
  refine l_pint rfl rfl ?_
  refine l_nil ?_
  refine w_block ?_
  refine w_loopG (G := Nat × NetS) [2, 4, 6, 7, 8, 9, 10, 11, 12, 13, 14, 15, 16, 17, 18, 19, 20, 21, 22, 23] (fun ⟨i, st⟩ => [(4, .int .i64 ((i : Nat) : Int))]) (fun m ⟨i, st⟩ w => m + i = n ∧ NetOk st i ∧ st.pool.length = i ∧ St W w (netL b st F)) (fun _ => rfl) ?_ ?_
  · exact ⟨n, (0, newS 3 2 pm cm), ⟨rfl, trivial⟩, rfl, NetOk.new pm cm, rfl, H⟩
  rintro m ⟨i, st⟩ ρ1 w ⟨hi, hok, hpl, H⟩
  refine w_seq ?_
  refine w_seq ?_
  refine w_region ?_
  refine l_pint rfl rfl ?_
  refine l_pslice rfl rfl ?_
  refine l_v rfl (q_lenSlice rfl el_22 rfl) ?_
  refine l_pbool rfl rfl ?_
  refine l_pbool rfl rfl ?_
  refine l_split 10 rfl (fun h10 => ?_) (fun h10 => ?_)
  · try simp only [decide_eq_true_eq, decide_eq_false_iff_not, Bool.not_eq_true', Bool.not_eq_false', beq_iff_eq, beq_eq_false_iff_ne, bne_iff_ne, bne_eq_false_iff_eq, ne_eq, Int.not_lt, Int.not_le] at h10
    refine l_pptr rfl rfl ?_
    refine l_v rfl (q_neqNilF rfl pt_24 rfl rfl) ?_
    refine l_pickT (v := .bool _) rfl rfl rfl ?_
    refine l_nil ?_
    refine w_cond_t rfl ?_
    refine w_skip ?_
    refine w_seq ?_
    refine w_block ?_
    refine w_seq ?_
    refine w_region ?_
    refine l_pptr rfl rfl ?_
    refine l_pslice rfl rfl ?_
    refine l_pint rfl rfl ?_
    obtain ⟨p, hp⟩ : ∃ p, l[i]? = some p := ⟨_, List.getElem?_eq_getElem (by omega)⟩; have hpm := List.mem_of_getElem? hp; obtain ⟨b0, o0, hpa, hcs⟩ := pk_cells (hr.use H 7 rfl) hp; refine l_v rfl (q_indexSliceA rfl el_22 rfl hpa rfl (by omega)) ?_
    refine l_v rfl (q_loadN (vs := [_, _, _]) rfl ag_31 rfl rfl hcs) ?_
    refine b_call rfl cb_20 rfl (fit_ok H p.fr p.to ((hg p hpm).1.up 7 rfl) (hg p hpm).2.1 (hg p hpm).2.2) (fun v w hv => ?_)
    obtain ⟨q, rfl, hqf, hqt, hqn, hql, _, H⟩ := hv
    refine b_call rfl cb_19 rfl (Send_ok (sink7 H) hok.fit hok.few (by omega) q.fr q.to (RdIn.row 0 rfl) hql (by omega) (by have := hok.rl; omega)) (fun v w hv => ?_)
    obtain ⟨rfl, hv⟩ := hv
    have he : layE st q.fr q.to q.n true = 0 := layE_0 (fun h => h.2 (hok.addr hqf)) (hok.addr hqt) (by omega)
    obtain ⟨_, a', pa, pcap, a'', ra, rcap, H⟩ := hv.resolve_left (fun h => h.1 he)
    rw [he]
    refine l_pbool rfl rfl ?_
    refine l_nil ?_
    refine w_cond rfl (fun c1 => ?_) (fun c1 => ?_)
    · try simp only [decide_eq_true_eq, decide_eq_false_iff_not, Bool.not_eq_true', Bool.not_eq_false', beq_iff_eq, beq_eq_false_iff_ne, bne_iff_ne, bne_eq_false_iff_eq, ne_eq, Int.not_lt, Int.not_le] at c1
      refine w_seq ?_
      refine w_region ?_
      refine l_pptr rfl rfl ?_
      refine l_nil ?_
      refine w_ret ?_
      refine fin1 (v := .pointer _) rfl ?_
      exact absurd c1 (by decide)
    try simp only [decide_eq_true_eq, decide_eq_false_iff_not, Bool.not_eq_true', Bool.not_eq_false', beq_iff_eq, beq_eq_false_iff_ne, bne_iff_ne, bne_eq_false_iff_eq, ne_eq, Int.not_lt, Int.not_le] at c1
    refine w_skip ?_
    refine w_region ?_
    refine l_pint rfl rfl ?_
    first | refine l_v rfl (q_add rfl rfl rfl (by simp only [inK]; omega)) ?_ | refine l_pint rfl rfl ?_
    refine l_pint rfl rfl ?_
    refine l_nil ?_
    refine ⟨by repeat' first | exact Agr.mix _ _ _ | exact Agr.refl _ _ | refine Agr.inner rfl ?_ | refine Agr.upd rfl ?_ | refine Agr.updL' rfl ?_, ?_⟩
    refine ⟨m - 1, (i + 1, sendS st q.fr q.to q.n q.bs a' pa pcap a'' ra rcap), by omega, ⟨by exact congrArg (Value.int IntKind.i64) (Int.natCast_succ i).symm, trivial⟩, by omega, hok.send _ _ _ _ _ _ _ hqt hqn, by simp [sendS, hpl], (lift7 H).erase 0⟩
  try simp only [decide_eq_true_eq, decide_eq_false_iff_not, Bool.not_eq_true', Bool.not_eq_false', beq_iff_eq, beq_eq_false_iff_ne, bne_iff_ne, bne_eq_false_iff_eq, ne_eq, Int.not_lt, Int.not_le] at h10
  refine l_no rfl ?_
  refine l_no rfl ?_
  refine l_pickF (v := .bool _) rfl rfl rfl ?_
  refine l_nil ?_
  refine w_cond_f rfl ?_
  refine w_exit ?_
  refine w_seq ?_
  refine w_region ?_
  refine l_pptr rfl rfl ?_
  refine l_pptr rfl rfl ?_
  refine l_nil ?_
  refine w_ret ?_
  refine fin1 (v := .pointer _) rfl ?_
  obtain rfl : i = n := by omega
  exact ⟨b, st, rfl, hok, hpl, H⟩
end Go.Proofs.Ytmgcmgfjaimlnaa
