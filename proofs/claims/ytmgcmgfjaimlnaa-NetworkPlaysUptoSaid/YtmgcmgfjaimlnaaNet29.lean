/- The relation between the net under test and the reference's, kept by every call; no conditions beyond a packet's own. -/
import Derived.Test.YtmgcmgfjaimlnaaNet28
namespace Go.Proofs.Ytmgcmgfjaimlnaa
open Go.EW
attribute [local irreducible] EW.W EW.L EW.fin
set_option linter.unusedVariables false
set_option linter.unusedSimpArgs false
def PkFit (p : Pk) : Prop := p.n ≤ 32768 ∧ p.bs.length = p.n
theorem con_len {l l' : List Pk} (h : l.map Pk.con = l'.map Pk.con) : l.length = l'.length := by
  rw [← List.length_map (f := Pk.con), h, List.length_map]
theorem con_at {l l' : List Pk} (h : l.map Pk.con = l'.map Pk.con) (k : Nat) : l[k]?.map Pk.con = l'[k]?.map Pk.con := by
  rw [← List.getElem?_map, ← List.getElem?_map, h]
/-- the net under test and the reference's: the same is in both -/
structure Pl (st : NetS) (r : RS) (i : Nat) : Prop where
  nd : st.nodes = r.nodes
  cl : st.clients = r.clients
  cb : 0 ≤ st.clients ∧ st.clients ≤ 100
  pool : st.pool.map Pk.con = r.pool.map Pk.con
  rc : st.record.map Pk.con = r.rc.map Pk.con
  p1 : ∀ p ∈ st.pool, PkFit p
  p2 : ∀ p ∈ r.pool, PkFit p
  r1 : ∀ p ∈ st.record, PkFit p
  r2 : ∀ p ∈ r.rc, PkFit p
  pl : st.pool.length ≤ i
  rl : st.record.length ≤ i
  few : st.few i
  place : ∀ c : Ky, (kget c st.place).isSome = true ↔ ∃ p ∈ r.rc, p.con = c
  came : ∀ to bs, (kget (0, to, bs) st.came).getD 0 > 0 ↔ ∃ p ∈ r.rc, p.to = to ∧ p.bs = bs
theorem Pl.fit {st : NetS} {r : RS} {i : Nat} (h : Pl st r i) : st.fit := ⟨h.cb, fun p hp => (h.p1 p hp).1, fun p hp => (h.r1 p hp).1⟩
theorem Pl.rfit {st : NetS} {r : RS} {i : Nat} (h : Pl st r i) : r.fit := ⟨by rw [← h.cl]; exact h.cb, fun p hp => (h.p2 p hp).1, fun p hp => (h.r2 p hp).1⟩
theorem Pl.mono {st : NetS} {r : RS} {i j : Nat} (h : Pl st r i) (hij : i ≤ j) : Pl st r j :=
  ⟨h.nd, h.cl, h.cb, h.pool, h.rc, h.p1, h.p2, h.r1, h.r2, Nat.le_trans h.pl hij, Nat.le_trans h.rl hij, fun p hp => ⟨(h.few p hp).1, by have := (h.few p hp).2; omega⟩, h.place, h.came⟩
theorem Pl.set {st : NetS} {r : RS} {i j : Nat} (h : Pl st r i) (hij : i ≤ j) {l l' : List Pk} (hc : l.map Pk.con = l'.map Pk.con) (h1 : ∀ p ∈ l, PkFit p) (h2 : ∀ p ∈ l', PkFit p) (hl : l.length ≤ j) (pa pa' : Option Addr) (pcap pcap' : Nat) :
    Pl { st with pa, pcap, pool := l } { r with pa := pa', pcap := pcap', pool := l' } j :=
  ⟨h.nd, h.cl, h.cb, hc, h.rc, h1, h2, h.r1, h.r2, hl, Nat.le_trans h.rl hij, (h.mono hij).few, h.place, h.came⟩
theorem Pl.new {nodes clients : Int} (hc : 0 ≤ clients ∧ clients ≤ 100) (pm cm : Nat) : Pl (newS nodes clients pm cm) ⟨nodes, clients, none, 0, [], none, 0, []⟩ 0 :=
  ⟨rfl, rfl, hc, rfl, rfl, by simp [newS], by simp, by simp [newS], by simp, by simp [newS], by simp [newS], by simp [newS, NetS.few], by simp [newS, kget], by simp [newS, kget]⟩
/-- one more in the pool -/
theorem Pl.put {st : NetS} {r : RS} {i : Nat} (h : Pl st r i) {q q' : Pk} (hc : q.con = q'.con) (h1 : PkFit q) (h2 : PkFit q') (pa pa' : Option Addr) (pcap pcap' : Nat) :
    Pl { st with pa, pcap, pool := st.pool ++ [q] } { r with pa := pa', pcap := pcap', pool := r.pool ++ [q'] } (i + 1) := by
  refine h.set (Nat.le_succ i) ?_ ?_ ?_ ?_ _ _ _ _
  · rw [List.map_append, List.map_append, h.pool]; simp [hc]
  · intro p hp
    rcases List.mem_append.1 hp with hp | hp
    · exact h.p1 p hp
    rw [List.mem_singleton.1 hp]; exact h1
  · intro p hp
    rcases List.mem_append.1 hp with hp | hp
    · exact h.p2 p hp
    rw [List.mem_singleton.1 hp]; exact h2
  rw [List.length_append]; have := h.pl; simp; omega
theorem Pl.erase {st : NetS} {r : RS} {i : Nat} (h : Pl st r i) (k : Int) (pa : Option Addr) (pcap : Nat) :
    Pl (takeS st k) (if 0 ≤ k ∧ k < r.pool.length then { r with pa, pcap, pool := r.pool.eraseIdx k.toNat } else r) i := by
  unfold takeS
  rw [con_len h.pool]
  split
  · refine h.set (Nat.le_refl i) ?_ (fun p hp => h.p1 p (List.mem_of_mem_eraseIdx hp)) (fun p hp => h.p2 p (List.mem_of_mem_eraseIdx hp)) ?_ _ _ _ _
    · rw [← map_eraseIdx_own, ← map_eraseIdx_own, h.pool]
    rw [List.length_eraseIdx]; have := h.pl; split <;> omega
  exact h
theorem Pl.clear {st : NetS} {r : RS} {i : Nat} (h : Pl st r i) : Pl (clearS st) { r with pa := none, pcap := 0, pool := [] } i :=
  h.set (Nat.le_refl i) rfl (fun _ h => by cases h) (fun _ h => by cases h) (Nat.zero_le _) _ _ _ _
theorem swapL_con {l l' : List Pk} (h : l.map Pk.con = l'.map Pk.con) (i k : Nat) : (swapL l i k).map Pk.con = (swapL l' i k).map Pk.con := by
  have hi := con_at h i
  have hk := con_at h k
  unfold swapL
  cases h1 : l[i]? <;> cases h2 : l'[i]? <;> rw [h1, h2] at hi
  · exact h
  · cases hi
  · cases hi
  cases h3 : l[k]? <;> cases h4 : l'[k]? <;> rw [h3, h4] at hk
  · exact h
  · cases hk
  · cases hk
  simp only [List.map_set, h]
  rw [Option.some.inj hi, Option.some.inj hk]
theorem Pl.swap {st : NetS} {r : RS} {i : Nat} (h : Pl st r i) (a k : Int) : Pl (swapS st a k) (rswapS r a k) i := by
  unfold swapS rswapS
  rw [con_len h.pool]
  split
  · exact h.set (Nat.le_refl i) (swapL_con h.pool _ _) (fun p hp => h.p1 p ((swapL_perm _ _ _).mem_iff.1 hp)) (fun p hp => h.p2 p ((swapL_perm _ _ _).mem_iff.1 hp)) (by rw [swapL_length]; exact h.pl) _ _ _ _
  exact h
theorem turnL_con {l l' : List Pk} (h : l.map Pk.con = l'.map Pk.con) (k j : Nat) (m : UInt8) : (turnL l k j m).map Pk.con = (turnL l' k j m).map Pk.con := by
  have hk := con_at h k
  unfold turnL
  cases h1 : l[k]? <;> cases h2 : l'[k]? <;> rw [h1, h2] at hk
  · exact h
  · cases hk
  · cases hk
  rename_i p q
  have e := Option.some.inj hk
  simp only [Pk.con, Prod.mk.injEq] at e
  simp only [List.map_set]
  rw [h]
  simp only [Pk.con, e]
theorem turnL_ok {l : List Pk} (h : ∀ p ∈ l, PkFit p) (k j : Nat) (m : UInt8) : ∀ p ∈ turnL l k j m, PkFit p := by
  intro p hp
  unfold turnL at hp
  split at hp
  · rename_i q hq
    rcases List.mem_or_eq_of_mem_set hp with hp | rfl
    · exact h p hp
    have := h q (List.mem_of_getElem? hq)
    exact ⟨this.1, by simp only [List.length_set]; exact this.2⟩
  exact h p hp
theorem Pl.get {st : NetS} {r : RS} {i : Nat} (h : Pl st r i) (k : Nat) : (st.pool[k]? = none ∧ r.pool[k]? = none) ∨ ∃ p q, st.pool[k]? = some p ∧ r.pool[k]? = some q ∧ p.con = q.con ∧ p.n = q.n := by
  have hk := con_at h.pool k
  cases h1 : st.pool[k]? <;> cases h2 : r.pool[k]? <;> rw [h1, h2] at hk
  · exact .inl ⟨rfl, rfl⟩
  · cases hk
  · cases hk
  rename_i p q
  have e := Option.some.inj hk
  refine .inr ⟨p, q, rfl, rfl, e, ?_⟩
  rw [← (h.p1 p (List.mem_of_getElem? h1)).2, ← (h.p2 q (List.mem_of_getElem? h2)).2, con_bs e]
theorem Pl.turn {st : NetS} {r : RS} {i : Nat} (h : Pl st r i) (k j : Int) (m : UInt8) : Pl (turnS st k j m) (rturnS r k j m) i ∧ turnE st k j = turnEL r.pool k j := by
  unfold turnS rturnS turnE turnEL
  rw [con_len h.pool]
  rcases h.get k.toNat with ⟨h1, h2⟩ | ⟨p, q, h1, h2, hc, hn⟩
  · simp only [h1, h2]; exact ⟨h, trivial⟩
  simp only [h1, h2, hn]
  refine ⟨?_, trivial⟩
  split
  · exact h.set (Nat.le_refl i) (turnL_con h.pool _ _ _) (turnL_ok h.p1 _ _ _) (turnL_ok h.p2 _ _ _) (by rw [turnL_length]; exact h.pl) _ _ _ _
  exact h
theorem Pl.few' {st : NetS} {r : RS} {i : Nat} (h : Pl st r i) {fr to : Int} {n : Nat} (bs : List UInt8) (a' pa : Option Addr) (pcap : Nat) (a'' ra : Option Addr) (rcap : Nat) : (sendS st fr to n bs a' pa pcap a'' ra rcap).few (i + 1) := by
  intro p hp
  simp only [sendS] at hp
  rcases updK_mem hp with hp | rfl
  · have := h.few p hp; omega
  have := kget_few h.few (0, to, bs)
  constructor <;> simp only <;> omega
theorem Pl.came' {st : NetS} {r : RS} {i : Nat} (h : Pl st r i) {to : Int} (bs : List UInt8) {l : List Pk} (hl : ∀ t b, (∃ p ∈ l, p.to = t ∧ p.bs = b) ↔ (t = to ∧ b = bs) ∨ ∃ p ∈ r.rc, p.to = t ∧ p.bs = b) (t : Int) (b : List UInt8) :
    (kget (0, t, b) (updK (0, to, bs) ((kget (0, to, bs) st.came).getD 0 + 1) st.came)).getD 0 > 0 ↔ ∃ p ∈ l, p.to = t ∧ p.bs = b := by
  rw [kget_updK, hl]
  have hk := kget_few h.few (0, to, bs)
  split
  · rename_i he
    simp only [Prod.mk.injEq, true_and] at he
    simp only [Option.getD_some]
    exact ⟨fun _ => .inl ⟨he.1.symm, he.2.symm⟩, fun _ => by omega⟩
  rename_i he
  rw [h.came]
  refine ⟨.inr, fun h2 => h2.resolve_left (fun h3 => he (by rw [h3.1, h3.2]))⟩
theorem Pl.send1 {st : NetS} {r : RS} {i : Nat} (h : Pl st r i) {fr to : Int} {n : Nat} {bs : List UInt8} (hn : n ≤ 32768) (hl : bs.length = n) {q : Pk} (hq : q.con = (fr, to, bs)) (hqn : q.n = n) (hex : ∃ p ∈ r.rc, p.con = (fr, to, bs)) (a' pa : Option Addr) (pcap : Nat) (a'' ra : Option Addr) (rcap : Nat) (pa' : Option Addr) (pcap' : Nat) :
    Pl (sendS st fr to n bs a' pa pcap a'' ra rcap) { r with pa := pa', pcap := pcap', pool := r.pool ++ [q] } (i + 1) := by
  have hp := h.put (q := ⟨fr, to, a', n, n, bs⟩) (q' := q) hq.symm ⟨hn, hl⟩ ⟨by omega, by rw [hqn, ← hl]; exact congrArg (fun c => c.2.2.length) hq⟩ pa pa' pcap pcap'
  have hs := (h.place (fr, to, bs)).2 hex
  have e1 : (sendS st fr to n bs a' pa pcap a'' ra rcap).record = st.record := if_pos hs
  have e2 : (sendS st fr to n bs a' pa pcap a'' ra rcap).place = st.place := if_pos hs
  have hf := h.few' (fr := fr) (to := to) (n := n) bs a' pa pcap a'' ra rcap
  refine ⟨h.nd, h.cl, h.cb, hp.pool, ?_, hp.p1, hp.p2, ?_, h.r2, hp.pl, ?_, hf, ?_, ?_⟩
  · rw [e1]; exact h.rc
  · rw [e1]; exact h.r1
  · rw [e1]; exact Nat.le_succ_of_le h.rl
  · rw [e2]; exact h.place
  refine h.came' bs (fun t b => ⟨.inr, fun h3 => h3.elim (fun h4 => ?_) id⟩)
  obtain ⟨p, hp, he⟩ := hex
  simp only [Pk.con, Prod.mk.injEq] at he
  exact ⟨p, hp, by rw [h4.1, he.2.1], by rw [h4.2, he.2.2]⟩
theorem kget_snoc (k k' : Ky) (v : Int) : ∀ l : List (Ky × Int), kget k (l ++ [(k', v)]) = if (kget k l).isSome = true then kget k l else if k' = k then some v else none
  | [] => by
    rw [List.nil_append, kget_cons]
    simp [kget]
  | p :: l => by
    rw [List.cons_append, kget_cons, kget_cons, kget_snoc k k' v l]
    by_cases h : p.1 = k
    · simp [h]
    simp [h]
theorem Pl.send2 {st : NetS} {r : RS} {i : Nat} (h : Pl st r i) {fr to : Int} {n : Nat} {bs : List UInt8} (hn : n ≤ 32768) (hl : bs.length = n) {q q2 : Pk} (hq : q.con = (fr, to, bs)) (hqn : q.n = n) (hq2 : q2.con = (fr, to, bs)) (hqn2 : q2.n = n) (hno : ∀ p ∈ r.rc, p.con ≠ (fr, to, bs)) (a' pa : Option Addr) (pcap : Nat) (a'' ra : Option Addr) (rcap : Nat) (pa' : Option Addr) (pcap' : Nat) (ra' : Option Addr) (rcap' : Nat) :
    Pl (sendS st fr to n bs a' pa pcap a'' ra rcap) { r with pa := pa', pcap := pcap', pool := r.pool ++ [q], ra := ra', rcap := rcap', rc := r.rc ++ [q2] } (i + 1) := by
  have hp := h.put (q := ⟨fr, to, a', n, n, bs⟩) (q' := q) hq.symm ⟨hn, hl⟩ ⟨by omega, by rw [hqn, ← hl]; exact congrArg (fun c => c.2.2.length) hq⟩ pa pa' pcap pcap'
  have hs : ¬ (kget (fr, to, bs) st.place).isSome = true := fun h2 => by
    obtain ⟨p, hp, he⟩ := (h.place (fr, to, bs)).1 h2
    exact hno p hp he
  have e1 : (sendS st fr to n bs a' pa pcap a'' ra rcap).record = st.record ++ [⟨fr, to, a'', n, n, bs⟩] := if_neg hs
  have e2 : (sendS st fr to n bs a' pa pcap a'' ra rcap).place = st.place ++ [((fr, to, bs), (st.record.length : Int))] := if_neg hs
  have hf := h.few' (fr := fr) (to := to) (n := n) bs a' pa pcap a'' ra rcap
  have hm : ∀ {Q : Pk → Prop}, (∃ p ∈ r.rc ++ [q2], Q p) ↔ Q q2 ∨ ∃ p ∈ r.rc, Q p := by
    intro Q
    constructor
    · rintro ⟨p, hp, h3⟩
      rcases List.mem_append.1 hp with hp | hp
      · exact .inr ⟨p, hp, h3⟩
      rw [List.mem_singleton.1 hp] at h3; exact .inl h3
    rintro (h3 | ⟨p, hp, h3⟩)
    · exact ⟨q2, by simp, h3⟩
    exact ⟨p, List.mem_append_left _ hp, h3⟩
  refine ⟨h.nd, h.cl, h.cb, hp.pool, ?_, hp.p1, hp.p2, ?_, ?_, hp.pl, ?_, hf, ?_, ?_⟩
  · rw [e1, List.map_append, List.map_append, h.rc]
    simp only [List.map_cons, List.map_nil, hq2]; rfl
  · rw [e1]
    intro p hp
    rcases List.mem_append.1 hp with hp | hp
    · exact h.r1 p hp
    rw [List.mem_singleton.1 hp]; exact ⟨hn, hl⟩
  · intro p hp
    rcases List.mem_append.1 hp with hp | hp
    · exact h.r2 p hp
    rw [List.mem_singleton.1 hp]; exact ⟨by omega, by rw [hqn2, ← hl]; exact congrArg (fun c => c.2.2.length) hq2⟩
  · rw [e1, List.length_append]; have := h.rl; simp; omega
  · intro c
    rw [e2, kget_snoc, hm, hq2]
    by_cases hc : (kget c st.place).isSome = true
    · rw [if_pos hc]; exact ⟨fun _ => .inr ((h.place c).1 hc), fun _ => hc⟩
    rw [if_neg hc]
    have hc' : ¬ ∃ p ∈ r.rc, p.con = c := fun h2 => hc ((h.place c).2 h2)
    by_cases he : (fr, to, bs) = c
    · simp [he]
    rw [if_neg he]; simp only [Option.isSome_none, Bool.false_eq_true, false_iff]; rintro (h2 | h2)
    · exact he h2
    exact hc' h2
  refine h.came' bs (fun t b => ?_)
  rw [hm]
  simp only [Pk.con, Prod.mk.injEq] at hq2
  rw [hq2.2.1, hq2.2.2]
  constructor
  · rintro (h2 | h2)
    · exact .inl ⟨h2.1.symm, h2.2.symm⟩
    exact .inr h2
  rintro (h2 | h2)
  · exact .inl ⟨h2.1.symm, h2.2.symm⟩
  exact .inr h2
end Go.Proofs.Ytmgcmgfjaimlnaa
