/- Each call on both nets: the same answer, and the relation is kept; for at most 1000000000 calls. -/
import Derived.Test.YtmgcmgfjaimlnaaNet29
namespace Go.Proofs.Ytmgcmgfjaimlnaa
open Go.EW
attribute [local irreducible] EW.W EW.L EW.fin
set_option linter.unusedVariables false
set_option linter.unusedSimpArgs false
section
variable {W w : World} {F : List Seg} {b b' : Nat} {st : NetS} {r : RS} {i : Nat}
/-- the answer for a place in a pool -/
def plE (l : List Pk) (k : Int) : Int := if 0 ≤ k ∧ k < l.length then 0 else 141
theorem AtR.code {l : List Pk} {k e : Int} {q : Pk} (h : AtR l k q e) : e = plE l k := by
  unfold plE
  rcases h with ⟨h, he, _⟩ | ⟨p, h1, h2, _, he, _⟩
  · rw [if_neg h]; exact he
  rw [if_pos ⟨h1, h2⟩]; exact he
def SentTo (st st1 : NetS) (fr to : Int) (n : Nat) (bs : List UInt8) : Prop :=
  (layE st fr to n true ≠ 0 ∧ st1 = st) ∨ (layE st fr to n true = 0 ∧ ∃ a' pa pcap a'' ra rcap, st1 = sendS st fr to n bs a' pa pcap a'' ra rcap)
theorem pSend_ok (H : St W w (netL b st F)) (hP : Pl st r i) (hi : i ≤ 1000000000) (fr to : Int) {a : Option Addr} {n cap : Nat} {bs : List UInt8} (hr : RdIn W F a (bs.map B)) (hl : bs.length = n) :
    Ok Try.prog 19 [.pointer (some ⟨b, 0, none⟩), .agg #[.int .i64 fr, .int .i64 to, .slice a n cap]].toArray w (fun v w' => v = .int .i64 (layE st fr to n true) ∧ ∃ st1, SentTo st st1 fr to n bs ∧ St W w' (netL b st1 F)) := by
  have h1 := hP.pl
  have h2 := hP.rl
  refine Ok.mono (Send_ok H hP.fit hP.few (by omega) fr to hr hl (by omega) (by omega)) ?_
  rintro v w ⟨rfl, ⟨h, H⟩ | ⟨h, a', pa, pcap, a'', ra, rcap, H⟩⟩
  · exact ⟨rfl, st, .inl ⟨h, rfl⟩, H⟩
  exact ⟨rfl, _, .inr ⟨h, a', pa, pcap, a'', ra, rcap, rfl⟩, H⟩
theorem qSend_ok (H : St W w (rfL b' r F)) (hP : Pl st r i) (hi : i ≤ 1000000000) {st1 : NetS} {fr to : Int} {a : Option Addr} {n cap : Nat} {bs : List UInt8} (hs : SentTo st st1 fr to n bs) (hr : RdIn W F a (bs.map B)) (hl : bs.length = n) :
    Ok Try.prog 55 [.pointer (some ⟨b', 0, none⟩), .agg #[.int .i64 fr, .int .i64 to, .slice a n cap]].toArray w (fun v w' => v = .int .i64 (layE st fr to n true) ∧ ∃ r1, Pl st1 r1 (i + 1) ∧ St W w' (rfL b' r1 F)) := by
  have h1 := hP.pl
  have h2 := hP.rl
  have h3 := con_len hP.pool
  have h4 := con_len hP.rc
  rw [layE_net hP.nd hP.cl]
  unfold SentTo at hs
  rw [layE_net hP.nd hP.cl] at hs
  refine Ok.mono (rSend_ok H hP.rfit (by omega) (by omega) hr hl) ?_
  rintro v w ⟨rfl, ⟨h, H⟩ | ⟨h, q, hq, hqn, pa, pcap, ⟨hex, H⟩ | ⟨hno, q2, hq2, hqn2, ra, rcap, H⟩⟩⟩
  · obtain ⟨_, rfl⟩ := hs.resolve_right (fun h2 => h h2.1)
    exact ⟨rfl, r, hP.mono (Nat.le_succ i), H⟩
  · obtain ⟨_, a', pa2, pcap2, a'', ra2, rcap2, rfl⟩ := hs.resolve_left (fun h2 => h2.1 h)
    exact ⟨rfl, _, hP.send1 (layE_small h) hl hq hqn hex _ _ _ _ _ _ _ _, H⟩
  obtain ⟨_, a', pa2, pcap2, a'', ra2, rcap2, rfl⟩ := hs.resolve_left (fun h2 => h2.1 h)
  exact ⟨rfl, _, hP.send2 (layE_small h) hl hq hqn hq2 hqn2 hno _ _ _ _ _ _ _ _ _ _, H⟩
def PutIn (st st1 : NetS) (fr to : Int) (n : Nat) (bs : List UInt8) : Prop :=
  (layE st fr to n false ≠ 0 ∧ st1 = st) ∨ (layE st fr to n false = 0 ∧ ∃ a' pa pcap, st1 = { st with pa, pcap, pool := st.pool ++ [⟨fr, to, a', n, n, bs⟩] })
theorem pInject_ok (H : St W w (netL b st F)) (hP : Pl st r i) (hi : i ≤ 1000000000) (fr to : Int) {a : Option Addr} {n cap : Nat} {bs : List UInt8} (hr : RdIn W F a (bs.map B)) (hl : bs.length = n) :
    Ok Try.prog 31 [.pointer (some ⟨b, 0, none⟩), .agg #[.int .i64 fr, .int .i64 to, .slice a n cap]].toArray w (fun v w' => v = .int .i64 (layE st fr to n false) ∧ ∃ st1, PutIn st st1 fr to n bs ∧ St W w' (netL b st1 F)) := by
  have h1 := hP.pl
  refine Ok.mono (Inject_ok H hP.fit fr to hr hl (by omega)) ?_
  rintro v w ⟨rfl, ⟨h, H⟩ | ⟨h, a', pa, pcap, H⟩⟩
  · exact ⟨rfl, st, .inl ⟨h, rfl⟩, H⟩
  exact ⟨rfl, _, .inr ⟨h, a', pa, pcap, rfl⟩, H⟩
theorem qInject_ok (H : St W w (rfL b' r F)) (hP : Pl st r i) (hi : i ≤ 1000000000) {st1 : NetS} {fr to : Int} {a : Option Addr} {n cap : Nat} {bs : List UInt8} (hs : PutIn st st1 fr to n bs) (hr : RdIn W F a (bs.map B)) (hl : bs.length = n) :
    Ok Try.prog 57 [.pointer (some ⟨b', 0, none⟩), .agg #[.int .i64 fr, .int .i64 to, .slice a n cap]].toArray w (fun v w' => v = .int .i64 (layE st fr to n false) ∧ ∃ r1, Pl st1 r1 (i + 1) ∧ St W w' (rfL b' r1 F)) := by
  have h1 := hP.pl
  have h3 := con_len hP.pool
  rw [layE_net hP.nd hP.cl]
  unfold PutIn at hs
  rw [layE_net hP.nd hP.cl] at hs
  refine Ok.mono (rInject_ok H hP.rfit (by omega) hr hl) ?_
  rintro v w ⟨rfl, ⟨h, H⟩ | ⟨h, q, hq, hqn, pa, pcap, H⟩⟩
  · obtain ⟨_, rfl⟩ := hs.resolve_right (fun h2 => h h2.1)
    exact ⟨rfl, r, hP.mono (Nat.le_succ i), H⟩
  obtain ⟨_, a', pa2, pcap2, rfl⟩ := hs.resolve_left (fun h2 => h2.1 h)
  exact ⟨rfl, _, hP.put (q := ⟨fr, to, a', n, n, bs⟩) (q' := q) hq.symm ⟨layE_small h, hl⟩ ⟨by rw [hqn]; exact layE_small h, by rw [hqn, ← hl]; exact congrArg (fun c => c.2.2.length) hq⟩ _ _ _ _, H⟩
def Copied (st st1 : NetS) (k : Int) : Prop := (¬ (0 ≤ k ∧ k < st.pool.length) ∧ st1 = st) ∨ ((0 ≤ k ∧ k < st.pool.length) ∧ ∃ p q pa pcap, st.pool[k.toNat]? = some p ∧ q.con = p.con ∧ q.n = p.n ∧ st1 = { st with pa, pcap, pool := st.pool ++ [q] })
theorem pCopy_ok (H : St W w (netL b st F)) (hP : Pl st r i) (hi : i ≤ 1000000000) (k : Int) :
    Ok Try.prog 26 [.pointer (some ⟨b, 0, none⟩), .int .i64 k].toArray w (fun v w' => v = .int .i64 (plE st.pool k) ∧ ∃ st1, Copied st st1 k ∧ St W w' (netL b st1 F)) := by
  have h1 := hP.pl
  refine Ok.mono (Copy_ok H hP.fit (by omega) k) ?_
  rintro v w ⟨q, e, rfl, hat, h⟩
  refine ⟨by rw [hat.code], ?_⟩
  rcases hat with ⟨hk, he, _⟩ | ⟨p, hk0, hk1, hp, he, hq⟩
  · obtain ⟨_, H⟩ := h.resolve_right (fun h2 => by omega)
    exact ⟨st, .inl ⟨hk, rfl⟩, H⟩
  obtain ⟨_, pa, pcap, H⟩ := h.resolve_left (fun h2 => h2.1 he)
  exact ⟨_, .inr ⟨⟨hk0, hk1⟩, p, q, pa, pcap, hp, by rw [hq]; rfl, by rw [hq], rfl⟩, H⟩
theorem qCopy_ok (H : St W w (rfL b' r F)) (hP : Pl st r i) (hi : i ≤ 1000000000) {st1 : NetS} {k : Int} (hs : Copied st st1 k) :
    Ok Try.prog 60 [.pointer (some ⟨b', 0, none⟩), .int .i64 k].toArray w (fun v w' => v = .int .i64 (plE st.pool k) ∧ ∃ r1, Pl st1 r1 (i + 1) ∧ St W w' (rfL b' r1 F)) := by
  have h1 := hP.pl
  have h3 := con_len hP.pool
  unfold plE
  unfold Copied at hs
  rw [h3] at hs ⊢
  refine Ok.mono (rCopy_ok H hP.rfit (by omega) k) ?_
  rintro v w (⟨h, rfl, H⟩ | ⟨h, rfl, p', q', hp', hq', hn', pa', pcap', H⟩)
  · obtain ⟨_, rfl⟩ := hs.resolve_right (fun h2 => h h2.1)
    exact ⟨by rw [if_neg h], r, hP.mono (Nat.le_succ i), H⟩
  obtain ⟨_, p, q, pa, pcap, hp, hq, hn, rfl⟩ := hs.resolve_left (fun h2 => h2.1 h)
  rcases hP.get k.toNat with ⟨h5, _⟩ | ⟨x, y, hx, hy, hxy, hxn⟩
  · rw [h5] at hp; cases hp
  obtain rfl : x = p := by rw [hx] at hp; exact Option.some.inj hp
  obtain rfl : y = p' := by rw [hy] at hp'; exact Option.some.inj hp'
  have o1 := hP.p1 x (List.mem_of_getElem? hx)
  have o2 := hP.p2 y (List.mem_of_getElem? hy)
  exact ⟨by rw [if_pos h], _, hP.put (hq.trans (hxy.trans hq'.symm)) ⟨by rw [hn]; exact o1.1, by rw [hn, con_bs hq]; exact o1.2⟩ ⟨by rw [hn']; exact o2.1, by rw [hn', con_bs hq']; exact o2.2⟩ _ _ _ _, H⟩
theorem pDrop_ok (H : St W w (netL b st F)) (hP : Pl st r i) (k : Int) :
    Ok Try.prog 21 [.pointer (some ⟨b, 0, none⟩), .int .i64 k].toArray w (fun v w' => v = .int .i64 (plE st.pool k) ∧ St W w' (netL b (takeS st k) F)) := by
  refine Ok.mono (Drop_ok H hP.fit k) ?_
  rintro v w ⟨q, e, rfl, hat, H⟩
  exact ⟨by rw [hat.code], H⟩
theorem qDrop_ok (H : St W w (rfL b' r F)) (hP : Pl st r i) (hi : i ≤ 1000000000) (k : Int) :
    Ok Try.prog 61 [.pointer (some ⟨b', 0, none⟩), .int .i64 k].toArray w (fun v w' => v = .int .i64 (plE st.pool k) ∧ ∃ r1, Pl (takeS st k) r1 (i + 1) ∧ St W w' (rfL b' r1 F)) := by
  have h1 := hP.pl
  have h3 := con_len hP.pool
  unfold plE
  rw [h3]
  refine Ok.mono (rDrop_ok H (by omega) k) ?_
  rintro v w (⟨h, rfl, H⟩ | ⟨h, rfl, pa, pcap, H⟩)
  · have := hP.erase k none 0
    rw [if_neg h] at this
    exact ⟨by rw [if_neg h], r, this.mono (Nat.le_succ i), H⟩
  have := hP.erase k pa pcap
  rw [if_pos h] at this
  exact ⟨by rw [if_pos h], _, this.mono (Nat.le_succ i), H⟩
theorem qTurn_ok (H : St W w (rfL b' r F)) (hP : Pl st r i) (k j : Int) (m : UInt8) :
    Ok Try.prog 62 [.pointer (some ⟨b', 0, none⟩), .int .i64 k, .int .i64 j, B m].toArray w (fun v w' => v = .int .i64 (turnE st k j) ∧ ∃ r1, Pl (turnS st k j m) r1 (i + 1) ∧ St W w' (rfL b' r1 F)) := by
  obtain ⟨h1, h2⟩ := hP.turn k j m
  rw [h2]
  exact Ok.mono (rTurn_ok H k j m) (fun v w h => ⟨h.1, _, h1.mono (Nat.le_succ i), h.2⟩)
theorem qSwap_ok (H : St W w (rfL b' r F)) (hP : Pl st r i) (a k : Int) :
    Ok Try.prog 63 [.pointer (some ⟨b', 0, none⟩), .int .i64 a, .int .i64 k].toArray w (fun v w' => v = .int .i64 (if (0 ≤ a ∧ a < st.pool.length) ∧ 0 ≤ k ∧ k < st.pool.length then 0 else 141) ∧ ∃ r1, Pl (swapS st a k) r1 (i + 1) ∧ St W w' (rfL b' r1 F)) := by
  have h3 := con_len hP.pool
  have h4 := hP.swap a k
  rw [h3]
  exact Ok.mono (rSwap_ok H a k) (fun v w h => ⟨h.1, _, h4.mono (Nat.le_succ i), h.2⟩)
theorem at_same {l l' : List Pk} {k e f : Int} {q q' : Pk} (hc : l.map Pk.con = l'.map Pk.con) (h : AtR l k q e) (h' : AtQ l' k q' f) : f = e ∧ sameB q q' = true := by
  have hl := con_len hc
  rcases h with ⟨h, he, hq⟩ | ⟨p, h1, h2, hp, he, hq⟩
  · rcases h' with ⟨_, he', hq'⟩ | ⟨p', h3, h4, _⟩
    · exact ⟨by rw [he, he'], by rw [hq, hq']; simp [sameB]⟩
    exact absurd ⟨h3, by omega⟩ h
  rcases h' with ⟨h', _⟩ | ⟨p', _, _, hp', he', hq', _⟩
  · exact absurd ⟨h1, by omega⟩ h'
  refine ⟨by rw [he, he'], sameB_con.2 ?_⟩
  rw [hq', ← con_get hc hp hp', hq]; rfl
theorem AtR.small {l : List Pk} {k e : Int} {q : Pk} (h : AtR l k q e) (hl : ∀ p ∈ l, PkFit p) : q.n ≤ 1000000000 := by
  rcases h with ⟨_, _, hq⟩ | ⟨p, _, _, hp, _, hq⟩
  · rw [hq]; exact Nat.zero_le _
  have := (hl p (List.mem_of_getElem? hp)).1
  rw [hq]; show p.n ≤ _; omega
theorem qAt_ok (H : St W w (rfL b' r F)) (hP : Pl st r i) {k e : Int} {q : Pk} (hat : AtR st.pool k q e) :
    Ok Try.prog 41 [.pointer (some ⟨b', 0, none⟩), .int .i64 k].toArray w (fun v w' => ∃ q', v = .tuple #[pkv q', .int .i64 e] ∧ sameB q q' = true ∧ q'.bs.length = q'.n ∧ St W w' (q'.own :: rfL b' r F)) := by
  refine Ok.mono (rAt_ok H hP.rfit k) ?_
  rintro v w ⟨q', f, rfl, h, H⟩
  obtain ⟨rfl, hs⟩ := at_same hP.pool hat h
  have hl := (H.rowInv (i := 0) rfl).1
  exact ⟨q', rfl, hs, by simpa using hl, H⟩
theorem qRecord_ok (H : St W w (rfL b' r F)) (hP : Pl st r i) {k e : Int} {q : Pk} (hat : AtR st.record k q e) :
    Ok Try.prog 42 [.pointer (some ⟨b', 0, none⟩), .int .i64 k].toArray w (fun v w' => ∃ q', v = .tuple #[pkv q', .int .i64 e] ∧ sameB q q' = true ∧ q'.bs.length = q'.n ∧ St W w' (q'.own :: rfL b' r F)) := by
  refine Ok.mono (rRecord_ok H hP.rfit k) ?_
  rintro v w ⟨q', f, rfl, h, H⟩
  obtain ⟨rfl, hs⟩ := at_same hP.rc hat h
  have hl := (H.rowInv (i := 0) rfl).1
  exact ⟨q', rfl, hs, by simpa using hl, H⟩
theorem qTake_ok (H : St W w (rfL b' r F)) (hP : Pl st r i) (hi : i ≤ 1000000000) {k e : Int} {q : Pk} (hat : AtR st.pool k q e) :
    Ok Try.prog 59 [.pointer (some ⟨b', 0, none⟩), .int .i64 k].toArray w (fun v w' => ∃ q', v = .tuple #[pkv q', .int .i64 e] ∧ sameB q q' = true ∧ q'.bs.length = q'.n ∧ ∃ r1, Pl (takeS st k) r1 (i + 1) ∧ St W w' (q'.own :: rfL b' r1 F)) := by
  have h1 := hP.pl
  have h3 := con_len hP.pool
  refine Ok.mono (rTake_ok H hP.rfit (by omega) k) ?_
  rintro v w ⟨q', f, rfl, h, pa, pcap, H⟩
  obtain ⟨rfl, hs⟩ := at_same hP.pool hat h
  have hl := (H.rowInv (i := 0) rfl).1
  exact ⟨q', rfl, hs, by simpa using hl, _, (hP.erase k pa pcap).mono (Nat.le_succ i), H⟩
theorem qLen_ok (H : St W w (rfL b' r F)) (hP : Pl st r i) : Ok Try.prog 40 [.pointer (some ⟨b', 0, none⟩)].toArray w (fun v w' => v = .int .i64 st.pool.length ∧ St W w' (rfL b' r F)) := by
  rw [con_len hP.pool]; exact rLen_ok H
theorem qSent_ok (H : St W w (rfL b' r F)) (hP : Pl st r i) : Ok Try.prog 38 [.pointer (some ⟨b', 0, none⟩)].toArray w (fun v w' => v = .int .i64 st.record.length ∧ St W w' (rfL b' r F)) := by
  rw [con_len hP.rc]; exact rSent_ok H
theorem qFor_ok (H : St W w (rfL b' r F)) (hP : Pl st r i) (hi : i ≤ 1000000000) (to : Int) : Ok Try.prog 65 [.pointer (some ⟨b', 0, none⟩), I64 to].toArray w (fun v w' => ∃ a' c', v = .slice a' (forN to st.pool st.pool.length).length c' ∧ St W w' (row 3 1 a' (forN to st.pool st.pool.length).length c' ((forN to st.pool st.pool.length).map fun i : Nat => I64 (i : Int)) :: rfL b' r F)) := by
  have h1 := hP.pl
  have h3 := con_len hP.pool
  rw [h3, forN_con hP.pool]; exact rFor_ok H (by omega) to
theorem qGenuine_ok (H : St W w (rfL b' r F)) (hP : Pl st r i) (hi : i ≤ 1000000000) (fr to : Int) {a : Option Addr} {n cap : Nat} {bs : List UInt8} (hr : RdIn W F a (bs.map B)) (hl : bs.length = n) :
    Ok Try.prog 68 [.pointer (some ⟨b', 0, none⟩), .agg #[.int .i64 fr, .int .i64 to, .slice a n cap]].toArray w (fun v w' => v = .bool (decide ((kget (0, to, bs) st.came).getD 0 > 0)) ∧ St W w' (rfL b' r F)) := by
  have h2 := hP.rl
  have h4 := con_len hP.rc
  have e : (r.rc.any fun p => decide (p.to = to ∧ p.bs = bs)) = decide ((kget (0, to, bs) st.came).getD 0 > 0) := by
    rw [Bool.eq_iff_iff, List.any_eq_true, decide_eq_true_eq, hP.came]
    simp only [decide_eq_true_eq]
  rw [← e]
  exact rGenuine_ok H (by omega) fr to hr hl
end
end Go.Proofs.Ytmgcmgfjaimlnaa
