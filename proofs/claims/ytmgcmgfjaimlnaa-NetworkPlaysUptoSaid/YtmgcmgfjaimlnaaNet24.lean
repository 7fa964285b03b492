/- Calls of the reference net: Inject and Send, what they answer and what the net then holds; for nets whose packets fit and whose pools leave room. -/
import Derived.Test.YtmgcmgfjaimlnaaNet23
namespace Go.Proofs.Ytmgcmgfjaimlnaa
open Go.EW
attribute [local irreducible] EW.W EW.L EW.fin
set_option linter.unusedVariables false
set_option linter.unusedSimpArgs false
/-- the sizes of a reference's net, as a net's -/
def RS.net (s : RS) : NetS := ⟨s.nodes, s.clients, none, 0, [], none, 0, [], 0, 0, [], []⟩
theorem layE_net {st : NetS} {r : RS} (h1 : st.nodes = r.nodes) (h2 : st.clients = r.clients) (fr to : Int) (n : Nat) (f : Bool) : layE st fr to n f = layE r.net fr to n f := by
  simp only [layE, NetS.addr, RS.net, h1, h2]
  congr
theorem rput2 {W w : World} {F : List Seg} {b x T : Nat} {y cs : List Value} {s : Seg} {st : RS} {pa : Option Addr} {pcap : Nat} {q : Pk}
    (H : St W w (blk0 x y T :: q.own :: s :: blk b cs 97 :: row 31 3 pa (st.pool.length + 1) pcap (pks st.pool ++ [.int .i64 q.fr, .int .i64 q.to, .slice q.a q.n q.cap]) :: Segs (st.pool.map Pk.own) :: row 31 3 st.ra st.rc.length st.rcap (pks st.rc) :: Segs (st.rc.map Pk.own) :: F))
    (hc : cs = [.int .i64 st.nodes, .int .i64 st.clients, .slice pa (st.pool.length + 1) pcap, .slice st.ra st.rc.length st.rcap]) : St W w (rfL b { st with pa, pcap, pool := st.pool ++ [q] } (s :: F)) :=
  rput (St.pick [0, 1, 3, 4, 5, 6, 7, 2] (pre := [_, _, _, _, _, _, _, _]) rfl H rfl) hc
theorem rlift {W w : World} {b : Nat} {st : RS} {s : Seg} {F : List Seg} (H : St W w (rfL b st (s :: F))) : St W w (s :: rfL b st F) :=
  H.perm (show ([_, _, _, _, _] ++ s :: F).Perm (s :: ([_, _, _, _, _] ++ F)) from List.perm_middle)
theorem rsink {W w : World} {b : Nat} {st : RS} {s : Seg} {F : List Seg} (H : St W w (s :: rfL b st F)) : St W w (rfL b st (s :: F)) :=
  H.perm (show (s :: ([_, _, _, _, _] ++ F)).Perm ([_, _, _, _, _] ++ s :: F) from List.perm_middle.symm)
theorem rInject_ok {W w : World} {F : List Seg} {b : Nat} {st : RS} (H : St W w (rfL b st F)) (hfit : st.fit) (hroom : (st.pool.length + 1) * 40 ≤ 140737488355328) {fr to : Int} {a : Option Addr} {n cap : Nat} {bs : List UInt8} (hr : RdIn W F a (bs.map B)) (hl : bs.length = n) :
    Ok Try.prog 57 [.pointer (some ⟨b, 0, none⟩), .agg #[.int .i64 fr, .int .i64 to, .slice a n cap]].toArray w (fun v w' => v = .int .i64 (layE st.net fr to n false) ∧ ((layE st.net fr to n false ≠ 0 ∧ St W w' (rfL b st F)) ∨ (layE st.net fr to n false = 0 ∧ ∃ q : Pk, q.con = (fr, to, bs) ∧ q.n = n ∧ ∃ pa pcap, St W w' (rfL b { st with pa, pcap, pool := st.pool ++ [q] } F)))) := by
  refine enter (n := 27) (rs := #[.tmp 4]) Try.func57 rfl rfl rfl rfl ?_
  refine w_seq ?_
  refine w_region ?_
  refine b_box (cs := [.int .i64 fr, .int .i64 to, .slice a n cap]) rfl rfl rfl H (fun b3 w H => ?_)
  refine l_pint rfl rfl ?_
  refine l_nil ?_
  refine w_seq ?_
  refine w_seq ?_
  refine w_region ?_
  refine l_pptr rfl rfl ?_
  refine l_v rfl (q_eqlNilF rfl pt_61 rfl rfl) ?_
  refine l_nil ?_
  refine w_cond_f rfl ?_
  refine w_skip ?_
  refine w_seq ?_
  refine w_seq ?_
  refine w_region ?_
  refine l_pptr rfl rfl ?_
  refine l_v rfl (q_fieldAddr rfl fo31_1 rfl) ?_
  refine l_v rfl (q_load1 rfl c1_3 rfl (by first | exact H.cell 0 rfl rfl | exact H.cell 1 rfl rfl | exact H.cell 2 rfl rfl | exact H.cell 3 rfl rfl | exact H.cell 4 rfl rfl | exact H.cell 5 rfl rfl | exact H.cell 6 rfl rfl)) ?_
  refine b_call rfl cb_85 rfl (rAddr_ok (rsink H) hfit.cl to) (fun v w hv => ?_)
  obtain ⟨rfl, H⟩ := hv
  have H := rlift H
  refine l_pbool rfl rfl ?_
  refine l_nil ?_
  refine w_cond rfl (fun c1 => ?_) (fun c1 => ?_)
  · try simp only [sH] at c1
    refine w_seq ?_
    refine w_region ?_
    refine l_pint rfl rfl ?_
    refine l_nil ?_
    refine w_ret ?_
    refine fin1 (v := .int _ _) rfl ?_
    refine ⟨(layE_140 (.inr (fun h => ?_))).symm ▸ rfl, .inl ⟨?_, H.erase 0⟩⟩
    · exact absurd h (by simpa [RS.net, NetS.addr] using c1)
    rw [layE_140 (.inr (fun h => absurd h (by simpa [RS.net, NetS.addr] using c1)))]; simp
  try simp only [sH] at c1
  refine w_skip ?_
  refine w_seq ?_
  refine w_seq ?_
  refine w_region ?_
  refine l_v rfl (q_fieldAddr rfl fo31_2 rfl) ?_
  refine l_v rfl (q_load1 rfl c1_29 rfl (by first | exact H.cell 0 rfl rfl | exact H.cell 1 rfl rfl | exact H.cell 2 rfl rfl | exact H.cell 3 rfl rfl | exact H.cell 4 rfl rfl | exact H.cell 5 rfl rfl | exact H.cell 6 rfl rfl)) ?_
  refine l_v rfl (q_lenSlice rfl el_29 rfl) ?_
  refine l_pbool rfl rfl ?_
  refine l_nil ?_
  refine w_cond rfl (fun c2 => ?_) (fun c2 => ?_)
  · try simp only [sH] at c2
    refine w_seq ?_
    refine w_region ?_
    refine l_pint rfl rfl ?_
    refine l_nil ?_
    refine w_ret ?_
    refine fin1 (v := .int _ _) rfl ?_
    have ha : st.net.addr to := by simpa [RS.net, NetS.addr] using c1
    have he : layE st.net fr to n false = 142 := layE_142 (by simp) ha (by omega)
    exact ⟨by rw [he], .inl ⟨by rw [he]; simp, H.erase 0⟩⟩
  try simp only [sH] at c2
  refine w_skip ?_
  refine w_seq ?_
  refine w_drawT [8, 11] [4, 5] [(0, 0), (1, 0), (2, 0), (3, 0), (4, 1), (5, 1), (6, 2), (7, 2), (8, 2), (9, 0), (10, 0), (11, 2)] mixed (by kernel_rfl) (fun _ _ _ h => fin_panic h) H (fun H => ?_)
  refine r_pptr rfl rfl rfl ?_
  refine r_pptr rfl rfl rfl ?_
  refine r_pptr rfl rfl rfl ?_
  refine r_w rfl rfl (fun w => q_fieldAddr rfl fo97_2 rfl) ?_
  refine r_v rfl rfl (fun w hS => q_load1 rfl c1_22 rfl (by first | exact hS.cell 0 rfl rfl | exact hS.cell 1 rfl rfl | exact hS.cell 2 rfl rfl | exact hS.cell 3 rfl rfl | exact hS.cell 4 rfl rfl | exact hS.cell 5 rfl rfl | exact hS.cell 6 rfl rfl)) ?_
  refine r_v rfl rfl (fun w hS => q_loadN (vs := [_, _, _]) rfl ag_31 rfl rfl (by first | exact hS.cells 0 rfl | exact hS.cells 1 rfl | exact hS.cells 2 rfl | exact hS.cells 3 rfl | exact hS.cells 4 rfl | exact hS.cells 5 rfl | exact hS.cells 6 rfl)) ?_
  refine r_do rfl ?_
  refine b_call rfl cb_48 rfl (Twin_ok H fr to (hr.up 6 rfl) hl (by omega)) (fun v w hv => ?_)
  obtain ⟨qa, qc, rfl, H⟩ := hv
  refine l_nil ⟨fun _ _ => (by first | exact H | exact H.drop1 | exact H.drop1.drop1 | exact H.drop1.drop1.drop1), ?_⟩
  refine r_do rfl ?_
  refine b_buildSlice (cs := [_, _, _]) rfl el_22 ze_31 rfl rfl rfl H (fun b23 w H => ?_)
  refine l_nil ⟨fun _ _ => (by first | exact H | exact H.drop1 | exact H.drop1.drop1 | exact H.drop1.drop1.drop1), ?_⟩
  refine r_do rfl ?_
  first | refine b_append rfl el_22 ze_31 rfl rfl rfl H 1 rfl (Rd.mk (H.cells0 0 rfl)) rfl (by simp [Value.oneCell']) ⟨by (try dsimp only); omega, by simp only [maxLen]; (try dsimp only); omega⟩ (fun a24 c24 w H => ?_) | refine b_append rfl el_22 ze_31 rfl rfl rfl H 2 rfl (Rd.mk (H.cells0 0 rfl)) rfl (by simp [Value.oneCell']) ⟨by (try dsimp only); omega, by simp only [maxLen]; (try dsimp only); omega⟩ (fun a24 c24 w H => ?_) | refine b_append rfl el_22 ze_31 rfl rfl rfl H 3 rfl (Rd.mk (H.cells0 0 rfl)) rfl (by simp [Value.oneCell']) ⟨by (try dsimp only); omega, by simp only [maxLen]; (try dsimp only); omega⟩ (fun a24 c24 w H => ?_) | refine b_append rfl el_22 ze_31 rfl rfl rfl H 4 rfl (Rd.mk (H.cells0 0 rfl)) rfl (by simp [Value.oneCell']) ⟨by (try dsimp only); omega, by simp only [maxLen]; (try dsimp only); omega⟩ (fun a24 c24 w H => ?_) | refine b_append rfl el_22 ze_31 rfl rfl rfl H 5 rfl (Rd.mk (H.cells0 0 rfl)) rfl (by simp [Value.oneCell']) ⟨by (try dsimp only); omega, by simp only [maxLen]; (try dsimp only); omega⟩ (fun a24 c24 w H => ?_) | refine b_append rfl el_22 ze_31 rfl rfl rfl H 6 rfl (Rd.mk (H.cells0 0 rfl)) rfl (by simp [Value.oneCell']) ⟨by (try dsimp only); omega, by simp only [maxLen]; (try dsimp only); omega⟩ (fun a24 c24 w H => ?_) | refine b_append rfl el_22 ze_31 rfl rfl rfl H 7 rfl (Rd.mk (H.cells0 0 rfl)) rfl (by simp [Value.oneCell']) ⟨by (try dsimp only); omega, by simp only [maxLen]; (try dsimp only); omega⟩ (fun a24 c24 w H => ?_) | refine b_append rfl el_22 ze_31 rfl rfl rfl H 8 rfl (Rd.mk (H.cells0 0 rfl)) rfl (by simp [Value.oneCell']) ⟨by (try dsimp only); omega, by simp only [maxLen]; (try dsimp only); omega⟩ (fun a24 c24 w H => ?_)
  refine l_nil ⟨(fun h => nomatch h), ?_⟩
  refine r_pptr rfl rfl rfl ?_
  refine r_w rfl rfl (fun w => q_fieldAddr rfl fo97_2 rfl) ?_
  refine r_do rfl ?_
  first | refine b_store rfl sz_22 rfl rfl rfl rfl rfl H 0 rfl rfl rfl (fun w H => ?_) | refine b_store rfl sz_22 rfl rfl rfl rfl rfl H 1 rfl rfl rfl (fun w H => ?_) | refine b_store rfl sz_22 rfl rfl rfl rfl rfl H 2 rfl rfl rfl (fun w H => ?_) | refine b_store rfl sz_22 rfl rfl rfl rfl rfl H 3 rfl rfl rfl (fun w H => ?_) | refine b_store rfl sz_22 rfl rfl rfl rfl rfl H 4 rfl rfl rfl (fun w H => ?_) | refine b_store rfl sz_22 rfl rfl rfl rfl rfl H 5 rfl rfl rfl (fun w H => ?_) | refine b_store rfl sz_22 rfl rfl rfl rfl rfl H 6 rfl rfl rfl (fun w H => ?_)
  refine l_nil ⟨(fun h => nomatch h), ?_⟩
  refine r_nil ?_
  refine w_seq ?_
  refine w_region ?_
  refine l_pint rfl rfl ?_
  refine l_nil ?_
  refine w_ret ?_
  refine fin1 (v := .int _ _) rfl ?_
  have ha : st.net.addr to := by simpa [RS.net, NetS.addr] using c1
  have he : layE st.net fr to n false = 0 := layE_0 (by simp) ha (by omega)
  exact ⟨by rw [he], .inr ⟨he, ⟨fr, to, qa, n, qc, bs⟩, rfl, rfl, _, _, (rlift (rput2 H rfl)).erase 0⟩⟩
theorem sameB_con {p q : Pk} : sameB p q = true ↔ p.con = q.con := by
  simp [sameB, Pk.con, Prod.mk.injEq]
theorem rputR2 {W w : World} {F : List Seg} {b x T : Nat} {y cs : List Value} {s : Seg} {st : RS} {pa : Option Addr} {pcap : Nat} {q : Pk}
    (H : St W w (blk0 x y T :: q.own :: s :: blk b cs 97 :: row 31 3 st.pa st.pool.length st.pcap (pks st.pool) :: Segs (st.pool.map Pk.own) :: row 31 3 pa (st.rc.length + 1) pcap (pks st.rc ++ [.int .i64 q.fr, .int .i64 q.to, .slice q.a q.n q.cap]) :: Segs (st.rc.map Pk.own) :: F))
    (hc : cs = [.int .i64 st.nodes, .int .i64 st.clients, .slice st.pa st.pool.length st.pcap, .slice pa (st.rc.length + 1) pcap]) : St W w (rfL b { st with ra := pa, rcap := pcap, rc := st.rc ++ [q] } (s :: F)) :=
  rputR (St.pick [0, 1, 3, 4, 5, 6, 7, 2] (pre := [_, _, _, _, _, _, _, _]) rfl H rfl) hc
theorem rSend_ok {W w : World} {F : List Seg} {b : Nat} {st : RS} (H : St W w (rfL b st F)) (hfit : st.fit) (hroom : (st.pool.length + 1) * 40 ≤ 140737488355328) (hroom2 : (st.rc.length + 1) * 40 ≤ 140737488355328) {fr to : Int} {a : Option Addr} {n cap : Nat} {bs : List UInt8} (hr : RdIn W F a (bs.map B)) (hl : bs.length = n) :
    Ok Try.prog 55 [.pointer (some ⟨b, 0, none⟩), .agg #[.int .i64 fr, .int .i64 to, .slice a n cap]].toArray w (fun v w' => v = .int .i64 (layE st.net fr to n true) ∧ ((layE st.net fr to n true ≠ 0 ∧ St W w' (rfL b st F)) ∨ (layE st.net fr to n true = 0 ∧ ∃ q : Pk, q.con = (fr, to, bs) ∧ q.n = n ∧ ∃ pa pcap, ((∃ p ∈ st.rc, p.con = (fr, to, bs)) ∧ St W w' (rfL b { st with pa, pcap, pool := st.pool ++ [q] } F)) ∨ ((∀ p ∈ st.rc, p.con ≠ (fr, to, bs)) ∧ ∃ q2 : Pk, q2.con = (fr, to, bs) ∧ q2.n = n ∧ ∃ ra rcap, St W w' (rfL b { st with pa, pcap, pool := st.pool ++ [q], ra, rcap, rc := st.rc ++ [q2] } F))))) := by
  refine enter (n := 64) (rs := #[.tmp 4]) Try.func55 rfl rfl rfl rfl ?_
  refine w_seq ?_
  refine w_region ?_
  refine b_box (cs := [.int .i64 fr, .int .i64 to, .slice a n cap]) rfl rfl rfl H (fun b3 w H => ?_)
  refine l_pint rfl rfl ?_
  refine l_nil ?_
  refine w_seq ?_
  refine w_seq ?_
  refine w_region ?_
  refine l_pptr rfl rfl ?_
  refine l_v rfl (q_eqlNilF rfl pt_61 rfl rfl) ?_
  refine l_nil ?_
  refine w_cond_f rfl ?_
  refine w_skip ?_
  refine w_seq ?_
  refine w_seq ?_
  refine w_region ?_
  refine l_pptr rfl rfl ?_
  refine l_v rfl (q_fieldAddr rfl fo31_0 rfl) ?_
  refine l_v rfl (q_load1 rfl c1_3 rfl (by first | exact H.cell 0 rfl rfl | exact H.cell 1 rfl rfl | exact H.cell 2 rfl rfl | exact H.cell 3 rfl rfl | exact H.cell 4 rfl rfl | exact H.cell 5 rfl rfl | exact H.cell 6 rfl rfl | exact H.cell 7 rfl rfl)) ?_
  refine b_call rfl cb_85 rfl (rAddr_ok (rsink H) hfit.cl fr) (fun v w hv => ?_)
  obtain ⟨rfl, H⟩ := hv
  have H := rlift H
  refine l_pbool rfl rfl ?_
  refine l_pbool rfl rfl ?_
  refine l_split 13 rfl (fun h13 => ?_) (fun h13 => ?_)
  · try simp only [sH] at h13
    refine l_no rfl ?_
    refine l_no rfl ?_
    refine l_no rfl ?_
    refine l_no rfl ?_
    refine l_no rfl ?_
    refine l_pickT (v := .bool _) rfl rfl rfl ?_
    refine l_nil ?_
    refine w_cond_t rfl ?_
    refine w_seq ?_
    refine w_region ?_
    refine l_pint rfl rfl ?_
    refine l_nil ?_
    refine w_ret ?_
    refine fin1 (v := .int _ _) rfl ?_
    have hbad : (true = true ∧ ¬ st.net.addr fr) ∨ ¬ st.net.addr to := .inl ⟨rfl, by simpa [RS.net, NetS.addr] using h13⟩
    exact ⟨by rw [layE_140 hbad], .inl ⟨by rw [layE_140 hbad]; simp, H.erase 0⟩⟩
  try simp only [sH] at h13
  refine l_pptr rfl rfl ?_
  refine l_v rfl (q_fieldAddr rfl fo31_1 rfl) ?_
  refine l_v rfl (q_load1 rfl c1_3 rfl (by first | exact H.cell 0 rfl rfl | exact H.cell 1 rfl rfl | exact H.cell 2 rfl rfl | exact H.cell 3 rfl rfl | exact H.cell 4 rfl rfl | exact H.cell 5 rfl rfl | exact H.cell 6 rfl rfl | exact H.cell 7 rfl rfl)) ?_
  refine b_call rfl cb_85 rfl (rAddr_ok (rsink H) hfit.cl to) (fun v w hv => ?_)
  obtain ⟨rfl, H⟩ := hv
  have H := rlift H
  refine l_pbool rfl rfl ?_
  refine l_pickF (v := .bool _) rfl rfl rfl ?_
  refine l_nil ?_
  refine w_cond rfl (fun c1 => ?_) (fun c1 => ?_)
  · try simp only [sH] at c1
    refine w_seq ?_
    refine w_region ?_
    refine l_pint rfl rfl ?_
    refine l_nil ?_
    refine w_ret ?_
    refine fin1 (v := .int _ _) rfl ?_
    have hbad : (true = true ∧ ¬ st.net.addr fr) ∨ ¬ st.net.addr to := .inr (by simpa [RS.net, NetS.addr] using c1)
    exact ⟨by rw [layE_140 hbad], .inl ⟨by rw [layE_140 hbad]; simp, H.erase 0⟩⟩
  try simp only [sH] at c1
  refine w_skip ?_
  refine w_seq ?_
  refine w_seq ?_
  refine w_region ?_
  refine l_v rfl (q_fieldAddr rfl fo31_2 rfl) ?_
  refine l_v rfl (q_load1 rfl c1_29 rfl (by first | exact H.cell 0 rfl rfl | exact H.cell 1 rfl rfl | exact H.cell 2 rfl rfl | exact H.cell 3 rfl rfl | exact H.cell 4 rfl rfl | exact H.cell 5 rfl rfl | exact H.cell 6 rfl rfl | exact H.cell 7 rfl rfl)) ?_
  refine l_v rfl (q_lenSlice rfl el_29 rfl) ?_
  refine l_pbool rfl rfl ?_
  refine l_nil ?_
  refine w_cond rfl (fun c2 => ?_) (fun c2 => ?_)
  · try simp only [sH] at c2
    refine w_seq ?_
    refine w_region ?_
    refine l_pint rfl rfl ?_
    refine l_nil ?_
    refine w_ret ?_
    refine fin1 (v := .int _ _) rfl ?_
    have hok : st.net.addr fr ∧ st.net.addr to := by simpa [RS.net, NetS.addr] using And.intro h13 c1
    have he : layE st.net fr to n true = 142 := layE_142 (fun h => h.2 hok.1) hok.2 (by omega)
    exact ⟨by rw [he], .inl ⟨by rw [he]; simp, H.erase 0⟩⟩
  try simp only [sH] at c2
  have hok : st.net.addr fr ∧ st.net.addr to := by simpa [RS.net, NetS.addr] using And.intro h13 c1
  have he : layE st.net fr to n true = 0 := layE_0 (fun h => h.2 hok.1) hok.2 (by omega)
  refine w_skip ?_
  refine w_seq ?_
  refine w_drawT [8, 11] [4, 5] [(0, 0), (1, 0), (2, 0), (3, 0), (4, 1), (5, 1), (6, 2), (7, 2), (8, 2), (9, 0), (10, 0), (11, 2)] mixed (by kernel_rfl) (fun _ _ _ h => fin_panic h) H (fun H => ?_)
  refine r_pptr rfl rfl rfl ?_
  refine r_pptr rfl rfl rfl ?_
  refine r_pptr rfl rfl rfl ?_
  refine r_w rfl rfl (fun w => q_fieldAddr rfl fo97_2 rfl) ?_
  refine r_v rfl rfl (fun w hS => q_load1 rfl c1_22 rfl (by first | exact hS.cell 0 rfl rfl | exact hS.cell 1 rfl rfl | exact hS.cell 2 rfl rfl | exact hS.cell 3 rfl rfl | exact hS.cell 4 rfl rfl | exact hS.cell 5 rfl rfl | exact hS.cell 6 rfl rfl | exact hS.cell 7 rfl rfl)) ?_
  refine r_v rfl rfl (fun w hS => q_loadN (vs := [_, _, _]) rfl ag_31 rfl rfl (by first | exact hS.cells 0 rfl | exact hS.cells 1 rfl | exact hS.cells 2 rfl | exact hS.cells 3 rfl | exact hS.cells 4 rfl | exact hS.cells 5 rfl | exact hS.cells 6 rfl | exact hS.cells 7 rfl)) ?_
  refine r_do rfl ?_
  refine b_call rfl cb_48 rfl (Twin_ok H fr to (hr.up 6 rfl) hl (by omega)) (fun v w hv => ?_)
  obtain ⟨qa, qc, rfl, H⟩ := hv
  refine l_nil ⟨fun _ _ => (by first | exact H | exact H.drop1 | exact H.drop1.drop1 | exact H.drop1.drop1.drop1), ?_⟩
  refine r_do rfl ?_
  refine b_buildSlice (cs := [_, _, _]) rfl el_22 ze_31 rfl rfl rfl H (fun b31 w H => ?_)
  refine l_nil ⟨fun _ _ => (by first | exact H | exact H.drop1 | exact H.drop1.drop1 | exact H.drop1.drop1.drop1), ?_⟩
  refine r_do rfl ?_
  first | refine b_append rfl el_22 ze_31 rfl rfl rfl H 1 rfl (Rd.mk (H.cells0 0 rfl)) rfl (by simp [Value.oneCell']) ⟨by (try dsimp only); omega, by simp only [maxLen]; (try dsimp only); omega⟩ (fun a32 c32 w H => ?_) | refine b_append rfl el_22 ze_31 rfl rfl rfl H 2 rfl (Rd.mk (H.cells0 0 rfl)) rfl (by simp [Value.oneCell']) ⟨by (try dsimp only); omega, by simp only [maxLen]; (try dsimp only); omega⟩ (fun a32 c32 w H => ?_) | refine b_append rfl el_22 ze_31 rfl rfl rfl H 3 rfl (Rd.mk (H.cells0 0 rfl)) rfl (by simp [Value.oneCell']) ⟨by (try dsimp only); omega, by simp only [maxLen]; (try dsimp only); omega⟩ (fun a32 c32 w H => ?_) | refine b_append rfl el_22 ze_31 rfl rfl rfl H 4 rfl (Rd.mk (H.cells0 0 rfl)) rfl (by simp [Value.oneCell']) ⟨by (try dsimp only); omega, by simp only [maxLen]; (try dsimp only); omega⟩ (fun a32 c32 w H => ?_) | refine b_append rfl el_22 ze_31 rfl rfl rfl H 5 rfl (Rd.mk (H.cells0 0 rfl)) rfl (by simp [Value.oneCell']) ⟨by (try dsimp only); omega, by simp only [maxLen]; (try dsimp only); omega⟩ (fun a32 c32 w H => ?_) | refine b_append rfl el_22 ze_31 rfl rfl rfl H 6 rfl (Rd.mk (H.cells0 0 rfl)) rfl (by simp [Value.oneCell']) ⟨by (try dsimp only); omega, by simp only [maxLen]; (try dsimp only); omega⟩ (fun a32 c32 w H => ?_) | refine b_append rfl el_22 ze_31 rfl rfl rfl H 7 rfl (Rd.mk (H.cells0 0 rfl)) rfl (by simp [Value.oneCell']) ⟨by (try dsimp only); omega, by simp only [maxLen]; (try dsimp only); omega⟩ (fun a32 c32 w H => ?_) | refine b_append rfl el_22 ze_31 rfl rfl rfl H 8 rfl (Rd.mk (H.cells0 0 rfl)) rfl (by simp [Value.oneCell']) ⟨by (try dsimp only); omega, by simp only [maxLen]; (try dsimp only); omega⟩ (fun a32 c32 w H => ?_)
  refine l_nil ⟨(fun h => nomatch h), ?_⟩
  refine r_pptr rfl rfl rfl ?_
  refine r_w rfl rfl (fun w => q_fieldAddr rfl fo97_2 rfl) ?_
  refine r_do rfl ?_
  first | refine b_store rfl sz_22 rfl rfl rfl rfl rfl H 0 rfl rfl rfl (fun w H => ?_) | refine b_store rfl sz_22 rfl rfl rfl rfl rfl H 1 rfl rfl rfl (fun w H => ?_) | refine b_store rfl sz_22 rfl rfl rfl rfl rfl H 2 rfl rfl rfl (fun w H => ?_) | refine b_store rfl sz_22 rfl rfl rfl rfl rfl H 3 rfl rfl rfl (fun w H => ?_) | refine b_store rfl sz_22 rfl rfl rfl rfl rfl H 4 rfl rfl rfl (fun w H => ?_) | refine b_store rfl sz_22 rfl rfl rfl rfl rfl H 5 rfl rfl rfl (fun w H => ?_) | refine b_store rfl sz_22 rfl rfl rfl rfl rfl H 6 rfl rfl rfl (fun w H => ?_) | refine b_store rfl sz_22 rfl rfl rfl rfl rfl H 7 rfl rfl rfl (fun w H => ?_)
  refine l_nil ⟨(fun h => nomatch h), ?_⟩
  refine r_nil ?_
  refine w_seq ?_
  refine w_seq ?_
  refine w_region ?_
  refine l_pint rfl rfl ?_
  refine l_nil ?_
  refine w_block ?_
  refine w_loopG (G := Nat) [4, 5, 35, 36, 37, 38, 39, 40, 41, 42, 43, 44, 45, 46, 47, 48, 49, 50, 51, 52] (fun i => [(5, I64 ((i : Nat) : Int))]) (fun m i w => m + i = st.rc.length ∧ (∀ j < i, ∀ p, st.rc[j]? = some p → p.con ≠ (fr, to, bs)) ∧ St W w (blk b3 [.int .i64 fr, .int .i64 to, .slice a n cap] 31 :: rfL b { st with pa := a32, pcap := c32, pool := st.pool ++ [(⟨fr, to, qa, n, qc, bs⟩ : Pk)] } F)) (fun _ => rfl) ?_ ?_
  · exact ⟨st.rc.length, 0, ⟨rfl, trivial⟩, rfl, fun _ h => absurd h (by omega), rlift (rput2 (q := ⟨fr, to, qa, n, qc, bs⟩) H rfl)⟩
  rintro m i ρ1 w ⟨hmi, hno, H⟩
  refine w_seq ?_
  refine w_seq ?_
  refine w_region ?_
  refine l_pint rfl rfl ?_
  refine l_pptr rfl rfl ?_
  refine l_pptr rfl rfl ?_
  refine l_v rfl (q_fieldAddr rfl fo97_3 rfl) ?_
  refine l_v rfl (q_load1 rfl c1_22 rfl (by first | exact H.cell 0 rfl rfl | exact H.cell 1 rfl rfl | exact H.cell 2 rfl rfl | exact H.cell 3 rfl rfl | exact H.cell 4 rfl rfl | exact H.cell 5 rfl rfl | exact H.cell 6 rfl rfl | exact H.cell 7 rfl rfl)) ?_
  refine l_v rfl (q_lenSlice rfl el_22 rfl) ?_
  refine l_pbool rfl rfl ?_
  refine l_nil ?_
  refine w_cond rfl (fun c3 => ?_) (fun c3 => ?_)
  · try simp only [sH] at c3
    obtain ⟨p, hp⟩ : ∃ p, st.rc[i]? = some p := ⟨_, List.getElem?_eq_getElem (by omega)⟩
    obtain ⟨b0, o0, hpa, hcs⟩ := pk_cells ((RdIn.row (W := W) 4 rfl).use H 0 rfl) hp
    have hlp := pk_len H 5 rfl hp
    refine w_skip ?_
    refine w_seq ?_
    refine w_block ?_
    refine w_seq ?_
    refine w_drawT [8] [3, 6, 7] [(0, 0), (1, 0), (2, 0), (3, 1), (4, 0), (5, 0), (6, 1), (7, 1), (8, 2)] mixed (by kernel_rfl) (fun _ _ _ h => fin_panic h) H (fun H => ?_)
    refine r_pptr rfl rfl rfl ?_
    refine r_pptr rfl rfl rfl ?_
    refine r_w rfl rfl (fun w => q_fieldAddr rfl fo97_3 rfl) ?_
    refine r_v rfl rfl (fun w hS => q_load1 rfl c1_22 rfl (by first | exact hS.cell 0 rfl rfl | exact hS.cell 1 rfl rfl | exact hS.cell 2 rfl rfl | exact hS.cell 3 rfl rfl | exact hS.cell 4 rfl rfl | exact hS.cell 5 rfl rfl | exact hS.cell 6 rfl rfl | exact hS.cell 7 rfl rfl)) ?_
    refine r_pint rfl rfl rfl ?_
    refine r_w rfl rfl (fun w => q_indexSliceA rfl el_22 rfl hpa rfl (show 0 ≤ (i : Int) ∧ (i : Int) < (st.rc.length : Int) by omega)) ?_
    refine r_v rfl rfl (fun w hS => q_loadN (vs := p.cells) rfl ag_31 rfl rfl (pk_cellsA hpa ((RdIn.row (W := W) 4 rfl).use hS 0 rfl) hp)) ?_
    refine r_v rfl rfl (fun w hS => q_loadN (vs := [_, _, _]) rfl ag_31 rfl rfl (by first | exact hS.cells 0 rfl | exact hS.cells 1 rfl | exact hS.cells 2 rfl | exact hS.cells 3 rfl | exact hS.cells 4 rfl | exact hS.cells 5 rfl | exact hS.cells 6 rfl | exact hS.cells 7 rfl)) ?_
    refine r_do rfl ?_
    refine b_call rfl cb_15 rfl (Same_ok H (p := p) (q := ⟨fr, to, a, n, cap, bs⟩) (pk_own 5 rfl hp) hlp.1 (hr.up 6 rfl) hl) (fun v w hv => ?_)
    obtain ⟨rfl, H⟩ := hv
    refine l_nil ⟨(fun h => nomatch h), ?_⟩
    refine r_nil ?_
    refine w_cond rfl (fun c4 => ?_) (fun c4 => ?_)
    · try simp only [sH] at c4
      refine w_seq ?_
      refine w_region ?_
      refine l_pint rfl rfl ?_
      refine l_nil ?_
      refine w_ret ?_
      refine fin1 (v := .int _ _) rfl ?_
      exact ⟨by rw [he], .inr ⟨he, _, rfl, rfl, _, _, .inl ⟨⟨p, List.mem_of_getElem? hp, sameB_con.1 c4⟩, H.erase 0⟩⟩⟩
    try simp only [sH] at c4
    refine w_skip ?_
    refine w_region ?_
    refine l_pint rfl rfl ?_
    first | refine l_v rfl (q_add rfl rfl rfl (by simp only [inK]; omega)) ?_ | refine l_pint rfl rfl ?_
    refine l_pint rfl rfl ?_
    refine l_nil ?_
    refine ⟨by repeat' first | exact aM | exact aR | refine aI rfl ?_ | refine aU rfl ?_ | refine aL rfl ?_, ?_⟩
    refine ⟨m - 1, i + 1, by omega, ⟨by exact congrArg (Value.int IntKind.i64) (Int.natCast_succ i).symm, trivial⟩, by omega, fun j hj p' hp' => ?_, H⟩
    by_cases hji : j = i
    · subst hji; obtain rfl : p = p' := by rw [hp] at hp'; exact Option.some.inj hp'
      exact fun h => absurd (sameB_con.2 h) (by rw [c4]; simp)
    exact hno j (by omega) p' hp'
  try simp only [sH] at c3
  refine w_exit ?_
  refine w_seq ?_
  refine w_drawT [8, 11] [4, 5] [(0, 0), (1, 0), (2, 0), (3, 0), (4, 1), (5, 1), (6, 2), (7, 2), (8, 2), (9, 0), (10, 0), (11, 2)] mixed (by kernel_rfl) (fun _ _ _ h => fin_panic h) H (fun H => ?_)
  refine r_pptr rfl rfl rfl ?_
  refine r_pptr rfl rfl rfl ?_
  refine r_pptr rfl rfl rfl ?_
  refine r_w rfl rfl (fun w => q_fieldAddr rfl fo97_3 rfl) ?_
  refine r_v rfl rfl (fun w hS => q_load1 rfl c1_22 rfl (by first | exact hS.cell 0 rfl rfl | exact hS.cell 1 rfl rfl | exact hS.cell 2 rfl rfl | exact hS.cell 3 rfl rfl | exact hS.cell 4 rfl rfl | exact hS.cell 5 rfl rfl | exact hS.cell 6 rfl rfl | exact hS.cell 7 rfl rfl)) ?_
  refine r_v rfl rfl (fun w hS => q_loadN (vs := [_, _, _]) rfl ag_31 rfl rfl (by first | exact hS.cells 0 rfl | exact hS.cells 1 rfl | exact hS.cells 2 rfl | exact hS.cells 3 rfl | exact hS.cells 4 rfl | exact hS.cells 5 rfl | exact hS.cells 6 rfl | exact hS.cells 7 rfl)) ?_
  refine r_do rfl ?_
  refine b_call rfl cb_48 rfl (Twin_ok H fr to (hr.up 6 rfl) hl (by omega)) (fun v w hv => ?_)
  obtain ⟨ra, rcp, rfl, H⟩ := hv
  refine l_nil ⟨fun _ _ => (by first | exact H | exact H.drop1 | exact H.drop1.drop1 | exact H.drop1.drop1.drop1), ?_⟩
  refine r_do rfl ?_
  refine b_buildSlice (cs := [_, _, _]) rfl el_22 ze_31 rfl rfl rfl H (fun b60 w H => ?_)
  refine l_nil ⟨fun _ _ => (by first | exact H | exact H.drop1 | exact H.drop1.drop1 | exact H.drop1.drop1.drop1), ?_⟩
  refine r_do rfl ?_
  first | refine b_append rfl el_22 ze_31 rfl rfl rfl H 1 rfl (Rd.mk (H.cells0 0 rfl)) rfl (by simp [Value.oneCell']) ⟨by (try dsimp only); omega, by simp only [maxLen]; (try dsimp only); omega⟩ (fun a61 c61 w H => ?_) | refine b_append rfl el_22 ze_31 rfl rfl rfl H 2 rfl (Rd.mk (H.cells0 0 rfl)) rfl (by simp [Value.oneCell']) ⟨by (try dsimp only); omega, by simp only [maxLen]; (try dsimp only); omega⟩ (fun a61 c61 w H => ?_) | refine b_append rfl el_22 ze_31 rfl rfl rfl H 3 rfl (Rd.mk (H.cells0 0 rfl)) rfl (by simp [Value.oneCell']) ⟨by (try dsimp only); omega, by simp only [maxLen]; (try dsimp only); omega⟩ (fun a61 c61 w H => ?_) | refine b_append rfl el_22 ze_31 rfl rfl rfl H 4 rfl (Rd.mk (H.cells0 0 rfl)) rfl (by simp [Value.oneCell']) ⟨by (try dsimp only); omega, by simp only [maxLen]; (try dsimp only); omega⟩ (fun a61 c61 w H => ?_) | refine b_append rfl el_22 ze_31 rfl rfl rfl H 5 rfl (Rd.mk (H.cells0 0 rfl)) rfl (by simp [Value.oneCell']) ⟨by (try dsimp only); omega, by simp only [maxLen]; (try dsimp only); omega⟩ (fun a61 c61 w H => ?_) | refine b_append rfl el_22 ze_31 rfl rfl rfl H 6 rfl (Rd.mk (H.cells0 0 rfl)) rfl (by simp [Value.oneCell']) ⟨by (try dsimp only); omega, by simp only [maxLen]; (try dsimp only); omega⟩ (fun a61 c61 w H => ?_) | refine b_append rfl el_22 ze_31 rfl rfl rfl H 7 rfl (Rd.mk (H.cells0 0 rfl)) rfl (by simp [Value.oneCell']) ⟨by (try dsimp only); omega, by simp only [maxLen]; (try dsimp only); omega⟩ (fun a61 c61 w H => ?_) | refine b_append rfl el_22 ze_31 rfl rfl rfl H 8 rfl (Rd.mk (H.cells0 0 rfl)) rfl (by simp [Value.oneCell']) ⟨by (try dsimp only); omega, by simp only [maxLen]; (try dsimp only); omega⟩ (fun a61 c61 w H => ?_)
  refine l_nil ⟨(fun h => nomatch h), ?_⟩
  refine r_pptr rfl rfl rfl ?_
  refine r_w rfl rfl (fun w => q_fieldAddr rfl fo97_3 rfl) ?_
  refine r_do rfl ?_
  first | refine b_store rfl sz_22 rfl rfl rfl rfl rfl H 0 rfl rfl rfl (fun w H => ?_) | refine b_store rfl sz_22 rfl rfl rfl rfl rfl H 1 rfl rfl rfl (fun w H => ?_) | refine b_store rfl sz_22 rfl rfl rfl rfl rfl H 2 rfl rfl rfl (fun w H => ?_) | refine b_store rfl sz_22 rfl rfl rfl rfl rfl H 3 rfl rfl rfl (fun w H => ?_) | refine b_store rfl sz_22 rfl rfl rfl rfl rfl H 4 rfl rfl rfl (fun w H => ?_) | refine b_store rfl sz_22 rfl rfl rfl rfl rfl H 5 rfl rfl rfl (fun w H => ?_) | refine b_store rfl sz_22 rfl rfl rfl rfl rfl H 6 rfl rfl rfl (fun w H => ?_) | refine b_store rfl sz_22 rfl rfl rfl rfl rfl H 7 rfl rfl rfl (fun w H => ?_)
  refine l_nil ⟨(fun h => nomatch h), ?_⟩
  refine r_nil ?_
  refine w_seq ?_
  refine w_region ?_
  refine l_pint rfl rfl ?_
  refine l_nil ?_
  refine w_ret ?_
  refine fin1 (v := .int _ _) rfl ?_
  refine ⟨by rw [he], .inr ⟨he, _, rfl, rfl, _, _, .inr ⟨fun p hp => ?_, ⟨fr, to, ra, n, rcp, bs⟩, rfl, rfl, _, _, (rlift (rputR2 (st := { st with pa := a32, pcap := c32, pool := st.pool ++ [(⟨fr, to, qa, n, qc, bs⟩ : Pk)] }) (q := ⟨fr, to, ra, n, rcp, bs⟩) H rfl)).erase 0⟩⟩⟩
  obtain ⟨j, hj, hjp⟩ := List.getElem_of_mem hp
  exact hno j (by omega) p (by rw [List.getElem?_eq_getElem hj, hjp])
end Go.Proofs.Ytmgcmgfjaimlnaa
