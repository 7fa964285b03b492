/- Walks through the tape's functions. -/
import Derived.Test.YtfpmnhmdphaceaaDoorTap20
import Derived.Test.YtfpmnhmdphaceaaDoorTadAll
namespace Go.Proofs.YtfpmnhmdphaceaaDoor
open Go.EW
attribute [local irreducible] EW.W EW.L EW.fin block8 outB shaL
set_option linter.unusedVariables false
set_option linter.unusedSimpArgs false
attribute [local irreducible] crcN crcB crcL sealL openR sealR

def natsB (l : List Nat) : List UInt8 := l.flatMap formL
def footB (n : Nat) (places : List Nat) (ahead : List UInt8) : List UInt8 := formL 3 ++ formL n ++ formL places.length ++ natsB places ++ formL 32 ++ shaL ahead
def footC (n : Nat) (places : List Nat) (ahead : List UInt8) : List UInt8 := (sealR (footB n places ahead)).1
theorem natsB_take {l : List Nat} {i : Nat} (hi : i < l.length) : natsB (l.take (i + 1)) = natsB (l.take i) ++ formL l[i] := by
  rw [List.take_succ_eq_append_getElem hi]
  unfold natsB
  rw [List.flatMap_append, List.flatMap_cons, List.flatMap_nil, List.append_nil]
theorem natsB_len : ∀ l : List Nat, (natsB l).length ≤ 9 * l.length
  | [] => Nat.zero_le _
  | x :: l => by
    have h := natsB_len l
    have h2 := formL_len x
    unfold natsB at *
    rw [List.flatMap_cons, List.length_append, List.length_cons]; omega
theorem nat_at {w : World} {a : Option Addr} {l : List Nat} {i : Nat} (h : Rd w a (natsV l)) (hi : i < l.length) : ∃ b o, a = some ⟨b, o, none⟩ ∧ w.cell? ⟨b, o + i * 1, none⟩ = some (I (l[i] : Int)) :=
  rd_cell h (by unfold natsV; rw [List.getElem?_map, List.getElem?_eq_getElem hi]; rfl)

theorem foot_ok {W w : World} {F : List Seg} (hN : NibOk W) (H : St W w F) {n k pc m fc : Nat} {pa fa : Option Addr} {ps : List Nat} {fs : List UInt8} (hr : RdIn W F pa (natsV ps)) (hk : ps.length = k) (hrf : RdIn W F fa (fs.map B)) (hm : fs.length = m) (hcf : fs.length ≤ fc) (hfl : fs.length ≤ 140737488355200) (hn : n ≤ 1000000000) (hpl : ps.length ≤ 1000000) (hpm : ∀ x ∈ ps, x ≤ 9223372036854775807) :
    Ok Tryd.prog 68 [.int .i64 (n : Int), .slice pa k pc, .slice fa m fc].toArray w (fun r w' => ∃ a' c', r = .slice a' (footC n ps fs).length c' ∧ St W w' (row 5 1 a' (footC n ps fs).length c' ((footC n ps fs).map B) :: F)) := by
  have hf3 := formL_len 3
  have hfn := formL_len n
  have hfp := formL_len ps.length
  subst hk; subst hm
  refine enter (n := 32) (rs := #[.tmp 6]) Tryd.func68 rfl rfl rfl rfl ?_
  refine w_seq ?_
  refine w_region ?_
  refine l_pslice rfl rfl ?_
  refine l_nil ?_
  refine w_seq ?_
  refine w_region ?_
  refine b_alloc rfl ze_82 rfl H (fun b7 w H => ?_)
  have H : St W w (writerL b7 none 0 [] F) := (St.newRow (T := 5) (sz := 1) H).swap01
  refine l_nil ?_
  refine w_seq ?_
  refine w_region ?_
  refine b_call rfl cb_43 rfl (WInt_ok (n := 3) (by decide) (by simp) H) (fun v w hv => ?_)
  obtain ⟨rfl, a1, c1, H⟩ := hv
  refine l_nil ?_
  refine w_seq ?_
  refine w_region ?_
  refine l_pint rfl rfl ?_
  refine b_call rfl cb_43 rfl (WInt_ok (n := n) (by omega) (by simp; omega) H) (fun v w hv => ?_)
  obtain ⟨rfl, a2, c2, H⟩ := hv
  refine l_nil ?_
  refine w_seq ?_
  refine w_region ?_
  refine l_pslice rfl rfl ?_
  refine l_v rfl (q_lenSlice rfl el_66 rfl) ?_
  refine b_call rfl cb_43 rfl (WInt_ok (n := ps.length) (by omega) (by simp; omega) H) (fun v w hv => ?_)
  obtain ⟨rfl, a3, c3, H⟩ := hv
  refine l_nil ?_
  refine w_seq ?_
  refine w_seq ?_
  refine w_region ?_
  refine l_pslice rfl rfl ?_
  refine l_v rfl (q_lenSlice rfl el_66 rfl) ?_
  refine l_pint rfl rfl ?_
  refine l_nil ?_
  refine w_block ?_
  refine w_loopG (G := Nat × Option Addr × Nat) [9, 19, 20, 21, 22, 23, 24, 25] (fun ⟨i, wa, wc⟩ => [(19, .int .i64 ((i : Nat) : Int))]) (fun m ⟨i, wa, wc⟩ w => m + i = ps.length ∧ St W w (writerL b7 wa wc (formL 3 ++ formL n ++ formL ps.length ++ natsB (ps.take i)) F)) (fun _ => rfl) ?_ ?_
  · exact ⟨ps.length, (0, a3, c3), ⟨rfl, trivial⟩, rfl, by rw [List.take_zero, show natsB [] = [] from rfl, List.append_nil]; exact H⟩
  · rintro m ⟨i, wa, wc⟩ ρ1 w ⟨hmi, H⟩
    refine w_seq ?_
    refine w_region ?_
    refine l_pbool rfl rfl ?_
    refine l_nil ?_
    refine w_seq ?_
    refine w_cond rfl (fun c1 => ?_) (fun c1 => ?_)
    · try simp only [sH] at c1
      have hi : i < ps.length := by omega
      obtain ⟨pb, po, hpa, hpc⟩ := nat_at (hr.use H 2 rfl) hi
      refine w_skip ?_
      refine w_seq ?_
      refine w_block ?_
      refine w_seq ?_
      refine w_region ?_
      refine l_v rfl (q_indexSliceE i rfl el_66 rfl hpa rfl rfl hi) ?_
      refine l_v rfl (q_load1 rfl c1_3 rfl hpc) ?_
      refine l_pint rfl rfl ?_
      refine l_nil ?_
      refine w_region ?_
      refine l_pint rfl rfl ?_
      refine b_call rfl cb_43 rfl (WInt_ok (n := ps[i]) (hpm _ (List.getElem_mem hi)) (by have h1 := natsB_len (ps.take i); rw [List.length_take] at h1; simp only [List.length_append]; omega) H) (fun v w hv => ?_)
      obtain ⟨rfl, a', c', H⟩ := hv
      refine l_nil ?_
      refine w_region ?_
      first | refine l_v rfl (q_add rfl rfl rfl (by simp only [inK]; omega)) ?_ | refine l_pint rfl rfl ?_
      refine l_pint rfl rfl ?_
      refine l_nil ?_
      refine ⟨by repeat' first | exact aM | exact aR | refine aI rfl ?_ | refine aU rfl ?_ | refine aL rfl ?_, ?_⟩
      refine ⟨m - 1, (i + 1, a', c'), by omega, ⟨by exact congrArg (Value.int IntKind.i64) (Int.natCast_succ i).symm, trivial⟩, by omega, ?_⟩
      rw [natsB_take hi, ← List.append_assoc]
      exact H
    · try simp only [sH] at c1
      obtain rfl : i = ps.length := by omega
      refine w_exit ?_
      refine w_seq ?_
      refine w_region ?_
      refine l_pslice rfl rfl ?_
      refine b_call rfl cb_109 rfl (SumB_to H (hrf.up 2 rfl) rfl hcf hfl) (fun v w hv => ?_)
      obtain ⟨rfl, H⟩ := hv
      refine b_alloc rfl ze_195 rfl H (fun b10 w H => ?_)
      have hvl : ((shaL fs).map B).length = 32 := by rw [List.length_map, shaL_len]
      refine b_store (vs := (shaL fs).map B) rfl sz_195 rfl rfl rfl (by rw [hvl]; rfl) (all1 _) H 0 rfl (by rw [hvl]; rfl) (putL_all (by rw [hvl]; rfl)) (fun w H => ?_)
      have H2 : St W w (writerL b7 wa wc (formL 3 ++ formL n ++ formL ps.length ++ natsB (ps.take ps.length)) (blk b10 ((shaL fs).map B) 195 :: F)) := St.pick [1, 2, 0] (pre := [_, _, _]) rfl H rfl
      refine l_nil ?_
      refine w_seq ?_
      refine w_region ?_
      refine l_v rfl (q_sliceArr rfl ar_195 rfl Bnd.none Bnd.none Bnd.none (by simp)) ?_
      refine l_v rfl (q_bytesStr (bs := shaL fs) rfl by_28 st_9 rfl (by rw [subA_z]; exact Rd.mk (H.cells 0 rfl)) (shaL_len fs)) ?_
      refine b_call rfl cb_45 rfl (WText_ok (s := ⟨(shaL fs).toArray⟩) (mo := 32) (by show (shaL fs).length ≤ 32; rw [shaL_len]; decide) (by decide) (by have h1 := natsB_len (ps.take ps.length); rw [List.length_take] at h1; simp only [List.length_append]; omega) H2) (fun v w hv => ?_)
      obtain ⟨rfl, a30, c30, H⟩ := hv
      refine l_nil ?_
      refine w_seq ?_
      refine w_region ?_
      refine b_call rfl cb_72 rfl (sealed_ok hN (by have h1 := natsB_len ps; have h2 := shaL_len fs; have h3 : (⟨(shaL fs).toArray⟩ : ByteArray).data.toList.length = 32 := h2; have h4 : (⟨(shaL fs).toArray⟩ : ByteArray).size = 32 := h2; have h5 := formL_len (⟨(shaL fs).toArray⟩ : ByteArray).size; simp only [List.length_append, List.take_length, h3]; omega) H) (fun v w hv => ?_)
      obtain ⟨a31, c31, rfl, H⟩ := hv
      refine l_pslice rfl rfl ?_
      refine l_nil ?_
      refine w_ret ?_
      refine fin1 (v := .slice _ _ _) rfl ?_
      have e : formL 3 ++ formL n ++ formL ps.length ++ natsB (ps.take ps.length) ++ formL (⟨(shaL fs).toArray⟩ : ByteArray).size ++ (⟨(shaL fs).toArray⟩ : ByteArray).data.toList = footB n ps fs := by
        unfold footB
        rw [List.take_length, show (⟨(shaL fs).toArray⟩ : ByteArray).size = 32 from shaL_len fs]
      rw [e] at H ⊢
      exact ⟨a31, c31, rfl, ((H.erase 1).erase 1).erase 1⟩

end Go.Proofs.YtfpmnhmdphaceaaDoor
