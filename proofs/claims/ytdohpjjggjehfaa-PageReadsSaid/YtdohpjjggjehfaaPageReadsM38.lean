/- Texts of the proof of PageReads, part 38. -/
import Derived.Test.YtdohpjjggjehfaaPageReadsM37
import Derived.Test.YtdohpjjggjehfaaPageReadsM22
import Derived.Test.YtdohpjjggjehfaaPageReadsM23
section
namespace Go.Proofs.Ytdohpjjggjehfaa.Pure
set_option linter.unusedVariables false
set_option linter.unusedSimpArgs false
open Go.RowKit Go.Proofs.Ytdohpjjggjehfaa.Print Go.Proofs.Ytdohpjjggjehfaa.SMath Go.Proofs.Ytdohpjjggjehfaa.SealEv Go.Proofs.Ytdohpjjggjehfaa.PackMath Go.Proofs.Ytdohpjjggjehfaa.PackEv Go.Proofs.Ytdohpjjggjehfaa.PgEv Go.Proofs.YtdohpjjggjehfaaW.PrintWords Go.Proofs.YtdohpjjggjehfaaW.PrintLast Go.Proofs.YtdohpjjggjehfaaW.PrintMore
set_option maxHeartbeats 2000000 in
theorem tear_ev (p m : List Int) (hb : Bytes p) (hl : p.length = 288) : Ev (fun k => page_Tear.f k p m) (masked p m) := by
  unfold page_Tear.f
  have hcat := concat2 ((p.drop 0).take 256) ((p.drop 256).take 32) (by rw [List.length_take, List.length_take]; omega)
  rw [two_parts, show p.take (256 + 32) = p from List.take_of_length_le (by omega)] at hcat
  refine Ev.iff_pos hl (Ev.bind hcat ?_)
  exact Ev.iff_pos hl (Ev.bind (seal_mask p m (by omega)) (Ev.iff_pos (by rw [masked_len, hl]) (Ev.now _)))
theorem rtear_ev (p m : List Int) (hl : p.length = 288) : Ev (fun k => slipwayref03_Tear.f k p m) (masked p m) := by
  have h := (masked_len p m).trans hl
  unfold slipwayref03_Tear.f
  exact Ev.iff_pos hl (Ev.bind (ref_mask p m (by omega)) (Ev.bindS (fun _ => of_ev h) (Ev.iff_pos h (Ev.now _))))
theorem str_eq {a b : List Int} (ha : Bytes a) (hb : Bytes b) : ((strOfNums a).toList == (strOfNums b).toList) = decide (a = b) := Option.some.inj (bytes_equal ha hb)
theorem runp_ev (b : List Int) (hb : Bytes b) (hl : b.length = 22) : Ev (fun k => slipwayref01_Unpack.f k ws b) (uvals ws b 5, 0) := by
  obtain ⟨r, hr, rR⟩ := ref_unpack_ev ws b hb
  have := rR.2.2.2 ws_ok (by rw [hl, ws_tot]) (not_late hl)
  rw [this] at hr
  exact hr
set_option maxHeartbeats 2000000 in
theorem dec_no {p : List Int} (hs : state p = 0) (h : rd (lv p) 1 = 0 → ¬ rd (lv p) 3 > 1152921504606846976 → ¬ rd (lv p) 4 > 1152921504606846976 → ¬ nz ((p.drop 278).take 6) = true → HOK (wrap64 (rd (lv p) 0)) (wrap64 (rd (lv p) 2)) (wrap64 (rd (lv p) 3)) (wrap64 (rd (lv p) 4)) → False) : dec p = bad 30 := by
  unfold dec
  rw [if_pos hs]
  by_cases q1 : rd (lv p) 1 = 0
  rotate_left
  · rw [if_neg q1]
  rw [if_pos q1]
  by_cases q3 : rd (lv p) 3 > 1152921504606846976
  · rw [if_pos q3]
  rw [if_neg q3]
  by_cases q4 : rd (lv p) 4 > 1152921504606846976
  · rw [if_pos q4]
  rw [if_neg q4]
  by_cases qz : nz ((p.drop 278).take 6) = true
  · rw [if_pos qz]
  rw [if_neg qz]
  by_cases hh : HOK (wrap64 (rd (lv p) 0)) (wrap64 (rd (lv p) 2)) (wrap64 (rd (lv p) 3)) (wrap64 (rd (lv p) 4))
  · exact (h q1 q3 q4 qz hh).elim
  · rw [if_neg hh]
theorem tail28 (p : List Int) : (p.take 284).drop 256 = (p.drop 256).take 22 ++ (p.drop 278).take 6 := by
  rw [List.drop_take, show (284 - 256 : Nat) = 22 + 6 from rfl, List.take_add, List.drop_drop]
set_option maxHeartbeats 2000000 in
theorem hd_eq (p : List Int) (hb : Bytes p) (hl : p.length = 288) (q3 : ¬ rd (lv p) 3 > 1152921504606846976) (q4 : ¬ rd (lv p) 4 > 1152921504606846976)
    (hh : HOK (wrap64 (rd (lv p) 0)) (wrap64 (rd (lv p) 2)) (wrap64 (rd (lv p) 3)) (wrap64 (rd (lv p) 4))) {x : List Int} (hP : PackOK ws (hv (wrap64 (rd (lv p) 0)) (wrap64 (rd (lv p) 2)) (wrap64 (rd (lv p) 3)) (wrap64 (rd (lv p) 4))) x) (h22 : x.length = 22) :
    x ++ List.replicate 6 0 = (p.take 284).drop 256 ↔ rd (lv p) 1 = 0 ∧ ¬ nz ((p.drop 278).take 6) = true := by
  have a0 := uval_lt (w := ws) (b := (p.drop 256).take 22) (i := 0) (by decide)
  have a2 := uval_lt (w := ws) (b := (p.drop 256).take 22) (i := 2) (by decide)
  have a3 := uval_lt (w := ws) (b := (p.drop 256).take 22) (i := 3) (by decide)
  have a4 := uval_lt (w := ws) (b := (p.drop 256).take 22) (i := 4) (by decide)
  have e0 : rd (lv p) 0 = _ := lv_at p 0 (by decide)
  have e2 : rd (lv p) 2 = _ := lv_at p 2 (by decide)
  have e3 : rd (lv p) 3 = _ := lv_at p 3 (by decide)
  have e4 : rd (lv p) 4 = _ := lv_at p 4 (by decide)
  have b0 : rd (lv p) 0 < 256 := by rw [e0]; exact a0.2
  have b2 : rd (lv p) 2 < 4294967296 := by rw [e2]; exact a2.2
  have w0 : wrap64 (rd (lv p) 0) = rd (lv p) 0 := w64 (by rw [e0]; omega) (by omega)
  have w2 : wrap64 (rd (lv p) 2) = rd (lv p) 2 := w64 (by rw [e2]; omega) (by omega)
  have w3 : wrap64 (rd (lv p) 3) = rd (lv p) 3 := w64 (by rw [e3]; omega) (by omega)
  have w4 : wrap64 (rd (lv p) 4) = rd (lv p) 4 := w64 (by rw [e4]; omega) (by omega)
  have hx : Bytes ((p.drop 256).take 22) := bytes_take (bytes_drop hb _) _
  have l22 : ((p.drop 256).take 22).length = 22 := by rw [List.length_take, List.length_drop]; omega
  have l6 : ((p.drop 278).take 6).length = 6 := by rw [List.length_take, List.length_drop]; omega
  rw [tail28]
  rw [w0, w2, w3, w4] at hh hP
  constructor
  · intro h
    have h1 := List.append_inj h (by rw [h22, l22])
    refine ⟨?_, ?_⟩
    · obtain ⟨r, hr, rR⟩ := ref_unpack_ev ws x hP.1
      have k1 := rR.2.2.2 ws_ok (by rw [h22, ws_tot]) (not_late h22)
      have k2 := back_one (hv_u64 hh) (hv_fit hh) hP rR
      rw [k1] at k2
      have k3 : uvals ws x ws.length = hv (rd (lv p) 0) (rd (lv p) 2) (rd (lv p) 3) (rd (lv p) 4) := by injection k2
      have k4 : lv p = hv (rd (lv p) 0) (rd (lv p) 2) (rd (lv p) 3) (rd (lv p) 4) := by
        refine Eq.trans ?_ k3
        unfold lv
        rw [h1.1]
        rfl
      rw [k4]
      rfl
    · rw [← h1.2]
      decide
  · rintro ⟨q1, qz⟩
    have hz := all_zero l6 (nz_false qz)
    have ehv : hv (rd (lv p) 0) (rd (lv p) 2) (rd (lv p) 3) (rd (lv p) 4) = lv p := by
      apply List.ext_getElem
      · unfold lv hv; rw [uvals_len]; rfl
      · intro i h1 h2
        have h5 : i < 5 := by have : (lv p).length = 5 := uvals_len _ _ _; omega
        have g : ∀ j (h : j < (lv p).length), (lv p)[j] = rd (lv p) (j : Int) := fun j h => (rd_nat _ j h).symm
        rw [g i h2]
        match i, h5 with
        | 0, _ => rfl
        | 1, _ => exact q1.symm
        | 2, _ => rfl
        | 3, _ => rfl
        | 4, _ => rfl
    obtain ⟨r, hr, rR⟩ := ref_pack_ev ws (hv (rd (lv p) 0) (rd (lv p) 2) (rd (lv p) 3) (rd (lv p) 4)) (hv_u64 hh)
    have hP2 := (rR.1 (hv_fit hh)).2
    rw [ehv] at rR
    have e := back_two ws_ok hx (by rw [l22, ws_tot]) (not_late l22) (r := r) rR
    rw [e] at hP2
    rw [hP.unique hP2, hz]
set_option maxHeartbeats 2000000 in
theorem rj_ev (p : List Int) (hb : Bytes p) (hl : p.length = 288) (hs : state p = 0) (q3 : ¬ rd (lv p) 3 > 1152921504606846976) (q4 : ¬ rd (lv p) 4 > 1152921504606846976) : Ev (fun k => slipwayref03_Decode.j k (p.take 284) (lv p)) (dec p) := by
  unfold slipwayref03_Decode.j
  refine Ev.bindS (fun _ => rchk _ _ _ _) ?_
  by_cases hh : HOK (wrap64 (rd (lv p) 0)) (wrap64 (rd (lv p) 2)) (wrap64 (rd (lv p) 3)) (wrap64 (rd (lv p) 4))
  rotate_left
  · rw [if_neg hh, dec_no hs (fun _ _ _ _ h => hh h)]
    exact Ev.iff_neg (by decide) (Ev.now _)
  rw [if_pos hh]
  obtain ⟨r, hr, rR⟩ := ref_pack_ev ws _ (hv_u64 hh)
  have hP := (rR.1 (hv_fit hh)).2
  have h22 : r.1.length = 22 := by rw [hP.2.1, ws_tot]
  have hE := hd_eq p hb hl q3 q4 hh hP h22
  refine Ev.iff_pos rfl (Ev.bind (hed_ev hh hP h22) ?_)
  have hB := bytes_append hP.1 (rep_bytes 6)
  have hT := bytes_drop (bytes_take hb 284) 256
  by_cases he : r.1 ++ List.replicate 6 0 = (p.take 284).drop 256
  · refine Ev.iff_pos (by rw [str_eq hB hT]; exact decide_eq_true he) ?_
    obtain ⟨q1, qz⟩ := hE.mp he
    have ed : dec p = (wrap64 (rd (lv p) 0), wrap64 (rd (lv p) 2), wrap64 (rd (lv p) 3), wrap64 (rd (lv p) 4), (p.take 284).take 256, 0) := by
      unfold dec
      rw [if_pos hs, if_pos q1, if_neg q3, if_neg q4, if_neg qz, if_pos hh, List.take_take, List.drop_zero]
      rfl
    rw [ed]
    exact Ev.now _
  · refine Ev.iff_neg (by rw [str_eq hB hT, decide_eq_false he]; decide) ?_
    rw [dec_no hs (fun q1 _ _ qz _ => he (hE.mpr ⟨q1, qz⟩))]
    exact Ev.now _
set_option maxHeartbeats 2000000 in
theorem rdec_ev (p : List Int) (hb : Bytes p) (hl : p.length = 288) : Ev (fun k => slipwayref03_Decode.f k p) (dec p) := by
  unfold slipwayref03_Decode.f
  refine Ev.iff_pos hl (Ev.bind (ref_open hb (by omega)) ?_)
  by_cases hs : state p = 0
  rotate_left
  · have e : opened p = ([], state p) := by unfold opened; rw [if_neg hs]
    have ed : dec p = (0, 0, 0, 0, [], state p) := by unfold dec; rw [if_neg hs]; rfl
    rw [e, ed]
    exact Ev.iff_neg hs (Ev.now _)
  have e : opened p = (p.take 284, 0) := by unfold opened; rw [if_pos hs, hl]
  rw [e]
  refine Ev.iff_pos rfl (Ev.iff_pos (by rw [List.length_take, hl]; rfl) ?_)
  have e22 : ((p.take 284).drop 256).take 22 = (p.drop 256).take 22 := by rw [List.drop_take, List.take_take]; rfl
  have hu := runp_ev ((p.drop 256).take 22) (bytes_take (bytes_drop hb _) _) (by rw [List.length_take, List.length_drop]; omega)
  refine Ev.bind (by rw [e22]; exact hu) (Ev.iff_pos (uvals_len _ _ _) ?_)
  by_cases q3 : rd (lv p) 3 > 1152921504606846976
  · rw [dec_no hs (fun _ h _ _ _ => h q3)]
    exact Ev.iff_pos q3 (Ev.now _)
  by_cases q4 : rd (lv p) 4 > 1152921504606846976
  · rw [dec_no hs (fun _ _ h _ _ => h q4)]
    exact Ev.iff_neg q3 (Ev.iff_pos q4 (Ev.now _))
  exact Ev.iff_neg q3 (Ev.iff_neg q4 (rj_ev p hb hl hs q3 q4))
theorem ff_state : state (List.replicate 288 255) = 10 := by decide +kernel
set_option maxHeartbeats 2000000 in
theorem rstate_ev (p : List Int) (hb : Bytes p) (hl : p.length = 288) : Ev (fun k => slipwayref03_State.f k p) (if p = List.replicate 288 255 then 10 else (dec p).2.2.2.2.2) := by
  have h : (if p = List.replicate 288 255 then 10 else (dec p).2.2.2.2.2) = (dec p).2.2.2.2.2 := by
    by_cases hf : p = List.replicate 288 255
    · rw [if_pos hf, hf]
      unfold dec
      rw [ff_state, if_neg (by decide)]
      rfl
    · rw [if_neg hf]
  rw [h]
  unfold slipwayref03_State.f
  exact Ev.iff_pos hl (Ev.bind (rdec_ev p hb hl) (Ev.now _))
theorem dec_bytes {p : List Int} (hb : Bytes p) : Bytes (dec p).2.2.2.2.1 := by
  have h0 : Bytes [] := fun x hx => absurd hx List.not_mem_nil
  unfold dec
  (repeat' split) <;> first | exact h0 | exact bytes_take (bytes_drop hb _) _
set_option maxHeartbeats 2000000 in
theorem PageReads : slipwaylaw03_PageReads.Pure := by
  intro p m hp hm
  refine Ev.rounds ?_
  have hpb : Bytes p := bytes_of_wf hp.2
  have hl := hp.1
  have hd := dec_bytes hpb
  unfold slipwaylaw03_PageReads.f
  refine Ev.bind live_ev (Ev.iff_pos rfl (Ev.iff_pos hl (Ev.bind (dec_ev p hpb hl) (Ev.bind (rdec_ev p hpb hl) (Ev.iff_pos rfl (Ev.bindS (fun _ => bytes_equal hd hd) ?_))))))
  refine Ev.iff_pos (decide_eq_true rfl) (Ev.bind (state_ev p hpb hl) (Ev.bind (rstate_ev p hpb hl) (Ev.iff_pos rfl (Ev.bind (tear_ev p m hpb hl) (Ev.bind (rtear_ev p m hl) (Ev.iff_pos rfl (Ev.iff_pos ((masked_len p m).trans hl) (Ev.now _))))))))
end Go.Proofs.Ytdohpjjggjehfaa.Pure
end
