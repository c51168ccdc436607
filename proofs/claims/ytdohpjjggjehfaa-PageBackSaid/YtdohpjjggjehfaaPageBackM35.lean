/- Texts of the proof of PageBack, part 35. -/
import Derived.Test.YtdohpjjggjehfaaPageBackM34
import Derived.Test.YtdohpjjggjehfaaPageBackM20
import Derived.Test.YtdohpjjggjehfaaPageBackM22
import Derived.Test.YtdohpjjggjehfaaPageBackM13
import Derived.Test.YtdohpjjggjehfaaPageBackM21
import Derived.Test.YtdohpjjggjehfaaPageBackM15
section
namespace Go.Proofs.Ytdohpjjggjehfaa.PgEv
set_option linter.unusedVariables false
set_option linter.unusedSimpArgs false
open Go.RowKit Go.Proofs.Ytdohpjjggjehfaa.Print Go.Proofs.Ytdohpjjggjehfaa.SMath Go.Proofs.Ytdohpjjggjehfaa.SealEv Go.Proofs.Ytdohpjjggjehfaa.PackMath Go.Proofs.Ytdohpjjggjehfaa.PackEv Go.Proofs.YtdohpjjggjehfaaW.PrintWords Go.Proofs.YtdohpjjggjehfaaW.PrintLast Go.Proofs.YtdohpjjggjehfaaW.PrintMore
theorem tot_find : ∀ (ws : List Nat) (j : Nat), j < tot ws → ∃ i t, ∃ h : i < ws.length, t < ws[i] ∧ j = tot (ws.take i) + t
  | [], j, h => by simp [tot] at h
  | w :: ws, j, h => by
    rw [tot_cons] at h
    by_cases hj : j < w
    · exact ⟨0, j, by simp, hj, by simp [tot]⟩
    · obtain ⟨i, t, hi, ht, e⟩ := tot_find ws (j - w) (by omega)
      refine ⟨i + 1, t, by simpa using hi, by simpa using ht, ?_⟩
      rw [List.take_succ_cons, tot_cons]
      omega
set_option maxHeartbeats 2000000 in
theorem back_two {ws b : List Int} (hw : wok ws) (hb : Bytes b) (hn : b.length = (tot (wn ws) + 7) / 8) (hl : ¬ late ws b) {r : List Int × Int} (h : PackR ws (uvals ws b ws.length) r) : r = (b, 0) := by
  obtain ⟨hu, hf⟩ := uvals_fit (b := b) hw
  obtain ⟨h0, hx⟩ := h.1 hf
  have e : r.1 = b := by
    refine bytes_ext hx.1 hb (hx.2.1.trans hn.symm) (fun j hj => ?_)
    rw [hx.2.2 j]
    by_cases ht : j < tot (wn ws)
    · obtain ⟨i, t, hi, htw, rfl⟩ := tot_find (wn ws) j ht
      have hi' : i < ws.length := by rw [wn_len] at hi; exact hi
      have h2 : i < (uvals ws b ws.length).length := by rw [uvals_len]; exact hi'
      have e1 : (uvals ws b ws.length)[i] = uval ws b i := by simp [uvals]
      have htw' : t < ws[i].toNat := by rw [wn_at ws i hi'] at htw; exact htw
      rw [pb_at (wn ws) _ i hi h2 t htw, e1, uval_at ws b i hi', wn_at ws i hi', vb, Int.toNat_natCast, fg_bit _ _ _ _ htw']
    · rw [pb_out _ _ _ (by omega)]
      have : ¬ gb b j = true := fun hg => hl ⟨j, by omega, by rw [hx.2.1] at hj; rw [hn]; exact hj, hg⟩
      simpa using this
  exact Prod.ext e h0
theorem uval_lt {w : List Int} {b : List Int} {i : Nat} (h : i < w.length) : 0 ≤ uval w b i ∧ uval w b i < 2 ^ w[i].toNat := by
  rw [uval_at w b i h]
  have := fg_lt (gb b) w[i].toNat (tot ((wn w).take i))
  refine ⟨by omega, ?_⟩
  have h2 : ((2 ^ w[i].toNat : Nat) : Int) = 2 ^ w[i].toNat := by push_cast; rfl
  rw [← h2]
  exact Int.ofNat_lt.mpr this
theorem lv_at (p : List Int) (i : Nat) (h : i < 5) : rd (lv p) (i : Int) = uval ws ((p.drop 256).take 22) i := by
  unfold lv
  rw [rd_nat _ i (by rw [uvals_len]; exact h)]
  simp [uvals]
theorem nz_false {l : List Int} (h : ¬ nz l = true) : ∀ x ∈ l, x = 0 := by
  unfold nz at h
  simpa using h
theorem all_zero {l : List Int} {n : Nat} (hl : l.length = n) (h : ∀ x ∈ l, x = 0) : l = List.replicate n 0 := by
  rw [List.eq_replicate_iff]
  exact ⟨hl, h⟩
theorem dec_back {p : List Int} (hb : Bytes p) (hl : p.length = 288) (h0 : (dec p).2.2.2.2.2 = 0) :
    ∃ x, HOK (dec p).1 (dec p).2.1 (dec p).2.2.1 (dec p).2.2.2.1 ∧ PackOK ws (hv (dec p).1 (dec p).2.1 (dec p).2.2.1 (dec p).2.2.2.1) x ∧ x.length = 22 ∧ (dec p).2.2.2.2.1 = (p.drop 0).take 256 ∧ page (p.take 256) x = p := by
  by_cases hs : state p = 0
  rotate_left
  · unfold dec at h0
    rw [if_neg hs] at h0
    exact absurd h0 hs
  have a0 := uval_lt (w := ws) (b := (p.drop 256).take 22) (i := 0) (by decide)
  have a2 := uval_lt (w := ws) (b := (p.drop 256).take 22) (i := 2) (by decide)
  have a3 := uval_lt (w := ws) (b := (p.drop 256).take 22) (i := 3) (by decide)
  have a4 := uval_lt (w := ws) (b := (p.drop 256).take 22) (i := 4) (by decide)
  have e0 : rd (lv p) 0 = _ := lv_at p 0 (by decide)
  have e1 : rd (lv p) 1 = _ := lv_at p 1 (by decide)
  have e2 : rd (lv p) 2 = _ := lv_at p 2 (by decide)
  have e3 : rd (lv p) 3 = _ := lv_at p 3 (by decide)
  have e4 : rd (lv p) 4 = _ := lv_at p 4 (by decide)
  by_cases q1 : rd (lv p) 1 = 0
  rotate_left
  · unfold dec at h0
    rw [if_pos hs, if_neg q1] at h0
    exact absurd h0 (by decide)
  by_cases q3 : rd (lv p) 3 > 1152921504606846976
  · unfold dec at h0
    rw [if_pos hs, if_pos q1, if_pos q3] at h0
    exact absurd h0 (by decide)
  by_cases q4 : rd (lv p) 4 > 1152921504606846976
  · unfold dec at h0
    rw [if_pos hs, if_pos q1, if_neg q3, if_pos q4] at h0
    exact absurd h0 (by decide)
  by_cases qz : nz ((p.drop 278).take 6) = true
  · unfold dec at h0
    rw [if_pos hs, if_pos q1, if_neg q3, if_neg q4, if_pos qz] at h0
    exact absurd h0 (by decide)
  have b0 : rd (lv p) 0 < 256 := by rw [e0]; exact a0.2
  have b2 : rd (lv p) 2 < 4294967296 := by rw [e2]; exact a2.2
  have w0 : wrap64 (rd (lv p) 0) = rd (lv p) 0 := w64 (by rw [e0]; omega) (by omega)
  have w2 : wrap64 (rd (lv p) 2) = rd (lv p) 2 := w64 (by rw [e2]; omega) (by omega)
  have w3 : wrap64 (rd (lv p) 3) = rd (lv p) 3 := w64 (by rw [e3]; omega) (by omega)
  have w4 : wrap64 (rd (lv p) 4) = rd (lv p) 4 := w64 (by rw [e4]; omega) (by omega)
  by_cases hh : HOK (wrap64 (rd (lv p) 0)) (wrap64 (rd (lv p) 2)) (wrap64 (rd (lv p) 3)) (wrap64 (rd (lv p) 4))
  rotate_left
  · unfold dec at h0
    rw [if_pos hs, if_pos q1, if_neg q3, if_neg q4, if_neg qz, if_neg hh] at h0
    exact absurd h0 (by decide)
  have ed : dec p = (wrap64 (rd (lv p) 0), wrap64 (rd (lv p) 2), wrap64 (rd (lv p) 3), wrap64 (rd (lv p) 4), (p.drop 0).take 256, 0) := by
    unfold dec
    rw [if_pos hs, if_pos q1, if_neg q3, if_neg q4, if_neg qz, if_pos hh]
  have hx : Bytes ((p.drop 256).take 22) := bytes_take (bytes_drop hb _) _
  have h22 : ((p.drop 256).take 22).length = 22 := by rw [List.length_take, List.length_drop]; omega
  have ehv : hv (rd (lv p) 0) (rd (lv p) 2) (rd (lv p) 3) (rd (lv p) 4) = lv p := by
    apply List.ext_getElem
    · unfold lv hv; rw [uvals_len]; rfl
    · intro i h1 h2
      have h5 : i < 5 := by have : (lv p).length = 5 := uvals_len _ _ _; omega
      have g : ∀ j (h : j < (lv p).length), (lv p)[j] = rd (lv p) (j : Int) := fun j h => (rd_nat _ j h).symm
      rw [g i h2]
      match i, h5 with
      | 0, _ => rfl
      | 1, _ => exact q1.symm
      | 2, _ => rfl
      | 3, _ => rfl
      | 4, _ => rfl
  rw [w0, w2, w3, w4] at hh ed
  refine ⟨(p.drop 256).take 22, by rw [ed]; exact hh, ?_, h22, by rw [ed], ?_⟩
  · rw [ed]
    show PackOK ws (hv (rd (lv p) 0) (rd (lv p) 2) (rd (lv p) 3) (rd (lv p) 4)) _
    obtain ⟨r, hr, rR⟩ := seal_pack_ev ws (hv (rd (lv p) 0) (rd (lv p) 2) (rd (lv p) 3) (rd (lv p) 4)) (hv_u64 hh)
    have hP := (rR.1 (hv_fit hh)).2
    rw [ehv] at rR
    have := back_two ws_ok hx (by rw [h22, ws_tot]) (not_late h22) (r := r) rR
    rw [this] at hP
    exact hP
  · obtain ⟨-, -, h4⟩ := state_ok hs
    have hz := all_zero (l := (p.drop 278).take 6) (n := 6) (by rw [List.length_take, List.length_drop]; omega) (nz_false qz)
    have ebody : body (p.take 256) ((p.drop 256).take 22) = p.take 284 := by
      unfold body pad
      rw [show 256 - (p.take 256).length = 0 by rw [List.length_take]; omega, List.replicate_zero, List.append_nil, ← hz, show (284 : Nat) = 256 + (22 + 6) from rfl, List.take_add, List.take_add, List.drop_drop]
    unfold page
    rw [ebody]
    rw [hl] at h4
    rw [← h4]
    exact List.take_append_drop 284 p
theorem clone_bytes (l : List Int) (hn : l.length < 140737488355328) : bytes_Clone.f l = some l := by
  unfold bytes_Clone.f
  simp only [Option.bind_some, List.length_nil, Nat.zero_add, List.nil_append]
  rw [if_pos hn]
end Go.Proofs.Ytdohpjjggjehfaa.PgEv
end
