/- Texts of the proof of PageReads, part 37. -/
import Derived.Test.YtdohpjjggjehfaaPageReadsM36
import Derived.Test.YtdohpjjggjehfaaPageReadsM20
section
namespace Go.Proofs.Ytdohpjjggjehfaa.PgEv
set_option linter.unusedVariables false
set_option linter.unusedSimpArgs false
open Go.RowKit Go.Proofs.Ytdohpjjggjehfaa.Print Go.Proofs.Ytdohpjjggjehfaa.SMath Go.Proofs.Ytdohpjjggjehfaa.SealEv Go.Proofs.Ytdohpjjggjehfaa.PackMath Go.Proofs.Ytdohpjjggjehfaa.PackEv Go.Proofs.YtdohpjjggjehfaaW.PrintWords Go.Proofs.YtdohpjjggjehfaaW.PrintLast Go.Proofs.YtdohpjjggjehfaaW.PrintMore
theorem tot_find : ∀ (ws : List Nat) (j : Nat), j < tot ws → ∃ i t, ∃ h : i < ws.length, t < ws[i] ∧ j = tot (ws.take i) + t
  | [], j, h => by simp [tot] at h
  | w :: ws, j, h => by
    rw [tot_cons] at h
    by_cases hj : j < w
    · exact ⟨0, j, by simp, hj, by simp [tot]⟩
    · obtain ⟨i, t, hi, ht, e⟩ := tot_find ws (j - w) (by omega)
      refine ⟨i + 1, t, by simpa using hi, by simpa using ht, ?_⟩
      rw [List.take_succ_cons, tot_cons]
      omega
set_option maxHeartbeats 2000000 in
theorem back_two {ws b : List Int} (hw : wok ws) (hb : Bytes b) (hn : b.length = (tot (wn ws) + 7) / 8) (hl : ¬ late ws b) {r : List Int × Int} (h : PackR ws (uvals ws b ws.length) r) : r = (b, 0) := by
  obtain ⟨hu, hf⟩ := uvals_fit (b := b) hw
  obtain ⟨h0, hx⟩ := h.1 hf
  have e : r.1 = b := by
    refine bytes_ext hx.1 hb (hx.2.1.trans hn.symm) (fun j hj => ?_)
    rw [hx.2.2 j]
    by_cases ht : j < tot (wn ws)
    · obtain ⟨i, t, hi, htw, rfl⟩ := tot_find (wn ws) j ht
      have hi' : i < ws.length := by rw [wn_len] at hi; exact hi
      have h2 : i < (uvals ws b ws.length).length := by rw [uvals_len]; exact hi'
      have e1 : (uvals ws b ws.length)[i] = uval ws b i := by simp [uvals]
      have htw' : t < ws[i].toNat := by rw [wn_at ws i hi'] at htw; exact htw
      rw [pb_at (wn ws) _ i hi h2 t htw, e1, uval_at ws b i hi', wn_at ws i hi', vb, Int.toNat_natCast, fg_bit _ _ _ _ htw']
    · rw [pb_out _ _ _ (by omega)]
      have : ¬ gb b j = true := fun hg => hl ⟨j, by omega, by rw [hx.2.1] at hj; rw [hn]; exact hj, hg⟩
      simpa using this
  exact Prod.ext e h0
theorem uval_lt {w : List Int} {b : List Int} {i : Nat} (h : i < w.length) : 0 ≤ uval w b i ∧ uval w b i < 2 ^ w[i].toNat := by
  rw [uval_at w b i h]
  have := fg_lt (gb b) w[i].toNat (tot ((wn w).take i))
  refine ⟨by omega, ?_⟩
  have h2 : ((2 ^ w[i].toNat : Nat) : Int) = 2 ^ w[i].toNat := by push_cast; rfl
  rw [← h2]
  exact Int.ofNat_lt.mpr this
theorem lv_at (p : List Int) (i : Nat) (h : i < 5) : rd (lv p) (i : Int) = uval ws ((p.drop 256).take 22) i := by
  unfold lv
  rw [rd_nat _ i (by rw [uvals_len]; exact h)]
  simp [uvals]
theorem nz_false {l : List Int} (h : ¬ nz l = true) : ∀ x ∈ l, x = 0 := by
  unfold nz at h
  simpa using h
theorem all_zero {l : List Int} {n : Nat} (hl : l.length = n) (h : ∀ x ∈ l, x = 0) : l = List.replicate n 0 := by
  rw [List.eq_replicate_iff]
  exact ⟨hl, h⟩
end Go.Proofs.Ytdohpjjggjehfaa.PgEv
end
