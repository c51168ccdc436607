/- Texts of the proof of PageReads, part 33. -/
import Derived.Test.YtdohpjjggjehfaaPageReadsM32
section
namespace Go.Proofs.Ytdohpjjggjehfaa.PackEv
set_option linter.unusedVariables false
set_option linter.unusedSimpArgs false
open Go.RowKit Go.Proofs.Ytdohpjjggjehfaa.SMath Go.Proofs.Ytdohpjjggjehfaa.SealEv Go.Proofs.Ytdohpjjggjehfaa.PackMath Go.Proofs.Ytdohpjjggjehfaa.PackEv Go.Proofs.YtdohpjjggjehfaaW.PrintWords Go.Proofs.YtdohpjjggjehfaaW.PrintLast Go.Proofs.YtdohpjjggjehfaaW.PrintMore
set_option maxHeartbeats 2000000 in
theorem back_one {ws vs x : List Int} (hv : U64s vs) (hf : fits ws vs) (hx : PackOK ws vs x) {r : List Int × Int} (h : UnpR ws x r) : r = (vs, 0) := by
  have hl : ¬ late ws x := by
    rintro ⟨j, h1, h2, h3⟩
    rw [hx.2.2 j, pb_out _ _ _ h1] at h3
    cases h3
  rw [h.2.2.2 hf.1 hx.2.1 hl]
  congr 1
  apply List.ext_getElem
  · rw [uvals_len, hf.2.1]
  · intro i h1 h2
    have hi : i < ws.length := by rw [uvals_len] at h1; exact h1
    have e : (uvals ws x ws.length)[i] = uval ws x i := by simp [uvals]
    have hiw : i < (wn ws).length := by rw [wn_len]; exact hi
    rw [e, uval_at ws x i hi, fg_of_bits (gb x) ws[i].toNat (tot ((wn ws).take i)) vs[i].toNat (hf.2.2 i hi h2) ?_]
    · have := (u64s_at hv i h2).1
      omega
    · intro t ht
      rw [hx.2.2, pb_at (wn ws) vs i hiw h2 t (by rw [wn_at ws i hi]; exact ht), wn_at ws i hi]
      rfl
set_option maxHeartbeats 2000000 in
theorem uvals_fit {ws b : List Int} (hw : wok ws) : U64s (uvals ws b ws.length) ∧ fits ws (uvals ws b ws.length) := by
  have hat : ∀ i (h : i < ws.length) (h' : i < (uvals ws b ws.length).length), (uvals ws b ws.length)[i] = (fg (gb b) (tot ((wn ws).take i)) ws[i].toNat 0 : Nat) := fun i h h' => by
    rw [← uval_at ws b i h]
    simp [uvals]
  have hlt : ∀ i (h : i < ws.length), fg (gb b) (tot ((wn ws).take i)) ws[i].toNat 0 < 2 ^ ws[i].toNat := fun i h => fg_lt _ _ _
  refine ⟨fun v hv => ?_, hw, uvals_len _ _ _, fun i h h' => ?_⟩
  · obtain ⟨i, hi, rfl⟩ := List.getElem_of_mem hv
    have hi' : i < ws.length := by rw [uvals_len] at hi; exact hi
    rw [hat i hi' hi]
    have h1 := hlt i hi'
    have h2 := (hw.2 _ (List.getElem_mem hi')).2
    have h3 : 2 ^ ws[i].toNat ≤ 2 ^ 64 := Nat.pow_le_pow_right (by decide) (by omega)
    have h4 : (2 : Nat) ^ 64 = 18446744073709551616 := rfl
    unfold U64
    omega
  · rw [hat i h h', Int.toNat_natCast]
    exact hlt i h
end Go.Proofs.Ytdohpjjggjehfaa.PackEv
end
