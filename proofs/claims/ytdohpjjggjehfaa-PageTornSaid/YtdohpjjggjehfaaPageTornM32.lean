/- Texts of the proof of PageTorn, part 32. -/
import Derived.Test.YtdohpjjggjehfaaPageTornM31
section
namespace Go.Proofs.Ytdohpjjggjehfaa.PackEv
set_option linter.unusedVariables false
set_option linter.unusedSimpArgs false
open Go.RowKit Go.Proofs.Ytdohpjjggjehfaa.SMath Go.Proofs.Ytdohpjjggjehfaa.SealEv Go.Proofs.Ytdohpjjggjehfaa.PackMath Go.Proofs.Ytdohpjjggjehfaa.PackEv Go.Proofs.YtdohpjjggjehfaaW.PrintWords Go.Proofs.YtdohpjjggjehfaaW.PrintLast Go.Proofs.YtdohpjjggjehfaaW.PrintMore
set_option maxHeartbeats 2000000 in
theorem back_one {ws vs x : List Int} (hv : U64s vs) (hf : fits ws vs) (hx : PackOK ws vs x) {r : List Int × Int} (h : UnpR ws x r) : r = (vs, 0) := by
  have hl : ¬ late ws x := by
    rintro ⟨j, h1, h2, h3⟩
    rw [hx.2.2 j, pb_out _ _ _ h1] at h3
    cases h3
  rw [h.2.2.2 hf.1 hx.2.1 hl]
  congr 1
  apply List.ext_getElem
  · rw [uvals_len, hf.2.1]
  · intro i h1 h2
    have hi : i < ws.length := by rw [uvals_len] at h1; exact h1
    have e : (uvals ws x ws.length)[i] = uval ws x i := by simp [uvals]
    have hiw : i < (wn ws).length := by rw [wn_len]; exact hi
    rw [e, uval_at ws x i hi, fg_of_bits (gb x) ws[i].toNat (tot ((wn ws).take i)) vs[i].toNat (hf.2.2 i hi h2) ?_]
    · have := (u64s_at hv i h2).1
      omega
    · intro t ht
      rw [hx.2.2, pb_at (wn ws) vs i hiw h2 t (by rw [wn_at ws i hi]; exact ht), wn_at ws i hi]
      rfl
end Go.Proofs.Ytdohpjjggjehfaa.PackEv
end
