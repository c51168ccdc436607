/- Texts of the proof of PageMakes, part 36. -/
import Derived.Test.YtdohpjjggjehfaaPageMakesM35
import Derived.Test.YtdohpjjggjehfaaPageMakesM22
section
namespace Go.Proofs.Ytdohpjjggjehfaa.Pure
set_option linter.unusedVariables false
set_option linter.unusedSimpArgs false
open Go.RowKit Go.Proofs.Ytdohpjjggjehfaa.Print Go.Proofs.Ytdohpjjggjehfaa.SMath Go.Proofs.Ytdohpjjggjehfaa.SealEv Go.Proofs.Ytdohpjjggjehfaa.PgEv Go.Proofs.YtdohpjjggjehfaaW.PrintWords Go.Proofs.YtdohpjjggjehfaaW.PrintLast Go.Proofs.YtdohpjjggjehfaaW.PrintMore
set_option maxHeartbeats 2000000 in
theorem PageMakes : slipwaylaw03_PageMakes.Pure := by
  intro a b c d l _ _ _ _ hl
  refine Ev.rounds ?_
  have hl8 : Bytes l := bytes_of_wf hl.2.2
  have hln : l.length ≤ 140737488355328 := by have := hl.2.1; omega
  obtain ⟨x, hx, hE⟩ := enc_ev a b c d l hl8 hln
  have hR := renc_ev a b c d l hl8 x hx
  unfold slipwaylaw03_PageMakes.f
  refine Ev.bind live_ev (Ev.iff_pos rfl (Ev.bind hE (Ev.bind hR (Ev.iff_pos rfl (Ev.iff_pos ?_ (Ev.bind (chk_ev a b c d) (Ev.bindS (fun _ => rchk a b c d) (Ev.iff_pos rfl (Ev.now _)))))))))
  by_cases hh : HOK a b c d
  · rw [if_pos hh]
    by_cases h256 : l.length ≤ 256
    · rw [if_pos h256]
      exact page_len h256 (hx hh).2
    · rw [if_neg h256]
      exact pz_len
  · rw [if_neg hh]
    exact pz_len
end Go.Proofs.Ytdohpjjggjehfaa.Pure
end
