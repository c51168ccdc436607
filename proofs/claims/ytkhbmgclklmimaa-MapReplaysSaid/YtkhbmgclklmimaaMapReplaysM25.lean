/- Texts of the proof of MapReplays, part 25. -/
import Derived.Test.YtkhbmgclklmimaaMapReplaysM24
import Derived.Test.YtkhbmgclklmimaaMapReplaysM19
section
namespace Go.Proofs.Ytkhbmgclklmimaa.Pure
set_option linter.unusedVariables false
set_option linter.unusedSimpArgs false
open Go.RowKit Go.Proofs.Ytkhbmgclklmimaa.Print Go.Proofs.Ytkhbmgclklmimaa.MapEv Go.Proofs.YtkhbmgclklmimaaW.PrintWords Go.Proofs.YtkhbmgclklmimaaW.PrintLast Go.Proofs.YtkhbmgclklmimaaW.PrintMore
theorem begun_ev : Ev (fun k => slipwaylaw06_begun.f k) true := Ev.of slipwaylaw06_begun.mono (k := 60) (by decide +kernel)
set_option maxHeartbeats 2000000 in
theorem MapReplays : slipwaylaw06_MapReplays.Pure := by
  intro n l _ hl
  refine Ev.rounds ?_
  have nl : l.length ≤ 140737488355328 := by have := hl.2.1; omega
  obtain ⟨r, r1, r2, r3, r4⟩ := replay_ev n l nl (fun x hx => by
    obtain ⟨_, _, _, _, _, h5, h6⟩ := hl.2.2 x hx
    have h5' := h5.2.1
    have h6' := h6.2.1
    exact ⟨by omega, by omega⟩)
  unfold slipwaylaw06_MapReplays.f
  refine Ev.bind r1 (Ev.bind r2 (Ev.bind begun_ev (Ev.iff_pos rfl ?_)))
  refine Ev.bind (rsame_ev _ _ _ _ _ _ (by omega) (by omega)) (Ev.iff_pos (by simp) (Ev.iff_pos rfl ?_))
  rw [show (r.2.2.2.2 == r.2.2.2.2) = true by simp]
  exact Ev.now _
end Go.Proofs.Ytkhbmgclklmimaa.Pure
end
