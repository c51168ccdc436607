/- Texts of the proof of PoolMakes, part 18. -/
import Derived.Test.YtlegmnpngcadhaaPoolMakesM17
import Derived.Test.YtlegmnpngcadhaaPoolMakesM15
section
namespace Go.Proofs.Ytlegmnpngcadhaa.Pure
set_option linter.unusedVariables false
set_option linter.unusedSimpArgs false
open Go.RowKit Go.Proofs.Ytlegmnpngcadhaa.Print Go.Proofs.Ytlegmnpngcadhaa.Pl Go.Proofs.YtlegmnpngcadhaaW.PrintWords Go.Proofs.YtlegmnpngcadhaaW.PrintLast Go.Proofs.YtlegmnpngcadhaaW.PrintMore
set_option maxHeartbeats 2000000 in
theorem PoolMakes : slipwaylaw04_PoolMakes.Pure := by
  intro r w n bad a b x y z _ _ _ hb _ _ _ _ _
  refine Ev.rounds ?_
  have nb : bad.length ≤ 140737488355328 := by have := hb.2.1; omega
  obtain ⟨q, q1, q2, q3, _⟩ := new_ev n bad nb
  obtain ⟨c, c1, c2⟩ := cap_ev a b x y z
  unfold slipwaylaw04_PoolMakes.f
  refine Ev.bind q1 (Ev.bind q2 (Ev.bind c1 (Ev.bind c2 (Ev.bind begun_ev (Ev.iff_pos rfl (Ev.bind (check_ev r w) (Ev.bind (rcheck_ev r w) (Ev.iff_pos rfl (Ev.bind (rsame_ev _ _ _ _ (by have := q3.1; omega) (by have := q3.2.1; omega)) (Ev.iff_pos (by simp) (Ev.iff_pos rfl (Ev.iff_pos rfl ?_))))))))))))
  rw [show (c.2 == c.2) = true by simp]
  exact Ev.now _
end Go.Proofs.Ytlegmnpngcadhaa.Pure
end
