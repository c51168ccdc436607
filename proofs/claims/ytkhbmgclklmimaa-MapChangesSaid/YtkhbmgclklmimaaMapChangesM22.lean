/- Texts of the proof of MapChanges, part 22. -/
import Derived.Test.YtkhbmgclklmimaaMapChangesM21
import Derived.Test.YtkhbmgclklmimaaMapChangesM15
import Derived.Test.YtkhbmgclklmimaaMapChangesM18
section
namespace Go.Proofs.Ytkhbmgclklmimaa.Pure
set_option linter.unusedVariables false
set_option linter.unusedSimpArgs false
open Go.RowKit Go.Proofs.Ytkhbmgclklmimaa.Print Go.Proofs.Ytkhbmgclklmimaa.MapEv Go.Proofs.YtkhbmgclklmimaaW.PrintWords Go.Proofs.YtkhbmgclklmimaaW.PrintLast Go.Proofs.YtkhbmgclklmimaaW.PrintMore
theorem begun_ev : Ev (fun k => slipwaylaw06_begun.f k) true := Ev.of slipwaylaw06_begun.mono (k := 60) (by decide +kernel)
set_option maxHeartbeats 2000000 in
theorem MapChanges : slipwaylaw06_MapChanges.Pure := by
  intro b1 w1 s1 b2 w2 s2 l hb1 hw1 _ hb2 hw2 _ hl
  refine Ev.rounds ?_
  have nb1 : b1.length ≤ 140737488355328 := by have := hb1.2.1; omega
  have nw1 : w1.length ≤ 140737488355328 := by have := hw1.2.1; omega
  have nb2 : b2.length ≤ 140737488355328 := by have := hb2.2.1; omega
  have nw2 : w2.length ≤ 140737488355328 := by have := hw2.2.1; omega
  have nl : l.length ≤ 140737488355328 := by have := hl.2.1; omega
  obtain ⟨r, r1, r2, r3, r4⟩ := apply_ev b1 w1 s1 l nw1 nl
  obtain ⟨q, q1, q2, q3⟩ := diff_ev b1 w1 s1 b2 w2 s2 nb1 nb2 nw1 nw2
  unfold slipwaylaw06_MapChanges.f
  refine Ev.bind r1 (Ev.bind r2 (Ev.bind q1 (Ev.bind q2 (Ev.bind begun_ev (Ev.iff_pos rfl ?_)))))
  refine Ev.bind (rsame_ev _ _ _ _ _ _ (by omega) (by omega)) (Ev.iff_pos (by simp) (Ev.iff_pos rfl ?_))
  refine Ev.bind (samerec_refl _ (by omega)) (Ev.iff_pos rfl ?_)
  rw [show (q.2 == q.2) = true by simp]
  exact Ev.now _
end Go.Proofs.Ytkhbmgclklmimaa.Pure
end
