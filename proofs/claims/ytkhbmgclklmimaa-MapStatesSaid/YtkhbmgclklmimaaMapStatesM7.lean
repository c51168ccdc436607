/- Texts of the proof of MapStates, part 7. -/
import Derived.Test.YtkhbmgclklmimaaMapStatesM6
import Derived.Test.YtkhbmgclklmimaaMapStatesM4
section
namespace Go.Proofs.Ytkhbmgclklmimaa.Pure
set_option linter.unusedVariables false
set_option linter.unusedSimpArgs false
open Go.RowKit Go.Proofs.Ytkhbmgclklmimaa.Print Go.Proofs.Ytkhbmgclklmimaa.MapEv Go.Proofs.YtkhbmgclklmimaaW.PrintWords Go.Proofs.YtkhbmgclklmimaaW.PrintLast Go.Proofs.YtkhbmgclklmimaaW.PrintMore
theorem begun_ev : Ev (fun k => slipwaylaw06_begun.f k) true := Ev.of slipwaylaw06_begun.mono (k := 60) (by decide +kernel)
set_option maxHeartbeats 2000000 in
theorem MapStates : slipwaylaw06_MapStates.Pure := by
  intro b1 w1 s1 b2 w2 s2 n hb1 hw1 _ hb2 hw2 _ _
  refine Ev.rounds ?_
  have nb1 : b1.length ≤ 140737488355328 := by have := hb1.2.1; omega
  have nw1 : w1.length ≤ 140737488355328 := by have := hw1.2.1; omega
  have nw2 : w2.length ≤ 140737488355328 := by have := hw2.2.1; omega
  have nl := nw_len n
  have jl := jn_len b1 w1 s1 b2 w2 s2
  unfold slipwaylaw06_MapStates.f
  refine Ev.bindS (fun _ => new_f n) (Ev.bindS (fun _ => rnew_f n) ?_)
  refine Ev.bind (join_ev b1 w1 s1 b2 w2 s2 nw1 nw2) (Ev.bind (rjoin_ev b1 w1 s1 b2 w2 s2 nw1 nw2) ?_)
  refine Ev.bind begun_ev (Ev.iff_pos rfl ?_)
  refine Ev.bind (rsame_ev _ _ _ _ _ _ (by omega) (by omega)) (Ev.iff_pos (by simp) (Ev.iff_pos rfl ?_))
  refine Ev.bind (check_ev b1 w1 s1 nw1) (Ev.bind (rcheck_ev b1 w1 s1 nw1) (Ev.iff_pos rfl ?_))
  refine Ev.bind (rsame_ev _ _ _ _ _ _ (by omega) (by omega)) (Ev.iff_pos (by simp) (Ev.iff_pos rfl ?_))
  refine Ev.bind (covers_ev b1 w1 s1 b2 w2 s2 nw1 nw2) (Ev.bind (rcovers_ev b1 w1 s1 b2 w2 s2 nb1 nw1 nw2) (Ev.iff_pos (by simp) ?_))
  refine Ev.bind (same_ev b1 w1 s1 b2 w2 s2 nb1 nw1) (Ev.bind (rsame_ev b1 w1 s1 b2 w2 s2 nb1 nw1) (Ev.iff_pos (by simp) ?_))
  refine Ev.bind (same_ev b1 w1 s1 b1 w1 s1 nb1 nw1) ?_
  rw [show decide (b1 = b1 ∧ w1 = w1 ∧ s1 = s1) = true by simp]
  exact Ev.now _
end Go.Proofs.Ytkhbmgclklmimaa.Pure
end
