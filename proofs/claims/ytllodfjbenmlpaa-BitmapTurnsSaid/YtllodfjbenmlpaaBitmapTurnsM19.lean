/- Texts of the proof of BitmapTurns, part 19. -/
import Derived.Test.YtllodfjbenmlpaaBitmapTurnsM18
import Derived.Test.YtllodfjbenmlpaaBitmapTurnsM14
import Derived.Test.YtllodfjbenmlpaaBitmapTurnsM15
section
namespace Go.Proofs.Ytllodfjbenmlpaa.Pure
set_option linter.unusedVariables false
set_option linter.unusedSimpArgs false
open Go.RowKit Go.Proofs.Ytllodfjbenmlpaa.Print Go.Proofs.Ytllodfjbenmlpaa.Bm Go.Proofs.YtllodfjbenmlpaaW.PrintWords Go.Proofs.YtllodfjbenmlpaaW.PrintLast Go.Proofs.YtllodfjbenmlpaaW.PrintMore
set_option maxHeartbeats 2000000 in
theorem BitmapTurns : slipwaylaw12_BitmapTurns.Pure := by
  intro a b n f m _ hla hwa _ hlb hwb _ _ _
  have ha := by_wf hwa
  have hb := by_wf hwb
  refine Ev.rounds ?_
  have hcl : slices_Clone_byte_byte.f a = some a := by
    unfold slices_Clone_byte_byte.f
    simp only [Option.bind_some, List.length_nil, List.nil_append]
    rw [if_pos (by omega)]
  unfold slipwaylaw12_BitmapTurns.f
  refine Ev.bindS (fun _ => hcl) (Ev.bind (set_ev ha n f m) (Ev.bind (rset_ev ha n f m) (Ev.bind begun_ev (Ev.iff_pos rfl ?_))))
  refine Ev.bindS (fun _ => eq_self _) (Ev.iff_pos rfl ?_)
  have e1 : ((trn a n f m false).2 != (trn a n f m false).2) = false := by simp
  rw [e1]
  refine Ev.step (fun k => by simp only [slipwaylaw12_BitmapTurns.j0]; rw [if_neg (by decide)]) ?_
  refine Ev.bind (clear_ev ha n f m) (Ev.bind (rclear_ev ha n f m) (Ev.bindS (fun _ => eq_self _) (Ev.iff_pos rfl ?_)))
  have e2 : ((trn a n f m true).2 != (trn a n f m true).2) = false := by simp
  rw [e2]
  refine Ev.step (fun k => by simp only [slipwaylaw12_BitmapTurns.j1]; rw [if_neg (by decide)]) ?_
  refine Ev.bind (minus_ev ha hb n) (Ev.bind (rminus_ev ha hb n) (Ev.bindS (fun _ => eq_self _) (Ev.iff_pos rfl (Ev.iff_pos rfl (Ev.bindS (fun _ => eq_self _) (Ev.now _))))))
end Go.Proofs.Ytllodfjbenmlpaa.Pure
end
