/- The pure statements of the seal laws that need no unpacking. -/
import Derived.Test.YtbgfoibfjgmfhaaSealEv3
import Derived.Test.YtbgfoibfjgmfhaaPrint19
import Derived.Test.YtbgfoibfjgmfhaaPrint7
namespace Go.Proofs.Ytbgfoibfjgmfhaa.Pure
set_option linter.unusedVariables false
set_option linter.unusedSimpArgs false
open Go.RowKit Go.Proofs.Ytbgfoibfjgmfhaa.Print Go.Proofs.Ytbgfoibfjgmfhaa.SMath Go.Proofs.Ytbgfoibfjgmfhaa.SealEv Go.Proofs.YtbgfoibfjgmfhaaW.PrintWords Go.Proofs.YtbgfoibfjgmfhaaW.PrintLast Go.Proofs.YtbgfoibfjgmfhaaW.PrintMore

theorem live_ev : Ev (fun k => slipwaylaw01_live.f k) true := Ev.of slipwaylaw01_live.mono (k := 60) (by decide +kernel)

open Classical in
theorem SealLess : slipwaylaw01_SealLess.Pure := by
  intro l0 l1 h1 h2 h3 h4 h5 h6
  have hl := bytes_of_wf h3
  have hm := bytes_of_wf h6
  have hn : l0.length ≤ 140737488355328 := by omega
  have hyB := masked_bytes hl hm
  have hyc := masked_cov hl hm
  have hyl := masked_len l0 l1
  refine Ev.rounds (g := fun k => slipwaylaw01_SealLess.f k l0 l1) ?_
  unfold slipwaylaw01_SealLess.f
  refine Ev.bind live_ev (Ev.iff_pos rfl (Ev.bind (seal_mask l0 l1 (by omega)) (Ev.iff_pos (by omega) (Ev.bind (seal_covers _ _ hyB hl (by omega)) ?_))))
  rw [decide_eq_true hyc]
  refine Ev.iff_pos rfl (Ev.bind (seal_zeros _ hyB (by omega)) (Ev.bind (seal_zeros l0 hl hn) ?_))
  rw [decide_eq_true hyc.zeros_le]
  exact Ev.now _
end Go.Proofs.Ytbgfoibfjgmfhaa.Pure
