/- The pure statements of the seal laws that need no unpacking. -/
import Derived.Test.YtbgfoibfjgmfhaaSealEv3
import Derived.Test.YtbgfoibfjgmfhaaPrint19
import Derived.Test.YtbgfoibfjgmfhaaPrint21
import Derived.Test.YtbgfoibfjgmfhaaPrint7
namespace Go.Proofs.Ytbgfoibfjgmfhaa.Pure
set_option linter.unusedVariables false
set_option linter.unusedSimpArgs false
open Go.RowKit Go.Proofs.Ytbgfoibfjgmfhaa.Print Go.Proofs.Ytbgfoibfjgmfhaa.SMath Go.Proofs.Ytbgfoibfjgmfhaa.SealEv Go.Proofs.YtbgfoibfjgmfhaaW.PrintWords Go.Proofs.YtbgfoibfjgmfhaaW.PrintLast Go.Proofs.YtbgfoibfjgmfhaaW.PrintMore

theorem live_ev : Ev (fun k => slipwaylaw01_live.f k) true := Ev.of slipwaylaw01_live.mono (k := 60) (by decide +kernel)

theorem clone_bytes (l : List Int) (hn : l.length < 140737488355328) : bytes_Clone.f l = some l := by
  unfold bytes_Clone.f
  simp only [Option.bind_some, List.length_nil, Nat.zero_add, List.nil_append]
  rw [if_pos hn]

theorem SealMasks : slipwaylaw01_SealMasks.Pure := by
  intro l0 l1 h1 h2 h3 h4 h5 h6
  have hl := bytes_of_wf h3
  have hm := bytes_of_wf h6
  have hn : l0.length ≤ 140737488355328 := by omega
  have hyB := masked_bytes hl hm
  refine Ev.rounds (g := fun k => slipwaylaw01_SealMasks.f k l0 l1) ?_
  unfold slipwaylaw01_SealMasks.f
  rw [clone_bytes l0 (by omega)]
  refine Ev.bind live_ev (Ev.iff_pos rfl (Ev.bind (Ev.now _) (Ev.bind (seal_mask l0 l1 (by omega)) (Ev.bind (ref_mask l0 l1 (by omega)) ?_))))
  rw [bytes_equal hyB hyB, bytes_equal hl hl]
  simp only [Option.bind_some, decide_true, if_true]
  refine Ev.bind (seal_covers l0 l1 hl hm hn) (Ev.bind (ref_covers l0 l1 hl hm hn) ?_)
  simp only [beq_self_eq_true, if_true]
  exact Ev.now _
end Go.Proofs.Ytbgfoibfjgmfhaa.Pure
