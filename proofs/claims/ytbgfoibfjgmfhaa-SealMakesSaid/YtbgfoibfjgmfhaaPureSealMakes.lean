/- The pure statements of the seal laws that need no unpacking. -/
import Derived.Test.YtbgfoibfjgmfhaaSealEv3
import Derived.Test.YtbgfoibfjgmfhaaPrint12
import Derived.Test.YtbgfoibfjgmfhaaPrint7
namespace Go.Proofs.Ytbgfoibfjgmfhaa.Pure
set_option linter.unusedVariables false
set_option linter.unusedSimpArgs false
open Go.RowKit Go.Proofs.Ytbgfoibfjgmfhaa.Print Go.Proofs.Ytbgfoibfjgmfhaa.SMath Go.Proofs.Ytbgfoibfjgmfhaa.SealEv Go.Proofs.YtbgfoibfjgmfhaaW.PrintWords Go.Proofs.YtbgfoibfjgmfhaaW.PrintLast Go.Proofs.YtbgfoibfjgmfhaaW.PrintMore

theorem live_ev : Ev (fun k => slipwaylaw01_live.f k) true := Ev.of slipwaylaw01_live.mono (k := 60) (by decide +kernel)

theorem SealMakes : slipwaylaw01_SealMakes.Pure := by
  intro l0 h1 h2 h3
  have hl := bytes_of_wf h3
  have hn : l0.length ≤ 140737488355328 := by omega
  refine Ev.rounds (g := fun k => slipwaylaw01_SealMakes.f k l0) ?_
  unfold slipwaylaw01_SealMakes.f
  have hs : Bytes (sealed l0).1 := by
    unfold sealed
    split
    · intro x hx; simp at hx
    · exact bytes_append hl (nb_bytes _)
  have ho : Bytes (opened l0).1 := by
    unfold opened
    split
    · exact bytes_take hl _
    · intro x hx; simp at hx
  refine Ev.bind live_ev (Ev.iff_pos rfl (Ev.bind (seal_seal hl hn) (Ev.bind (ref_seal hl hn) (Ev.bind (seal_open hl hn) (Ev.bind (ref_open hl hn) ?_)))))
  rw [bytes_equal hs hs, bytes_equal ho ho]
  simp only [Option.bind_some, decide_true, if_true]
  refine Ev.bind (seal_zeros l0 hl hn) (Ev.bind (ref_zeros l0 hl hn) (Ev.iff_pos rfl (Ev.bind (seal_state hl hn) (Ev.bind (ref_state hl hn) ?_))))
  simp only [beq_self_eq_true]
  exact Ev.now _
end Go.Proofs.Ytbgfoibfjgmfhaa.Pure
