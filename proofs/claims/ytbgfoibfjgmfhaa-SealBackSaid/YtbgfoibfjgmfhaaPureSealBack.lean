/- The pure statements of the seal laws that need no unpacking. -/
import Derived.Test.YtbgfoibfjgmfhaaSealEv3
import Derived.Test.YtbgfoibfjgmfhaaPrint13
import Derived.Test.YtbgfoibfjgmfhaaPrint2
import Derived.Test.YtbgfoibfjgmfhaaPrint7
import Derived.Test.YtbgfoibfjgmfhaaPrint9
namespace Go.Proofs.Ytbgfoibfjgmfhaa.Pure
set_option linter.unusedVariables false
set_option linter.unusedSimpArgs false
open Go.RowKit Go.Proofs.Ytbgfoibfjgmfhaa.Print Go.Proofs.Ytbgfoibfjgmfhaa.SMath Go.Proofs.Ytbgfoibfjgmfhaa.SealEv Go.Proofs.YtbgfoibfjgmfhaaW.PrintWords Go.Proofs.YtbgfoibfjgmfhaaW.PrintLast Go.Proofs.YtbgfoibfjgmfhaaW.PrintMore

theorem live_ev : Ev (fun k => slipwaylaw01_live.f k) true := Ev.of slipwaylaw01_live.mono (k := 60) (by decide +kernel)

theorem SealBack : slipwaylaw01_SealBack.Pure := by
  intro l0 h1 h2 h3
  have hl := bytes_of_wf h3
  have hn : l0.length ≤ 140737488355328 := by omega
  refine Ev.rounds (g := fun k => slipwaylaw01_SealBack.f k l0) ?_
  unfold slipwaylaw01_SealBack.f
  refine Ev.bind live_ev (Ev.iff_pos rfl (Ev.bind (seal_seal hl hn) ?_))
  by_cases hb : (l0.length : Int) > 1048576
  · have e : sealed l0 = ([], 3) := by rw [sealed, if_pos hb]
    rw [e]
    exact Ev.iff_neg (by decide) (by rw [decide_eq_true hb]; exact Ev.now _)
  · have e : sealed l0 = (l0 ++ nb (zeros l0), 0) := by rw [sealed, if_neg hb]
    have hz := zeros_range l0
    have hB : Bytes (l0 ++ nb (zeros l0)) := bytes_append hl (nb_bytes _)
    have hlen : (l0 ++ nb (zeros l0)).length = l0.length + 4 := by simp [nb]
    have htk : (l0 ++ nb (zeros l0)).take ((l0 ++ nb (zeros l0)).length - 4) = l0 := by
      rw [hlen, Nat.add_sub_cancel, List.take_left]
    have hdr : (l0 ++ nb (zeros l0)).drop ((l0 ++ nb (zeros l0)).length - 4) = nb (zeros l0) := by
      rw [hlen, Nat.add_sub_cancel, List.drop_left]
    have hst : state (l0 ++ nb (zeros l0)) = 0 := by
      unfold state
      rw [htk, hdr, if_neg ?_, if_neg (by rw [hlen]; omega), if_pos rfl]
      rintro ⟨_, hz0⟩
      rw [zeros_append] at hz0
      have hz1 := zeros_range (nb (zeros l0))
      have hz2 : zeros l0 = 0 := by omega
      rw [hz2] at hz0
      exact absurd hz0 (by decide)
    have ho : opened (l0 ++ nb (zeros l0)) = (l0, 0) := by rw [opened, if_pos hst, htk]
    rw [e]
    refine Ev.iff_pos rfl (Ev.bind (seal_open hB (by rw [hlen]; omega)) ?_)
    rw [ho]
    refine Ev.iff_pos rfl ?_
    rw [bytes_equal hl hl]
    simp only [Option.bind_some, decide_true, Bool.not_true]
    refine Ev.step (f := fun k => (seal_Open.f k l0).bind fun b => if b.2 = 0 then (seal_Seal.f k b.1).bind fun c => if c.2 = 0 then (bytes_Equal.f c.1 l0).bind fun t => some t else some false else some true) (fun k => ?_) ?_
    · simp only [slipwaylaw01_SealBack.j0]
      rfl
    · refine Ev.bind (seal_open hl hn) ?_
      by_cases hs0 : state l0 = 0
      · obtain ⟨a4, a5, a6⟩ := state_ok hs0
        have hop : opened l0 = (l0.take (l0.length - 4), 0) := by rw [opened, if_pos hs0]
        rw [hop]
        have hlt : (l0.take (l0.length - 4)).length = l0.length - 4 := by rw [List.length_take]; omega
        refine Ev.iff_pos rfl (Ev.bind (seal_seal (bytes_take hl _) (by rw [hlt]; omega)) ?_)
        have hse : sealed (l0.take (l0.length - 4)) = (l0, 0) := by
          rw [sealed, if_neg (by rw [hlt]; omega), ← a6, List.take_append_drop]
        rw [hse]
        refine Ev.iff_pos rfl ?_
        rw [bytes_equal hl hl]
        simp only [Option.bind_some, decide_true]
        exact Ev.now _
      · have hop : opened l0 = ([], state l0) := by rw [opened, if_neg hs0]
        rw [hop]
        exact Ev.iff_neg hs0 (Ev.now _)
end Go.Proofs.Ytbgfoibfjgmfhaa.Pure
