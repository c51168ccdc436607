/- The pure statements of the seal laws that need no unpacking. -/
import Derived.Test.YtbgfoibfjgmfhaaSealEv3
import Derived.Test.YtbgfoibfjgmfhaaPrint15
import Derived.Test.YtbgfoibfjgmfhaaPrint7
namespace Go.Proofs.Ytbgfoibfjgmfhaa.Pure
set_option linter.unusedVariables false
set_option linter.unusedSimpArgs false
open Go.RowKit Go.Proofs.Ytbgfoibfjgmfhaa.Print Go.Proofs.Ytbgfoibfjgmfhaa.SMath Go.Proofs.Ytbgfoibfjgmfhaa.SealEv Go.Proofs.YtbgfoibfjgmfhaaW.PrintWords Go.Proofs.YtbgfoibfjgmfhaaW.PrintLast Go.Proofs.YtbgfoibfjgmfhaaW.PrintMore

theorem live_ev : Ev (fun k => slipwaylaw01_live.f k) true := Ev.of slipwaylaw01_live.mono (k := 60) (by decide +kernel)

theorem SealSided : slipwaylaw01_SealSided.Pure := by
  intro l0 l1 h1 h2 h3 h4 h5 h6
  have hl := bytes_of_wf h3
  have hm := bytes_of_wf h6
  have hn : l0.length ≤ 140737488355328 := by omega
  refine Ev.rounds (g := fun k => slipwaylaw01_SealSided.f k l0 l1) ?_
  unfold slipwaylaw01_SealSided.f
  refine Ev.bind live_ev (Ev.iff_pos rfl (Ev.bind (seal_seal hl hn) ?_))
  by_cases hb : (l0.length : Int) > 1048576
  · have e : sealed l0 = ([], 3) := by rw [sealed, if_pos hb]
    rw [e]
    exact Ev.iff_neg (by decide) (by rw [decide_eq_true hb]; exact Ev.now _)
  · have e : sealed l0 = (l0 ++ nb (zeros l0), 0) := by rw [sealed, if_neg hb]
    have hB : Bytes (l0 ++ nb (zeros l0)) := bytes_append hl (nb_bytes _)
    have hlen : (l0 ++ nb (zeros l0)).length = l0.length + 4 := by simp [nb]
    rw [e]
    generalize hx : l0 ++ nb (zeros l0) = x at hB hlen
    have hyB := masked_bytes hB hm
    have hyc := masked_cov hB hm
    have hyl := masked_len x l1
    refine Ev.iff_pos rfl (Ev.bind (seal_mask x l1 (by omega)) ?_)
    generalize masked x l1 = y at hyB hyc hyl ⊢
    rw [bytes_equal hB hyB]
    simp only [Option.bind_some]
    by_cases hxy : x = y
    · rw [decide_eq_true hxy]
      exact Ev.iff_pos rfl (Ev.now _)
    · rw [decide_eq_false hxy]
      refine Ev.iff_neg (by decide) (Ev.bind (seal_state hyB (by omega)) ?_)
      by_cases h10 : state y = 10
      · exact Ev.iff_pos h10 (Ev.now _)
      · refine Ev.iff_neg h10 (Ev.bind (seal_state hyB (by omega)) ?_)
        have h11 : state y = 11 := by
          by_cases h0 : state y = 0
          · exfalso
            obtain ⟨a4, a5, a6⟩ := state_ok h0
            have hyd : y = y.take (y.length - 4) ++ nb (zeros (y.take (y.length - 4))) := by rw [← a6, List.take_append_drop]
            have hyt : (y.take (y.length - 4)).length = l0.length := by rw [List.length_take]; omega
            rw [hyd, ← hx] at hyc
            have := sealed_cov (bytes_take hyB _) hl hyt (by omega) hyc
            apply hxy
            rw [hyd, this, hx]
          · unfold state at h10 h0 ⊢
            split <;> rename_i hc
            · rw [if_pos hc] at h10; exact absurd rfl h10
            · split <;> rename_i hd
              · rfl
              · split <;> rename_i he
                · rw [if_neg hc, if_neg hd, if_pos he] at h0; exact absurd rfl h0
                · rfl
        rw [h11]
        exact Ev.now _
end Go.Proofs.Ytbgfoibfjgmfhaa.Pure
