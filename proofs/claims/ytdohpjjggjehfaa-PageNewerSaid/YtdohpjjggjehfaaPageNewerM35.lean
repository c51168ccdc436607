/- Texts of the proof of PageNewer, part 35. -/
import Derived.Test.YtdohpjjggjehfaaPageNewerM34
import Derived.Test.YtdohpjjggjehfaaPageNewerM22
section
namespace Go.Proofs.Ytdohpjjggjehfaa.Pure
set_option linter.unusedVariables false
set_option linter.unusedSimpArgs false
open Go.RowKit Go.Proofs.Ytdohpjjggjehfaa.Print Go.Proofs.Ytdohpjjggjehfaa.SMath Go.Proofs.Ytdohpjjggjehfaa.SealEv Go.Proofs.Ytdohpjjggjehfaa.PgEv Go.Proofs.YtdohpjjggjehfaaW.PrintWords Go.Proofs.YtdohpjjggjehfaaW.PrintLast Go.Proofs.YtdohpjjggjehfaaW.PrintMore
def nw (a2 a3 b2 b3 : Int) : Bool := if a2 = b2 then decide (a3 < b3) else decide (a2 > b2)
theorem nw_f (a0 a1 a2 a3 b0 b1 b2 b3 : Int) : page_Newer.f a0 a1 a2 a3 b0 b1 b2 b3 = some (nw a2 a3 b2 b3) := by
  unfold page_Newer.f nw
  split <;> rfl
theorem nw_r (a0 a1 a2 a3 b0 b1 b2 b3 : Int) : slipwayref03_Newer.f a0 a1 a2 a3 b0 b1 b2 b3 = some (nw a2 a3 b2 b3) := by
  unfold slipwayref03_Newer.f nw
  by_cases h : a2 > b2
  · rw [if_pos h, if_neg (by omega), decide_eq_true h]
  · rw [if_neg h]
    by_cases h' : a2 = b2
    · rw [if_pos h', if_pos h']
    · rw [if_neg h', if_neg h', decide_eq_false h]
theorem nw_self (a b : Int) : nw a b a b = false := by unfold nw; simp
theorem nw_iff (a b c d : Int) : nw a b c d = true ↔ (a = c ∧ b < d) ∨ a > c := by
  unfold nw
  by_cases h : a = c
  · rw [if_pos h, decide_eq_true_iff]; omega
  · rw [if_neg h, decide_eq_true_iff]; omega
set_option maxHeartbeats 2000000 in
theorem PageNewer : slipwaylaw03_PageNewer.Pure := by
  intro a0 a1 a2 a3 b0 b1 b2 b3 c0 c1 c2 c3 _ _ _ _ _ _ _ _ _ _ _ _
  refine Ev.rounds ?_
  have last : Ev (fun k => slipwaylaw03_PageNewer.j0 k false a0 a1 a2 a3 b0 b1 b2 b3 c0 c1 c2 c3) true := by
    refine Ev.step (fun k => by simp only [slipwaylaw03_PageNewer.j0]; rfl) ?_
    refine Ev.iff_neg (by decide) (Ev.bindS (fun _ => nw_f a0 a1 a2 a3 b0 b1 b2 b3) ?_)
    by_cases h1 : nw a2 a3 b2 b3 = true
    · refine Ev.iff_pos h1 (Ev.bindS (fun _ => nw_f b0 b1 b2 b3 c0 c1 c2 c3) ?_)
      by_cases h2 : nw b2 b3 c2 c3 = true
      · refine Ev.iff_pos h2 (Ev.bindS (fun _ => nw_f a0 a1 a2 a3 c0 c1 c2 c3) ?_)
        have h3 : nw a2 a3 c2 c3 = true := by rw [nw_iff] at h1 h2 ⊢; omega
        rw [h3]
        exact Ev.now _
      · exact Ev.iff_neg h2 (Ev.now _)
    · exact Ev.iff_neg h1 (Ev.now _)
  unfold slipwaylaw03_PageNewer.f
  refine Ev.bind live_ev (Ev.iff_pos rfl (Ev.bindS (fun _ => nw_f _ _ _ _ _ _ _ _) (Ev.bindS (fun _ => nw_r _ _ _ _ _ _ _ _) (Ev.iff_neg (by simp) (Ev.bindS (fun _ => nw_f _ _ _ _ _ _ _ _) (Ev.iff_neg (by rw [nw_self]; decide) (Ev.bindS (fun _ => nw_f _ _ _ _ _ _ _ _) ?_)))))))
  by_cases h1 : nw a2 a3 b2 b3 = true
  · refine Ev.iff_pos h1 (Ev.bindS (fun _ => nw_f _ _ _ _ _ _ _ _) ?_)
    have h2 : nw b2 b3 a2 a3 = false := by
      rw [Bool.eq_false_iff]
      intro h2
      rw [nw_iff] at h1 h2
      omega
    rw [h2]
    exact last
  · exact Ev.iff_neg h1 last
end Go.Proofs.Ytdohpjjggjehfaa.Pure
end
