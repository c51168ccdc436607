/- Texts of the proof of LayoutAsks, part 21. -/
import Derived.Test.YtbdnmdmfnopihaaLayoutAsksM20
import Derived.Test.YtbdnmdmfnopihaaLayoutAsksM14
import Derived.Test.YtbdnmdmfnopihaaLayoutAsksM15
import Derived.Test.YtbdnmdmfnopihaaLayoutAsksM13
section
namespace Go.Proofs.Ytbdnmdmfnopihaa.Pure
set_option linter.unusedVariables false
set_option linter.unusedSimpArgs false
open Go.RowKit Go.Proofs.Ytbdnmdmfnopihaa.Print Go.Proofs.Ytbdnmdmfnopihaa.SMath Go.Proofs.Ytbdnmdmfnopihaa.SealEv Go.Proofs.Ytbdnmdmfnopihaa.ShapeEv Go.Proofs.YtbdnmdmfnopihaaW.PrintWords Go.Proofs.YtbdnmdmfnopihaaW.PrintLast Go.Proofs.YtbdnmdmfnopihaaW.PrintMore
theorem live_ev : Ev (fun k => slipwaylaw11_live.f k) true := Ev.of slipwaylaw11_live.mono (k := 60) (by decide +kernel)
set_option maxHeartbeats 2000000 in
theorem LayoutAsks : slipwaylaw11_LayoutAsks.Pure := by
  intro b j x y _ _ _ _
  refine Ev.rounds ?_
  obtain ⟨r, r1, r2⟩ := capacity_both b j
  have J0 : Ev (fun k => slipwaylaw11_LayoutAsks.j0 k false b j) true := by
    refine Ev.step (f := fun k => (if b > 1500 then (some true) else ((layout_Capacity.f k b j).bind fun t412 => ((slipwayref11_Capacity.f k b j).bind fun t413 => (some (t412 == t413)))))) (fun k => ?_) ?_
    · simp only [slipwaylaw11_LayoutAsks.j0]
      rw [if_neg (by decide)]
    · by_cases c : b > 1500
      · exact Ev.iff_pos c (Ev.now _)
      · refine Ev.iff_neg c (Ev.bind r1 (Ev.bind r2 ?_))
        rw [show (r == r) = true by simp]
        exact Ev.now _
  unfold slipwaylaw11_LayoutAsks.f
  refine Ev.bind live_ev (Ev.iff_pos rfl (Ev.bind (groupof_ev b j x) (Ev.bind (rgroupof_ev b j x) (Ev.bind (inodeat_ev b j y) (Ev.bind (rinodeat_ev b j y) ?_)))))
  refine Ev.iff_pos rfl (Ev.iff_neg (by simp) (Ev.iff_pos rfl (Ev.iff_pos rfl (Ev.iff_pos rfl ?_))))
  refine Ev.bind (kind_ev b j x) (Ev.bind (rkind_ev b j x) ?_)
  rw [show (knd b j x != knd b j x) = false by simp]
  exact J0
end Go.Proofs.Ytbdnmdmfnopihaa.Pure
end
