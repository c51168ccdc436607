/- Texts of the proof of LayoutSupers, part 36. -/
import Derived.Test.YtbdnmdmfnopihaaLayoutSupersM35
import Derived.Test.YtbdnmdmfnopihaaLayoutSupersM21
section
namespace Go.Proofs.Ytbdnmdmfnopihaa.Pure
set_option linter.unusedVariables false
set_option linter.unusedSimpArgs false
open Go.RowKit Go.Proofs.Ytbdnmdmfnopihaa.Print Go.Proofs.Ytbdnmdmfnopihaa.SMath Go.Proofs.Ytbdnmdmfnopihaa.SealEv Go.Proofs.Ytbdnmdmfnopihaa.ShapeEv Go.Proofs.Ytbdnmdmfnopihaa.SuperEv Go.Proofs.Ytbdnmdmfnopihaa.PackEv Go.Proofs.YtbdnmdmfnopihaaW.PrintWords Go.Proofs.YtbdnmdmfnopihaaW.PrintLast Go.Proofs.YtbdnmdmfnopihaaW.PrintMore
theorem live_ev : Ev (fun k => slipwaylaw11_live.f k) true := Ev.of slipwaylaw11_live.mono (k := 60) (by decide +kernel)
set_option maxHeartbeats 2000000 in
theorem LayoutSupers : slipwaylaw11_LayoutSupers.Pure := by
  intro b j o c m x hb hj ho hm hx
  refine Ev.rounds ?_
  have hx8 : Bytes x := bytes_of_wf hx.2.2
  have hxn : x.length ≤ 140737488355328 := by have := hx.2.1; omega
  obtain ⟨r, hr, rR⟩ := encs_ev b j o c m
  obtain ⟨r', hr', rR'⟩ := rencs_ev b j o c m
  have e : r = r' := rR.eq rR'
  subst e
  obtain ⟨q, hq, qD⟩ := decs_ev x hx8 hxn
  obtain ⟨q', hq', qD'⟩ := rdecs_ev x hx8 hxn
  have e : q = q' := qD.eq qD'
  subst e
  unfold slipwaylaw11_LayoutSupers.f
  refine Ev.bind live_ev (Ev.iff_pos rfl (Ev.bind hr (Ev.bind hr' (Ev.bind hq (Ev.bind hq' ?_)))))
  refine Ev.bindS (fun _ => bytes_equal rR.bytes.1 rR.bytes.1) (Ev.iff_pos (by simp) (Ev.iff_pos rfl (Ev.iff_pos (by simp) ?_)))
  rw [show (q.2.2.2.2.2 == q.2.2.2.2.2) = true by simp]
  exact Ev.now _
end Go.Proofs.Ytbdnmdmfnopihaa.Pure
end
