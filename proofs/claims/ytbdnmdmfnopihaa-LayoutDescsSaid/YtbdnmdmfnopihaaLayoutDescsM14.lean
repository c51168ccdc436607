/- Texts of the proof of LayoutDescs, part 14. -/
import Derived.Test.YtbdnmdmfnopihaaLayoutDescsM13
import Derived.Test.YtbdnmdmfnopihaaLayoutDescsM1
import Derived.Test.YtbdnmdmfnopihaaLayoutDescsM3
section
namespace Go.Proofs.Ytbdnmdmfnopihaa.Pure
set_option linter.unusedVariables false
set_option linter.unusedSimpArgs false
open Go.RowKit Go.Proofs.Ytbdnmdmfnopihaa.Print Go.Proofs.Ytbdnmdmfnopihaa.SMath Go.Proofs.Ytbdnmdmfnopihaa.SealEv Go.Proofs.Ytbdnmdmfnopihaa.DescEv Go.Proofs.Ytbdnmdmfnopihaa.PackEv Go.Proofs.YtbdnmdmfnopihaaW.PrintWords Go.Proofs.YtbdnmdmfnopihaaW.PrintLast Go.Proofs.YtbdnmdmfnopihaaW.PrintMore
theorem live_ev : Ev (fun k => slipwaylaw11_live.f k) true := Ev.of slipwaylaw11_live.mono (k := 60) (by decide +kernel)
theorem encR_bytes (l : List S57) : Bytes (encR l).1 := by
  unfold encR
  split
  · exact fin_bytes l
  · intro x hx; cases hx
theorem decR_len (b : List Int) (n : Int) : (decR b n).1.length ≤ 140737488355328 := by
  unfold decR
  split
  · simp
  · split
    · simp
    · split
      · rw [descs_len]; omega
      · simp
set_option maxHeartbeats 2000000 in
theorem LayoutDescs : slipwaylaw11_LayoutDescs.Pure := by
  intro l x n hl hx _
  refine Ev.rounds ?_
  have hx8 : Bytes x := bytes_of_wf hx.2.2
  unfold slipwaylaw11_LayoutDescs.f
  refine Ev.bind live_ev (Ev.iff_pos rfl (Ev.bind (enc_ev l) (Ev.bind (renc_ev l) (Ev.bind (dec_ev x hx8 n) (Ev.bind (rdec_ev x hx8 n) ?_)))))
  refine Ev.bindS (fun _ => bytes_equal (encR_bytes l) (encR_bytes l)) (Ev.iff_pos (by simp) (Ev.iff_pos rfl ?_))
  refine Ev.bind (desc_equal _ (decR_len x n)) (Ev.iff_pos rfl ?_)
  rw [show ((decR x n).2 == (decR x n).2) = true by simp]
  exact Ev.now _
end Go.Proofs.Ytbdnmdmfnopihaa.Pure
end
