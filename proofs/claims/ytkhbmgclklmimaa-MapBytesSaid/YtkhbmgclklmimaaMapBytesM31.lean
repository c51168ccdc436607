/- Texts of the proof of MapBytes, part 31. -/
import Derived.Test.YtkhbmgclklmimaaMapBytesM30
import Derived.Test.YtkhbmgclklmimaaMapBytesM22
section
namespace Go.Proofs.Ytkhbmgclklmimaa.Pure
set_option linter.unusedVariables false
set_option linter.unusedSimpArgs false
open Go.RowKit Go.Proofs.Ytkhbmgclklmimaa.Print Go.Proofs.Ytkhbmgclklmimaa.MapEv Go.Proofs.YtkhbmgclklmimaaW.PrintWords Go.Proofs.YtkhbmgclklmimaaW.PrintLast Go.Proofs.YtkhbmgclklmimaaW.PrintMore
theorem begun_ev : Ev (fun k => slipwaylaw06_begun.f k) true := Ev.of slipwaylaw06_begun.mono (k := 60) (by decide +kernel)
set_option maxHeartbeats 2000000 in
theorem MapBytes : slipwaylaw06_MapBytes.Pure := by
  intro a0 a1 a2 a3 l4 l5 l6 l1 _ _ _ _ h4 h5 h6 h1
  refine Ev.rounds ?_
  have n5 : l5.length ≤ 140737488355328 := by have := h5.2.1; omega
  have n6 : l6.length ≤ 140737488355328 := by have := h6.2.1; omega
  have ho := okY_wf h1.2.2
  obtain ⟨s1, s2, s3⟩ := paR_small l1 ho
  unfold slipwaylaw06_MapBytes.f
  refine Ev.bind (bytes_ev a0 a1 a2 a3 l4 l5 l6 n5 n6) (Ev.bind (rbytes_ev a0 a1 a2 a3 l4 l5 l6 n5) (Ev.bind (parse_ev l1 ho) (Ev.bind (rparse_ev l1 ho) (Ev.bind begun_ev (Ev.iff_pos rfl ?_)))))
  refine Ev.bindS (a := true) (fun _ => by unfold bytes_Equal.f; simp) (Ev.iff_pos rfl (Ev.iff_pos rfl ?_))
  obtain ⟨t, _, t2, t3⟩ := page_both (paR l1).1 (paR l1).2.1 (paR l1).2.2.1 (paR l1).2.2.2.1 (paR l1).2.2.2.2.1 (paR l1).2.2.2.2.2.1 (paR l1).2.2.2.2.2.2.1 (paR l1).1 (paR l1).2.1 (paR l1).2.2.1 (paR l1).2.2.2.1 (paR l1).2.2.2.2.1 (paR l1).2.2.2.2.2.1 (paR l1).2.2.2.2.2.2.1 (by omega) (by omega) (by omega)
  have := t3 ⟨rfl, rfl, rfl, rfl, rfl, rfl, rfl⟩
  subst this
  refine Ev.bind t2 (Ev.iff_pos rfl ?_)
  exact Ev.fix (fun _ => by simp)
end Go.Proofs.Ytkhbmgclklmimaa.Pure
end
