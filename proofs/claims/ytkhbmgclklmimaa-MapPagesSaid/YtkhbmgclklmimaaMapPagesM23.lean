/- Texts of the proof of MapPages, part 23. -/
import Derived.Test.YtkhbmgclklmimaaMapPagesM22
import Derived.Test.YtkhbmgclklmimaaMapPagesM15
import Derived.Test.YtkhbmgclklmimaaMapPagesM17
section
namespace Go.Proofs.Ytkhbmgclklmimaa.Pure
set_option linter.unusedVariables false
set_option linter.unusedSimpArgs false
open Go.RowKit Go.Proofs.Ytkhbmgclklmimaa.Print Go.Proofs.Ytkhbmgclklmimaa.MapEv Go.Proofs.YtkhbmgclklmimaaW.PrintWords Go.Proofs.YtkhbmgclklmimaaW.PrintLast Go.Proofs.YtkhbmgclklmimaaW.PrintMore
theorem begun_ev : Ev (fun k => slipwaylaw06_begun.f k) true := Ev.of slipwaylaw06_begun.mono (k := 60) (by decide +kernel)
set_option maxHeartbeats 2000000 in
theorem MapPages : slipwaylaw06_MapPages.Pure := by
  intro b w s g l n p0 p1 p2 p3 p4 p5 p6 q0 q1 q2 q3 q4 q5 q6 hb hw _ _ hl _ _ _ _ _ hp4 hp5 hp6 _ _ _ _ hq4 hq5 hq6
  refine Ev.rounds ?_
  have nw : w.length ≤ 140737488355328 := by have := hw.2.1; omega
  have nl : l.length ≤ 140737488355328 := by have := hl.2.1; omega
  have n4 : p4.length ≤ 140737488355328 := by have := hp4.2.1; omega
  have n5 : p5.length ≤ 140737488355328 := by have := hp5.2.1; omega
  have n6 : p6.length ≤ 140737488355328 := by have := hp6.2.1; omega
  obtain ⟨r, r1, r2, r3, r4⟩ := checkpoint_ev b w s g nw
  obtain ⟨k4, k5, k6⟩ := rcs_len g l
  obtain ⟨t, _, t2, t3⟩ := page_both (rcs g l).1 (rcs g l).2.1 (rcs g l).2.2.1 (rcs g l).2.2.2.1 (rcs g l).2.2.2.2.1 (rcs g l).2.2.2.2.2.1 (rcs g l).2.2.2.2.2.2.1 (rcs g l).1 (rcs g l).2.1 (rcs g l).2.2.1 (rcs g l).2.2.2.1 (rcs g l).2.2.2.2.1 (rcs g l).2.2.2.2.2.1 (rcs g l).2.2.2.2.2.2.1 (by omega) (by omega) (by omega)
  have := t3 ⟨rfl, rfl, rfl, rfl, rfl, rfl, rfl⟩
  subst this
  obtain ⟨u, u1, u2, _⟩ := page_both p0 p1 p2 p3 p4 p5 p6 q0 q1 q2 q3 q4 q5 q6 n4 n5 n6
  obtain ⟨v, v1, _, v3⟩ := page_both p0 p1 p2 p3 p4 p5 p6 p0 p1 p2 p3 p4 p5 p6 n4 n5 n6
  have := v3 ⟨rfl, rfl, rfl, rfl, rfl, rfl, rfl⟩
  subst this
  unfold slipwaylaw06_MapPages.f
  refine Ev.bind r1 (Ev.bind r2 (Ev.bind (rcs_ev g l nl) (Ev.bind (rrcs_ev g l) (Ev.bind begun_ev (Ev.iff_pos rfl ?_)))))
  refine Ev.bind (pages_refl r.1 r3 r4) (Ev.iff_pos rfl (Ev.iff_pos rfl ?_))
  refine Ev.bind t2 (Ev.iff_pos rfl (Ev.iff_pos rfl ?_))
  refine Ev.bindS (fun _ => parts_f n) (Ev.bindS (fun _ => rparts_f n) (Ev.iff_pos rfl ?_))
  refine Ev.bind u1 (Ev.bind u2 (Ev.iff_pos (by simp) ?_))
  exact Ev.bind v1 (Ev.now _)
end Go.Proofs.Ytkhbmgclklmimaa.Pure
end
