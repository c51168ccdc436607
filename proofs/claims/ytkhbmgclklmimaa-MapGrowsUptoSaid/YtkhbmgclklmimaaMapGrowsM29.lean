/- Texts of the proof of MapGrows, part 29. -/
import Derived.Test.YtkhbmgclklmimaaMapGrowsM27
import Derived.Test.YtkhbmgclklmimaaMapGrowsM28
import Derived.Test.YtkhbmgclklmimaaMapGrowsM18
import Derived.Test.YtkhbmgclklmimaaMapGrowsM19
section
namespace Go.Proofs.Ytkhbmgclklmimaa.Pure
set_option linter.unusedVariables false
set_option linter.unusedSimpArgs false
open Go.RowKit Go.Proofs.Ytkhbmgclklmimaa.Print Go.Proofs.Ytkhbmgclklmimaa.MapEv Go.Proofs.YtkhbmgclklmimaaW.PrintWords Go.Proofs.YtkhbmgclklmimaaW.PrintLast Go.Proofs.YtkhbmgclklmimaaW.PrintMore
theorem begun_ev : Ev (fun k => slipwaylaw06_begun.f k) true := Ev.of slipwaylaw06_begun.mono (k := 60) (by decide +kernel)
set_option maxHeartbeats 2000000 in
theorem MapGrows : slipwaylaw06_MapGrows.Pure := by
  intro b1 w1 s1 b2 w2 s2 b3 w3 s3 l hb1 hw1 _ hb2 hw2 _ hb3 hw3 _ hl hz
  refine Ev.rounds ?_
  have nw1 : w1.length ≤ 140737488355328 := by have := hw1.2.1; omega
  have nw2 : w2.length ≤ 140737488355328 := by have := hw2.2.1; omega
  have nw3 : w3.length ≤ 140737488355328 := by have := hw3.2.1; omega
  have nl : l.length ≤ 140737488355328 := by omega
  have ln := jn_len b1 w1 s1 b2 w2 s2
  clear hb1 hw1 hb2 hw2 hb3 hw3 hl
  unfold slipwaylaw06_MapGrows.f
  refine Ev.bind begun_ev (Ev.iff_pos rfl (Ev.bind (join_ev b1 w1 s1 b2 w2 s2 nw1 nw2) (Ev.bind (join_ev b2 w2 s2 b1 w1 s1 nw2 nw1) ?_)))
  rw [← jn_comm b1 w1 s1 b2 w2 s2]
  refine Ev.iff_pos rfl (Ev.bind (rsame_ev _ _ _ _ _ _ (by omega) (by omega)) (Ev.iff_pos (by simp) ?_))
  by_cases c : (jn b1 w1 s1 b2 w2 s2).2.2.2 = 0
  · refine Ev.iff_pos c ?_
    have T := Two.of c
    have la := T.ok.len
    rw [T.eq]
    dsimp only
    refine Ev.bind (join_ev (jb b1 b2) (jw w1 w2) (mx s1 s2) b1 w1 s1 (by omega) nw1) ?_
    rw [T.again_eq]
    refine Ev.iff_pos rfl (Ev.bind (rsame_ev _ _ _ _ _ _ (by dsimp only; omega) (by dsimp only; omega)) (Ev.iff_pos (by simp) ?_))
    refine Ev.bind (covers_ev _ _ _ _ _ _ (by omega) nw1) (Ev.iff_pos (decide_eq_true T.cov1) ?_)
    refine Ev.bind (covers_ev _ _ _ _ _ _ (by omega) nw2) (Ev.iff_pos (decide_eq_true T.cov2) ?_)
    refine Ev.bind (join_ev b2 w2 s2 b3 w3 s3 nw2 nw3) ?_
    refine Ev.bind (a := true) ?_ ?_
    · by_cases c2 : (jn b2 w2 s2 b3 w3 s3).2.2.2 = 0
      · refine Ev.iff_pos c2 ?_
        have T2 := Two.of c2
        have l2 := T2.ok.len
        have l3 := (T.three' T2).ok.len
        rw [T2.eq]
        dsimp only
        refine Ev.bind (join_ev (jb b1 b2) (jw w1 w2) (mx s1 s2) b3 w3 s3 (by omega) nw3) ?_
        rw [T.assoc T2, (T.three' T2).eq]
        refine Ev.iff_pos rfl (Ev.bind (join_ev b1 w1 s1 (jb b2 b3) (jw w2 w3) (mx s2 s3) nw1 (by omega)) ?_)
        rw [(T.three' T2).eq]
        refine Ev.iff_pos rfl (Ev.bind (rsame_ev _ _ _ _ _ _ (by dsimp only; omega) (by dsimp only; omega)) (Ev.iff_pos (by simp) (Ev.now _)))
      · exact Ev.iff_neg c2 (Ev.now _)
    · refine Ev.bind (apply_val b1 w1 s1 l nw1 nl) ?_
      by_cases c3 : (apl b1 w1 s1 l).2.2.2 = 0
      · have l4 := (apl_ok c3).2.len
        refine Ev.iff_pos c3 (Ev.bindS (fun _ => rclo_f l (by omega)) (Ev.bind (rrev_ev l (by omega)) (Ev.bind (rcat l.reverse l (by rw [List.length_reverse]; omega) (by omega)) (Ev.bind (apply_val b1 w1 s1 (l.reverse ++ l) nw1 (by rw [List.length_append, List.length_reverse]; omega)) ?_))))
        rw [← apl_same b1 w1 s1 l (l.reverse ++ l) (fun x hx => List.mem_append_right _ hx) (fun x hx => by
          rcases List.mem_append.1 hx with h | h
          · exact List.mem_reverse.1 h
          · exact h)]
        refine Ev.iff_pos c3 (Ev.bind (rsame_ev _ _ _ _ _ _ (by omega) (by omega)) (Ev.iff_pos (by simp) ?_))
        exact Ev.bind (covers_ev _ _ _ _ _ _ (by omega) nw1) (Ev.iff_pos (decide_eq_true (apl_cov c3)) (Ev.now _))
      · exact Ev.iff_neg c3 (Ev.now _)
  · exact Ev.iff_neg c (Ev.now _)
end Go.Proofs.Ytkhbmgclklmimaa.Pure
end
