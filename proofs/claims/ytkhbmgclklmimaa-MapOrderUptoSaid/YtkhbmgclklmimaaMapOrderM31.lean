/- Texts of the proof of MapOrder, part 31. -/
import Derived.Test.YtkhbmgclklmimaaMapOrderM29
import Derived.Test.YtkhbmgclklmimaaMapOrderM30
import Derived.Test.YtkhbmgclklmimaaMapOrderM20
import Derived.Test.YtkhbmgclklmimaaMapOrderM21
section
namespace Go.Proofs.Ytkhbmgclklmimaa.Pure
set_option linter.unusedVariables false
set_option linter.unusedSimpArgs false
open Go.RowKit Go.Proofs.Ytkhbmgclklmimaa.Print Go.Proofs.Ytkhbmgclklmimaa.MapEv Go.Proofs.YtkhbmgclklmimaaW.PrintWords Go.Proofs.YtkhbmgclklmimaaW.PrintLast Go.Proofs.YtkhbmgclklmimaaW.PrintMore
theorem begun_ev : Ev (fun k => slipwaylaw06_begun.f k) true := Ev.of slipwaylaw06_begun.mono (k := 60) (by decide +kernel)
theorem rpl_err {n : Int} (h : sized n) (l : List S42) : (rpl n l).2.2.2.2 = 0 := by
  unfold rpl
  rw [if_pos h]
  rfl
set_option maxHeartbeats 2000000 in
theorem MapOrder : slipwaylaw06_MapOrder.Pure := by
  intro n l a _ hl ha hz
  refine Ev.rounds ?_
  have ha' : 0 ≤ a ∧ a < 256 := by
    simp [Lit.wf, IntKind.min, IntKind.max, IntKind.signed, IntKind.bits] at ha
    omega
  have hf : ∀ x ∈ l, x.f5.length ≤ 140737488355328 ∧ x.f6.length ≤ 140737488355328 := fun x hx => by
    obtain ⟨_, _, _, _, _, h5, h6⟩ := hl.2.2 x hx
    have h5' := h5.2.1
    have h6' := h6.2.1
    exact ⟨by omega, by omega⟩
  clear hl ha
  unfold slipwaylaw06_MapOrder.f
  refine Ev.iff_pos ⟨ha', hz⟩ (Ev.bind (replay_val n l (by omega) hf) (Ev.bind begun_ev (Ev.iff_pos rfl ?_)))
  by_cases h : sized n
  rotate_left
  · have e : (rpl n l).2.2.2.2 = 20 := by
      unfold rpl
      rw [if_neg h]
    exact Ev.iff_neg (by rw [e]; decide) (Ev.now _)
  have o1 := rpl_ok h l
  have l1 := o1.len
  have l2 := (rpl_ok h (l.take (a.toNat % (l.length + 1)))).len
  have t := rpl_take h l (a.toNat % (l.length + 1))
  have eq : rpl n (l.reverse ++ l) = rpl n l := (rpl_same n l (l.reverse ++ l) (fun x hx => List.mem_append_right _ hx) (fun x hx => by
    rcases List.mem_append.1 hx with h | h
    · exact List.mem_reverse.1 h
    · exact h)).symm
  refine Ev.iff_pos (rpl_err h l) (Ev.bindS (fun _ => pclo_f l (by omega)) (Ev.bind (pcat l.reverse l (by rw [List.length_reverse]; omega) (by omega)) ?_))
  have r2 := replay_val n (l.reverse ++ l) (by rw [List.length_append, List.length_reverse]; omega) (fun x hx => hf x (by
    rcases List.mem_append.1 hx with h | h
    · exact List.mem_reverse.1 h
    · exact h))
  rw [eq] at r2
  have ck := check_ev (rpl n l).1 (rpl n l).2.1 (rpl n l).2.2.1 (by omega)
  have ec : chk (rpl n l).1 (rpl n l).2.1 (rpl n l).2.2.1 = 0 := if_pos o1
  rw [ec] at ck
  refine Ev.bind r2 (Ev.iff_pos (rpl_err h l) (Ev.iff_pos rfl (Ev.bind (rsame_ev _ _ _ _ _ _ (by omega) (by omega)) (Ev.iff_pos (by simp) (Ev.bind ck (Ev.iff_pos rfl ?_))))))
  refine Ev.bind (replay_val n (l.take (a.toNat % (l.length + 1))) (by rw [List.length_take]; omega) (fun x hx => hf x (List.mem_of_mem_take hx))) (Ev.iff_pos (rpl_err h _) (Ev.iff_pos t.1 ?_))
  exact Ev.bind (covers_ev _ _ _ _ _ _ (by omega) (by omega)) (Ev.iff_pos (decide_eq_true t.2) (Ev.now _))
end Go.Proofs.Ytkhbmgclklmimaa.Pure
end
