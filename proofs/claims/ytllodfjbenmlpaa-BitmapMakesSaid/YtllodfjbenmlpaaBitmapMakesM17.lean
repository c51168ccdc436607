/- Texts of the proof of BitmapMakes, part 17. -/
import Derived.Test.YtllodfjbenmlpaaBitmapMakesM16
import Derived.Test.YtllodfjbenmlpaaBitmapMakesM13
section
namespace Go.Proofs.Ytllodfjbenmlpaa.Pure
set_option linter.unusedVariables false
set_option linter.unusedSimpArgs false
open Go.RowKit Go.Proofs.Ytllodfjbenmlpaa.Print Go.Proofs.Ytllodfjbenmlpaa.Bm Go.Proofs.YtllodfjbenmlpaaW.PrintWords Go.Proofs.YtllodfjbenmlpaaW.PrintLast Go.Proofs.YtllodfjbenmlpaaW.PrintMore
open Classical in
noncomputable def has (l : List Int) (n i : Int) : Bool := if Ok l n ∧ 0 ≤ i ∧ i < n then bt l i.toNat else false
theorem has_yes {l : List Int} {n i : Int} (h : Ok l n) (h0 : 0 ≤ i) (h1 : i < n) : has l n i = bt l i.toNat := if_pos ⟨h, h0, h1⟩
theorem has_no {l : List Int} {n i : Int} (h : ¬ (Ok l n ∧ 0 ≤ i ∧ i < n)) : has l n i = false := if_neg h
set_option maxHeartbeats 2000000 in
theorem has_ev {l : List Int} (hb : By l) (n i : Int) : Ev (fun k => bitmap_Has.f k l n i) (has l n i) := by
  unfold bitmap_Has.f
  by_cases h0 : i ≥ 0
  · refine Ev.iff_pos h0 (Ev.bind (may_ev hb n) ?_)
    by_cases ho : Ok l n
    · rw [chk_ok ho, if_pos rfl]
      by_cases h1 : i < n
      · rw [has_yes ho h0 h1]
        obtain ⟨j, rfl⟩ := Int.eq_ofNat_of_zero_le h0
        have := ho.n1
        have := ho.len
        exact Ev.iff_pos h1 (Ev.bindS (fun _ => bit_f hb j (by omega) (by omega)) (Ev.now _))
      · rw [has_no (fun h => h1 h.2.2)]
        exact Ev.iff_neg h1 (Ev.now _)
    · rw [chk_no ho, if_neg (show ¬ (120 : Int) = 0 by decide), has_no (fun h => ho h.1)]
      exact Ev.iff_neg (by omega) (Ev.now _)
  · rw [has_no (fun h => h0 h.2.1)]
    exact Ev.iff_neg h0 (Ev.now _)
set_option maxHeartbeats 2000000 in
theorem rhas_ev {l : List Int} (hb : By l) (n i : Int) : Ev (fun k => slipwayref12_Has.f k l n i) (has l n i) := by
  unfold slipwayref12_Has.f
  refine Ev.bind (rcheck_ev hb n) ?_
  by_cases ho : Ok l n
  · rw [chk_ok ho]
    refine Ev.iff_pos rfl ?_
    by_cases h0 : i ≥ 0
    · refine Ev.iff_pos h0 ?_
      by_cases h1 : i < n
      · rw [has_yes ho h0 h1]
        obtain ⟨j, rfl⟩ := Int.eq_ofNat_of_zero_le h0
        have := ho.n1
        have := ho.len
        exact Ev.iff_pos h1 (Ev.bindS (fun _ => rbit_f hb j (by omega) (by omega)) (Ev.now _))
      · rw [has_no (fun h => h1 h.2.2)]
        exact Ev.iff_neg h1 (Ev.now _)
    · rw [has_no (fun h => h0 h.2.1)]
      exact Ev.iff_neg h0 (Ev.now _)
  · rw [chk_no ho, has_no (fun h => ho h.1)]
    exact Ev.iff_neg (by decide) (Ev.iff_pos (by decide) (Ev.now _))
set_option maxHeartbeats 2000000 in
theorem BitmapMakes : slipwaylaw12_BitmapMakes.Pure := by
  intro l n i _ _ hwl _ _
  have hb := by_wf hwl
  refine Ev.rounds ?_
  unfold slipwaylaw12_BitmapMakes.f
  refine Ev.bind (new_ev n) (Ev.bind (rnew_ev n) (Ev.bind begun_ev (Ev.iff_pos rfl (Ev.bindS (fun _ => eq_self _) (Ev.iff_pos rfl (Ev.iff_pos rfl (Ev.bind (check_ev hb n) (Ev.bind (rcheck_ev hb n) (Ev.iff_pos rfl (Ev.bind (has_ev hb n i) (Ev.bind (rhas_ev hb n i) ?_)))))))))))
  rw [show (has l n i == has l n i) = true by simp]
  exact Ev.now _
end Go.Proofs.Ytllodfjbenmlpaa.Pure
end
