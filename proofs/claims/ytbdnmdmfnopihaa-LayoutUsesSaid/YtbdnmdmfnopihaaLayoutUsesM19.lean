/- Texts of the proof of LayoutUses, part 19. -/
import Derived.Test.YtbdnmdmfnopihaaLayoutUsesM18
import Derived.Test.YtbdnmdmfnopihaaLayoutUsesM13
section
namespace Go.Proofs.Ytbdnmdmfnopihaa.ShapeEv
set_option linter.unusedVariables false
set_option linter.unusedSimpArgs false
open Go.RowKit Go.Proofs.Ytbdnmdmfnopihaa.Print Go.Proofs.Ytbdnmdmfnopihaa.SMath Go.Proofs.Ytbdnmdmfnopihaa.SealEv Go.Proofs.YtbdnmdmfnopihaaW.PrintWords Go.Proofs.YtbdnmdmfnopihaaW.PrintLast Go.Proofs.YtbdnmdmfnopihaaW.PrintMore
theorem chk_two (b j : Int) : chk b j = 0 ∨ chk b j = 110 := by
  unfold chk
  split
  · split
    · exact .inr rfl
    · split
      · exact .inr rfl
      · exact .inl rfl
  · exact .inr rfl
theorem chk_bad {b j : Int} (h : ¬ chk b j = 0) : chk b j = 110 := (chk_two b j).resolve_left h
theorem last_eq {b j : Int} (hb : bounds b j) : wrap64 (b - wrap64 (wrap64 (ceil_ b 128 - 1) * 128)) < 16 ↔ (Int.tmod b 128 ≠ 0 ∧ Int.tmod b 128 < 16) := by
  have h := hb.1
  rw [ceil_small (by omega) (by omega) (by decide) (by decide), Int.tmod_eq_emod_of_nonneg (by omega)]
  rw [w64 (n := (b + 128 - 1) / 128 - 1) (by omega) (by omega), w64 (n := ((b + 128 - 1) / 128 - 1) * 128) (by omega) (by omega), w64 (by omega) (by omega)]
  omega
def dsc (b j : Int) : Int := ceil_ (wrap64 (grps b j * 16)) 256
theorem descs_ev (b j : Int) : Ev (fun k => layout_Descs.f k b j) (dsc b j) := by
  unfold layout_Descs.f
  exact Ev.bind (groups_ev b j) (Ev.bindS (fun _ => ceil_f _ 256 (by decide)) (Ev.now _))
theorem two_steps (x : Int) : wrap64 (wrap64 (x + 1) + 1) = wrap64 (x + 2) := by unfold wrap64; omega
def mp (b j g : Int) : Int := if g = 0 then wrap64 (1 + dsc b j) else wrap64 (g * 128)
def dat (b j g : Int) : Int := if g = 0 then wrap64 (wrap64 (wrap64 (mp b j g + 2) + 4) + j) else wrap64 (wrap64 (mp b j g + 2) + 4)
def grp (b j g : Int) : Int × Int × Int × Int × Int × Int := (wrap64 (g * 128), mn 128 (wrap64 (b - wrap64 (g * 128))), mp b j g, wrap64 (mp b j g + 1), wrap64 (mp b j g + 2), dat b j g)
set_option maxHeartbeats 2000000 in
theorem group_ev (b j g : Int) : Ev (fun k => layout_group.f k b j g) (grp b j g) := by
  unfold layout_group.f
  by_cases h : g = 0
  · refine Ev.iff_pos h (Ev.bind (descs_ev b j) ?_)
    have e1 : mp b j g = wrap64 (1 + dsc b j) := if_pos h
    have e2 : dat b j g = wrap64 (wrap64 (wrap64 (mp b j g + 2) + 4) + j) := if_pos h
    unfold grp
    rw [e2, e1, two_steps]
    exact Ev.now _
  · refine Ev.iff_neg h ?_
    have e1 : mp b j g = wrap64 (g * 128) := if_neg h
    have e2 : dat b j g = wrap64 (wrap64 (mp b j g + 2) + 4) := if_neg h
    unfold grp
    rw [e2, e1, two_steps]
    exact Ev.now _
def pln (s j : Int) : Int × Int × Int :=
  if bounds s j then (if Int.tmod s 128 < 16 then (if chk (wrap64 (s - Int.tmod s 128)) j = 0 then (wrap64 (s - Int.tmod s 128), j, 0) else (0, 0, 110)) else (if chk s j = 0 then (s, j, 0) else (0, 0, 110))) else (0, 0, 1)
set_option maxHeartbeats 2000000 in
theorem plan_j (s j : Int) (flag : Bool) (hf : flag = decide (¬ bounds s j)) : Ev (fun k => layout_Plan.j0 k s j flag) (pln s j) := by
  unfold pln
  by_cases hb : bounds s j
  · have : flag = false := by simp [hf, hb]
    subst this
    rw [if_pos hb]
    refine Ev.step (f := fun k => (if (Int.tmod s 128) < 16 then ((layout_Check.f k (wrap64 (s - (Int.tmod s 128))) j).bind fun t106 => (if t106 = 0 then (some (wrap64 (s - (Int.tmod s 128)), j, 0)) else (some (0, 0, t106)))) else ((layout_Check.f k s j).bind fun t107 => (if t107 = 0 then (some (s, j, 0)) else (some (0, 0, t107)))))) (fun k => ?_) ?_
    · simp only [layout_Plan.j0]
      rw [if_neg (by decide)]
    · by_cases h : Int.tmod s 128 < 16
      · rw [if_pos h]
        refine Ev.iff_pos h (Ev.bind (check_ev _ j) ?_)
        by_cases hc : chk (wrap64 (s - Int.tmod s 128)) j = 0
        · exact Ev.iff_pos hc (by rw [if_pos hc]; exact Ev.now _)
        · exact Ev.iff_neg hc (by rw [if_neg hc, chk_bad hc]; exact Ev.now _)
      · rw [if_neg h]
        refine Ev.iff_neg h (Ev.bind (check_ev _ j) ?_)
        by_cases hc : chk s j = 0
        · exact Ev.iff_pos hc (by rw [if_pos hc]; exact Ev.now _)
        · exact Ev.iff_neg hc (by rw [if_neg hc, chk_bad hc]; exact Ev.now _)
  · have : flag = true := by simp [hf, hb]
    subst this
    rw [if_neg hb]
    refine Ev.step (f := fun _ => some (0, 0, 1)) (fun k => ?_) (Ev.now _)
    simp only [layout_Plan.j0]
    rw [if_pos trivial]
set_option maxHeartbeats 2000000 in
theorem plan_ev (b j : Int) : Ev (fun k => layout_Plan.f k b j) (pln b j) := by
  unfold layout_Plan.f
  by_cases h0 : b < 1
  · exact Ev.iff_pos h0 (plan_j b j true (by unfold bounds; simp; omega))
  · refine Ev.iff_neg h0 ?_
    by_cases h1 : b > 8192
    · exact Ev.iff_pos h1 (plan_j b j true (by unfold bounds; simp; omega))
    · refine Ev.iff_neg h1 ?_
      by_cases h2 : j < 16
      · exact Ev.iff_pos h2 (plan_j b j true (by unfold bounds; simp; omega))
      · refine Ev.iff_neg h2 (plan_j b j _ ?_)
        unfold bounds
        by_cases h3 : j > 64
        · simp [h3] <;> omega
        · simp [h3] <;> omega
end Go.Proofs.Ytbdnmdmfnopihaa.ShapeEv
end
