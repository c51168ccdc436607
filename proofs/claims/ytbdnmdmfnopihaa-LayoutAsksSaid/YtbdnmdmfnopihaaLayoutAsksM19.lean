/- Texts of the proof of LayoutAsks, part 19. -/
import Derived.Test.YtbdnmdmfnopihaaLayoutAsksM18
import Derived.Test.YtbdnmdmfnopihaaLayoutAsksM13
section
namespace Go.Proofs.Ytbdnmdmfnopihaa.ShapeEv
set_option linter.unusedVariables false
set_option linter.unusedSimpArgs false
open Go.RowKit Go.Proofs.Ytbdnmdmfnopihaa.Print Go.Proofs.Ytbdnmdmfnopihaa.SMath Go.Proofs.Ytbdnmdmfnopihaa.SealEv Go.Proofs.YtbdnmdmfnopihaaW.PrintWords Go.Proofs.YtbdnmdmfnopihaaW.PrintLast Go.Proofs.YtbdnmdmfnopihaaW.PrintMore
theorem rgroups_f (a : Int) : slipwayref11_groups.f a = some (ceil_ a 128) := rfl
theorem rdescs_f (a : Int) : slipwayref11_descs.f a = some (ceil_ (wrap64 (a * 16)) 256) := rfl
theorem last_eq {b j : Int} (hb : bounds b j) : wrap64 (b - wrap64 (wrap64 (ceil_ b 128 - 1) * 128)) < 16 ↔ (Int.tmod b 128 ≠ 0 ∧ Int.tmod b 128 < 16) := by
  have h := hb.1
  rw [ceil_small (by omega) (by omega) (by decide) (by decide), Int.tmod_eq_emod_of_nonneg (by omega)]
  rw [w64 (n := (b + 128 - 1) / 128 - 1) (by omega) (by omega), w64 (n := ((b + 128 - 1) / 128 - 1) * 128) (by omega) (by omega), w64 (by omega) (by omega)]
  omega
set_option maxHeartbeats 2000000 in
theorem rcheck_j1 {b j : Int} (flag : Bool) (hb : bounds b j) (hf : flag = decide (wrap64 (b - wrap64 (wrap64 (ceil_ b 128 - 1) * 128)) < 16)) : Ev (fun k => slipwayref11_Check.j1 k flag b j) (chk b j) := by
  refine Ev.step (f := fun _ => some (chk b j)) (fun k => ?_) (Ev.now _)
  simp only [slipwayref11_Check.j1]
  unfold chk
  rw [if_pos hb]
  by_cases h : wrap64 (b - wrap64 (wrap64 (ceil_ b 128 - 1) * 128)) < 16
  · rw [if_pos (hf.trans (decide_eq_true h)), if_pos h]
  · rw [if_neg (by rw [hf.trans (decide_eq_false h)]; decide), if_neg h, rgroups_f]
    simp only [Option.bind_some]
    rw [rdescs_f]
    simp only [Option.bind_some]
    split <;> rfl
set_option maxHeartbeats 2000000 in
theorem rcheck_j0 (b j : Int) (flag : Bool) (hf : flag = decide (¬ bounds b j)) : Ev (fun k => slipwayref11_Check.j0 k flag b j) (chk b j) := by
  by_cases hb : bounds b j
  · have : flag = false := by simp [hf, hb]
    subst this
    have hl := last_eq hb
    refine Ev.step (f := fun k => if (Int.tmod b 128) = 0 then (slipwayref11_Check.j1 k false b j) else (slipwayref11_Check.j1 k (decide ((Int.tmod b 128) < 16)) b j)) (fun k => ?_) ?_
    · simp only [slipwayref11_Check.j0]
      rw [if_neg (by decide)]
    · by_cases h : Int.tmod b 128 = 0
      · exact Ev.iff_pos h (rcheck_j1 _ hb (by rw [decide_eq_false (fun x => (hl.1 x).1 h)]))
      · refine Ev.iff_neg h (rcheck_j1 _ hb ?_)
        by_cases h2 : Int.tmod b 128 < 16
        · rw [decide_eq_true h2, decide_eq_true (hl.2 ⟨h, h2⟩)]
        · rw [decide_eq_false h2, decide_eq_false (fun x => h2 (hl.1 x).2)]
  · have : flag = true := by simp [hf, hb]
    subst this
    refine Ev.step (f := fun _ => some 110) (fun k => ?_) (by unfold chk; rw [if_neg hb]; exact Ev.now _)
    simp only [slipwayref11_Check.j0]
    rw [if_pos trivial]
set_option maxHeartbeats 2000000 in
theorem rcheck_ev (b j : Int) : Ev (fun k => slipwayref11_Check.f k b j) (chk b j) := by
  unfold slipwayref11_Check.f
  by_cases h0 : b < 1
  · exact Ev.iff_pos h0 (rcheck_j0 b j true (by unfold bounds; simp; omega))
  · refine Ev.iff_neg h0 ?_
    by_cases h1 : b > 8192
    · exact Ev.iff_pos h1 (rcheck_j0 b j true (by unfold bounds; simp; omega))
    · refine Ev.iff_neg h1 ?_
      by_cases h2 : j < 16
      · exact Ev.iff_pos h2 (rcheck_j0 b j true (by unfold bounds; simp; omega))
      · refine Ev.iff_neg h2 (rcheck_j0 b j _ ?_)
        unfold bounds
        by_cases h3 : j > 64
        · simp [h3] <;> omega
        · simp [h3] <;> omega
theorem rgroups_ev (b j : Int) : Ev (fun k => slipwayref11_Groups.f k b j) (grps b j) := by
  unfold slipwayref11_Groups.f
  refine Ev.bind (rcheck_ev b j) ?_
  by_cases h : chk b j = 0
  · have e : grps b j = ceil_ b 128 := if_pos h
    rw [e]
    exact Ev.iff_pos h (Ev.bindS (fun _ => rgroups_f b) (Ev.now _))
  · have e : grps b j = 0 := if_neg h
    rw [e]
    exact Ev.iff_neg h (Ev.now _)
theorem rinodes_ev (b j : Int) : Ev (fun k => slipwayref11_Inodes.f k b j) (16 * grps b j) := by
  unfold slipwayref11_Inodes.f
  refine Ev.bind (rgroups_ev b j) ?_
  have := grps_range b j
  rw [w64 (by omega) (by omega), Int.mul_comm]
  exact Ev.now _
def dsc (b j : Int) : Int := ceil_ (wrap64 (grps b j * 16)) 256
theorem descs_ev (b j : Int) : Ev (fun k => layout_Descs.f k b j) (dsc b j) := by
  unfold layout_Descs.f
  exact Ev.bind (groups_ev b j) (Ev.bindS (fun _ => ceil_f _ 256 (by decide)) (Ev.now _))
theorem rdescs_ev (b j : Int) : Ev (fun k => slipwayref11_Descs.f k b j) (dsc b j) := by
  unfold slipwayref11_Descs.f
  exact Ev.bind (rgroups_ev b j) (Ev.bindS (fun _ => rdescs_f _) (Ev.now _))
theorem two_steps (x : Int) : wrap64 (wrap64 (x + 1) + 1) = wrap64 (x + 2) := by unfold wrap64; omega
def mp (b j g : Int) : Int := if g = 0 then wrap64 (1 + dsc b j) else wrap64 (g * 128)
def dat (b j g : Int) : Int := if g = 0 then wrap64 (wrap64 (wrap64 (mp b j g + 2) + 4) + j) else wrap64 (wrap64 (mp b j g + 2) + 4)
def grp (b j g : Int) : Int × Int × Int × Int × Int × Int := (wrap64 (g * 128), mn 128 (wrap64 (b - wrap64 (g * 128))), mp b j g, wrap64 (mp b j g + 1), wrap64 (mp b j g + 2), dat b j g)
set_option maxHeartbeats 2000000 in
theorem group_ev (b j g : Int) : Ev (fun k => layout_group.f k b j g) (grp b j g) := by
  unfold layout_group.f
  by_cases h : g = 0
  · refine Ev.iff_pos h (Ev.bind (descs_ev b j) ?_)
    have e1 : mp b j g = wrap64 (1 + dsc b j) := if_pos h
    have e2 : dat b j g = wrap64 (wrap64 (wrap64 (mp b j g + 2) + 4) + j) := if_pos h
    unfold grp
    rw [e2, e1, two_steps]
    exact Ev.now _
  · refine Ev.iff_neg h ?_
    have e1 : mp b j g = wrap64 (g * 128) := if_neg h
    have e2 : dat b j g = wrap64 (wrap64 (mp b j g + 2) + 4) := if_neg h
    unfold grp
    rw [e2, e1, two_steps]
    exact Ev.now _
def GRP (b j g : Int) : Int × Int × Int × Int × Int × Int × Int :=
  if chk b j = 0 then (if g < 0 ∨ g ≥ grps b j then (0, 0, 0, 0, 0, 0, 1) else ((grp b j g).1, (grp b j g).2.1, (grp b j g).2.2.1, (grp b j g).2.2.2.1, (grp b j g).2.2.2.2.1, (grp b j g).2.2.2.2.2, 0)) else (0, 0, 0, 0, 0, 0, chk b j)
set_option maxHeartbeats 2000000 in
theorem rGroup_j {b j g : Int} (hc : chk b j = 0) (flag : Bool) (hf : flag = decide (g < 0 ∨ g ≥ grps b j)) : Ev (fun k => slipwayref11_Group.j0 k g flag b j) (GRP b j g) := by
  unfold GRP
  rw [if_pos hc]
  by_cases h : g < 0 ∨ g ≥ grps b j
  · rw [if_pos h, hf, decide_eq_true h]
    refine Ev.step (f := fun _ => some (0, 0, 0, 0, 0, 0, 1)) (fun k => ?_) (Ev.now _)
    simp only [slipwayref11_Group.j0]
    rw [if_pos trivial]
  · rw [if_neg h, hf, decide_eq_false h]
    refine Ev.step (f := fun k => (if g = 0 then ((slipwayref11_Descs.f k b j).bind fun t159 => (some (wrap64 (g * 128), mn 128 (wrap64 (b - (wrap64 (g * 128)))), wrap64 (1 + t159), wrap64 ((wrap64 (1 + t159)) + 1), wrap64 ((wrap64 (1 + t159)) + 2), wrap64 ((wrap64 ((wrap64 ((wrap64 (1 + t159)) + 2)) + 4)) + j), 0))) else (some (wrap64 (g * 128), mn 128 (wrap64 (b - (wrap64 (g * 128)))), wrap64 (g * 128), wrap64 ((wrap64 (g * 128)) + 1), wrap64 ((wrap64 (g * 128)) + 2), wrap64 ((wrap64 ((wrap64 (g * 128)) + 2)) + 4), 0)))) (fun k => ?_) ?_
    · simp only [slipwayref11_Group.j0]
      rw [if_neg (by decide)]
    · by_cases h0 : g = 0
      · refine Ev.iff_pos h0 (Ev.bind (rdescs_ev b j) ?_)
        have e1 : mp b j g = wrap64 (1 + dsc b j) := if_pos h0
        have e2 : dat b j g = wrap64 (wrap64 (wrap64 (mp b j g + 2) + 4) + j) := if_pos h0
        simp only [grp]
        rw [e2, e1]
        exact Ev.now _
      · refine Ev.iff_neg h0 ?_
        have e1 : mp b j g = wrap64 (g * 128) := if_neg h0
        have e2 : dat b j g = wrap64 (wrap64 (mp b j g + 2) + 4) := if_neg h0
        simp only [grp]
        rw [e2, e1]
        exact Ev.now _
set_option maxHeartbeats 2000000 in
theorem rGroup_ev (b j g : Int) : Ev (fun k => slipwayref11_Group.f k b j g) (GRP b j g) := by
  unfold slipwayref11_Group.f
  refine Ev.bind (rcheck_ev b j) ?_
  by_cases h : chk b j = 0
  · refine Ev.iff_pos h ?_
    by_cases h1 : g < 0
    · exact Ev.iff_pos h1 (rGroup_j h true (decide_eq_true (.inl h1)).symm)
    · refine Ev.iff_neg h1 (Ev.bind (rgroups_ev b j) (rGroup_j h _ ?_))
      by_cases h2 : g ≥ grps b j
      · rw [decide_eq_true h2, decide_eq_true (.inr h2)]
      · rw [decide_eq_false h2, decide_eq_false (fun x => x.elim h1 h2)]
  · refine Ev.iff_neg h ?_
    unfold GRP
    rw [if_neg h]
    exact Ev.now _
end Go.Proofs.Ytbdnmdmfnopihaa.ShapeEv
end
