/- Texts of the proof of LayoutSupers, part 34. -/
import Derived.Test.YtbdnmdmfnopihaaLayoutSupersM32
import Derived.Test.YtbdnmdmfnopihaaLayoutSupersM18
import Derived.Test.YtbdnmdmfnopihaaLayoutSupersM17
section
namespace Go.Proofs.Ytbdnmdmfnopihaa.ShapeEv
set_option linter.unusedVariables false
set_option linter.unusedSimpArgs false
open Go.RowKit Go.Proofs.Ytbdnmdmfnopihaa.Print Go.Proofs.Ytbdnmdmfnopihaa.SMath Go.Proofs.Ytbdnmdmfnopihaa.SealEv Go.Proofs.YtbdnmdmfnopihaaW.PrintWords Go.Proofs.YtbdnmdmfnopihaaW.PrintLast Go.Proofs.YtbdnmdmfnopihaaW.PrintMore
theorem rgroups_f (a : Int) : slipwayref11_groups.f a = some (ceil_ a 128) := rfl
theorem rdescs_f (a : Int) : slipwayref11_descs.f a = some (ceil_ (wrap64 (a * 16)) 256) := rfl
theorem last_eq {b j : Int} (hb : bounds b j) : wrap64 (b - wrap64 (wrap64 (ceil_ b 128 - 1) * 128)) < 16 ↔ (Int.tmod b 128 ≠ 0 ∧ Int.tmod b 128 < 16) := by
  have h := hb.1
  rw [ceil_small (by omega) (by omega) (by decide) (by decide), Int.tmod_eq_emod_of_nonneg (by omega)]
  rw [w64 (n := (b + 128 - 1) / 128 - 1) (by omega) (by omega), w64 (n := ((b + 128 - 1) / 128 - 1) * 128) (by omega) (by omega), w64 (by omega) (by omega)]
  omega
set_option maxHeartbeats 2000000 in
theorem rcheck_j1 {b j : Int} (flag : Bool) (hb : bounds b j) (hf : flag = decide (wrap64 (b - wrap64 (wrap64 (ceil_ b 128 - 1) * 128)) < 16)) : Ev (fun k => slipwayref11_Check.j1 k flag b j) (chk b j) := by
  refine Ev.step (f := fun _ => some (chk b j)) (fun k => ?_) (Ev.now _)
  simp only [slipwayref11_Check.j1]
  unfold chk
  rw [if_pos hb]
  by_cases h : wrap64 (b - wrap64 (wrap64 (ceil_ b 128 - 1) * 128)) < 16
  · rw [if_pos (hf.trans (decide_eq_true h)), if_pos h]
  · rw [if_neg (by rw [hf.trans (decide_eq_false h)]; decide), if_neg h, rgroups_f]
    simp only [Option.bind_some]
    rw [rdescs_f]
    simp only [Option.bind_some]
    split <;> rfl
set_option maxHeartbeats 2000000 in
theorem rcheck_j0 (b j : Int) (flag : Bool) (hf : flag = decide (¬ bounds b j)) : Ev (fun k => slipwayref11_Check.j0 k flag b j) (chk b j) := by
  by_cases hb : bounds b j
  · have : flag = false := by simp [hf, hb]
    subst this
    have hl := last_eq hb
    refine Ev.step (f := fun k => if (Int.tmod b 128) = 0 then (slipwayref11_Check.j1 k false b j) else (slipwayref11_Check.j1 k (decide ((Int.tmod b 128) < 16)) b j)) (fun k => ?_) ?_
    · simp only [slipwayref11_Check.j0]
      rw [if_neg (by decide)]
    · by_cases h : Int.tmod b 128 = 0
      · exact Ev.iff_pos h (rcheck_j1 _ hb (by rw [decide_eq_false (fun x => (hl.1 x).1 h)]))
      · refine Ev.iff_neg h (rcheck_j1 _ hb ?_)
        by_cases h2 : Int.tmod b 128 < 16
        · rw [decide_eq_true h2, decide_eq_true (hl.2 ⟨h, h2⟩)]
        · rw [decide_eq_false h2, decide_eq_false (fun x => h2 (hl.1 x).2)]
  · have : flag = true := by simp [hf, hb]
    subst this
    refine Ev.step (f := fun _ => some 110) (fun k => ?_) (by unfold chk; rw [if_neg hb]; exact Ev.now _)
    simp only [slipwayref11_Check.j0]
    rw [if_pos trivial]
set_option maxHeartbeats 2000000 in
theorem rcheck_ev (b j : Int) : Ev (fun k => slipwayref11_Check.f k b j) (chk b j) := by
  unfold slipwayref11_Check.f
  by_cases h0 : b < 1
  · exact Ev.iff_pos h0 (rcheck_j0 b j true (by unfold bounds; simp; omega))
  · refine Ev.iff_neg h0 ?_
    by_cases h1 : b > 8192
    · exact Ev.iff_pos h1 (rcheck_j0 b j true (by unfold bounds; simp; omega))
    · refine Ev.iff_neg h1 ?_
      by_cases h2 : j < 16
      · exact Ev.iff_pos h2 (rcheck_j0 b j true (by unfold bounds; simp; omega))
      · refine Ev.iff_neg h2 (rcheck_j0 b j _ ?_)
        unfold bounds
        by_cases h3 : j > 64
        · simp [h3] <;> omega
        · simp [h3] <;> omega
theorem rgroups_ev (b j : Int) : Ev (fun k => slipwayref11_Groups.f k b j) (grps b j) := by
  unfold slipwayref11_Groups.f
  refine Ev.bind (rcheck_ev b j) ?_
  by_cases h : chk b j = 0
  · have e : grps b j = ceil_ b 128 := if_pos h
    rw [e]
    exact Ev.iff_pos h (Ev.bindS (fun _ => rgroups_f b) (Ev.now _))
  · have e : grps b j = 0 := if_neg h
    rw [e]
    exact Ev.iff_neg h (Ev.now _)
theorem rinodes_ev (b j : Int) : Ev (fun k => slipwayref11_Inodes.f k b j) (16 * grps b j) := by
  unfold slipwayref11_Inodes.f
  refine Ev.bind (rgroups_ev b j) ?_
  have := grps_range b j
  rw [w64 (by omega) (by omega), Int.mul_comm]
  exact Ev.now _
def dsc (b j : Int) : Int := ceil_ (wrap64 (grps b j * 16)) 256
def mp (b j g : Int) : Int := if g = 0 then wrap64 (1 + dsc b j) else wrap64 (g * 128)
end Go.Proofs.Ytbdnmdmfnopihaa.ShapeEv
end
