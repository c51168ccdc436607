/- Texts of the proof of LayoutUses, part 18. -/
import Derived.Test.YtbdnmdmfnopihaaLayoutUsesM17
import Derived.Test.YtbdnmdmfnopihaaLayoutUsesM13
section
namespace Go.Proofs.Ytbdnmdmfnopihaa.ShapeEv
set_option linter.unusedVariables false
set_option linter.unusedSimpArgs false
open Go.RowKit Go.Proofs.Ytbdnmdmfnopihaa.Print Go.Proofs.Ytbdnmdmfnopihaa.SMath Go.Proofs.Ytbdnmdmfnopihaa.SealEv Go.Proofs.YtbdnmdmfnopihaaW.PrintWords Go.Proofs.YtbdnmdmfnopihaaW.PrintLast Go.Proofs.YtbdnmdmfnopihaaW.PrintMore
def ceil_ (a d : Int) : Int := wrap64 (Int.tdiv (wrap64 (wrap64 (a + d) - 1)) d)
theorem ceil_f (a d : Int) (h : d ≠ 0) : layout_ceil.f a d = some (ceil_ a d) := by
  unfold layout_ceil.f
  rw [if_neg h]
  rfl
theorem ceil_small {a d : Int} (h0 : 0 ≤ a) (h1 : a ≤ 100000) (h2 : 1 ≤ d) (h3 : d ≤ 100000) : ceil_ a d = (a + d - 1) / d := by
  unfold ceil_
  rw [w64 (n := a + d) (by omega) (by omega), w64 (n := a + d - 1) (by omega) (by omega), Int.tdiv_eq_ediv_of_nonneg (by omega)]
  have q0 : 0 ≤ (a + d - 1) / d := Int.ediv_nonneg (by omega) (by omega)
  have q1 : (a + d - 1) / d ≤ a + d - 1 := Int.ediv_le_self _ (by omega)
  rw [w64 (by omega) (by omega)]
def bounds (b j : Int) : Prop := (1 ≤ b ∧ b ≤ 8192) ∧ (16 ≤ j ∧ j ≤ 64)
instance (b j : Int) : Decidable (bounds b j) := by unfold bounds; infer_instance
def chk (b j : Int) : Int :=
  if bounds b j then
    (if wrap64 (b - wrap64 (wrap64 (ceil_ b 128 - 1) * 128)) < 16 then 110 else
      if wrap64 (wrap64 (wrap64 (wrap64 (1 + ceil_ (wrap64 (ceil_ b 128 * 16)) 256) + 2) + 4) + j) ≥ mn b 128 then 110 else 0)
  else 110
theorem chk_ok {b j : Int} (h : chk b j = 0) : bounds b j := by
  unfold chk at h
  split at h
  · assumption
  · exact absurd h (by decide)
set_option maxHeartbeats 2000000 in
theorem check_j (b j : Int) (flag : Bool) (hf : flag = decide (¬ bounds b j)) : Ev (fun k => layout_Check.j0 k flag b j) (chk b j) := by
  by_cases hb : bounds b j
  · have : flag = false := by simp [hf, hb]
    subst this
    refine Ev.step (f := fun _ => some (chk b j)) (fun k => ?_) (Ev.now _)
    simp only [layout_Check.j0]
    rw [if_neg (by decide), ceil_f _ _ (by decide)]
    simp only [Option.bind_some]
    rw [ceil_f _ _ (by decide)]
    simp only [Option.bind_some]
    unfold chk
    rw [if_pos hb]
    split
    · rfl
    · split <;> rfl
  · have : flag = true := by simp [hf, hb]
    subst this
    refine Ev.step (f := fun _ => some 110) (fun k => ?_) (by unfold chk; rw [if_neg hb]; exact Ev.now _)
    simp only [layout_Check.j0]
    rw [if_pos trivial]
set_option maxHeartbeats 2000000 in
theorem check_ev (b j : Int) : Ev (fun k => layout_Check.f k b j) (chk b j) := by
  unfold layout_Check.f
  have hB : ∀ p : Prop, [Decidable p] → p ↔ p := fun _ => Iff.rfl
  by_cases h0 : b < 1
  · exact Ev.iff_pos h0 (check_j b j true (by unfold bounds; simp; omega))
  · refine Ev.iff_neg h0 ?_
    by_cases h1 : b > 8192
    · exact Ev.iff_pos h1 (check_j b j true (by unfold bounds; simp; omega))
    · refine Ev.iff_neg h1 ?_
      by_cases h2 : j < 16
      · exact Ev.iff_pos h2 (check_j b j true (by unfold bounds; simp; omega))
      · refine Ev.iff_neg h2 (check_j b j _ ?_)
        unfold bounds
        by_cases h3 : j > 64
        · simp [h3] <;> omega
        · simp [h3] <;> omega
def grps (b j : Int) : Int := if chk b j = 0 then ceil_ b 128 else 0
theorem groups_ev (b j : Int) : Ev (fun k => layout_Groups.f k b j) (grps b j) := by
  unfold layout_Groups.f
  refine Ev.bind (check_ev b j) ?_
  by_cases h : chk b j = 0
  · have e : grps b j = ceil_ b 128 := if_pos h
    rw [e]
    exact Ev.iff_pos h (Ev.bindS (fun _ => ceil_f b 128 (by decide)) (Ev.now _))
  · have e : grps b j = 0 := if_neg h
    rw [e]
    exact Ev.iff_neg h (Ev.now _)
end Go.Proofs.Ytbdnmdmfnopihaa.ShapeEv
end
