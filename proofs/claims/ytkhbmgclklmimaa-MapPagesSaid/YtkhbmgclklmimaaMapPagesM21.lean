/- Texts of the proof of MapPages, part 21. -/
import Derived.Test.YtkhbmgclklmimaaMapPagesM20
import Derived.Test.YtkhbmgclklmimaaMapPagesM14
import Derived.Test.YtkhbmgclklmimaaMapPagesM15
import Derived.Test.YtkhbmgclklmimaaMapPagesM16
section
namespace Go.Proofs.Ytkhbmgclklmimaa.MapEv
set_option linter.unusedVariables false
set_option linter.unusedSimpArgs false
open Go.RowKit Go.Proofs.Ytkhbmgclklmimaa.Print Go.Proofs.YtkhbmgclklmimaaW.PrintWords Go.Proofs.YtkhbmgclklmimaaW.PrintLast Go.Proofs.YtkhbmgclklmimaaW.PrintMore
theorem gen_f (a : Int) : mapjnl_gen.f a = some (decide (seqOK a)) := by
  unfold mapjnl_gen.f seqOK
  by_cases h : a ≥ 0
  · rw [if_pos h]; congr 1; simp [h]
  · rw [if_neg h]; congr 1; simp [h]
def okP (kind gen part seq : Int) (bad : List Bool) (wear : List Int) (recs : List S55) : Prop :=
  (kind = 1 ∧ seqOK gen ∧ (0 ≤ part ∧ part ≤ 3) ∧ (1 ≤ bad.length ∧ bad.length ≤ 64) ∧ wear.length = bad.length ∧ seqOK seq ∧ recs.length = 0 ∧ ∀ x ∈ wear, worn x) ∨
  (kind = 2 ∧ seqOK gen ∧ part = 0 ∧ seq = 0 ∧ bad.length = 0 ∧ wear.length = 0 ∧ recs.length ≤ 24 ∧ ∀ x ∈ recs, okR x.f0 x.f1 x.f2)
instance (kind gen part seq : Int) (bad : List Bool) (wear : List Int) (recs : List S55) : Decidable (okP kind gen part seq bad wear recs) := by unfold okP; infer_instance
abbrev Pg := Int × Int × Int × Int × List Bool × List Int × List S55 × Int
def rcs (g : Int) (l : List S55) : Pg :=
  if seqOK g then (if l.length ≤ 24 then (if ∀ x ∈ l, okR x.f0 x.f1 x.f2 then (2, g, 0, 0, [], [], l, 0) else (0, 0, 0, 0, [], [], [], 61)) else (0, 0, 0, 0, [], [], [], 3)) else (0, 0, 0, 0, [], [], [], 1)
set_option maxHeartbeats 2000000 in
theorem rrcs_from (g : Int) (l : List S55) (hg : seqOK g) (hl : l.length ≤ 24) (d : Nat) : ∀ i : Nat, i + d = l.length → (∀ j, j < i → ∀ h : j < l.length, okR l[j].f0 l[j].f1 l[j].f2) → Ev (fun k => slipwayref06_Records.l0 k g l (i : Int)) (rcs g l) := by
  induction d with
  | zero =>
    intro i hi hw
    have hall : ∀ x ∈ l, okR x.f0 x.f1 x.f2 := fun x hx => by obtain ⟨j, hj, rfl⟩ := List.getElem_of_mem hx; exact hw j (by omega) hj
    have e : rcs g l = (2, g, 0, 0, [], [], l, 0) := by unfold rcs; rw [if_pos hg, if_pos hl, if_pos hall]
    rw [e]
    refine Ev.step (f := fun _ => some (2, g, 0, 0, [], [], l, 0)) (fun k => ?_) (Ev.now _)
    simp only [slipwayref06_Records.l0]
    rw [if_neg (by omega), if_pos (by simp; omega), List.nil_append]
  | succ d ih =>
    intro i hi hw
    have hlt : i < l.length := by omega
    have n0 : (0 : Int) ≤ (i : Int) := by omega
    have n1 : (i : Int) < (l.length : Int) := by omega
    have A : ∀ {r}, Ev (fun k => (slipwayref06_may.f k l[i].f0 l[i].f1 l[i].f2).bind fun t504 => (if t504 = true then (slipwayref06_Records.l0 k g l ((i + 1 : Nat) : Int)) else (some (0, 0, 0, 0, ([] : List Bool), ([] : List Int), ([] : List (S55)), (61 : Int))))) r → Ev (fun k => slipwayref06_Records.l0 k g l (i : Int)) r := fun {r} h => by
      refine Ev.step (fun k => ?_) h
      simp only [slipwayref06_Records.l0]
      rw [if_pos n1, if_pos n0, rdT l i hlt, suc64 i l.length hlt (by omega)]
    by_cases h : okR l[i].f0 l[i].f1 l[i].f2
    · refine A (Ev.bind (may_ev _ _ _) (Ev.iff_pos (decide_eq_true h) (ih (i + 1) (by omega) (fun j hj hjl => ?_))))
      rcases Nat.lt_or_ge j i with h1 | h1
      · exact hw j h1 hjl
      · have : j = i := by omega
        subst this
        exact h
    · have e : rcs g l = (0, 0, 0, 0, [], [], [], 61) := by unfold rcs; rw [if_pos hg, if_pos hl, if_neg (fun ha => h (ha _ (List.getElem_mem hlt)))]
      rw [e]
      exact A (Ev.bind (may_ev _ _ _) (Ev.iff_neg (by simpa using h) (Ev.now _)))
set_option maxHeartbeats 2000000 in
theorem rrcs_j (g : Int) (l : List S55) (flag : Bool) (hf : flag = decide (¬ seqOK g)) : Ev (fun k => slipwayref06_Records.j0 k g l flag) (rcs g l) := by
  by_cases hg : seqOK g
  · have : flag = false := by rw [hf]; simpa using hg
    subst this
    by_cases hl : l.length ≤ 24
    · refine Ev.step (fun k => ?_) (rrcs_from g l hg hl l.length 0 (by omega) (fun j hj => by omega))
      simp only [slipwayref06_Records.j0]
      rw [if_neg (by decide), if_neg (by omega)]
      rfl
    · have e : rcs g l = (0, 0, 0, 0, [], [], [], 3) := by unfold rcs; rw [if_pos hg, if_neg hl]
      rw [e]
      refine Ev.step (f := fun _ => some (0, 0, 0, 0, [], [], [], 3)) (fun k => ?_) (Ev.now _)
      simp only [slipwayref06_Records.j0]
      rw [if_neg (by decide), if_pos (by omega)]
  · have : flag = true := by rw [hf]; exact decide_eq_true hg
    subst this
    have e : rcs g l = (0, 0, 0, 0, [], [], [], 1) := by unfold rcs; rw [if_neg hg]
    rw [e]
    refine Ev.step (f := fun _ => some (0, 0, 0, 0, [], [], [], 1)) (fun k => ?_) (Ev.now _)
    simp only [slipwayref06_Records.j0]
    rw [if_pos trivial]
theorem rrcs_ev (g : Int) (l : List S55) : Ev (fun k => slipwayref06_Records.f k g l) (rcs g l) := by
  unfold slipwayref06_Records.f
  by_cases h : g < 0
  · exact Ev.iff_pos h (rrcs_j g l true (tt_of (fun hg => by unfold seqOK at hg; omega)))
  · refine Ev.iff_neg h (rrcs_j g l _ (decide_eq_decide.2 ?_))
    unfold seqOK
    omega
end Go.Proofs.Ytkhbmgclklmimaa.MapEv
end
