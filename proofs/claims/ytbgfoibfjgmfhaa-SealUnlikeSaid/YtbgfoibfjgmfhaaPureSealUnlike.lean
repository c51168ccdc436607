/- The pure statements of the seal laws that need no unpacking. -/
import Derived.Test.YtbgfoibfjgmfhaaSealEv3
import Derived.Test.YtbgfoibfjgmfhaaPrint19
import Derived.Test.YtbgfoibfjgmfhaaPrint2
import Derived.Test.YtbgfoibfjgmfhaaPrint7
import Derived.Test.YtbgfoibfjgmfhaaPrint8
namespace Go.Proofs.Ytbgfoibfjgmfhaa.Pure
set_option linter.unusedVariables false
set_option linter.unusedSimpArgs false
open Go.RowKit Go.Proofs.Ytbgfoibfjgmfhaa.Print Go.Proofs.Ytbgfoibfjgmfhaa.SMath Go.Proofs.Ytbgfoibfjgmfhaa.SealEv Go.Proofs.YtbgfoibfjgmfhaaW.PrintWords Go.Proofs.YtbgfoibfjgmfhaaW.PrintLast Go.Proofs.YtbgfoibfjgmfhaaW.PrintMore

theorem live_ev : Ev (fun k => slipwaylaw01_live.f k) true := Ev.of slipwaylaw01_live.mono (k := 60) (by decide +kernel)

theorem clone_bytes (l : List Int) (hn : l.length < 140737488355328) : bytes_Clone.f l = some l := by
  unfold bytes_Clone.f
  simp only [Option.bind_some, List.length_nil, Nat.zero_add, List.nil_append]
  rw [if_pos hn]

open Classical in
theorem SealUnlike : slipwaylaw01_SealUnlike.Pure := by
  intro l0 l1 h1 h2 h3 h4 h5 h6
  have hl := bytes_of_wf h3
  have hm := bytes_of_wf h6
  refine Ev.rounds (g := fun k => slipwaylaw01_SealUnlike.f k l0 l1) ?_
  unfold slipwaylaw01_SealUnlike.f
  have hmn : ∃ n : Nat, mn (mn (l0.length : Int) (l1.length : Int)) 1048576 = (n : Int) ∧ n ≤ l0.length ∧ n ≤ l1.length ∧ n ≤ 1048576 := by
    unfold mn
    by_cases ha : (l1.length : Int) < (l0.length : Int)
    · rw [if_pos ha]
      by_cases hb : (1048576 : Int) < (l1.length : Int)
      · exact ⟨1048576, by rw [if_pos hb]; rfl, by omega, by omega, by omega⟩
      · exact ⟨l1.length, by rw [if_neg hb], by omega, by omega, by omega⟩
    · rw [if_neg ha]
      by_cases hb : (1048576 : Int) < (l0.length : Int)
      · exact ⟨1048576, by rw [if_pos hb]; rfl, by omega, by omega, by omega⟩
      · exact ⟨l0.length, by rw [if_neg hb], by omega, by omega, by omega⟩
  obtain ⟨n, hmn, n0, n1, n2⟩ := hmn
  rw [hmn, Int.toNat_natCast]
  have e0 : (l0.take n).length = n := by rw [List.length_take]; omega
  have e1 : (l1.take n).length = n := by rw [List.length_take]; omega
  have b0 := bytes_take hl n
  have b1 := bytes_take hm n
  generalize l0.take n = p at e0 b0 ⊢
  generalize l1.take n = q at e1 b1 ⊢
  have s0 : sealed p = (p ++ nb (zeros p), 0) := by rw [sealed, if_neg (by omega)]
  have s1 : sealed q = (q ++ nb (zeros q), 0) := by rw [sealed, if_neg (by omega)]
  refine Ev.bind live_ev (Ev.iff_pos rfl (Ev.iff_pos (by omega) (Ev.iff_pos (by omega) (Ev.bind (seal_seal b0 (by omega)) (Ev.iff_pos (by omega) (Ev.bind (seal_seal b1 (by omega)) ?_))))))
  rw [s0, s1]
  refine Ev.iff_pos rfl ?_
  have B0 := bytes_append b0 (nb_bytes (zeros p))
  have B1 := bytes_append b1 (nb_bytes (zeros q))
  have L0 : (p ++ nb (zeros p)).length = n + 4 := by simp [nb, e0]
  have L1 : (q ++ nb (zeros q)).length = n + 4 := by simp [nb, e1]
  refine Ev.step (f := fun k => (bytes_Equal.f (p ++ nb (zeros p)) (q ++ nb (zeros q))).bind fun t => if t = true then some true else (seal_Covers.f k (p ++ nb (zeros p)) (q ++ nb (zeros q))).bind fun u => if u = true then some false else (seal_Covers.f k (q ++ nb (zeros q)) (p ++ nb (zeros p))).bind fun v => some (!v)) (fun k => ?_) ?_
  · simp only [slipwaylaw01_SealUnlike.j0]
    rw [if_neg (by decide)]
  · rw [bytes_equal B0 B1]
    simp only [Option.bind_some]
    by_cases hpq : p = q
    · subst hpq
      rw [decide_eq_true rfl]
      exact Ev.iff_pos rfl (Ev.now _)
    · have hne : ¬ (p ++ nb (zeros p) = q ++ nb (zeros q)) := fun e => hpq (List.append_inj e (by omega)).1
      rw [decide_eq_false hne]
      refine Ev.iff_neg (by decide) (Ev.bind (seal_covers _ _ B0 B1 (by omega)) ?_)
      rw [decide_eq_false (fun h => hpq (sealed_cov b0 b1 (by omega) (by omega) h))]
      refine Ev.iff_neg (by decide) (Ev.bind (seal_covers _ _ B1 B0 (by omega)) ?_)
      rw [decide_eq_false (fun h => hpq (sealed_cov b1 b0 (by omega) (by omega) h).symm)]
      exact Ev.now _
end Go.Proofs.Ytbgfoibfjgmfhaa.Pure
