/- Texts of the proof of PoolFair, part 18. -/
import Derived.Test.YtlegmnpngcadhaaPoolFairM15
import Derived.Test.YtlegmnpngcadhaaPoolFairM13
import Derived.Test.YtlegmnpngcadhaaPoolFairM17
import Derived.Test.YtlegmnpngcadhaaPoolFairM14
section
namespace Go.Proofs.Ytlegmnpngcadhaa.Pl
set_option linter.unusedVariables false
set_option linter.unusedSimpArgs false
open Go.RowKit Go.Proofs.Ytlegmnpngcadhaa.Print Go.Proofs.YtlegmnpngcadhaaW.PrintWords Go.Proofs.YtlegmnpngcadhaaW.PrintLast Go.Proofs.YtlegmnpngcadhaaW.PrintMore
abbrev R3 := List Int × List Int × Int
def Fresh (n : Nat) (r : R3) : Prop := r.1.length ≤ 256 ∧ r.2.1.length ≤ 256 ∧ (r.2.2 = 0 → r.1.length = n ∧ (∀ x ∈ r.1, x = 1 ∨ x = 6) ∧ r.2.1 = List.replicate n 0)
theorem fresh_bad (n : Nat) (e : Int) (h : e ≠ 0) : Fresh n ([], [], e) := ⟨by simp, by simp, fun k => absurd k h⟩
set_option maxHeartbeats 2000000 in
theorem new_from (n : Nat) (hn : n ≤ 256) (bad : List Int) (hb : bad.length ≤ 140737488355328) (d : Nat) : ∀ (i : Nat) (r : List Int), i + d = bad.length → r.length = n → (∀ x ∈ r, x = 1 ∨ x = 6) →
    ∃ q : R3, Ev (fun k => pool_New.l0 k (n : Int) bad (bad.length : Int) (i : Int) r (List.replicate n 0)) q ∧ Ev (fun k => slipwayref04_New.l1 k (n : Int) bad (i : Int) r (List.replicate n 0)) q ∧ Fresh n q := by
  induction d with
  | zero =>
    intro i r hi hr hx
    refine ⟨(r, List.replicate n 0, 0), Ev.step (f := fun _ => some (r, List.replicate n 0, 0)) (fun k => ?_) (Ev.now _), Ev.step (f := fun _ => some (r, List.replicate n 0, 0)) (fun k => ?_) (Ev.now _), by simp only []; omega, by simp only [List.length_replicate]; omega, fun _ => ⟨hr, hx, rfl⟩⟩
    · simp only [pool_New.l0]
      rw [if_neg (by omega)]
    · simp only [slipwayref04_New.l1]
      rw [if_neg (by omega)]
  | succ d ih =>
    intro i r hi hr hx
    have hlt : i < bad.length := by omega
    have n0 : (0 : Int) ≤ (i : Int) := by omega
    have n1 : (i : Int) < (bad.length : Int) := by omega
    have A : ∀ {q : R3}, Ev (fun k => if bad[i] < 0 then some (([] : List Int), ([] : List Int), (22 : Int)) else if bad[i] ≥ (n : Int) then some (([] : List Int), ([] : List Int), (22 : Int)) else if 0 ≤ bad[i] then (if bad[i] < (r.length : Int) then (if rd r bad[i] = 6 then some (([] : List Int), ([] : List Int), (22 : Int)) else pool_New.l0 k (n : Int) bad (bad.length : Int) ((i + 1 : Nat) : Int) (r.set bad[i].toNat 6) (List.replicate n 0)) else none) else none) q → Ev (fun k => pool_New.l0 k (n : Int) bad (bad.length : Int) (i : Int) r (List.replicate n 0)) q := fun {q} h => by
      refine Ev.step (fun k => ?_) h
      simp only [pool_New.l0]
      rw [if_pos n1, if_pos n0, if_pos n1, rd_nat bad i hlt, suc64 i bad.length hlt hb]
    have B : ∀ {q : R3}, Ev (fun k => if bad[i] < 0 then some (([] : List Int), ([] : List Int), (22 : Int)) else if bad[i] ≥ (n : Int) then some (([] : List Int), ([] : List Int), (22 : Int)) else if 0 ≤ bad[i] then (if bad[i] < (r.length : Int) then (if rd r bad[i] = 6 then some (([] : List Int), ([] : List Int), (22 : Int)) else slipwayref04_New.l1 k (n : Int) bad ((i + 1 : Nat) : Int) (r.set bad[i].toNat 6) (List.replicate n 0)) else none) else none) q → Ev (fun k => slipwayref04_New.l1 k (n : Int) bad (i : Int) r (List.replicate n 0)) q := fun {q} h => by
      refine Ev.step (fun k => ?_) h
      simp only [slipwayref04_New.l1]
      rw [if_pos n1, if_pos n0, rd_nat bad i hlt, suc64 i bad.length hlt hb]
    have F := fresh_bad n 22 (by decide)
    generalize hbi : bad[i] = x at A B
    by_cases c1 : x < 0
    · exact ⟨_, A (Ev.iff_pos c1 (Ev.now _)), B (Ev.iff_pos c1 (Ev.now _)), F⟩
    by_cases c2 : x ≥ (n : Int)
    · exact ⟨_, A (Ev.iff_neg c1 (Ev.iff_pos c2 (Ev.now _))), B (Ev.iff_neg c1 (Ev.iff_pos c2 (Ev.now _))), F⟩
    have c3 : 0 ≤ x := by omega
    have c4 : x < (r.length : Int) := by omega
    by_cases c5 : rd r x = 6
    · exact ⟨_, A (Ev.iff_neg c1 (Ev.iff_neg c2 (Ev.iff_pos c3 (Ev.iff_pos c4 (Ev.iff_pos c5 (Ev.now _)))))), B (Ev.iff_neg c1 (Ev.iff_neg c2 (Ev.iff_pos c3 (Ev.iff_pos c4 (Ev.iff_pos c5 (Ev.now _)))))), F⟩
    obtain ⟨q, q1, q2, q3⟩ := ih (i + 1) (r.set x.toNat 6) (by omega) (by rw [List.length_set]; exact hr) (fun y hy => by
      rcases List.mem_or_eq_of_mem_set hy with hy | rfl
      · exact hx y hy
      · exact .inr rfl)
    exact ⟨q, A (Ev.iff_neg c1 (Ev.iff_neg c2 (Ev.iff_pos c3 (Ev.iff_pos c4 (Ev.iff_neg c5 q1))))), B (Ev.iff_neg c1 (Ev.iff_neg c2 (Ev.iff_pos c3 (Ev.iff_pos c4 (Ev.iff_neg c5 q2))))), q3⟩
set_option maxHeartbeats 2000000 in
theorem rnew_fill (n : Nat) (hn : n ≤ 256) (bad : List Int) {q : R3} (h : Ev (fun k => slipwayref04_New.l1 k (n : Int) bad 0 (List.replicate n 1) (List.replicate n 0)) q) (d : Nat) : ∀ i : Nat, i + d = n →
    Ev (fun k => slipwayref04_New.l0 k (n : Int) bad (i : Int) (List.replicate i 1) (List.replicate i 0)) q := by
  induction d with
  | zero =>
    intro i hi
    have e : i = n := by omega
    subst e
    refine Ev.step (fun k => ?_) h
    simp only [slipwayref04_New.l0]
    rw [if_neg (by omega)]
  | succ d ih =>
    intro i hi
    have nx := ih (i + 1) (by omega)
    rw [List.replicate_succ', List.replicate_succ'] at nx
    refine Ev.step (fun k => ?_) nx
    simp only [slipwayref04_New.l0]
    rw [if_pos (by omega), if_pos (by rw [List.length_replicate]; omega), if_pos (by rw [List.length_replicate]; omega), suc64 i 256 (by omega) (by omega)]
set_option maxHeartbeats 2000000 in
theorem new_ev (n : Int) (bad : List Int) (hb : bad.length ≤ 140737488355328) : ∃ q : R3, Ev (fun k => pool_New.f k n bad) q ∧ Ev (fun k => slipwayref04_New.f k n bad) q ∧ Fresh n.toNat q ∧ (q.2.2 = 0 → 16 ≤ n ∧ n ≤ 256) := by
  unfold pool_New.f slipwayref04_New.f
  have F := fresh_bad n.toNat 20 (by decide)
  have J : Ev (fun k => slipwayref04_New.j0 k n bad true) (([] : List Int), ([] : List Int), (20 : Int)) := by
    refine Ev.step (f := fun _ => some (([] : List Int), ([] : List Int), (20 : Int))) (fun k => ?_) (Ev.now _)
    simp only [slipwayref04_New.j0]
    rw [if_pos trivial]
  by_cases c : 16 ≤ n ∧ n ≤ 256
  · obtain ⟨m, rfl⟩ := Int.eq_ofNat_of_zero_le (show 0 ≤ n by omega)
    obtain ⟨q, q1, q2, q3⟩ := new_from m (by omega) bad hb bad.length 0 (List.replicate m 1) (by omega) (by rw [List.length_replicate]) (fun x hx => .inl (List.eq_of_mem_replicate hx))
    refine ⟨q, Ev.bindS (fun _ => blocks_f _) (Ev.iff_pos (decide_eq_true c) ?_), Ev.iff_neg (by omega) ?_, q3, fun _ => c⟩
    · refine Ev.bindS (a := List.replicate m 1) (fun _ => ?_) (Ev.iff_pos (by omega) (Ev.iff_pos (by omega) q1))
      unfold slices_Repeat_int_int.f
      simp only []
      rw [if_pos (by omega)]
      rfl
    · rw [decide_eq_false (show ¬ (m : Int) > 256 by omega)]
      refine Ev.step (fun k => ?_) (rnew_fill m (by omega) bad q2 m 0 (by omega))
      simp only [slipwayref04_New.j0]
      rw [if_neg (by decide)]
      rfl
  · refine ⟨([], [], 20), Ev.bindS (fun _ => blocks_f _) (Ev.iff_neg (by simpa using c) (Ev.now _)), ?_, F, fun h => absurd h (by decide)⟩
    by_cases c1 : n < 16
    · exact Ev.iff_pos c1 J
    · refine Ev.iff_neg c1 ?_
      rw [decide_eq_true (show n > 256 by omega)]
      exact J
end Go.Proofs.Ytlegmnpngcadhaa.Pl
end
