/- Texts of the proof of PoolRoles, part 16. -/
import Derived.Test.YtlegmnpngcadhaaPoolRolesM15
import Derived.Test.YtlegmnpngcadhaaPoolRolesM14
import Derived.Test.YtlegmnpngcadhaaPoolRolesM13
section
namespace Go.Proofs.Ytlegmnpngcadhaa.Pure
set_option linter.unusedVariables false
set_option linter.unusedSimpArgs false
open Go.RowKit Go.Proofs.Ytlegmnpngcadhaa.Print Go.Proofs.Ytlegmnpngcadhaa.Pl Go.Proofs.YtlegmnpngcadhaaW.PrintWords Go.Proofs.YtlegmnpngcadhaaW.PrintLast Go.Proofs.YtlegmnpngcadhaaW.PrintMore
def below (r : List Int) (m : Int) (i : Nat) : Nat := ((List.range i).filter fun j => decide (1 ≤ r.getD j 0 ∧ r.getD j 0 < m)).length
set_option maxHeartbeats 2000000 in
theorem below_step (r : List Int) (m : Int) (hm : 1 ≤ m) (i : Nat) : below r (m + 1) i = below r m i + (idx r m i).length := by
  unfold below idx
  induction i with
  | zero => rfl
  | succ i ih =>
    rw [List.range_succ, List.filter_append, List.filter_append, List.filter_append, List.length_append, List.length_append, List.length_append, ih]
    have key : ([i].filter fun j => decide (1 ≤ r.getD j 0 ∧ r.getD j 0 < m + 1)).length = ([i].filter fun j => decide (1 ≤ r.getD j 0 ∧ r.getD j 0 < m)).length + ([i].filter fun j => r.getD j 0 == m).length := by
      generalize r.getD i 0 = x
      by_cases c1 : 1 ≤ r.getD i 0 ∧ r.getD i 0 < m
      · rw [List.filter_cons_of_pos (by simp only [decide_eq_true_eq]; omega), List.filter_cons_of_pos (by simp only [decide_eq_true_eq]; omega), List.filter_cons_of_neg (by simp only [beq_iff_eq]; omega)]
        rfl
      · by_cases c2 : r.getD i 0 = m
        · rw [List.filter_cons_of_pos (by simp only [decide_eq_true_eq]; omega), List.filter_cons_of_neg (by simp only [decide_eq_true_eq]; omega), List.filter_cons_of_pos (by simp only [beq_iff_eq]; omega)]
          rfl
        · rw [List.filter_cons_of_neg (by simp only [decide_eq_true_eq]; omega), List.filter_cons_of_neg (by simp only [decide_eq_true_eq]; omega), List.filter_cons_of_neg (by simp only [beq_iff_eq]; omega)]
          rfl
    omega
theorem below_all {r : List Int} (h : ∀ x ∈ r, kn x) : below r 7 r.length = r.length := by
  unfold below
  rw [List.filter_eq_self.2, List.length_range]
  intro j hj
  have hj := List.mem_range.1 hj
  have := h _ (List.getElem_mem hj)
  unfold kn at this
  rw [List.getD_eq_getElem?_getD, List.getElem?_eq_getElem hj]
  simp only [Option.getD_some, decide_eq_true_eq]
  omega
theorem below_le (r : List Int) (m : Int) (i : Nat) : below r m i ≤ i := by
  unfold below
  exact Nat.le_trans (List.length_filter_le _ _) (by rw [List.length_range]; omega)
def tot (r w : List Int) (m : Int) : Nat := if Ok r w then below r m r.length else 0
theorem tot_le (r w : List Int) (m : Int) : tot r w m ≤ 256 := by
  unfold tot
  split
  · rename_i h
    have := below_le r m r.length
    have := h.n1
    omega
  · omega
set_option maxHeartbeats 2000000 in
theorem roles_loop (r w u v : List Int) (hr : r.length ≤ 140737488355328) (hw : w.length ≤ 140737488355328) (d : Nat) : ∀ m : Nat, 1 ≤ m → m + d = 7 → Ev (fun k => slipwaylaw04_PoolRoles.l0 k ((tot r w (m : Int) : Nat) : Int) (m : Int) r w u v) true := by
  induction d with
  | zero =>
    intro m h1 hm
    have e : m = 7 := by omega
    subst e
    refine Ev.step (f := fun k => (slipwaylaw04_begun.f k).bind fun t286 => (if t286 = true then ((pool_Check.f k r w).bind fun t287 => (if t287 = 0 then (if ((tot r w ((7 : Nat) : Int) : Nat) : Int) = (r.length : Int) then ((pool_Same.f k r w u v).bind fun t288 => ((slipwayref04_Same.f k r w u v).bind fun t289 => (some (t288 == t289)))) else (none)) else ((pool_Same.f k r w u v).bind fun t290 => ((slipwayref04_Same.f k r w u v).bind fun t291 => (some (t290 == t291)))))) else (none))) (fun k => ?_) ?_
    · simp only [slipwaylaw04_PoolRoles.l0]
      rw [if_neg (by omega)]
    · refine Ev.bind begun_ev (Ev.iff_pos rfl (Ev.bind (check_ev r w) ?_))
      have fin : Ev (fun k => (pool_Same.f k r w u v).bind fun t288 => ((slipwayref04_Same.f k r w u v).bind fun t289 => (some (t288 == t289)))) true := by
        refine Ev.bind (same_ev r w u v hr hw) (Ev.bind (rsame_ev r w u v hr hw) ?_)
        rw [show (decide (r = u ∧ w = v) == decide (r = u ∧ w = v)) = true by simp]
        exact Ev.now _
      by_cases c : Ok r w
      · refine Ev.iff_pos (chk_ok c) (Ev.iff_pos ?_ fin)
        have := below_all c.ro
        unfold tot
        rw [if_pos c]
        show ((below r 7 r.length : Nat) : Int) = _
        rw [this]
      · exact Ev.iff_neg (by rw [chk_no c]; decide) fin
  | succ d ih =>
    intro m h1 hm
    have hle := tot_le r w ((m + 1 : Nat) : Int)
    have st : tot r w ((m + 1 : Nat) : Int) = tot r w (m : Int) + (blk r w (m : Int)).length := by
      unfold tot blk
      by_cases c : Ok r w
      · rw [if_pos c, if_pos c, if_pos c]
        exact below_step r (m : Int) (by omega) r.length
      · rw [if_neg c, if_neg c, if_neg c]; rfl
    have nx := ih (m + 1) (by omega) (by omega)
    rw [st] at nx hle
    refine Ev.step (f := fun k => (pool_Count.f k r w (m : Int)).bind fun t285 => (slipwaylaw04_PoolRoles.l0 k (wrap64 (((tot r w (m : Int) : Nat) : Int) + t285)) ((m + 1 : Nat) : Int) r w u v)) (fun k => ?_) (Ev.bind (count_ev r w (m : Int)) ?_)
    · simp only [slipwaylaw04_PoolRoles.l0]
      rw [if_pos (by omega), suc64 m 256 (by omega) (by omega)]
    · rw [w64 (by omega) (by omega)]
      exact nx
set_option maxHeartbeats 2000000 in
theorem PoolRoles : slipwaylaw04_PoolRoles.Pure := by
  intro r w u v hr hw _ _
  refine Ev.rounds ?_
  have nr : r.length ≤ 140737488355328 := by have := hr.2.1; omega
  have nw : w.length ≤ 140737488355328 := by have := hw.2.1; omega
  have e : tot r w ((1 : Nat) : Int) = 0 := by
    unfold tot
    split
    · unfold below
      rw [List.filter_eq_nil_iff.2 (fun j _ => by simp only [decide_eq_true_eq]; omega)]
      rfl
    · rfl
  have := roles_loop r w u v nr nw 6 1 (by omega) (by omega)
  rw [e] at this
  unfold slipwaylaw04_PoolRoles.f
  exact this
end Go.Proofs.Ytlegmnpngcadhaa.Pure
end
