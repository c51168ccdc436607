/- Texts of the proof of MapBytes, part 26. -/
import Derived.Test.YtkhbmgclklmimaaMapBytesM25
import Derived.Test.YtkhbmgclklmimaaMapBytesM15
import Derived.Test.YtkhbmgclklmimaaMapBytesM16
section
namespace Go.Proofs.Ytkhbmgclklmimaa.MapEv
set_option linter.unusedVariables false
set_option linter.unusedSimpArgs false
open Go.RowKit Go.Proofs.Ytkhbmgclklmimaa.Print Go.Proofs.YtkhbmgclklmimaaW.PrintWords Go.Proofs.YtkhbmgclklmimaaW.PrintLast Go.Proofs.YtkhbmgclklmimaaW.PrintMore
def there (b : Int) : Prop := 0 ≤ b ∧ b < 256
instance (b : Int) : Decidable (there b) := by unfold there; infer_instance
def okR (a b c : Int) : Prop := (a = 1 ∧ there b ∧ c = 0) ∨ (a = 2 ∧ there b ∧ worn c) ∨ (a = 3 ∧ b = 0 ∧ seqOK c)
instance (a b c : Int) : Decidable (okR a b c) := by unfold okR; infer_instance
set_option maxHeartbeats 2000000 in
theorem rec_j (a b c : Int) (flag : Bool) (hf : flag = decide (there b)) : Ev (fun k => mapjnl_record.j0 k flag a b c) (decide (okR a b c)) := by
  refine Ev.step (f := fun _ => some (decide (okR a b c))) (fun k => ?_) (Ev.now _)
  simp only [mapjnl_record.j0]
  by_cases h1 : a = 1
  · rw [if_pos h1]
    by_cases ht : there b
    · rw [if_pos (hf.trans (decide_eq_true ht))]
      congr 1
      by_cases hc : c = 0
      · simp [okR, h1, ht, hc]
      · simp [okR, h1, hc]
    · rw [if_neg (by rw [hf]; simpa using ht)]
      congr 1
      simp [okR, h1, ht]
  · rw [if_neg h1]
    by_cases h2 : a = 2
    · rw [if_pos h2]
      by_cases ht : there b
      · rw [if_pos (hf.trans (decide_eq_true ht)), worn_f]
        simp only [Option.bind_some]
        congr 1
        by_cases hc : worn c
        · simp [okR, h2, ht, hc]
        · simp [okR, h2, hc]
      · rw [if_neg (by rw [hf]; simpa using ht)]
        congr 1
        simp [okR, h2, ht]
    · rw [if_neg h2]
      by_cases h3 : a = 3
      · rw [if_pos h3]
        by_cases hb : b = 0
        · rw [if_pos hb, seq_f]
          simp only [Option.bind_some]
          congr 1
          by_cases hc : seqOK c
          · simp [okR, h3, hb, hc]
          · simp [okR, h3, hc]
        · rw [if_neg hb]
          congr 1
          simp [okR, h3, hb]
      · rw [if_neg h3]
        congr 1
        simp [okR, h1, h2, h3]
theorem rec_ev (a b c : Int) : Ev (fun k => mapjnl_record.f k a b c) (decide (okR a b c)) := by
  unfold mapjnl_record.f
  by_cases h : b ≥ 0
  · refine Ev.iff_pos h (rec_j a b c _ (decide_eq_decide.2 ?_))
    unfold there
    omega
  · exact Ev.iff_neg h (rec_j a b c false (decide_eq_false (fun ht => h ht.1)).symm)
set_option maxHeartbeats 2000000 in
theorem may_j (a b c : Int) (flag : Bool) (hf : flag = decide (there b)) : Ev (fun k => slipwayref06_may.j0 k flag a b c) (decide (okR a b c)) := by
  refine Ev.step (f := fun _ => some (decide (okR a b c))) (fun k => ?_) (Ev.now _)
  simp only [slipwayref06_may.j0]
  by_cases h1 : a = 1
  · rw [if_pos h1]
    by_cases ht : there b
    · rw [if_pos (hf.trans (decide_eq_true ht))]
      congr 1
      by_cases hc : c = 0
      · simp [okR, h1, ht, hc]
      · simp [okR, h1, hc]
    · rw [if_neg (by rw [hf]; simpa using ht)]
      congr 1
      simp [okR, h1, ht]
  · rw [if_neg h1]
    by_cases h2 : a = 2
    · rw [if_pos h2]
      by_cases ht : there b
      · rw [if_pos (hf.trans (decide_eq_true ht))]
        by_cases hc : c ≥ 0
        · rw [if_pos hc]
          congr 1
          simp [okR, h2, ht, worn, hc]
        · rw [if_neg hc]
          congr 1
          simp [okR, h2, worn, hc]
      · rw [if_neg (by rw [hf]; simpa using ht)]
        congr 1
        simp [okR, h2, ht]
    · rw [if_neg h2]
      by_cases h3 : a = 3
      · rw [if_pos h3]
        by_cases hb : b = 0
        · rw [if_pos hb]
          by_cases hc : c ≥ 0
          · rw [if_pos hc]
            congr 1
            simp [okR, h3, hb, seqOK, hc]
          · rw [if_neg hc]
            congr 1
            simp [okR, h3, seqOK, hc]
        · rw [if_neg hb]
          congr 1
          simp [okR, h3, hb]
      · rw [if_neg h3]
        congr 1
        simp [okR, h1, h2, h3]
theorem may_ev (a b c : Int) : Ev (fun k => slipwayref06_may.f k a b c) (decide (okR a b c)) := by
  unfold slipwayref06_may.f
  by_cases h : b ≥ 0
  · refine Ev.iff_pos h (may_j a b c _ (decide_eq_decide.2 ?_))
    unfold there
    omega
  · exact Ev.iff_neg h (may_j a b c false (decide_eq_false (fun ht => h ht.1)).symm)
theorem okR.block {a b c : Int} (h : okR a b c) : 0 ≤ b := by
  rcases h with ⟨_, h, _⟩ | ⟨_, h, _⟩ | ⟨_, h, _⟩
  · exact h.1
  · exact h.1
  · omega
end Go.Proofs.Ytkhbmgclklmimaa.MapEv
end
