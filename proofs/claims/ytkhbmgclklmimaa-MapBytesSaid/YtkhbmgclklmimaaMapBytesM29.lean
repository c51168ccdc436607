/- Texts of the proof of MapBytes, part 29. -/
import Derived.Test.YtkhbmgclklmimaaMapBytesM27
import Derived.Test.YtkhbmgclklmimaaMapBytesM15
import Derived.Test.YtkhbmgclklmimaaMapBytesM16
import Derived.Test.YtkhbmgclklmimaaMapBytesM17
import Derived.Test.YtkhbmgclklmimaaMapBytesM28
section
namespace Go.Proofs.Ytkhbmgclklmimaa.MapEv
set_option linter.unusedVariables false
set_option linter.unusedSimpArgs false
open Go.RowKit Go.Proofs.Ytkhbmgclklmimaa.Print Go.Proofs.YtkhbmgclklmimaaW.PrintWords Go.Proofs.YtkhbmgclklmimaaW.PrintLast Go.Proofs.YtkhbmgclklmimaaW.PrintMore
def upto (i n : Nat) : Nat := min ((i + 1) * 64) n
set_option maxHeartbeats 2000000 in
theorem rec_both (a b : List S55) (hn : a.length ≤ 140737488355328) : ∃ r : Bool, Ev (fun k => api_MapRecord_70.f k a b) r ∧ Ev (fun k => slipwayref06_SameRecords.f k a b) r ∧ (a = b → r = true) := by
  unfold api_MapRecord_70.f slipwayref06_SameRecords.f
  by_cases h : a.length = b.length
  · have from_ : ∀ (d i : Nat), i + d = a.length → ∃ r : Bool, Ev (fun k => api_MapRecord_70.l0 k a b (a.length : Int) (i : Int)) r ∧ Ev (fun k => slipwayref06_SameRecords.l0 k a b (i : Int)) r ∧ (a = b → r = true) := by
      intro d
      induction d with
      | zero =>
        intro i hi
        refine ⟨true, Ev.step (f := fun _ => some true) (fun k => ?_) (Ev.now _), Ev.step (f := fun _ => some true) (fun k => ?_) (Ev.now _), fun _ => rfl⟩
        · simp only [api_MapRecord_70.l0]
          rw [if_neg (by omega)]
        · simp only [slipwayref06_SameRecords.l0]
          rw [if_neg (by omega)]
      | succ d ih =>
        intro i hi
        have hlt : i < a.length := by omega
        have n0 : (0 : Int) ≤ (i : Int) := by omega
        have n1 : (i : Int) < (a.length : Int) := by omega
        have n2 : (i : Int) < (b.length : Int) := by omega
        by_cases c : (!(((rd_T55 a (i : Int)).f0) == ((rd_T55 b (i : Int)).f0)) || (!(((rd_T55 a (i : Int)).f1) == ((rd_T55 b (i : Int)).f1)) || (!(((rd_T55 a (i : Int)).f2) == ((rd_T55 b (i : Int)).f2))))) = true
        · refine ⟨false, Ev.step (f := fun _ => some false) (fun k => ?_) (Ev.now _), Ev.step (f := fun _ => some false) (fun k => ?_) (Ev.now _), fun e => ?_⟩
          · simp only [api_MapRecord_70.l0]
            rw [if_pos n1, if_pos n0, if_pos n1, if_pos n2, if_pos c]
          · simp only [slipwayref06_SameRecords.l0]
            rw [if_pos n1, if_pos n0, if_pos n2, if_pos c]
          · subst e
            simp at c
        · obtain ⟨r, r1, r2, r3⟩ := ih (i + 1) (by omega)
          refine ⟨r, Ev.step (fun k => ?_) r1, Ev.step (fun k => ?_) r2, r3⟩
          · simp only [api_MapRecord_70.l0]
            rw [if_pos n1, if_pos n0, if_pos n1, if_pos n2, if_neg c, suc64 i a.length hlt hn]
          · simp only [slipwayref06_SameRecords.l0]
            rw [if_pos n1, if_pos n0, if_pos n2, if_neg c, suc64 i a.length hlt hn]
    obtain ⟨r, r1, r2, r3⟩ := from_ a.length 0 (by omega)
    exact ⟨r, Ev.iff_pos (by omega) r1, Ev.iff_pos (by omega) r2, r3⟩
  · exact ⟨false, Ev.iff_neg (by omega) (Ev.now _), Ev.iff_neg (by omega) (Ev.now _), fun e => absurd (by rw [e]) h⟩
set_option maxHeartbeats 2000000 in
theorem page_both (p0 p1 p2 p3 : Int) (p4 : List Bool) (p5 : List Int) (p6 : List S55) (q0 q1 q2 q3 : Int) (q4 : List Bool) (q5 : List Int) (q6 : List S55) (h4 : p4.length ≤ 140737488355328) (h5 : p5.length ≤ 140737488355328) (h6 : p6.length ≤ 140737488355328) :
    ∃ r : Bool, Ev (fun k => mapjnl_SamePage.f k p0 p1 p2 p3 p4 p5 p6 q0 q1 q2 q3 q4 q5 q6) r ∧ Ev (fun k => slipwayref06_SamePage.f k p0 p1 p2 p3 p4 p5 p6 q0 q1 q2 q3 q4 q5 q6) r ∧ (p0 = q0 ∧ p1 = q1 ∧ p2 = q2 ∧ p3 = q3 ∧ p4 = q4 ∧ p5 = q5 ∧ p6 = q6 → r = true) := by
  unfold mapjnl_SamePage.f slipwayref06_SamePage.f
  by_cases c0 : p0 = q0
  · by_cases c1 : p1 = q1
    · by_cases c2 : p2 = q2
      · by_cases c3 : p3 = q3
        · by_cases c4 : p4 = q4
          · by_cases c5 : p5 = q5
            · obtain ⟨r, r1, r2, r3⟩ := rec_both p6 q6 h6
              exact ⟨r, Ev.iff_pos c0 (Ev.iff_pos c1 (Ev.iff_pos c2 (Ev.iff_pos c3 (Ev.bind (eqb_ev p4 q4 h4) (Ev.iff_pos (decide_eq_true c4) (Ev.bind (eqi_ev p5 q5 h5) (Ev.iff_pos (decide_eq_true c5) (Ev.bind r1 (Ev.now _))))))))),
                Ev.iff_pos c0 (Ev.iff_pos c1 (Ev.iff_pos c2 (Ev.iff_pos c3 (Ev.bind (reqb_ev p4 q4 h4) (Ev.iff_pos (decide_eq_true c4) (Ev.bind (reqi_ev p5 q5 h5) (Ev.iff_pos (decide_eq_true c5) (Ev.bind r2 (Ev.now _))))))))), fun h => r3 h.2.2.2.2.2.2⟩
            · exact ⟨false, Ev.iff_pos c0 (Ev.iff_pos c1 (Ev.iff_pos c2 (Ev.iff_pos c3 (Ev.bind (eqb_ev p4 q4 h4) (Ev.iff_pos (decide_eq_true c4) (Ev.bind (eqi_ev p5 q5 h5) (Ev.iff_neg (by simpa using c5) (Ev.now _)))))))),
                Ev.iff_pos c0 (Ev.iff_pos c1 (Ev.iff_pos c2 (Ev.iff_pos c3 (Ev.bind (reqb_ev p4 q4 h4) (Ev.iff_pos (decide_eq_true c4) (Ev.bind (reqi_ev p5 q5 h5) (Ev.iff_neg (by simpa using c5) (Ev.now _)))))))), fun h => absurd h.2.2.2.2.2.1 c5⟩
          · exact ⟨false, Ev.iff_pos c0 (Ev.iff_pos c1 (Ev.iff_pos c2 (Ev.iff_pos c3 (Ev.bind (eqb_ev p4 q4 h4) (Ev.iff_neg (by simpa using c4) (Ev.now _)))))),
              Ev.iff_pos c0 (Ev.iff_pos c1 (Ev.iff_pos c2 (Ev.iff_pos c3 (Ev.bind (reqb_ev p4 q4 h4) (Ev.iff_neg (by simpa using c4) (Ev.now _)))))), fun h => absurd h.2.2.2.2.1 c4⟩
        · exact ⟨false, Ev.iff_pos c0 (Ev.iff_pos c1 (Ev.iff_pos c2 (Ev.iff_neg c3 (Ev.now _)))), Ev.iff_pos c0 (Ev.iff_pos c1 (Ev.iff_pos c2 (Ev.iff_neg c3 (Ev.now _)))), fun h => absurd h.2.2.2.1 c3⟩
      · exact ⟨false, Ev.iff_pos c0 (Ev.iff_pos c1 (Ev.iff_neg c2 (Ev.now _))), Ev.iff_pos c0 (Ev.iff_pos c1 (Ev.iff_neg c2 (Ev.now _))), fun h => absurd h.2.2.1 c2⟩
    · exact ⟨false, Ev.iff_pos c0 (Ev.iff_neg c1 (Ev.now _)), Ev.iff_pos c0 (Ev.iff_neg c1 (Ev.now _)), fun h => absurd h.2.1 c1⟩
  · exact ⟨false, Ev.iff_neg c0 (Ev.now _), Ev.iff_neg c0 (Ev.now _), fun h => absurd h.1 c0⟩
end Go.Proofs.Ytkhbmgclklmimaa.MapEv
end
