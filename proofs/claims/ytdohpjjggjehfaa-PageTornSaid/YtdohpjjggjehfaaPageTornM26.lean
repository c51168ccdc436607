/- Texts of the proof of PageTorn, part 26. -/
import Derived.Test.YtdohpjjggjehfaaPageTornM25
import Derived.Test.YtdohpjjggjehfaaPageTornM22
import Derived.Test.YtdohpjjggjehfaaPageTornM20
section
namespace Go.Proofs.Ytdohpjjggjehfaa.SealEv
set_option linter.unusedVariables false
set_option linter.unusedSimpArgs false
open Go.RowKit Go.Proofs.Ytdohpjjggjehfaa.Print Go.Proofs.Ytdohpjjggjehfaa.SMath Go.Proofs.YtdohpjjggjehfaaW.PrintWords Go.Proofs.YtdohpjjggjehfaaW.PrintLast Go.Proofs.YtdohpjjggjehfaaW.PrintMore
set_option maxHeartbeats 2000000 in
theorem slices_equal_from (a b : List Int) (hlen : a.length = b.length) (hn : a.length ≤ 140737488355328) (d : Nat) : ∀ (i : Nat), i + d = a.length → a.take i = b.take i →
    Ev (fun k => slices_Equal_byte_byte.l0 k a b (a.length : Int) (i : Int)) (decide (a = b)) := by
  induction d with
  | zero =>
    intro i hi h
    have hab : a = b := by rw [List.take_of_length_le (by omega), List.take_of_length_le (by omega)] at h; exact h
    refine Ev.step (f := fun _ => some true) (fun k => ?_) (by simp only [hab, decide_true]; exact Ev.now _)
    simp only [slices_Equal_byte_byte.l0]
    rw [if_neg (by omega)]
  | succ d ih =>
    intro i hi h
    have h1 : i < a.length := by omega
    have h2 : i < b.length := by omega
    have hs := suc64 i a.length h1 hn
    by_cases he : a[i] = b[i]
    · refine Ev.step (f := fun k => slices_Equal_byte_byte.l0 k a b (a.length : Int) ((i + 1 : Nat) : Int)) (fun k => ?_) (ih (i + 1) (by omega) (by rw [List.take_succ_eq_append_getElem h1, List.take_succ_eq_append_getElem h2, h, he]))
      simp only [slices_Equal_byte_byte.l0]
      rw [if_pos (by omega), if_pos (by omega), if_pos (by omega), if_pos (by omega), rd_nat a i h1, rd_nat b i h2, if_pos he, hs]
    · have hab : ¬ a = b := fun e => he (by subst e; rfl)
      refine Ev.step (f := fun _ => some false) (fun k => ?_) (by simp only [hab, decide_false]; exact Ev.now _)
      simp only [slices_Equal_byte_byte.l0]
      rw [if_pos (by omega), if_pos (by omega), if_pos (by omega), if_pos (by omega), rd_nat a i h1, rd_nat b i h2, if_neg he]
theorem slices_equal (a b : List Int) (hn : a.length ≤ 140737488355328) : Ev (fun k => slices_Equal_byte_byte.f k a b) (decide (a = b)) := by
  unfold slices_Equal_byte_byte.f
  by_cases h : a.length = b.length
  · exact Ev.iff_pos (by omega) (slices_equal_from a b h hn a.length 0 (by omega) rfl)
  · have hab : ¬ a = b := fun e => h (by rw [e])
    simp only [hab, decide_false]
    exact Ev.iff_neg (by omega) (Ev.now _)
def state (l : List Int) : Int := if 0 < l.length ∧ zeros l = 0 then 10 else if l.length < 4 ∨ 1048580 < l.length then 11 else if l.drop (l.length - 4) = nb (zeros (l.take (l.length - 4))) then 0 else 11
theorem len4 {l : List Int} (h : 4 ≤ l.length) (hn : l.length ≤ 140737488355328) : wrap64 ((l.length : Int) - 4) = ((l.length - 4 : Nat) : Int) := by rw [w64 (by omega) (by omega)]; omega
set_option maxHeartbeats 2000000 in
theorem seal_state_j {l : List Int} (hl : Bytes l) (hn : l.length ≤ 140737488355328) (b : Bool) (hb : b = decide (0 < l.length ∧ zeros l = 0)) :
    Ev (fun k => seal_State.j0 k l (wrap64 ((l.length : Int) - 4)) b) (state l) := by
  unfold state
  by_cases h0 : 0 < l.length ∧ zeros l = 0
  · rw [if_pos h0]
    refine Ev.step (f := fun _ => some 10) (fun k => ?_) (Ev.now _)
    simp only [seal_State.j0]
    rw [if_pos (by rw [hb]; exact decide_eq_true h0)]
  · rw [if_neg h0]
    have hb' : ¬ b = true := by rw [hb]; simpa using h0
    have hw : wrap64 ((l.length : Int) - 4) = (l.length : Int) - 4 := w64 (by omega) (by omega)
    by_cases h1 : l.length < 4 ∨ 1048580 < l.length
    · rw [if_pos h1]
      refine Ev.step (f := fun _ => some 11) (fun k => ?_) (Ev.now _)
      simp only [seal_State.j0]
      rw [if_neg hb', hw]
      by_cases h2 : (l.length : Int) - 4 < 0
      · rw [if_pos h2]
      · rw [if_neg h2, if_pos (by omega)]
    · rw [if_neg h1, len4 (by omega) hn]
      have hs := seal_sum (bytes_take hl (l.length - 4)) (by rw [List.length_take]; omega)
      have he := slices_equal (l.drop (l.length - 4)) (nb (zeros (l.take (l.length - 4)))) (by rw [List.length_drop]; omega)
      refine Ev.step (f := fun k => (seal_sum.f k (l.take (l.length - 4))).bind fun t => (slices_Equal_byte_byte.f k (l.drop (l.length - 4)) t).bind fun q => if q = true then some 0 else some 11) (fun k => ?_) ?_
      · simp only [seal_State.j0]
        rw [if_neg hb', if_neg (by omega), if_neg (by omega), if_pos (by omega), if_pos (by omega)]
        rfl
      · refine Ev.bind hs (Ev.bind he ?_)
        by_cases h3 : l.drop (l.length - 4) = nb (zeros (l.take (l.length - 4)))
        · simp only [h3, decide_true, if_true]
          exact Ev.now _
        · simp only [h3, decide_false, if_false, Bool.false_eq_true]
          exact Ev.now _
theorem seal_state {l : List Int} (hl : Bytes l) (hn : l.length ≤ 140737488355328) : Ev (fun k => seal_State.f k l) (state l) := by
  unfold seal_State.f
  by_cases h : (l.length : Int) > 0
  · refine Ev.iff_pos h (Ev.bind (seal_zeros l hl hn) (seal_state_j hl hn _ ?_))
    have h' : 0 < l.length := by omega
    by_cases hz : zeros l = 0 <;> simp [hz, h']
  · refine Ev.iff_neg h (seal_state_j hl hn _ ?_)
    have h' : ¬ 0 < l.length := by omega
    simp [h']
theorem nb_sum {n : Int} (h0 : 0 ≤ n) (h1 : n < 4294967296) : n = 16777216 * (n / 16777216 % 256) + 65536 * (n / 65536 % 256) + 256 * (n / 256 % 256) + n % 256 := by omega
def opened (l : List Int) : List Int × Int := if state l = 0 then (l.take (l.length - 4), 0) else ([], state l)
theorem state_ok {l : List Int} (h : state l = 0) : 4 ≤ l.length ∧ l.length ≤ 1048580 ∧ l.drop (l.length - 4) = nb (zeros (l.take (l.length - 4))) := by
  unfold state at h
  split at h
  · simp at h
  · split at h
    · simp at h
    · split at h
      · refine ⟨by omega, by omega, by assumption⟩
      · simp at h
theorem clone_all (l : List Int) (hn : l.length < 140737488355328) : slices_Clone_byte_byte.f l = some l := by
  unfold slices_Clone_byte_byte.f
  simp only [Option.bind_some, List.length_nil, Nat.zero_add, List.nil_append]
  rw [if_pos hn]
end Go.Proofs.Ytdohpjjggjehfaa.SealEv
end
