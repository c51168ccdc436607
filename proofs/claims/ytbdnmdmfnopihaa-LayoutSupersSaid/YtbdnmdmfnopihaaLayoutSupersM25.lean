/- Texts of the proof of LayoutSupers, part 25. -/
import Derived.Test.YtbdnmdmfnopihaaLayoutSupersM24
import Derived.Test.YtbdnmdmfnopihaaLayoutSupersM17
section
namespace Go.Proofs.Ytbdnmdmfnopihaa.SealEv
set_option linter.unusedVariables false
set_option linter.unusedSimpArgs false
open Go.RowKit Go.Proofs.Ytbdnmdmfnopihaa.Print Go.Proofs.Ytbdnmdmfnopihaa.SMath Go.Proofs.YtbdnmdmfnopihaaW.PrintWords Go.Proofs.YtbdnmdmfnopihaaW.PrintLast Go.Proofs.YtbdnmdmfnopihaaW.PrintMore
set_option maxHeartbeats 2000000 in
theorem slices_equal_from (a b : List Int) (hlen : a.length = b.length) (hn : a.length ≤ 140737488355328) (d : Nat) : ∀ (i : Nat), i + d = a.length → a.take i = b.take i →
    Ev (fun k => slices_Equal_byte_byte.l0 k a b (a.length : Int) (i : Int)) (decide (a = b)) := by
  induction d with
  | zero =>
    intro i hi h
    have hab : a = b := by rw [List.take_of_length_le (by omega), List.take_of_length_le (by omega)] at h; exact h
    refine Ev.step (f := fun _ => some true) (fun k => ?_) (by simp only [hab, decide_true]; exact Ev.now _)
    simp only [slices_Equal_byte_byte.l0]
    rw [if_neg (by omega)]
  | succ d ih =>
    intro i hi h
    have h1 : i < a.length := by omega
    have h2 : i < b.length := by omega
    have hs := suc64 i a.length h1 hn
    by_cases he : a[i] = b[i]
    · refine Ev.step (f := fun k => slices_Equal_byte_byte.l0 k a b (a.length : Int) ((i + 1 : Nat) : Int)) (fun k => ?_) (ih (i + 1) (by omega) (by rw [List.take_succ_eq_append_getElem h1, List.take_succ_eq_append_getElem h2, h, he]))
      simp only [slices_Equal_byte_byte.l0]
      rw [if_pos (by omega), if_pos (by omega), if_pos (by omega), if_pos (by omega), rd_nat a i h1, rd_nat b i h2, if_pos he, hs]
    · have hab : ¬ a = b := fun e => he (by subst e; rfl)
      refine Ev.step (f := fun _ => some false) (fun k => ?_) (by simp only [hab, decide_false]; exact Ev.now _)
      simp only [slices_Equal_byte_byte.l0]
      rw [if_pos (by omega), if_pos (by omega), if_pos (by omega), if_pos (by omega), rd_nat a i h1, rd_nat b i h2, if_neg he]
theorem slices_equal (a b : List Int) (hn : a.length ≤ 140737488355328) : Ev (fun k => slices_Equal_byte_byte.f k a b) (decide (a = b)) := by
  unfold slices_Equal_byte_byte.f
  by_cases h : a.length = b.length
  · exact Ev.iff_pos (by omega) (slices_equal_from a b h hn a.length 0 (by omega) rfl)
  · have hab : ¬ a = b := fun e => h (by rw [e])
    simp only [hab, decide_false]
    exact Ev.iff_neg (by omega) (Ev.now _)
theorem or_i64 (i : Nat) (x y : Int) (hi : i ≤ 40) (hx0 : 0 ≤ x) (hx : x % 2 ^ i = 0) (hx1 : x < 2 ^ 40) (hy0 : 0 ≤ y) (hy : y < 2 ^ i) : Go.bits .or .i64 x y = x + y := by
  have hy1 : y < 2 ^ 40 := Int.lt_of_lt_of_le hy (by exact_mod_cast Nat.pow_le_pow_right (by decide) hi)
  exact bits_join .i64 40 (by decide) (fun n h0 h1 => by rw [IntKind.wrap_i64]; omega) i x y hx0 hx hx1 hy0 hy hy1
end Go.Proofs.Ytbdnmdmfnopihaa.SealEv
end
