/- Texts of the proof of MapBytes, part 25. -/
import Derived.Test.YtkhbmgclklmimaaMapBytesM23
import Derived.Test.YtkhbmgclklmimaaMapBytesM15
import Derived.Test.YtkhbmgclklmimaaMapBytesM16
import Derived.Test.YtkhbmgclklmimaaMapBytesM24
section
namespace Go.Proofs.Ytkhbmgclklmimaa.MapEv
set_option linter.unusedVariables false
set_option linter.unusedSimpArgs false
open Go.RowKit Go.Proofs.Ytkhbmgclklmimaa.Print Go.Proofs.YtkhbmgclklmimaaW.PrintWords Go.Proofs.YtkhbmgclklmimaaW.PrintLast Go.Proofs.YtkhbmgclklmimaaW.PrintMore
def jb (a b : List Bool) : List Bool := List.zipWith (· || ·) a b
def jw (a b : List Int) : List Int := List.zipWith mx a b
theorem mix_len {α : Type} (J A : List α) (i : Nat) (h : J.length = A.length) (hi : i ≤ A.length) : (J.take i ++ A.drop i).length = A.length := by
  rw [List.length_append, List.length_take, List.length_drop]; omega
def jn (b1 : List Bool) (w1 : List Int) (s1 : Int) (b2 : List Bool) (w2 : List Int) (s2 : Int) : List Bool × List Int × Int × Int :=
  if okS b1 w1 s1 ∧ okS b2 w2 s2 then (if b1.length = b2.length then (jb b1 b2, jw w1 w2, mx s1 s2, 0) else ([], [], 0, 1)) else ([], [], 0, 60)
set_option maxHeartbeats 2000000 in
theorem eqb_from (a b : List Bool) (hlen : a.length = b.length) (hn : a.length ≤ 140737488355328) (d : Nat) : ∀ i : Nat, i + d = a.length → Ev (fun k => slices_Equal_bool_bool.l0 k a b (a.length : Int) (i : Int)) (decide (a.drop i = b.drop i)) := by
  induction d with
  | zero =>
    intro i hi
    rw [List.drop_of_length_le (by omega), List.drop_of_length_le (by omega)]
    refine Ev.step (f := fun _ => some true) (fun k => ?_) (by simpa using Ev.now true)
    simp only [slices_Equal_bool_bool.l0]
    rw [if_neg (by omega)]
  | succ d ih =>
    intro i hi0
    have hi : i < a.length := by omega
    have hb : i < b.length := by omega
    have ha' : a.drop i = a[i] :: a.drop (i + 1) := List.drop_eq_getElem_cons hi
    have hb' : b.drop i = b[i] :: b.drop (i + 1) := List.drop_eq_getElem_cons hb
    rw [ha', hb']
    by_cases he : a[i] = b[i]
    · rw [dec_cons he]
      refine Ev.step (fun k => ?_) (ih (i + 1) (by omega))
      simp only [slices_Equal_bool_bool.l0]
      rw [if_pos (by omega), if_pos (by omega), if_pos (by omega), if_pos (by omega), rd_bool a i hi, rd_bool b i hb, if_neg (by simp [he]), suc64 i a.length hi hn]
    · rw [dec_ne he]
      refine Ev.step (f := fun _ => some false) (fun k => ?_) (Ev.now _)
      simp only [slices_Equal_bool_bool.l0]
      rw [if_pos (by omega), if_pos (by omega), if_pos (by omega), if_pos (by omega), rd_bool a i hi, rd_bool b i hb, if_pos (by simpa using he)]
theorem eqb_ev (a b : List Bool) (hn : a.length ≤ 140737488355328) : Ev (fun k => slices_Equal_bool_bool.f k a b) (decide (a = b)) := by
  unfold slices_Equal_bool_bool.f
  by_cases h : a.length = b.length
  · have := eqb_from a b h hn a.length 0 (by omega)
    rw [List.drop_zero, List.drop_zero] at this
    exact Ev.iff_pos (by omega) this
  · have e : decide (a = b) = false := by simp; intro he; exact h (by rw [he])
    rw [e]
    exact Ev.iff_neg (by omega) (Ev.now _)
set_option maxHeartbeats 2000000 in
theorem eqi_from (a b : List Int) (hlen : a.length = b.length) (hn : a.length ≤ 140737488355328) (d : Nat) : ∀ i : Nat, i + d = a.length → Ev (fun k => slices_Equal_int64_int64.l0 k a b (a.length : Int) (i : Int)) (decide (a.drop i = b.drop i)) := by
  induction d with
  | zero =>
    intro i hi
    rw [List.drop_of_length_le (by omega), List.drop_of_length_le (by omega)]
    refine Ev.step (f := fun _ => some true) (fun k => ?_) (by simpa using Ev.now true)
    simp only [slices_Equal_int64_int64.l0]
    rw [if_neg (by omega)]
  | succ d ih =>
    intro i hi0
    have hi : i < a.length := by omega
    have hb : i < b.length := by omega
    have ha' : a.drop i = a[i] :: a.drop (i + 1) := List.drop_eq_getElem_cons hi
    have hb' : b.drop i = b[i] :: b.drop (i + 1) := List.drop_eq_getElem_cons hb
    rw [ha', hb']
    by_cases he : a[i] = b[i]
    · rw [dec_cons he]
      refine Ev.step (fun k => ?_) (ih (i + 1) (by omega))
      simp only [slices_Equal_int64_int64.l0]
      rw [if_pos (by omega), if_pos (by omega), if_pos (by omega), if_pos (by omega), rd_nat a i hi, rd_nat b i hb, if_pos he, suc64 i a.length hi hn]
    · rw [dec_ne he]
      refine Ev.step (f := fun _ => some false) (fun k => ?_) (Ev.now _)
      simp only [slices_Equal_int64_int64.l0]
      rw [if_pos (by omega), if_pos (by omega), if_pos (by omega), if_pos (by omega), rd_nat a i hi, rd_nat b i hb, if_neg he]
theorem eqi_ev (a b : List Int) (hn : a.length ≤ 140737488355328) : Ev (fun k => slices_Equal_int64_int64.f k a b) (decide (a = b)) := by
  unfold slices_Equal_int64_int64.f
  by_cases h : a.length = b.length
  · have := eqi_from a b h hn a.length 0 (by omega)
    rw [List.drop_zero, List.drop_zero] at this
    exact Ev.iff_pos (by omega) this
  · have e : decide (a = b) = false := by simp; intro he; exact h (by rw [he])
    rw [e]
    exact Ev.iff_neg (by omega) (Ev.now _)
set_option maxHeartbeats 2000000 in
theorem reqb_from (a b : List Bool) (hlen : a.length = b.length) (hn : a.length ≤ 140737488355328) (d : Nat) : ∀ i : Nat, i + d = a.length → Ev (fun k => slipwayref06_bools.l0 k a b (i : Int)) (decide (a.drop i = b.drop i)) := by
  induction d with
  | zero =>
    intro i hi
    rw [List.drop_of_length_le (by omega), List.drop_of_length_le (by omega)]
    refine Ev.step (f := fun _ => some true) (fun k => ?_) (by simpa using Ev.now true)
    simp only [slipwayref06_bools.l0]
    rw [if_neg (by omega)]
  | succ d ih =>
    intro i hi0
    have hi : i < a.length := by omega
    have hb : i < b.length := by omega
    have ha' : a.drop i = a[i] :: a.drop (i + 1) := List.drop_eq_getElem_cons hi
    have hb' : b.drop i = b[i] :: b.drop (i + 1) := List.drop_eq_getElem_cons hb
    rw [ha', hb']
    by_cases he : a[i] = b[i]
    · rw [dec_cons he]
      refine Ev.step (fun k => ?_) (ih (i + 1) (by omega))
      simp only [slipwayref06_bools.l0]
      rw [if_pos (by omega), if_pos (by omega), if_pos (by omega), rd_bool a i hi, rd_bool b i hb, if_neg (by simp [he]), suc64 i a.length hi hn]
    · rw [dec_ne he]
      refine Ev.step (f := fun _ => some false) (fun k => ?_) (Ev.now _)
      simp only [slipwayref06_bools.l0]
      rw [if_pos (by omega), if_pos (by omega), if_pos (by omega), rd_bool a i hi, rd_bool b i hb, if_pos (by simpa using he)]
theorem reqb_ev (a b : List Bool) (hn : a.length ≤ 140737488355328) : Ev (fun k => slipwayref06_bools.f k a b) (decide (a = b)) := by
  unfold slipwayref06_bools.f
  by_cases h : a.length = b.length
  · have := reqb_from a b h hn a.length 0 (by omega)
    rw [List.drop_zero, List.drop_zero] at this
    exact Ev.iff_pos (by omega) this
  · have e : decide (a = b) = false := by simp; intro he; exact h (by rw [he])
    rw [e]
    exact Ev.iff_neg (by omega) (Ev.now _)
set_option maxHeartbeats 2000000 in
theorem reqi_from (a b : List Int) (hlen : a.length = b.length) (hn : a.length ≤ 140737488355328) (d : Nat) : ∀ i : Nat, i + d = a.length → Ev (fun k => slipwayref06_nums.l0 k a b (i : Int)) (decide (a.drop i = b.drop i)) := by
  induction d with
  | zero =>
    intro i hi
    rw [List.drop_of_length_le (by omega), List.drop_of_length_le (by omega)]
    refine Ev.step (f := fun _ => some true) (fun k => ?_) (by simpa using Ev.now true)
    simp only [slipwayref06_nums.l0]
    rw [if_neg (by omega)]
  | succ d ih =>
    intro i hi0
    have hi : i < a.length := by omega
    have hb : i < b.length := by omega
    have ha' : a.drop i = a[i] :: a.drop (i + 1) := List.drop_eq_getElem_cons hi
    have hb' : b.drop i = b[i] :: b.drop (i + 1) := List.drop_eq_getElem_cons hb
    rw [ha', hb']
    by_cases he : a[i] = b[i]
    · rw [dec_cons he]
      refine Ev.step (fun k => ?_) (ih (i + 1) (by omega))
      simp only [slipwayref06_nums.l0]
      rw [if_pos (by omega), if_pos (by omega), if_pos (by omega), rd_nat a i hi, rd_nat b i hb, if_pos he, suc64 i a.length hi hn]
    · rw [dec_ne he]
      refine Ev.step (f := fun _ => some false) (fun k => ?_) (Ev.now _)
      simp only [slipwayref06_nums.l0]
      rw [if_pos (by omega), if_pos (by omega), if_pos (by omega), rd_nat a i hi, rd_nat b i hb, if_neg he]
theorem reqi_ev (a b : List Int) (hn : a.length ≤ 140737488355328) : Ev (fun k => slipwayref06_nums.f k a b) (decide (a = b)) := by
  unfold slipwayref06_nums.f
  by_cases h : a.length = b.length
  · have := reqi_from a b h hn a.length 0 (by omega)
    rw [List.drop_zero, List.drop_zero] at this
    exact Ev.iff_pos (by omega) this
  · have e : decide (a = b) = false := by simp; intro he; exact h (by rw [he])
    rw [e]
    exact Ev.iff_neg (by omega) (Ev.now _)
def cv (b1 : List Bool) (w1 : List Int) (s1 : Int) (b2 : List Bool) (w2 : List Int) (s2 : Int) : Prop :=
  (jn b1 w1 s1 b2 w2 s2).2.2.2 = 0 ∧ (jn b1 w1 s1 b2 w2 s2).1 = b1 ∧ (jn b1 w1 s1 b2 w2 s2).2.1 = w1 ∧ (jn b1 w1 s1 b2 w2 s2).2.2.1 = s1
instance (b1 : List Bool) (w1 : List Int) (s1 : Int) (b2 : List Bool) (w2 : List Int) (s2 : Int) : Decidable (cv b1 w1 s1 b2 w2 s2) := by unfold cv; infer_instance
end Go.Proofs.Ytkhbmgclklmimaa.MapEv
end
