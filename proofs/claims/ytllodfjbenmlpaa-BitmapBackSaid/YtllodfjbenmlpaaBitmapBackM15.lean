/- Texts of the proof of BitmapBack, part 15. -/
import Derived.Test.YtllodfjbenmlpaaBitmapBackM14
import Derived.Test.YtllodfjbenmlpaaBitmapBackM13
section
namespace Go.Proofs.Ytllodfjbenmlpaa.Bm
set_option linter.unusedVariables false
set_option linter.unusedSimpArgs false
open Go.RowKit Go.Proofs.Ytllodfjbenmlpaa.Print Go.Proofs.YtllodfjbenmlpaaW.PrintWords Go.Proofs.YtllodfjbenmlpaaW.PrintLast Go.Proofs.YtllodfjbenmlpaaW.PrintMore
def flips (l : List Int) (f : Nat) : Nat → List Int
  | 0 => l
  | m + 1 => tn (flips l f m) (f + m)
theorem flips_len (l : List Int) (f m : Nat) : (flips l f m).length = l.length := by
  induction m with
  | zero => rfl
  | succ m ih => rw [flips, tn_len, ih]
theorem flips_By {l : List Int} (h : By l) (f m : Nat) : By (flips l f m) := by
  induction m with
  | zero => exact h
  | succ m ih => exact tn_By ih _
set_option maxHeartbeats 2000000 in
theorem bt_flips {l : List Int} (h : By l) (f m j : Nat) (hf : f + m ≤ 8 * l.length) : bt (flips l f m) j = (bt l j != decide (f ≤ j ∧ j < f + m)) := by
  induction m with
  | zero =>
    rw [flips, decide_eq_false (by omega)]
    simp
  | succ m ih =>
    rw [flips, bt_tn (flips_By h f m) _ _ (by rw [flips_len]; omega), ih (by omega)]
    by_cases e : f + m = j
    · rw [decide_eq_true e, decide_eq_false (show ¬ (f ≤ j ∧ j < f + m) by omega), decide_eq_true (show f ≤ j ∧ j < f + (m + 1) by omega)]
      simp
    · rw [decide_eq_false e]
      by_cases c : f ≤ j ∧ j < f + m
      · rw [decide_eq_true c, decide_eq_true (show f ≤ j ∧ j < f + (m + 1) by omega)]
        simp
      · rw [decide_eq_false c, decide_eq_false (show ¬ (f ≤ j ∧ j < f + (m + 1)) by omega)]
        simp
def All (l : List Int) (f i m : Nat) (w : Bool) : Prop := ∀ j, i ≤ j → j < m → bt l (f + j) = w
theorem All.step {l : List Int} {f i m : Nat} {w : Bool} (h : i < m) : All l f i m w ↔ bt l (f + i) = w ∧ All l f (i + 1) m w := by
  constructor
  · intro ho
    exact ⟨ho i (Nat.le_refl _) h, fun j h1 h2 => ho j (by omega) h2⟩
  · intro ⟨h1, h2⟩ j h3 h4
    by_cases e : i = j
    · rw [← e]; exact h1
    · exact h2 j (by omega) h4
open Classical in
noncomputable def trn (l : List Int) (n f m : Int) (w : Bool) : List Int × Int :=
  if Ok l n then (if 0 ≤ f ∧ 0 ≤ m ∧ f ≤ n ∧ m ≤ n - f then (if All l f.toNat 0 m.toNat w then (flips l f.toNat m.toNat, 0) else ([], 122)) else ([], 121)) else ([], 120)
set_option maxHeartbeats 2000000 in
theorem turned_loop {l : List Int} (hb : By l) (hl : l.length = 256) (f m : Nat) (hf : f + m ≤ 2048) (w : Bool) (d : Nat) : ∀ i : Nat, i + d = m →
    (All l f i m w → Ev (fun k => bitmap_turned.l0 k l (f : Int) w (flips l f i) (m : Int) (i : Int)) (flips l f m, 0)) ∧ (¬ All l f i m w → Ev (fun k => bitmap_turned.l0 k l (f : Int) w (flips l f i) (m : Int) (i : Int)) ([], 122)) := by
  induction d with
  | zero =>
    intro i hi
    have e : i = m := by omega
    subst e
    refine ⟨fun _ => Ev.step (f := fun _ => some (flips l f i, 0)) (fun k => ?_) (Ev.now _), fun h => absurd (fun j h1 h2 => by omega) h⟩
    simp only [bitmap_turned.l0]
    rw [if_neg (by omega)]
  | succ d ih =>
    intro i hi
    obtain ⟨ih1, ih2⟩ := ih (i + 1) (by omega)
    have st := All.step (l := l) (f := f) (w := w) (show i < m by omega)
    have e0 : wrap64 ((f : Int) + (i : Int)) = ((f + i : Nat) : Int) := by rw [w64 (by omega) (by omega)]; omega
    have e1 := suc64 i 2048 (by omega) (by omega)
    have hbit := bit_f hb (f + i) (by omega) (by omega)
    have htn := turn_f (flips_By hb f i) (f + i) (by rw [flips_len]; omega) (by rw [flips_len]; omega)
    have go : ∀ r, Ev (fun k => if (bt l (f + i) != w) = true then some (([] : List Int), (122 : Int)) else bitmap_turned.l0 k l (f : Int) w (flips l f (i + 1)) (m : Int) ((i + 1 : Nat) : Int)) r → Ev (fun k => bitmap_turned.l0 k l (f : Int) w (flips l f i) (m : Int) (i : Int)) r := fun r h => by
      refine Ev.step (fun k => ?_) h
      simp only [bitmap_turned.l0]
      rw [if_pos (by omega), e0, hbit, Option.bind_some, htn, Option.bind_some, e1]
      rfl
    by_cases hc : bt l (f + i) = w
    · have hn : ¬ ((bt l (f + i) != w) = true) := by simp [hc]
      exact ⟨fun ho => go _ (Ev.iff_neg hn (ih1 (st.1 ho).2)), fun ho => go _ (Ev.iff_neg hn (ih2 (fun h => ho (st.2 ⟨hc, h⟩))))⟩
    · have hn : (bt l (f + i) != w) = true := by simp [hc]
      exact ⟨fun ho => absurd (st.1 ho).1 hc, fun ho => go _ (Ev.iff_pos hn (Ev.now _))⟩
set_option maxHeartbeats 2000000 in
theorem turned_ev {l : List Int} (hb : By l) (n f m : Int) (w : Bool) : Ev (fun k => bitmap_turned.f k l n f m w) (trn l n f m w) := by
  unfold bitmap_turned.f
  refine Ev.bind (check_ev hb n) ?_
  by_cases ho : Ok l n
  · rw [chk_ok ho]
    refine Ev.iff_pos rfl ?_
    have h0 := ho.n0
    have h1 := ho.n1
    have bad : ¬ (0 ≤ f ∧ 0 ≤ m ∧ f ≤ n ∧ m ≤ n - f) → Ev (fun k => bitmap_turned.j0 k l f m w true) (trn l n f m w) := fun h => by
      unfold trn
      rw [if_pos ho, if_neg h]
      refine Ev.step (f := fun _ => some ([], 121)) (fun k => ?_) (Ev.now _)
      simp only [bitmap_turned.j0]
      rw [if_pos trivial]
    by_cases a : f < 0
    · exact Ev.iff_pos a (bad (by omega))
    refine Ev.iff_neg a ?_
    by_cases b : m < 0
    · exact Ev.iff_pos b (bad (by omega))
    refine Ev.iff_neg b ?_
    by_cases c : f > n
    · exact Ev.iff_pos c (bad (by omega))
    refine Ev.iff_neg c ?_
    have ew : wrap64 (n - f) = n - f := w64 (by omega) (by omega)
    rw [ew]
    by_cases e : m > n - f
    · rw [decide_eq_true e]
      exact bad (by omega)
    rw [decide_eq_false e]
    obtain ⟨F, rfl⟩ := Int.eq_ofNat_of_zero_le (show 0 ≤ f by omega)
    obtain ⟨M, rfl⟩ := Int.eq_ofNat_of_zero_le (show 0 ≤ m by omega)
    unfold trn
    rw [if_pos ho, if_pos ⟨by omega, by omega, by omega, by omega⟩]
    rw [Int.toNat_natCast, Int.toNat_natCast]
    obtain ⟨c1, c2⟩ := turned_loop hb ho.len F M (by omega) w M 0 (by omega)
    have go : ∀ r, Ev (fun k => bitmap_turned.l0 k l (F : Int) w (flips l F 0) (M : Int) ((0 : Nat) : Int)) r → Ev (fun k => bitmap_turned.j0 k l (F : Int) (M : Int) w false) r := fun r h => by
      refine Ev.step (fun k => ?_) h
      simp only [bitmap_turned.j0]
      rw [if_neg (by decide), if_pos (by have := ho.len; simp; omega)]
      rfl
    by_cases ha : All l F 0 M w
    · rw [if_pos ha]; exact go _ (c1 ha)
    · rw [if_neg ha]; exact go _ (c2 ha)
  · unfold trn
    rw [chk_no ho, if_neg ho]
    exact Ev.iff_neg (by decide) (Ev.now _)
theorem set_ev {l : List Int} (hb : By l) (n f m : Int) : Ev (fun k => bitmap_Set.f k l n f m) (trn l n f m false) := by
  unfold bitmap_Set.f
  exact Ev.bind (turned_ev hb n f m false) (Ev.now _)
theorem clear_ev {l : List Int} (hb : By l) (n f m : Int) : Ev (fun k => bitmap_Clear.f k l n f m) (trn l n f m true) := by
  unfold bitmap_Clear.f
  exact Ev.bind (turned_ev hb n f m true) (Ev.now _)
def full : List Int := List.replicate 256 255
def zero : List Int := List.replicate 256 0
end Go.Proofs.Ytllodfjbenmlpaa.Bm
end
