/- Texts of the proof of BitmapMakes, part 15. -/
import Derived.Test.YtllodfjbenmlpaaBitmapMakesM14
import Derived.Test.YtllodfjbenmlpaaBitmapMakesM13
section
namespace Go.Proofs.Ytllodfjbenmlpaa.Bm
set_option linter.unusedVariables false
set_option linter.unusedSimpArgs false
open Go.RowKit Go.Proofs.Ytllodfjbenmlpaa.Print Go.Proofs.YtllodfjbenmlpaaW.PrintWords Go.Proofs.YtllodfjbenmlpaaW.PrintLast Go.Proofs.YtllodfjbenmlpaaW.PrintMore
def flips (l : List Int) (f : Nat) : Nat → List Int
  | 0 => l
  | m + 1 => tn (flips l f m) (f + m)
theorem flips_len (l : List Int) (f m : Nat) : (flips l f m).length = l.length := by
  induction m with
  | zero => rfl
  | succ m ih => rw [flips, tn_len, ih]
theorem flips_By {l : List Int} (h : By l) (f m : Nat) : By (flips l f m) := by
  induction m with
  | zero => exact h
  | succ m ih => exact tn_By ih _
set_option maxHeartbeats 2000000 in
theorem bt_flips {l : List Int} (h : By l) (f m j : Nat) (hf : f + m ≤ 8 * l.length) : bt (flips l f m) j = (bt l j != decide (f ≤ j ∧ j < f + m)) := by
  induction m with
  | zero =>
    rw [flips, decide_eq_false (by omega)]
    simp
  | succ m ih =>
    rw [flips, bt_tn (flips_By h f m) _ _ (by rw [flips_len]; omega), ih (by omega)]
    by_cases e : f + m = j
    · rw [decide_eq_true e, decide_eq_false (show ¬ (f ≤ j ∧ j < f + m) by omega), decide_eq_true (show f ≤ j ∧ j < f + (m + 1) by omega)]
      simp
    · rw [decide_eq_false e]
      by_cases c : f ≤ j ∧ j < f + m
      · rw [decide_eq_true c, decide_eq_true (show f ≤ j ∧ j < f + (m + 1) by omega)]
        simp
      · rw [decide_eq_false c, decide_eq_false (show ¬ (f ≤ j ∧ j < f + (m + 1)) by omega)]
        simp
def All (l : List Int) (f i m : Nat) (w : Bool) : Prop := ∀ j, i ≤ j → j < m → bt l (f + j) = w
theorem All.step {l : List Int} {f i m : Nat} {w : Bool} (h : i < m) : All l f i m w ↔ bt l (f + i) = w ∧ All l f (i + 1) m w := by
  constructor
  · intro ho
    exact ⟨ho i (Nat.le_refl _) h, fun j h1 h2 => ho j (by omega) h2⟩
  · intro ⟨h1, h2⟩ j h3 h4
    by_cases e : i = j
    · rw [← e]; exact h1
    · exact h2 j (by omega) h4
theorem ror_f {l : List Int} (h : By l) (i : Nat) : l.set ((i / 8 : Nat) : Int).toNat (Go.bits .or .u8 (rd l ((i / 8 : Nat) : Int)) (shl .u8 1 ((i % 8 : Nat) : Int))) = on l i := by
  rw [rd_at h, b_or ⟨_, at8_lt h _⟩ ⟨i % 8, by omega⟩, Int.toNat_natCast]
  rfl
def full : List Int := List.replicate 256 255
def zero : List Int := List.replicate 256 0
theorem full_len : full.length = 256 := List.length_replicate
theorem zero_len : zero.length = 256 := List.length_replicate
theorem rep_By (x : Int) (h : Byte x) : By (List.replicate 256 x) := fun y hy => by rw [List.eq_of_mem_replicate hy]; exact h
theorem bt_rep (x : Nat) (j : Nat) (hj : j < 2048) : bt (List.replicate 256 (x : Int)) j = x.testBit (j % 8) := by
  unfold bt at8
  rw [List.getD_eq_getElem?_getD, List.getElem?_replicate, if_pos (by omega)]
  simp
theorem full_By : By full := rep_By 255 (by unfold Byte; omega)
theorem zero_By : By zero := rep_By 0 (by unfold Byte; omega)
theorem bt_full (j : Nat) (hj : j < 2048) : bt full j = true := by
  have e : ∀ s : Fin 8, (255 : Nat).testBit s.val = true := by decide
  rw [show full = List.replicate 256 ((255 : Nat) : Int) from rfl, bt_rep 255 j hj]
  exact e ⟨j % 8, by omega⟩
theorem bt_zero (j : Nat) (hj : j < 2048) : bt zero j = false := by
  rw [show zero = List.replicate 256 ((0 : Nat) : Int) from rfl, bt_rep 0 j hj]
  simp
def nw (n : Nat) : List Int := flips full 0 n
theorem nw_By (n : Nat) : By (nw n) := flips_By full_By 0 n
theorem nw_len (n : Nat) : (nw n).length = 256 := by rw [nw, flips_len, full_len]
theorem bt_nw (n j : Nat) (hn : n ≤ 2048) (hj : j < 2048) : bt (nw n) j = decide (n ≤ j) := by
  rw [nw, bt_flips full_By 0 n j (by rw [full_len]; omega), bt_full j hj]
  by_cases c : n ≤ j
  · rw [decide_eq_true c, decide_eq_false (by omega)]; rfl
  · rw [decide_eq_false c, decide_eq_true (by omega)]; rfl
def ons (l : List Int) (f : Nat) : Nat → List Int
  | 0 => l
  | m + 1 => on (ons l f m) (f + m)
theorem ons_len (l : List Int) (f m : Nat) : (ons l f m).length = l.length := by
  induction m with
  | zero => rfl
  | succ m ih => rw [ons, on_len, ih]
theorem ons_By {l : List Int} (h : By l) (f m : Nat) : By (ons l f m) := by
  induction m with
  | zero => exact h
  | succ m ih => exact on_By ih _
set_option maxHeartbeats 2000000 in
theorem bt_ons {l : List Int} (h : By l) (f m j : Nat) (hf : f + m ≤ 8 * l.length) : bt (ons l f m) j = (bt l j || decide (f ≤ j ∧ j < f + m)) := by
  induction m with
  | zero =>
    rw [ons, decide_eq_false (by omega)]
    simp
  | succ m ih =>
    rw [ons, bt_on (ons_By h f m) _ _ (by rw [ons_len]; omega), ih (by omega)]
    by_cases e : f + m = j
    · rw [decide_eq_true e, decide_eq_true (show f ≤ j ∧ j < f + (m + 1) by omega)]
      simp
    · rw [decide_eq_false e]
      by_cases c : f ≤ j ∧ j < f + m
      · rw [decide_eq_true c, decide_eq_true (show f ≤ j ∧ j < f + (m + 1) by omega)]
        simp
      · rw [decide_eq_false c, decide_eq_false (show ¬ (f ≤ j ∧ j < f + (m + 1)) by omega)]
        simp
theorem nw_ons (n : Nat) (hn : n ≤ 2048) : ons zero n (2048 - n) = nw n := by
  refine ext_bits (ons_By zero_By _ _) (nw_By n) (by rw [ons_len, nw_len, zero_len]) (fun j hj => ?_)
  rw [ons_len, zero_len] at hj
  rw [bt_nw n j hn (by omega), bt_ons zero_By _ _ _ (by rw [zero_len]; omega), bt_zero j (by omega)]
  by_cases c : n ≤ j
  · rw [decide_eq_true c, decide_eq_true (by omega)]; rfl
  · rw [decide_eq_false c, decide_eq_false (by omega)]; rfl
def new_ (n : Int) : List Int × Int := if 0 ≤ n ∧ n ≤ 2048 then (nw n.toNat, 0) else ([], 1)
theorem repeat_f : slices_Repeat_byte_byte.f ([255] : List Int) 256 = some full := by
  show (if (0 : Int) < 256 ∧ (256 : Int) ≤ 256 then some (List.replicate (256 : Int).toNat (255 : Int)) else none) = some full
  rw [if_pos (by omega)]
  rfl
set_option maxHeartbeats 2000000 in
theorem new_loop (n : Nat) (hn : n ≤ 2048) (d : Nat) : ∀ i : Nat, i + d = n → Ev (fun k => bitmap_New.l0 k (flips full 0 i) (n : Int) (i : Int)) (nw n, 0) := by
  induction d with
  | zero =>
    intro i hi
    have e : i = n := by omega
    subst e
    refine Ev.step (f := fun _ => some (nw i, 0)) (fun k => ?_) (Ev.now _)
    simp only [bitmap_New.l0]
    rw [if_neg (by omega)]
    rfl
  | succ d ih =>
    intro i hi
    have e1 := suc64 i 2048 (by omega) (by omega)
    have htn := turn_f (flips_By full_By 0 i) i (by rw [flips_len, full_len]; omega) (by rw [flips_len, full_len]; omega)
    refine Ev.step (fun k => ?_) (ih (i + 1) (by omega))
    simp only [bitmap_New.l0]
    rw [if_pos (by omega), htn, Option.bind_some, e1, flips, Nat.zero_add]
set_option maxHeartbeats 2000000 in
theorem new_ev (n : Int) : Ev (fun k => bitmap_New.f k n) (new_ n) := by
  have bad : ¬ (0 ≤ n ∧ n ≤ 2048) → Ev (fun k => bitmap_New.j0 k n true) (new_ n) := fun h => by
    unfold new_
    rw [if_neg h]
    refine Ev.step (f := fun _ => some ([], 1)) (fun k => ?_) (Ev.now _)
    simp only [bitmap_New.j0]
    rw [if_pos trivial]
  unfold bitmap_New.f
  by_cases h0 : n < 0
  · exact Ev.iff_pos h0 (bad (by omega))
  refine Ev.iff_neg h0 ?_
  by_cases h1 : n > 2048
  · rw [decide_eq_true h1]
    exact bad (by omega)
  rw [decide_eq_false h1]
  unfold new_
  rw [if_pos (by omega)]
  obtain ⟨m, rfl⟩ := Int.eq_ofNat_of_zero_le (show 0 ≤ n by omega)
  rw [Int.toNat_natCast]
  refine Ev.step (fun k => ?_) (new_loop m (by omega) m 0 (by omega))
  simp only [bitmap_New.j0]
  rw [if_neg (by decide), repeat_f, Option.bind_some]
  rfl
set_option maxHeartbeats 2000000 in
theorem rnew_loop (n : Nat) (hn : n ≤ 2048) (d : Nat) : ∀ i : Nat, n + i + d = 2048 → Ev (fun k => slipwayref12_New.l0 k (ons zero n i) ((n + i : Nat) : Int)) (nw n, 0) := by
  induction d with
  | zero =>
    intro i hi
    have e : i = 2048 - n := by omega
    refine Ev.step (f := fun _ => some (nw n, 0)) (fun k => ?_) (Ev.now _)
    simp only [slipwayref12_New.l0]
    rw [if_neg (by omega), e, nw_ons n hn]
  | succ d ih =>
    intro i hi
    have e1 := suc64 (n + i) 4096 (by omega) (by omega)
    obtain ⟨i1, i2⟩ := i8 (n + i) (by omega)
    have hfl : (ons zero n i).length = 256 := by rw [ons_len, zero_len]
    refine Ev.step (fun k => ?_) (ih (i + 1) (by omega))
    simp only [slipwayref12_New.l0]
    rw [if_pos (by omega), i1, i2, u64_small _ (by omega), if_pos (show (0 : Int) ≤ ((n + i) / 8 : Nat) by omega), if_pos (by omega), if_pos (show (0 : Int) ≤ ((n + i) % 8 : Nat) by omega), ror_f (ons_By zero_By n i), e1]
    rfl
set_option maxHeartbeats 2000000 in
theorem rnew_ev (n : Int) : Ev (fun k => slipwayref12_New.f k n) (new_ n) := by
  have bad : ¬ (0 ≤ n ∧ n ≤ 2048) → Ev (fun k => slipwayref12_New.j0 k n true) (new_ n) := fun h => by
    unfold new_
    rw [if_neg h]
    refine Ev.step (f := fun _ => some ([], 1)) (fun k => ?_) (Ev.now _)
    simp only [slipwayref12_New.j0]
    rw [if_pos trivial]
  unfold slipwayref12_New.f
  by_cases h0 : n < 0
  · exact Ev.iff_pos h0 (bad (by omega))
  refine Ev.iff_neg h0 ?_
  by_cases h1 : n > 2048
  · rw [decide_eq_true h1]
    exact bad (by omega)
  rw [decide_eq_false h1]
  unfold new_
  rw [if_pos (by omega)]
  obtain ⟨m, rfl⟩ := Int.eq_ofNat_of_zero_le (show 0 ≤ n by omega)
  rw [Int.toNat_natCast]
  refine Ev.step (fun k => ?_) (rnew_loop m (by omega) (2048 - m) 0 (by omega))
  simp only [slipwayref12_New.j0]
  rw [if_neg (by decide), if_pos (by decide)]
  rfl
end Go.Proofs.Ytllodfjbenmlpaa.Bm
end
