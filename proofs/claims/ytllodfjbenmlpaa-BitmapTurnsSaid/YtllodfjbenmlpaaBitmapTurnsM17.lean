/- Texts of the proof of BitmapTurns, part 17. -/
import Derived.Test.YtllodfjbenmlpaaBitmapTurnsM16
import Derived.Test.YtllodfjbenmlpaaBitmapTurnsM14
import Derived.Test.YtllodfjbenmlpaaBitmapTurnsM15
section
namespace Go.Proofs.Ytllodfjbenmlpaa.Bm
set_option linter.unusedVariables false
set_option linter.unusedSimpArgs false
open Go.RowKit Go.Proofs.Ytllodfjbenmlpaa.Print Go.Proofs.YtllodfjbenmlpaaW.PrintWords Go.Proofs.YtllodfjbenmlpaaW.PrintLast Go.Proofs.YtllodfjbenmlpaaW.PrintMore
def flips (l : List Int) (f : Nat) : Nat → List Int
  | 0 => l
  | m + 1 => tn (flips l f m) (f + m)
theorem flips_len (l : List Int) (f m : Nat) : (flips l f m).length = l.length := by
  induction m with
  | zero => rfl
  | succ m ih => rw [flips, tn_len, ih]
theorem flips_By {l : List Int} (h : By l) (f m : Nat) : By (flips l f m) := by
  induction m with
  | zero => exact h
  | succ m ih => exact tn_By ih _
set_option maxHeartbeats 2000000 in
theorem bt_flips {l : List Int} (h : By l) (f m j : Nat) (hf : f + m ≤ 8 * l.length) : bt (flips l f m) j = (bt l j != decide (f ≤ j ∧ j < f + m)) := by
  induction m with
  | zero =>
    rw [flips, decide_eq_false (by omega)]
    simp
  | succ m ih =>
    rw [flips, bt_tn (flips_By h f m) _ _ (by rw [flips_len]; omega), ih (by omega)]
    by_cases e : f + m = j
    · rw [decide_eq_true e, decide_eq_false (show ¬ (f ≤ j ∧ j < f + m) by omega), decide_eq_true (show f ≤ j ∧ j < f + (m + 1) by omega)]
      simp
    · rw [decide_eq_false e]
      by_cases c : f ≤ j ∧ j < f + m
      · rw [decide_eq_true c, decide_eq_true (show f ≤ j ∧ j < f + (m + 1) by omega)]
        simp
      · rw [decide_eq_false c, decide_eq_false (show ¬ (f ≤ j ∧ j < f + (m + 1)) by omega)]
        simp
def All (l : List Int) (f i m : Nat) (w : Bool) : Prop := ∀ j, i ≤ j → j < m → bt l (f + j) = w
theorem All.step {l : List Int} {f i m : Nat} {w : Bool} (h : i < m) : All l f i m w ↔ bt l (f + i) = w ∧ All l f (i + 1) m w := by
  constructor
  · intro ho
    exact ⟨ho i (Nat.le_refl _) h, fun j h1 h2 => ho j (by omega) h2⟩
  · intro ⟨h1, h2⟩ j h3 h4
    by_cases e : i = j
    · rw [← e]; exact h1
    · exact h2 j (by omega) h4
open Classical in
noncomputable def trn (l : List Int) (n f m : Int) (w : Bool) : List Int × Int :=
  if Ok l n then (if 0 ≤ f ∧ 0 ≤ m ∧ f ≤ n ∧ m ≤ n - f then (if All l f.toNat 0 m.toNat w then (flips l f.toNat m.toNat, 0) else ([], 122)) else ([], 121)) else ([], 120)
set_option maxHeartbeats 2000000 in
theorem turned_loop {l : List Int} (hb : By l) (hl : l.length = 256) (f m : Nat) (hf : f + m ≤ 2048) (w : Bool) (d : Nat) : ∀ i : Nat, i + d = m →
    (All l f i m w → Ev (fun k => bitmap_turned.l0 k l (f : Int) w (flips l f i) (m : Int) (i : Int)) (flips l f m, 0)) ∧ (¬ All l f i m w → Ev (fun k => bitmap_turned.l0 k l (f : Int) w (flips l f i) (m : Int) (i : Int)) ([], 122)) := by
  induction d with
  | zero =>
    intro i hi
    have e : i = m := by omega
    subst e
    refine ⟨fun _ => Ev.step (f := fun _ => some (flips l f i, 0)) (fun k => ?_) (Ev.now _), fun h => absurd (fun j h1 h2 => by omega) h⟩
    simp only [bitmap_turned.l0]
    rw [if_neg (by omega)]
  | succ d ih =>
    intro i hi
    obtain ⟨ih1, ih2⟩ := ih (i + 1) (by omega)
    have st := All.step (l := l) (f := f) (w := w) (show i < m by omega)
    have e0 : wrap64 ((f : Int) + (i : Int)) = ((f + i : Nat) : Int) := by rw [w64 (by omega) (by omega)]; omega
    have e1 := suc64 i 2048 (by omega) (by omega)
    have hbit := bit_f hb (f + i) (by omega) (by omega)
    have htn := turn_f (flips_By hb f i) (f + i) (by rw [flips_len]; omega) (by rw [flips_len]; omega)
    have go : ∀ r, Ev (fun k => if (bt l (f + i) != w) = true then some (([] : List Int), (122 : Int)) else bitmap_turned.l0 k l (f : Int) w (flips l f (i + 1)) (m : Int) ((i + 1 : Nat) : Int)) r → Ev (fun k => bitmap_turned.l0 k l (f : Int) w (flips l f i) (m : Int) (i : Int)) r := fun r h => by
      refine Ev.step (fun k => ?_) h
      simp only [bitmap_turned.l0]
      rw [if_pos (by omega), e0, hbit, Option.bind_some, htn, Option.bind_some, e1]
      rfl
    by_cases hc : bt l (f + i) = w
    · have hn : ¬ ((bt l (f + i) != w) = true) := by simp [hc]
      exact ⟨fun ho => go _ (Ev.iff_neg hn (ih1 (st.1 ho).2)), fun ho => go _ (Ev.iff_neg hn (ih2 (fun h => ho (st.2 ⟨hc, h⟩))))⟩
    · have hn : (bt l (f + i) != w) = true := by simp [hc]
      exact ⟨fun ho => absurd (st.1 ho).1 hc, fun ho => go _ (Ev.iff_pos hn (Ev.now _))⟩
set_option maxHeartbeats 2000000 in
theorem turned_ev {l : List Int} (hb : By l) (n f m : Int) (w : Bool) : Ev (fun k => bitmap_turned.f k l n f m w) (trn l n f m w) := by
  unfold bitmap_turned.f
  refine Ev.bind (check_ev hb n) ?_
  by_cases ho : Ok l n
  · rw [chk_ok ho]
    refine Ev.iff_pos rfl ?_
    have h0 := ho.n0
    have h1 := ho.n1
    have bad : ¬ (0 ≤ f ∧ 0 ≤ m ∧ f ≤ n ∧ m ≤ n - f) → Ev (fun k => bitmap_turned.j0 k l f m w true) (trn l n f m w) := fun h => by
      unfold trn
      rw [if_pos ho, if_neg h]
      refine Ev.step (f := fun _ => some ([], 121)) (fun k => ?_) (Ev.now _)
      simp only [bitmap_turned.j0]
      rw [if_pos trivial]
    by_cases a : f < 0
    · exact Ev.iff_pos a (bad (by omega))
    refine Ev.iff_neg a ?_
    by_cases b : m < 0
    · exact Ev.iff_pos b (bad (by omega))
    refine Ev.iff_neg b ?_
    by_cases c : f > n
    · exact Ev.iff_pos c (bad (by omega))
    refine Ev.iff_neg c ?_
    have ew : wrap64 (n - f) = n - f := w64 (by omega) (by omega)
    rw [ew]
    by_cases e : m > n - f
    · rw [decide_eq_true e]
      exact bad (by omega)
    rw [decide_eq_false e]
    obtain ⟨F, rfl⟩ := Int.eq_ofNat_of_zero_le (show 0 ≤ f by omega)
    obtain ⟨M, rfl⟩ := Int.eq_ofNat_of_zero_le (show 0 ≤ m by omega)
    unfold trn
    rw [if_pos ho, if_pos ⟨by omega, by omega, by omega, by omega⟩]
    rw [Int.toNat_natCast, Int.toNat_natCast]
    obtain ⟨c1, c2⟩ := turned_loop hb ho.len F M (by omega) w M 0 (by omega)
    have go : ∀ r, Ev (fun k => bitmap_turned.l0 k l (F : Int) w (flips l F 0) (M : Int) ((0 : Nat) : Int)) r → Ev (fun k => bitmap_turned.j0 k l (F : Int) (M : Int) w false) r := fun r h => by
      refine Ev.step (fun k => ?_) h
      simp only [bitmap_turned.j0]
      rw [if_neg (by decide), if_pos (by have := ho.len; simp; omega)]
      rfl
    by_cases ha : All l F 0 M w
    · rw [if_pos ha]; exact go _ (c1 ha)
    · rw [if_neg ha]; exact go _ (c2 ha)
  · unfold trn
    rw [chk_no ho, if_neg ho]
    exact Ev.iff_neg (by decide) (Ev.now _)
theorem rxor_f {l : List Int} (h : By l) (i : Nat) : l.set ((i / 8 : Nat) : Int).toNat (Go.bits .xor .u8 (rd l ((i / 8 : Nat) : Int)) (shl .u8 1 ((i % 8 : Nat) : Int))) = tn l i := by
  rw [rd_at h, b_xor ⟨_, at8_lt h _⟩ ⟨i % 8, by omega⟩, Int.toNat_natCast]
  rfl
theorem ror_f {l : List Int} (h : By l) (i : Nat) : l.set ((i / 8 : Nat) : Int).toNat (Go.bits .or .u8 (rd l ((i / 8 : Nat) : Int)) (shl .u8 1 ((i % 8 : Nat) : Int))) = on l i := by
  rw [rd_at h, b_or ⟨_, at8_lt h _⟩ ⟨i % 8, by omega⟩, Int.toNat_natCast]
  rfl
set_option maxHeartbeats 2000000 in
theorem rturn_loop {l : List Int} (hb : By l) (hl : l.length = 256) (f m : Nat) (hf : f + m ≤ 2048) (w : Bool) (d : Nat) : ∀ i : Nat, i + d = m →
    (All l f i m (!w) → Ev (fun k => slipwayref12_turn.l0 k l (f : Int) (m : Int) w (flips l f i) ((f + i : Nat) : Int)) (flips l f m, 0)) ∧ (¬ All l f i m (!w) → Ev (fun k => slipwayref12_turn.l0 k l (f : Int) (m : Int) w (flips l f i) ((f + i : Nat) : Int)) ([], 122)) := by
  have ew : wrap64 ((f : Int) + (m : Int)) = ((f + m : Nat) : Int) := by rw [w64 (by omega) (by omega)]; omega
  induction d with
  | zero =>
    intro i hi
    have e : i = m := by omega
    subst e
    refine ⟨fun _ => Ev.step (f := fun _ => some (flips l f i, 0)) (fun k => ?_) (Ev.now _), fun h => absurd (fun j h1 h2 => by omega) h⟩
    simp only [slipwayref12_turn.l0]
    rw [ew, if_neg (by omega)]
  | succ d ih =>
    intro i hi
    obtain ⟨ih1, ih2⟩ := ih (i + 1) (by omega)
    have st := All.step (l := l) (f := f) (w := !w) (show i < m by omega)
    have e1 := suc64 (f + i) 4096 (by omega) (by omega)
    have hbit := rbit_f hb (f + i) (by omega) (by omega)
    obtain ⟨i1, i2⟩ := i8 (f + i) (by omega)
    have hfl : (flips l f i).length = 256 := by rw [flips_len, hl]
    have go : ∀ r, Ev (fun k => if (bt l (f + i) == w) = true then some (([] : List Int), (122 : Int)) else slipwayref12_turn.l0 k l (f : Int) (m : Int) w (flips l f (i + 1)) ((f + (i + 1) : Nat) : Int)) r → Ev (fun k => slipwayref12_turn.l0 k l (f : Int) (m : Int) w (flips l f i) ((f + i : Nat) : Int)) r := fun r h => by
      refine Ev.step (fun k => ?_) h
      simp only [slipwayref12_turn.l0]
      rw [ew, if_pos (by omega), hbit, Option.bind_some, i1, i2, u64_small _ (by omega), if_pos (show (0 : Int) ≤ (((f + i) / 8 : Nat) : Int) by omega), if_pos (show (((f + i) / 8 : Nat) : Int) < ((flips l f i).length : Int) by omega), if_pos (show (0 : Int) ≤ (((f + i) % 8 : Nat) : Int) by omega), rxor_f (flips_By hb f i), e1]
      rfl
    by_cases hc : bt l (f + i) = !w
    · have hn : ¬ ((bt l (f + i) == w) = true) := by rw [hc]; cases w <;> simp
      exact ⟨fun ho => go _ (Ev.iff_neg hn (ih1 (st.1 ho).2)), fun ho => go _ (Ev.iff_neg hn (ih2 (fun h => ho (st.2 ⟨hc, h⟩))))⟩
    · have hn : (bt l (f + i) == w) = true := by cases hx : bt l (f + i) <;> cases w <;> simp_all
      exact ⟨fun ho => absurd (st.1 ho).1 hc, fun ho => go _ (Ev.iff_pos hn (Ev.now _))⟩
set_option maxHeartbeats 2000000 in
theorem rturn_ev {l : List Int} (hb : By l) (n f m : Int) (w : Bool) : Ev (fun k => slipwayref12_turn.f k l n f m w) (trn l n f m (!w)) := by
  unfold slipwayref12_turn.f
  refine Ev.bind (rcheck_ev hb n) ?_
  by_cases ho : Ok l n
  · rw [chk_ok ho]
    refine Ev.iff_pos rfl ?_
    have h0 := ho.n0
    have h1 := ho.n1
    have bad : ¬ (0 ≤ f ∧ 0 ≤ m ∧ f ≤ n ∧ m ≤ n - f) → Ev (fun k => slipwayref12_turn.j0 k l f m w true) (trn l n f m (!w)) := fun h => by
      unfold trn
      rw [if_pos ho, if_neg h]
      refine Ev.step (f := fun _ => some ([], 121)) (fun k => ?_) (Ev.now _)
      simp only [slipwayref12_turn.j0]
      rw [if_pos trivial]
    by_cases a : f < 0
    · exact Ev.iff_pos a (bad (by omega))
    refine Ev.iff_neg a ?_
    by_cases b : m < 0
    · exact Ev.iff_pos b (bad (by omega))
    refine Ev.iff_neg b ?_
    by_cases c : f > n
    · exact Ev.iff_pos c (bad (by omega))
    refine Ev.iff_neg c ?_
    have ew : wrap64 (n - f) = n - f := w64 (by omega) (by omega)
    rw [ew]
    by_cases e : m > n - f
    · rw [decide_eq_true e]
      exact bad (by omega)
    rw [decide_eq_false e]
    obtain ⟨F, rfl⟩ := Int.eq_ofNat_of_zero_le (show 0 ≤ f by omega)
    obtain ⟨M, rfl⟩ := Int.eq_ofNat_of_zero_le (show 0 ≤ m by omega)
    unfold trn
    rw [if_pos ho, if_pos ⟨by omega, by omega, by omega, by omega⟩]
    rw [Int.toNat_natCast, Int.toNat_natCast]
    obtain ⟨c1, c2⟩ := rturn_loop hb ho.len F M (by omega) w M 0 (by omega)
    have go : ∀ r, Ev (fun k => slipwayref12_turn.l0 k l (F : Int) (M : Int) w (flips l F 0) ((F + 0 : Nat) : Int)) r → Ev (fun k => slipwayref12_turn.j0 k l (F : Int) (M : Int) w false) r := fun r h => by
      refine Ev.step (fun k => ?_) h
      simp only [slipwayref12_turn.j0]
      rw [if_neg (by decide), if_pos (by have := ho.len; simp; omega)]
      rfl
    by_cases ha : All l F 0 M (!w)
    · rw [if_pos ha]; exact go _ (c1 ha)
    · rw [if_neg ha]; exact go _ (c2 ha)
  · unfold trn
    rw [chk_no ho, if_neg ho]
    exact Ev.iff_neg (by decide) (Ev.now _)
theorem set_ev {l : List Int} (hb : By l) (n f m : Int) : Ev (fun k => bitmap_Set.f k l n f m) (trn l n f m false) := by
  unfold bitmap_Set.f
  exact Ev.bind (turned_ev hb n f m false) (Ev.now _)
theorem clear_ev {l : List Int} (hb : By l) (n f m : Int) : Ev (fun k => bitmap_Clear.f k l n f m) (trn l n f m true) := by
  unfold bitmap_Clear.f
  exact Ev.bind (turned_ev hb n f m true) (Ev.now _)
theorem rset_ev {l : List Int} (hb : By l) (n f m : Int) : Ev (fun k => slipwayref12_Set.f k l n f m) (trn l n f m false) := by
  unfold slipwayref12_Set.f
  exact Ev.bind (rturn_ev hb n f m true) (Ev.now _)
theorem rclear_ev {l : List Int} (hb : By l) (n f m : Int) : Ev (fun k => slipwayref12_Clear.f k l n f m) (trn l n f m true) := by
  unfold slipwayref12_Clear.f
  exact Ev.bind (rturn_ev hb n f m false) (Ev.now _)
def full : List Int := List.replicate 256 255
def zero : List Int := List.replicate 256 0
theorem full_len : full.length = 256 := List.length_replicate
theorem zero_len : zero.length = 256 := List.length_replicate
theorem rep_By (x : Int) (h : Byte x) : By (List.replicate 256 x) := fun y hy => by rw [List.eq_of_mem_replicate hy]; exact h
theorem bt_rep (x : Nat) (j : Nat) (hj : j < 2048) : bt (List.replicate 256 (x : Int)) j = x.testBit (j % 8) := by
  unfold bt at8
  rw [List.getD_eq_getElem?_getD, List.getElem?_replicate, if_pos (by omega)]
  simp
theorem full_By : By full := rep_By 255 (by unfold Byte; omega)
theorem zero_By : By zero := rep_By 0 (by unfold Byte; omega)
theorem bt_full (j : Nat) (hj : j < 2048) : bt full j = true := by
  have e : ∀ s : Fin 8, (255 : Nat).testBit s.val = true := by decide
  rw [show full = List.replicate 256 ((255 : Nat) : Int) from rfl, bt_rep 255 j hj]
  exact e ⟨j % 8, by omega⟩
theorem bt_zero (j : Nat) (hj : j < 2048) : bt zero j = false := by
  rw [show zero = List.replicate 256 ((0 : Nat) : Int) from rfl, bt_rep 0 j hj]
  simp
def nw (n : Nat) : List Int := flips full 0 n
theorem nw_By (n : Nat) : By (nw n) := flips_By full_By 0 n
theorem nw_len (n : Nat) : (nw n).length = 256 := by rw [nw, flips_len, full_len]
theorem bt_nw (n j : Nat) (hn : n ≤ 2048) (hj : j < 2048) : bt (nw n) j = decide (n ≤ j) := by
  rw [nw, bt_flips full_By 0 n j (by rw [full_len]; omega), bt_full j hj]
  by_cases c : n ≤ j
  · rw [decide_eq_true c, decide_eq_false (by omega)]; rfl
  · rw [decide_eq_false c, decide_eq_true (by omega)]; rfl
def ons (l : List Int) (f : Nat) : Nat → List Int
  | 0 => l
  | m + 1 => on (ons l f m) (f + m)
theorem ons_len (l : List Int) (f m : Nat) : (ons l f m).length = l.length := by
  induction m with
  | zero => rfl
  | succ m ih => rw [ons, on_len, ih]
theorem ons_By {l : List Int} (h : By l) (f m : Nat) : By (ons l f m) := by
  induction m with
  | zero => exact h
  | succ m ih => exact on_By ih _
set_option maxHeartbeats 2000000 in
theorem bt_ons {l : List Int} (h : By l) (f m j : Nat) (hf : f + m ≤ 8 * l.length) : bt (ons l f m) j = (bt l j || decide (f ≤ j ∧ j < f + m)) := by
  induction m with
  | zero =>
    rw [ons, decide_eq_false (by omega)]
    simp
  | succ m ih =>
    rw [ons, bt_on (ons_By h f m) _ _ (by rw [ons_len]; omega), ih (by omega)]
    by_cases e : f + m = j
    · rw [decide_eq_true e, decide_eq_true (show f ≤ j ∧ j < f + (m + 1) by omega)]
      simp
    · rw [decide_eq_false e]
      by_cases c : f ≤ j ∧ j < f + m
      · rw [decide_eq_true c, decide_eq_true (show f ≤ j ∧ j < f + (m + 1) by omega)]
        simp
      · rw [decide_eq_false c, decide_eq_false (show ¬ (f ≤ j ∧ j < f + (m + 1)) by omega)]
        simp
theorem nw_ons (n : Nat) (hn : n ≤ 2048) : ons zero n (2048 - n) = nw n := by
  refine ext_bits (ons_By zero_By _ _) (nw_By n) (by rw [ons_len, nw_len, zero_len]) (fun j hj => ?_)
  rw [ons_len, zero_len] at hj
  rw [bt_nw n j hn (by omega), bt_ons zero_By _ _ _ (by rw [zero_len]; omega), bt_zero j (by omega)]
  by_cases c : n ≤ j
  · rw [decide_eq_true c, decide_eq_true (by omega)]; rfl
  · rw [decide_eq_false c, decide_eq_false (by omega)]; rfl
def new_ (n : Int) : List Int × Int := if 0 ≤ n ∧ n ≤ 2048 then (nw n.toNat, 0) else ([], 1)
theorem repeat_f : slices_Repeat_byte_byte.f ([255] : List Int) 256 = some full := by
  show (if (0 : Int) < 256 ∧ (256 : Int) ≤ 256 then some (List.replicate (256 : Int).toNat (255 : Int)) else none) = some full
  rw [if_pos (by omega)]
  rfl
set_option maxHeartbeats 2000000 in
theorem new_loop (n : Nat) (hn : n ≤ 2048) (d : Nat) : ∀ i : Nat, i + d = n → Ev (fun k => bitmap_New.l0 k (flips full 0 i) (n : Int) (i : Int)) (nw n, 0) := by
  induction d with
  | zero =>
    intro i hi
    have e : i = n := by omega
    subst e
    refine Ev.step (f := fun _ => some (nw i, 0)) (fun k => ?_) (Ev.now _)
    simp only [bitmap_New.l0]
    rw [if_neg (by omega)]
    rfl
  | succ d ih =>
    intro i hi
    have e1 := suc64 i 2048 (by omega) (by omega)
    have htn := turn_f (flips_By full_By 0 i) i (by rw [flips_len, full_len]; omega) (by rw [flips_len, full_len]; omega)
    refine Ev.step (fun k => ?_) (ih (i + 1) (by omega))
    simp only [bitmap_New.l0]
    rw [if_pos (by omega), htn, Option.bind_some, e1, flips, Nat.zero_add]
set_option maxHeartbeats 2000000 in
theorem new_ev (n : Int) : Ev (fun k => bitmap_New.f k n) (new_ n) := by
  have bad : ¬ (0 ≤ n ∧ n ≤ 2048) → Ev (fun k => bitmap_New.j0 k n true) (new_ n) := fun h => by
    unfold new_
    rw [if_neg h]
    refine Ev.step (f := fun _ => some ([], 1)) (fun k => ?_) (Ev.now _)
    simp only [bitmap_New.j0]
    rw [if_pos trivial]
  unfold bitmap_New.f
  by_cases h0 : n < 0
  · exact Ev.iff_pos h0 (bad (by omega))
  refine Ev.iff_neg h0 ?_
  by_cases h1 : n > 2048
  · rw [decide_eq_true h1]
    exact bad (by omega)
  rw [decide_eq_false h1]
  unfold new_
  rw [if_pos (by omega)]
  obtain ⟨m, rfl⟩ := Int.eq_ofNat_of_zero_le (show 0 ≤ n by omega)
  rw [Int.toNat_natCast]
  refine Ev.step (fun k => ?_) (new_loop m (by omega) m 0 (by omega))
  simp only [bitmap_New.j0]
  rw [if_neg (by decide), repeat_f, Option.bind_some]
  rfl
set_option maxHeartbeats 2000000 in
theorem rnew_loop (n : Nat) (hn : n ≤ 2048) (d : Nat) : ∀ i : Nat, n + i + d = 2048 → Ev (fun k => slipwayref12_New.l0 k (ons zero n i) ((n + i : Nat) : Int)) (nw n, 0) := by
  induction d with
  | zero =>
    intro i hi
    have e : i = 2048 - n := by omega
    refine Ev.step (f := fun _ => some (nw n, 0)) (fun k => ?_) (Ev.now _)
    simp only [slipwayref12_New.l0]
    rw [if_neg (by omega), e, nw_ons n hn]
  | succ d ih =>
    intro i hi
    have e1 := suc64 (n + i) 4096 (by omega) (by omega)
    obtain ⟨i1, i2⟩ := i8 (n + i) (by omega)
    have hfl : (ons zero n i).length = 256 := by rw [ons_len, zero_len]
    refine Ev.step (fun k => ?_) (ih (i + 1) (by omega))
    simp only [slipwayref12_New.l0]
    rw [if_pos (by omega), i1, i2, u64_small _ (by omega), if_pos (show (0 : Int) ≤ ((n + i) / 8 : Nat) by omega), if_pos (by omega), if_pos (show (0 : Int) ≤ ((n + i) % 8 : Nat) by omega), ror_f (ons_By zero_By n i), e1]
    rfl
set_option maxHeartbeats 2000000 in
theorem rnew_ev (n : Int) : Ev (fun k => slipwayref12_New.f k n) (new_ n) := by
  have bad : ¬ (0 ≤ n ∧ n ≤ 2048) → Ev (fun k => slipwayref12_New.j0 k n true) (new_ n) := fun h => by
    unfold new_
    rw [if_neg h]
    refine Ev.step (f := fun _ => some ([], 1)) (fun k => ?_) (Ev.now _)
    simp only [slipwayref12_New.j0]
    rw [if_pos trivial]
  unfold slipwayref12_New.f
  by_cases h0 : n < 0
  · exact Ev.iff_pos h0 (bad (by omega))
  refine Ev.iff_neg h0 ?_
  by_cases h1 : n > 2048
  · rw [decide_eq_true h1]
    exact bad (by omega)
  rw [decide_eq_false h1]
  unfold new_
  rw [if_pos (by omega)]
  obtain ⟨m, rfl⟩ := Int.eq_ofNat_of_zero_le (show 0 ≤ n by omega)
  rw [Int.toNat_natCast]
  refine Ev.step (fun k => ?_) (rnew_loop m (by omega) (2048 - m) 0 (by omega))
  simp only [slipwayref12_New.j0]
  rw [if_neg (by decide), if_pos (by decide)]
  rfl
def mns (a b : List Int) (o : List Int → Nat → List Int) (l : List Int) : Nat → List Int
  | 0 => l
  | m + 1 => if bt a m = true then (if bt b m = true then mns a b o l m else o (mns a b o l m) m) else mns a b o l m
theorem mns_len {a b l : List Int} {o : List Int → Nat → List Int} (ho : ∀ l i, (o l i).length = l.length) (m : Nat) : (mns a b o l m).length = l.length := by
  induction m with
  | zero => rfl
  | succ m ih =>
    rw [mns]
    split
    · split
      · exact ih
      · rw [ho, ih]
    · exact ih
theorem mns_By {a b l : List Int} {o : List Int → Nat → List Int} (ho : ∀ l i, By l → By (o l i)) (h : By l) (m : Nat) : By (mns a b o l m) := by
  induction m with
  | zero => exact h
  | succ m ih =>
    rw [mns]
    split
    · split
      · exact ih
      · exact ho _ _ ih
    · exact ih
structure Step (o : List Int → Nat → List Int) : Prop where
  len : ∀ l i, (o l i).length = l.length
  by_ : ∀ l i, By l → By (o l i)
  bit : ∀ l i j, By l → i < 8 * l.length → bt l i = false → bt (o l i) j = (bt l j || decide (i = j))
theorem step_tn : Step tn := ⟨tn_len, fun l i h => tn_By h i, fun l i j h hi h0 => by
  rw [bt_tn h i j hi]
  by_cases e : i = j
  · subst e; rw [h0]; simp
  · simp [e]⟩
theorem step_on : Step on := ⟨on_len, fun l i h => on_By h i, fun l i j h hi _ => bt_on h i j hi⟩
set_option maxHeartbeats 2000000 in
theorem bt_mns {a b l : List Int} {o : List Int → Nat → List Int} (so : Step o) (h : By l) (hl : l.length = 256) (n : Nat) (hn : n ≤ 2048) (h0 : ∀ i, i < n → bt l i = false) (m : Nat) (hm : m ≤ n) : ∀ j : Nat, bt (mns a b o l m) j = (bt l j || (decide (j < m) && bt a j && !bt b j)) := by
  induction m with
  | zero => intro j; rw [mns, decide_eq_false (by omega)]; simp
  | succ m ih =>
    have ih := ih (by omega)
    intro j
    have same : ∀ (hx : (bt a m && !bt b m) = false), (bt l j || (decide (j < m) && bt a j && !bt b j)) = (bt l j || (decide (j < m + 1) && bt a j && !bt b j)) := fun hx => by
      by_cases e : j = m
      · subst e
        rw [decide_eq_false (show ¬ j < j by omega), decide_eq_true (show j < j + 1 by omega), Bool.and_assoc, Bool.and_assoc, hx]
        rfl
      · rw [show decide (j < m) = decide (j < m + 1) from decide_eq_decide.2 (by omega)]
    rw [mns]
    by_cases ha : bt a m = true
    · rw [if_pos ha]
      by_cases hb : bt b m = true
      · rw [if_pos hb, ih]
        exact same (by simp [hb])
      · rw [if_neg hb]
        have hz : bt (mns a b o l m) m = false := by
          rw [ih m, h0 m (by omega), decide_eq_false (show ¬ m < m by omega)]
          rfl
        rw [so.bit _ _ _ (mns_By so.by_ h m) (by rw [mns_len so.len, hl]; omega) hz, ih]
        by_cases e : m = j
        · subst e
          rw [decide_eq_true (show m = m from rfl), decide_eq_true (show m < m + 1 by omega), ha]
          simp [hb]
        · rw [decide_eq_false e, show decide (j < m) = decide (j < m + 1) from decide_eq_decide.2 (by omega)]
          simp
    · rw [if_neg ha, ih]
      exact same (by simp [ha])
set_option maxHeartbeats 2000000 in
theorem mns_same {a b : List Int} (n : Nat) (hn : n ≤ 2048) : mns a b tn (nw n) n = mns a b on (nw n) n := by
  have h0 : ∀ i, i < n → bt (nw n) i = false := fun i hi => by rw [bt_nw n i hn (by omega)]; exact decide_eq_false (by omega)
  refine ext_bits (mns_By step_tn.by_ (nw_By n) n) (mns_By step_on.by_ (nw_By n) n) (by rw [mns_len step_tn.len, mns_len step_on.len]) (fun j _ => ?_)
  rw [bt_mns step_tn (nw_By n) (nw_len n) n hn h0 n (Nat.le_refl _), bt_mns step_on (nw_By n) (nw_len n) n hn h0 n (Nat.le_refl _)]
open Classical in
noncomputable def minus (a b : List Int) (n : Int) : List Int × Int := if Ok a n ∧ Ok b n then (mns a b tn (nw n.toNat) n.toNat, 0) else ([], 120)
set_option maxHeartbeats 2000000 in
theorem minus_loop {a b : List Int} (ha : By a) (hb : By b) (la : a.length = 256) (lb : b.length = 256) (n : Nat) (hn : n ≤ 2048) (d : Nat) : ∀ i : Nat, i + d = n → Ev (fun k => bitmap_Minus.l0 k a b (mns a b tn (nw n) i) (n : Int) (i : Int)) (mns a b tn (nw n) n, 0) := by
  induction d with
  | zero =>
    intro i hi
    have e : i = n := by omega
    subst e
    refine Ev.step (f := fun _ => some (mns a b tn (nw i) i, 0)) (fun k => ?_) (Ev.now _)
    simp only [bitmap_Minus.l0]
    rw [if_neg (by omega)]
  | succ d ih =>
    intro i hi
    have e1 := suc64 i 2048 (by omega) (by omega)
    have hA := bit_f ha i (by omega) (by omega)
    have hB := bit_f hb i (by omega) (by omega)
    have lm : (mns a b tn (nw n) i).length = 256 := by rw [mns_len step_tn.len, nw_len]
    have htn := turn_f (mns_By (a := a) (b := b) step_tn.by_ (nw_By n) i) i (by rw [lm]; omega) (by rw [lm]; omega)
    have nx := ih (i + 1) (by omega)
    rw [mns] at nx
    refine Ev.step (f := fun k => if bt a i = true then (if bt b i = true then bitmap_Minus.l0 k a b (mns a b tn (nw n) i) (n : Int) ((i + 1 : Nat) : Int) else bitmap_Minus.l0 k a b (tn (mns a b tn (nw n) i) i) (n : Int) ((i + 1 : Nat) : Int)) else bitmap_Minus.l0 k a b (mns a b tn (nw n) i) (n : Int) ((i + 1 : Nat) : Int)) (fun k => ?_) ?_
    · simp only [bitmap_Minus.l0]
      rw [if_pos (by omega), hA, Option.bind_some, hB, Option.bind_some, htn, Option.bind_some, e1]
    · by_cases c : bt a i = true
      · rw [if_pos c] at nx
        refine Ev.iff_pos c ?_
        by_cases c2 : bt b i = true
        · rw [if_pos c2] at nx
          exact Ev.iff_pos c2 nx
        · rw [if_neg c2] at nx
          exact Ev.iff_neg c2 nx
      · rw [if_neg c] at nx
        exact Ev.iff_neg c nx
set_option maxHeartbeats 2000000 in
theorem rminus_loop {a b : List Int} (ha : By a) (hb : By b) (la : a.length = 256) (lb : b.length = 256) (n : Nat) (hn : n ≤ 2048) (d : Nat) : ∀ i : Nat, i + d = n → Ev (fun k => slipwayref12_Minus.l0 k a b (n : Int) (mns a b on (nw n) i) (i : Int)) (mns a b on (nw n) n, 0) := by
  induction d with
  | zero =>
    intro i hi
    have e : i = n := by omega
    subst e
    refine Ev.step (f := fun _ => some (mns a b on (nw i) i, 0)) (fun k => ?_) (Ev.now _)
    simp only [slipwayref12_Minus.l0]
    rw [if_neg (by omega)]
  | succ d ih =>
    intro i hi
    have e1 := suc64 i 2048 (by omega) (by omega)
    have hA := rbit_f ha i (by omega) (by omega)
    have hB := rbit_f hb i (by omega) (by omega)
    have lm : (mns a b on (nw n) i).length = 256 := by rw [mns_len step_on.len, nw_len]
    obtain ⟨i1, i2⟩ := i8 i (by omega)
    have nx := ih (i + 1) (by omega)
    rw [mns] at nx
    refine Ev.step (f := fun k => if bt a i = true then (if bt b i = true then slipwayref12_Minus.l0 k a b (n : Int) (mns a b on (nw n) i) ((i + 1 : Nat) : Int) else slipwayref12_Minus.l0 k a b (n : Int) (on (mns a b on (nw n) i) i) ((i + 1 : Nat) : Int)) else slipwayref12_Minus.l0 k a b (n : Int) (mns a b on (nw n) i) ((i + 1 : Nat) : Int)) (fun k => ?_) ?_
    · simp only [slipwayref12_Minus.l0]
      rw [if_pos (by omega), hA, Option.bind_some, hB, Option.bind_some, i1, i2, u64_small _ (by omega), if_pos (show (0 : Int) ≤ (i / 8 : Nat) by omega), if_pos (show ((i / 8 : Nat) : Int) < ((mns a b on (nw n) i).length : Int) by omega), if_pos (show (0 : Int) ≤ (i % 8 : Nat) by omega), ror_f (mns_By step_on.by_ (nw_By n) i), e1]
    · by_cases c : bt a i = true
      · rw [if_pos c] at nx
        refine Ev.iff_pos c ?_
        by_cases c2 : bt b i = true
        · rw [if_pos c2] at nx
          exact Ev.iff_pos c2 nx
        · rw [if_neg c2] at nx
          exact Ev.iff_neg c2 nx
      · rw [if_neg c] at nx
        exact Ev.iff_neg c nx
set_option maxHeartbeats 2000000 in
theorem minus_ev {a b : List Int} (ha : By a) (hb : By b) (n : Int) : Ev (fun k => bitmap_Minus.f k a b n) (minus a b n) := by
  have bad : ¬ (Ok a n ∧ Ok b n) → Ev (fun k => bitmap_Minus.j0 k a b n true) (minus a b n) := fun h => by
    unfold minus
    rw [if_neg h]
    refine Ev.step (f := fun _ => some ([], 120)) (fun k => ?_) (Ev.now _)
    simp only [bitmap_Minus.j0]
    rw [if_pos trivial]
  unfold bitmap_Minus.f
  refine Ev.bind (check_ev ha n) ?_
  by_cases h0 : Ok a n
  · rw [chk_ok h0]
    refine Ev.iff_pos rfl (Ev.bind (check_ev hb n) ?_)
    by_cases h1 : Ok b n
    · rw [chk_ok h1]
      unfold minus
      rw [if_pos ⟨h0, h1⟩]
      have := h0.n0
      have := h0.n1
      obtain ⟨m, rfl⟩ := Int.eq_ofNat_of_zero_le h0.n0
      rw [Int.toNat_natCast]
      refine Ev.step (f := fun k => (bitmap_New.f k (m : Int)).bind fun bt311 => (bitmap_Minus.l0 k a b bt311.1 (m : Int) 0)) (fun k => ?_) (Ev.bind (new_ev (m : Int)) ?_)
      · simp only [bitmap_Minus.j0]
        rw [if_neg (by decide)]
      · unfold new_
        rw [if_pos (by omega), Int.toNat_natCast]
        exact minus_loop ha hb h0.len h1.len m (by omega) m 0 (by omega)
    · rw [chk_no h1]
      exact bad (fun h => h1 h.2)
  · rw [chk_no h0]
    exact Ev.iff_neg (by decide) (bad (fun h => h0 h.1))
set_option maxHeartbeats 2000000 in
theorem rminus_ev {a b : List Int} (ha : By a) (hb : By b) (n : Int) : Ev (fun k => slipwayref12_Minus.f k a b n) (minus a b n) := by
  have bad : ¬ (Ok a n ∧ Ok b n) → Ev (fun k => slipwayref12_Minus.j0 k a b n true) (minus a b n) := fun h => by
    unfold minus
    rw [if_neg h]
    refine Ev.step (f := fun _ => some ([], 120)) (fun k => ?_) (Ev.now _)
    simp only [slipwayref12_Minus.j0]
    rw [if_pos trivial]
  unfold slipwayref12_Minus.f
  refine Ev.bind (rcheck_ev ha n) ?_
  by_cases h0 : Ok a n
  · rw [chk_ok h0]
    refine Ev.iff_pos rfl (Ev.bind (rcheck_ev hb n) ?_)
    by_cases h1 : Ok b n
    · rw [chk_ok h1]
      unfold minus
      rw [if_pos ⟨h0, h1⟩]
      have := h0.n0
      have := h0.n1
      obtain ⟨m, rfl⟩ := Int.eq_ofNat_of_zero_le h0.n0
      rw [Int.toNat_natCast, mns_same m (by omega)]
      refine Ev.step (f := fun k => (slipwayref12_New.f k (m : Int)).bind fun bt320 => (slipwayref12_Minus.l0 k a b (m : Int) bt320.1 0)) (fun k => ?_) (Ev.bind (rnew_ev (m : Int)) ?_)
      · simp only [slipwayref12_Minus.j0]
        rw [if_neg (by decide)]
      · unfold new_
        rw [if_pos (by omega), Int.toNat_natCast]
        exact rminus_loop ha hb h0.len h1.len m (by omega) m 0 (by omega)
    · rw [chk_no h1]
      exact bad (fun h => h1 h.2)
  · rw [chk_no h0]
    exact Ev.iff_neg (by decide) (bad (fun h => h0 h.1))
end Go.Proofs.Ytllodfjbenmlpaa.Bm
end
