/- Texts of the proof of PageReads, part 29. -/
import Derived.Test.YtdohpjjggjehfaaPageReadsM24
section
namespace Go.Proofs.Ytdohpjjggjehfaa.PackMath
set_option linter.unusedVariables false
set_option linter.unusedSimpArgs false
open Go.RowKit Go.Proofs.Ytdohpjjggjehfaa.SMath Go.Proofs.YtdohpjjggjehfaaW.PrintWords Go.Proofs.YtdohpjjggjehfaaW.PrintMore
theorem prd_nat (l : List Int) (i : Nat) (h : i < l.length) : rd l (i : Int) = l[i] := by simp [rd, List.getD_eq_getElem?_getD, h]
def gb (l : List Int) (j : Nat) : Bool := ((l.getD (j / 8) 0).toNat).testBit (7 - j % 8)
def vb (v : Int) (i : Nat) : Bool := v.toNat.testBit i
def b2i (b : Bool) : Int := if b then 1 else 0
theorem gb_at (l : List Int) (i s : Nat) (hi : i < l.length) (hs : s < 8) : gb l (8 * i + (7 - s)) = (l[i].toNat).testBit s := by
  have h1 : (8 * i + (7 - s)) / 8 = i := by omega
  have h2 : 7 - (8 * i + (7 - s)) % 8 = s := by omega
  unfold gb
  rw [h1, h2]
  simp [List.getD_eq_getElem?_getD, hi]
theorem byte_ext {x y : Int} (hx : Byte x) (hy : Byte y) (h : ∀ s, s < 8 → x.toNat.testBit s = y.toNat.testBit s) : x = y := by
  obtain ⟨a, rfl, ha⟩ := byte_nat hx
  obtain ⟨b, rfl, hb⟩ := byte_nat hy
  congr 1
  apply Nat.eq_of_testBit_eq
  intro i
  by_cases hi : i < 8
  · exact h i hi
  · rw [testBit_high ha hi, testBit_high hb hi]
theorem bytes_ext {a b : List Int} (ha : Bytes a) (hb : Bytes b) (hl : a.length = b.length) (h : ∀ j, j < 8 * a.length → gb a j = gb b j) : a = b := by
  apply List.ext_getElem hl
  intro i h1 h2
  refine byte_ext (ha _ (List.getElem_mem h1)) (hb _ (List.getElem_mem h2)) (fun s hs => ?_)
  have := h (8 * i + (7 - s)) (by omega)
  rw [gb_at a i s h1 hs, gb_at b i s h2 hs] at this
  exact this
theorem and_one_bit (n s : Nat) : (n / 2 ^ s) % 2 = if n.testBit s then 1 else 0 := by
  rw [Nat.testBit_eq_decide_div_mod_eq]
  by_cases h : n / 2 ^ s % 2 = 1
  · simp [h]
  · have : n / 2 ^ s % 2 = 0 := by omega
    simp [this]
theorem cast_div_mod (n s : Nat) : ((n : Int) / 2 ^ s) % 2 = ((n / 2 ^ s % 2 : Nat) : Int) := by push_cast; rfl
theorem read_u8 (c : Int) (hc : Byte c) (s : Nat) (hs : s ≤ 8) : Go.bits .and .u8 (shr .u8 c (s : Int)) 1 = b2i (c.toNat.testBit s) := by
  rw [bit_test c hc s hs]
  obtain ⟨n, rfl, hn⟩ := byte_nat hc
  rw [cast_div_mod, and_one_bit, Int.toNat_natCast, b2i]
  cases n.testBit s <;> rfl
def U64 (v : Int) : Prop := 0 ≤ v ∧ v < 18446744073709551616
theorem read_u64 (v : Int) (hv : U64 v) (s : Nat) (hs : s ≤ 64) : Go.bits .and .u64 (shr .u64 v (s : Int)) 1 = b2i (vb v s) := by
  have h2 := shr_range (k := .u64) (s : Int) hv.1 hv.2
  rw [and_one_u64 _ h2.1 h2.2, shr_at .u64 v s hs]
  obtain ⟨n, rfl⟩ := Int.eq_ofNat_of_zero_le hv.1
  rw [cast_div_mod, and_one_bit, vb, Int.toNat_natCast, b2i]
  cases n.testBit s <;> rfl
theorem b2i_range (b : Bool) : 0 ≤ b2i b ∧ b2i b ≤ 1 := by cases b <;> decide
set_option maxHeartbeats 2000000 in
theorem put_bit (n s : Nat) (hn : n < 256) (hs : s < 8) (b : Bool) : ∃ m : Nat, Go.bits .or .u8 (n : Int) (shl .u8 (b2i b % 256) (s : Int)) = (m : Int) ∧ m < 256 ∧ ∀ t, t < 8 → m.testBit t = (n.testBit t || (decide (t = s) && b)) := by
  have hsh : shl .u8 (b2i b % 256) (s : Int) = ((if b then 2 ^ s else 0 : Nat) : Int) := by
    unfold shl
    rw [IntKind.wrap_u8, Int.toNat_natCast, Nat.min_eq_left (by simp [IntKind.bits]; omega)]
    cases b
    · simp [b2i]
    · have : 2 ^ s < 2 ^ 8 := Nat.pow_lt_pow_right (by decide) hs
      have h2 : (b2i true % 256) = 1 := rfl
      rw [h2, Int.one_mul]
      have h3 : ((2 : Int) ^ s) = ((2 ^ s : Nat) : Int) := by push_cast; rfl
      rw [h3]
      simp only [if_true]
      generalize 2 ^ s = q at this ⊢
      omega
  have hlt : (if b then 2 ^ s else 0 : Nat) < 256 := by
    cases b
    · simp
    · have : 2 ^ s < 2 ^ 8 := Nat.pow_lt_pow_right (by decide) hs
      simpa using this
  refine ⟨n ||| (if b then 2 ^ s else 0), by rw [hsh, or_u8 n _ hn hlt], by have := Nat.or_lt_two_pow (n := 8) hn hlt; simpa using this, fun t ht => ?_⟩
  rw [Nat.testBit_or]
  congr 1
  cases b
  · simp
  · simp only [if_true, Bool.and_true]
    rw [Nat.testBit_two_pow]
    by_cases h : s = t
    · simp [h]
    · have : ¬ t = s := fun e => h e.symm
      simp [h, this]
theorem gb_set {out : List Int} (ho : Bytes out) (at_ : Nat) (h : at_ / 8 < out.length) (b : Bool) :
    ∃ out', out.set (at_ / 8) (Go.bits .or .u8 (rd out ((at_ / 8 : Nat) : Int)) (shl .u8 (b2i b % 256) ((7 - at_ % 8 : Nat) : Int))) = out' ∧ Bytes out' ∧ out'.length = out.length ∧ ∀ j, gb out' j = if j = at_ then (gb out at_ || b) else gb out j := by
  obtain ⟨n, hn, hn8⟩ := byte_nat (ho _ (List.getElem_mem h))
  obtain ⟨m, hm, hm8, ht⟩ := put_bit n (7 - at_ % 8) hn8 (by omega) b
  refine ⟨_, rfl, ?_, by simp, ?_⟩
  · intro x hx
    rw [prd_nat out _ h, hn, hm] at hx
    rcases List.mem_or_eq_of_mem_set hx with hx | hx
    · exact ho x hx
    · rw [hx]
      exact ⟨by omega, by omega⟩
  · intro j
    rw [prd_nat out _ h, hn, hm]
    by_cases hj : j / 8 = at_ / 8
    · have e1 : (out.set (at_ / 8) (m : Int)).getD (j / 8) 0 = (m : Int) := by rw [hj]; simp [List.getD_eq_getElem?_getD, h]
      have e2 : out.getD (j / 8) 0 = (n : Int) := by rw [hj]; simp [List.getD_eq_getElem?_getD, h, hn]
      have e3 : out.getD (at_ / 8) 0 = (n : Int) := by simp [List.getD_eq_getElem?_getD, h, hn]
      unfold gb
      rw [e1, e2, e3, Int.toNat_natCast, Int.toNat_natCast, ht _ (by omega)]
      by_cases hje : j = at_
      · subst hje
        simp
      · have : ¬ 7 - j % 8 = 7 - at_ % 8 := by omega
        simp [hje, this]
    · have e1 : (out.set (at_ / 8) (m : Int)).getD (j / 8) 0 = out.getD (j / 8) 0 := by
        simp [List.getD_eq_getElem?_getD, List.getElem?_set, show ¬ at_ / 8 = j / 8 from fun e => hj e.symm]
      have hje : ¬ j = at_ := fun e => hj (by rw [e])
      unfold gb
      rw [e1, if_neg hje]
def pb : List Nat → List Int → Nat → Bool
  | w :: ws, v :: vs, j => if j < w then vb v (w - 1 - j) else pb ws vs (j - w)
  | _, _, _ => false
def tot (ws : List Nat) : Nat := ws.sum
theorem tot_cons (w : Nat) (ws : List Nat) : tot (w :: ws) = w + tot ws := by simp [tot]
theorem tot_take_succ (ws : List Nat) (i : Nat) (h : i < ws.length) : tot (ws.take (i + 1)) = tot (ws.take i) + ws[i] := by
  unfold tot
  rw [List.take_succ_eq_append_getElem h, List.sum_append]
  simp
set_option maxHeartbeats 2000000 in
theorem pb_at : ∀ (ws : List Nat) (vs : List Int) (i : Nat) (h : i < ws.length) (h' : i < vs.length) (t : Nat), t < ws[i] → pb ws vs (tot (ws.take i) + t) = vb vs[i] (ws[i] - 1 - t)
  | w :: ws, v :: vs, 0, h, h', t, ht => by
    have : t < w := ht
    simp [pb, tot, this]
  | w :: ws, v :: vs, i + 1, h, h', t, ht => by
    have ih := pb_at ws vs i (by simpa using h) (by simpa using h') t (by simpa using ht)
    rw [List.take_succ_cons, tot_cons]
    have h1 : ¬ (w + tot (ws.take i) + t < w) := by omega
    have h2 : w + tot (ws.take i) + t - w = tot (ws.take i) + t := by omega
    simp only [pb]
    rw [if_neg h1, h2]
    exact ih
  | [], _, i, h, _, _, _ => by simp at h
  | _ :: _, [], i, _, h', _, _ => by simp at h'
theorem pb_out : ∀ (ws : List Nat) (vs : List Int) (j : Nat), tot ws ≤ j → pb ws vs j = false
  | w :: ws, v :: vs, j, h => by
    rw [tot_cons] at h
    simp only [pb]
    rw [if_neg (by omega)]
    exact pb_out ws vs (j - w) (by omega)
  | [], _, _, _ => rfl
  | _ :: _, [], _, _ => rfl
def fg (G : Nat → Bool) (p : Nat) : Nat → Nat → Nat
  | 0, v => v
  | w + 1, v => fg G (p + 1) w (2 * v + (G p).toNat)
theorem fg_bound (G : Nat → Bool) : ∀ (w p v : Nat), fg G p w v < 2 ^ w * (v + 1)
  | 0, p, v => by simp [fg]
  | w + 1, p, v => by
    have := fg_bound G w (p + 1) (2 * v + (G p).toNat)
    simp only [fg]
    refine Nat.lt_of_lt_of_le this ?_
    have hb : (G p).toNat ≤ 1 := Bool.toNat_le _
    rw [Nat.pow_succ, Nat.mul_assoc]
    exact Nat.mul_le_mul_left _ (by omega)
theorem fg_split (G : Nat → Bool) : ∀ (w p v : Nat), fg G p w v = 2 ^ w * v + fg G p w 0
  | 0, p, v => by simp [fg]
  | w + 1, p, v => by
    simp only [fg]
    rw [fg_split G w (p + 1) (2 * v + (G p).toNat), fg_split G w (p + 1) (2 * 0 + (G p).toNat), Nat.pow_succ, Nat.mul_add, Nat.mul_add]
    have : 2 ^ w * (2 * v) = 2 ^ w * 2 * v := by rw [Nat.mul_assoc]
    omega
theorem fg_succ (G : Nat → Bool) (w p : Nat) : fg G p (w + 1) 0 = 2 ^ w * (G p).toNat + fg G (p + 1) w 0 := by
  simp only [fg]
  rw [fg_split G w (p + 1) (2 * 0 + (G p).toNat)]
  simp
theorem fg_lt (G : Nat → Bool) (w p : Nat) : fg G p w 0 < 2 ^ w := by simpa using fg_bound G w p 0
set_option maxHeartbeats 2000000 in
theorem fg_bit (G : Nat → Bool) : ∀ (w p t : Nat), t < w → (fg G p w 0).testBit (w - 1 - t) = G (p + t)
  | 0, p, t, h => absurd h (by omega)
  | w + 1, p, t, h => by
    have hlt := fg_lt G w (p + 1)
    rw [fg_succ]
    cases t with
    | zero =>
      have e : w + 1 - 1 - 0 = w := by omega
      rw [e, Nat.testBit_two_pow_mul_add _ hlt, if_neg (by omega), Nat.sub_self, Nat.add_zero]
      cases G p <;> rfl
    | succ t =>
      have e : w + 1 - 1 - (t + 1) = w - 1 - t := by omega
      rw [e, Nat.testBit_two_pow_mul_add _ hlt, if_pos (by omega), fg_bit G w (p + 1) t (by omega)]
      congr 1
      omega
set_option maxHeartbeats 2000000 in
theorem fg_of_bits (G : Nat → Bool) (w p n : Nat) (hn : n < 2 ^ w) (h : ∀ t, t < w → n.testBit (w - 1 - t) = G (p + t)) : fg G p w 0 = n := by
  apply Nat.eq_of_testBit_eq
  intro i
  by_cases hi : i < w
  · have h1 := fg_bit G w p (w - 1 - i) (by omega)
    have h2 := h (w - 1 - i) (by omega)
    rw [← h2] at h1
    have : w - 1 - (w - 1 - i) = i := by omega
    rw [this] at h1
    exact h1
  · have hp : 2 ^ w ≤ 2 ^ i := Nat.pow_le_pow_right (by decide) (by omega)
    rw [Nat.testBit_lt_two_pow (Nat.lt_of_lt_of_le (fg_lt G w p) hp), Nat.testBit_lt_two_pow (Nat.lt_of_lt_of_le hn hp)]
def len (n : Nat) : Nat := if n = 0 then 0 else n.log2 + 1
theorem len_le (n w : Nat) : len n ≤ w ↔ n < 2 ^ w := by
  unfold len
  by_cases h : n = 0
  · simp [h, Nat.two_pow_pos]
  · rw [if_neg h]
    constructor
    · intro hw
      exact (Nat.log2_lt h).mp (by omega)
    · intro hw
      have := (Nat.log2_lt h).mpr hw
      omega
set_option maxHeartbeats 2000000 in
theorem len_shift (n s : Nat) (h : 2 ^ s ≤ n) : len n = s + len (n / 2 ^ s) := by
  have h1 : ∀ w, n < 2 ^ (s + w) ↔ n / 2 ^ s < 2 ^ w := fun w => by
    rw [Nat.div_lt_iff_lt_mul (Nat.two_pow_pos s), Nat.pow_add, Nat.mul_comm]
  apply Nat.le_antisymm
  · rw [len_le, h1]
    exact (len_le _ _).mp (Nat.le_refl _)
  · have h2 : s ≤ len n := by
      rcases Nat.lt_or_ge (len n) s with h3 | h3
      · have := (len_le n (len n)).mp (Nat.le_refl _)
        have h4 : 2 ^ len n ≤ 2 ^ s := Nat.pow_le_pow_right (by decide) (by omega)
        omega
      · exact h3
    have h5 : len (n / 2 ^ s) ≤ len n - s := by
      rw [len_le, ← h1]
      have : s + (len n - s) = len n := by omega
      rw [this]
      exact (len_le _ _).mp (Nat.le_refl _)
    omega
theorem tab_at {X : ByteArray} (h : ∀ n : Fin 256, bt X (n.val : Int) = (len n.val : Int)) (b : Nat) (hb : b < 256) : bt X (b : Int) = (len b : Int) := h ⟨b, hb⟩
end Go.Proofs.Ytdohpjjggjehfaa.PackMath
end
