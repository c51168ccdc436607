/- Texts of the proof of PageTorn, part 23. -/
import Derived.Test.YtdohpjjggjehfaaPageTornM10
import Derived.Laws.BitsLemmas
section
namespace Go.Proofs.Ytdohpjjggjehfaa.SMath
set_option linter.unusedVariables false
set_option linter.unusedSimpArgs false
open Go.RowKit Go.Proofs.YtdohpjjggjehfaaW.PrintWords Go.Proofs.YtdohpjjggjehfaaW.PrintMore
def Byte (x : Int) : Prop := 0 ≤ x ∧ x < 256
def Bytes (l : List Int) : Prop := ∀ x ∈ l, Byte x
theorem wf_u8 {x : Int} (h : (Lit.int .u8 x).wf = true) : Byte x := by
  simp [Lit.wf, IntKind.min, IntKind.max, IntKind.signed, IntKind.bits] at h
  unfold Byte; omega
theorem bytes_of_wf {l : List Int} (h : ∀ x ∈ l, (Lit.int .u8 x).wf = true) : Bytes l := fun x hx => wf_u8 (h x hx)
def z8 (c : Int) : Int := 8 - (c % 2 + c / 2 % 2 + c / 4 % 2 + c / 8 % 2 + c / 16 % 2 + c / 32 % 2 + c / 64 % 2 + c / 128 % 2)
def zeros : List Int → Int
  | [] => 0
  | c :: l => z8 c + zeros l
theorem z8_range (c : Int) : 0 ≤ z8 c ∧ z8 c ≤ 8 := by unfold z8; omega
theorem zeros_range (l : List Int) : 0 ≤ zeros l ∧ zeros l ≤ 8 * (l.length : Int) := by
  induction l with
  | nil => simp [zeros]
  | cons c l ih => have := z8_range c; simp only [zeros, List.length_cons]; omega
theorem zeros_append (a b : List Int) : zeros (a ++ b) = zeros a + zeros b := by
  induction a with
  | nil => simp [zeros]
  | cons c l ih => simp only [List.cons_append, zeros, ih]; omega
theorem byte_nat {x : Int} (h : Byte x) : ∃ n : Nat, x = n ∧ n < 256 := ⟨x.toNat, by unfold Byte at h; omega, by unfold Byte at h; omega⟩
theorem and_one_u8 (x : Int) (h0 : 0 ≤ x) (h1 : x < 256) : Go.bits .and .u8 x 1 = x % 2 := by
  have := bits_mask .u8 8 (by decide) wraps_u8 1 (by decide) x h0 (by simpa using h1)
  simpa using this
theorem wraps_u64 (n : Int) (h₀ : 0 ≤ n) (h₁ : n < 2 ^ 64) : IntKind.u64.wrap n = n := by
  simp [IntKind.wrap, IntKind.bits, IntKind.signed]
  omega
theorem wrap_u64 (n : Int) : IntKind.u64.wrap n = n % 18446744073709551616 := by simp [IntKind.wrap, IntKind.bits, IntKind.signed]
theorem u64_id {n : Int} (h0 : 0 ≤ n) (h1 : n < 18446744073709551616) : IntKind.u64.wrap n = n := by rw [wrap_u64]; omega
theorem and_one_u64 (x : Int) (h0 : 0 ≤ x) (h1 : x < 18446744073709551616) : Go.bits .and .u64 x 1 = x % 2 := by
  have := bits_mask .u64 64 (by decide) wraps_u64 1 (by decide) x h0 (by simpa using h1)
  simpa using this
theorem shr_at (k : IntKind) (x : Int) (i : Nat) (h : i ≤ k.bits) : shr k x (i : Int) = x / 2 ^ i := by
  unfold shr
  rw [Int.toNat_natCast, Nat.min_eq_left h]
theorem shr_range {k : IntKind} {x : Int} (i : Int) {m : Int} (h0 : 0 ≤ x) (h1 : x < m) : 0 ≤ shr k x i ∧ shr k x i < m := by
  unfold shr
  have h2 : (0 : Int) < 2 ^ min i.toNat k.bits := Int.pow_pos (by decide)
  constructor
  · exact Int.ediv_nonneg h0 (by omega)
  · have := Int.ediv_le_self (2 ^ min i.toNat k.bits) h0
    omega
theorem bit_test (c : Int) (hc : Byte c) (i : Nat) (hi : i ≤ 8) : Go.bits .and .u8 (shr .u8 c (i : Int)) 1 = (c / 2 ^ i) % 2 := by
  have h2 := shr_range (k := .u8) (i : Int) hc.1 hc.2
  rw [and_one_u8 _ h2.1 h2.2, shr_at .u8 c i hi]
def cov (a b : Int) : Prop := ∀ i < 8, (b / 2 ^ i) % 2 ≤ (a / 2 ^ i) % 2
theorem testBit_div (n i : Nat) : (((n : Int) / 2 ^ i) % 2 = 1) ↔ n.testBit i = true := by
  rw [Nat.testBit_eq_decide_div_mod_eq]
  have : ((n : Int) / 2 ^ i) % 2 = ((n / 2 ^ i % 2 : Nat) : Int) := by push_cast; rfl
  rw [this]
  simp
  omega
theorem cov_iff (a b : Nat) : cov (a : Int) (b : Int) ↔ ∀ i < 8, b.testBit i = true → a.testBit i = true := by
  unfold cov
  constructor
  · intro h i hi hb
    have h1 := h i hi
    rw [← testBit_div] at hb ⊢
    omega
  · intro h i hi
    have h1 := h i hi
    rw [← testBit_div, ← testBit_div] at h1
    have : ((b : Int) / 2 ^ i) % 2 = 0 ∨ ((b : Int) / 2 ^ i) % 2 = 1 := by omega
    have : ((a : Int) / 2 ^ i) % 2 = 0 ∨ ((a : Int) / 2 ^ i) % 2 = 1 := by omega
    omega
theorem or_u8 (a b : Nat) (ha : a < 256) (hb : b < 256) : Go.bits .or .u8 a b = ((a ||| b : Nat) : Int) := (bits_nat .u8 8 (by decide) wraps_u8 a b ha hb).2
theorem testBit_high {a i : Nat} (ha : a < 256) (hi : ¬ i < 8) : a.testBit i = false := Nat.testBit_lt_two_pow (Nat.lt_of_lt_of_le ha (by have : 2 ^ 8 ≤ 2 ^ i := Nat.pow_le_pow_right (by decide) (by omega); simpa using this))
theorem cov_bits {a b : Int} (h : cov a b) : b % 2 ≤ a % 2 ∧ b / 2 % 2 ≤ a / 2 % 2 ∧ b / 4 % 2 ≤ a / 4 % 2 ∧ b / 8 % 2 ≤ a / 8 % 2 ∧ b / 16 % 2 ≤ a / 16 % 2 ∧ b / 32 % 2 ≤ a / 32 % 2 ∧ b / 64 % 2 ≤ a / 64 % 2 ∧ b / 128 % 2 ≤ a / 128 % 2 := by
  refine ⟨?_, ?_, ?_, ?_, ?_, ?_, ?_, ?_⟩
  · simpa using h 0 (by decide)
  · simpa using h 1 (by decide)
  · simpa using h 2 (by decide)
  · simpa using h 3 (by decide)
  · simpa using h 4 (by decide)
  · simpa using h 5 (by decide)
  · simpa using h 6 (by decide)
  · simpa using h 7 (by decide)
theorem byte_sum_all : ∀ n : Fin 256, (n.val : Int) = (n.val : Int) % 2 + 2 * ((n.val : Int) / 2 % 2) + 4 * ((n.val : Int) / 4 % 2) + 8 * ((n.val : Int) / 8 % 2) + 16 * ((n.val : Int) / 16 % 2) + 32 * ((n.val : Int) / 32 % 2) + 64 * ((n.val : Int) / 64 % 2) + 128 * ((n.val : Int) / 128 % 2) := by decide +kernel
theorem byte_sum {c : Int} (h : Byte c) : c = c % 2 + 2 * (c / 2 % 2) + 4 * (c / 4 % 2) + 8 * (c / 8 % 2) + 16 * (c / 16 % 2) + 32 * (c / 32 % 2) + 64 * (c / 64 % 2) + 128 * (c / 128 % 2) := by
  obtain ⟨n, rfl, hn⟩ := byte_nat h
  exact byte_sum_all ⟨n, hn⟩
set_option maxHeartbeats 2000000 in
theorem cov_z8 {a b : Int} (h : cov a b) : z8 a ≤ z8 b := by
  obtain ⟨h0, h1, h2, h3, h4, h5, h6, h7⟩ := cov_bits h
  unfold z8
  generalize a % 2 = a0 at *; generalize a / 2 % 2 = a1 at *; generalize a / 4 % 2 = a2 at *; generalize a / 8 % 2 = a3 at *
  generalize a / 16 % 2 = a4 at *; generalize a / 32 % 2 = a5 at *; generalize a / 64 % 2 = a6 at *; generalize a / 128 % 2 = a7 at *
  generalize b % 2 = b0 at *; generalize b / 2 % 2 = b1 at *; generalize b / 4 % 2 = b2 at *; generalize b / 8 % 2 = b3 at *
  generalize b / 16 % 2 = b4 at *; generalize b / 32 % 2 = b5 at *; generalize b / 64 % 2 = b6 at *; generalize b / 128 % 2 = b7 at *
  omega
set_option maxHeartbeats 2000000 in
theorem cov_eq {a b : Int} (ha : Byte a) (hb : Byte b) (h : cov a b) (hz : z8 b ≤ z8 a) : a = b := by
  obtain ⟨h0, h1, h2, h3, h4, h5, h6, h7⟩ := cov_bits h
  have ea := byte_sum ha
  have eb := byte_sum hb
  unfold z8 at hz
  generalize a % 2 = a0 at *; generalize a / 2 % 2 = a1 at *; generalize a / 4 % 2 = a2 at *; generalize a / 8 % 2 = a3 at *
  generalize a / 16 % 2 = a4 at *; generalize a / 32 % 2 = a5 at *; generalize a / 64 % 2 = a6 at *; generalize a / 128 % 2 = a7 at *
  generalize b % 2 = b0 at *; generalize b / 2 % 2 = b1 at *; generalize b / 4 % 2 = b2 at *; generalize b / 8 % 2 = b3 at *
  generalize b / 16 % 2 = b4 at *; generalize b / 32 % 2 = b5 at *; generalize b / 64 % 2 = b6 at *; generalize b / 128 % 2 = b7 at *
  omega
set_option maxHeartbeats 2000000 in
theorem cov_le {a b : Int} (ha : Byte a) (hb : Byte b) (h : cov a b) : b ≤ a := by
  obtain ⟨h0, h1, h2, h3, h4, h5, h6, h7⟩ := cov_bits h
  have ea := byte_sum ha
  have eb := byte_sum hb
  generalize a % 2 = a0 at *; generalize a / 2 % 2 = a1 at *; generalize a / 4 % 2 = a2 at *; generalize a / 8 % 2 = a3 at *
  generalize a / 16 % 2 = a4 at *; generalize a / 32 % 2 = a5 at *; generalize a / 64 % 2 = a6 at *; generalize a / 128 % 2 = a7 at *
  generalize b % 2 = b0 at *; generalize b / 2 % 2 = b1 at *; generalize b / 4 % 2 = b2 at *; generalize b / 8 % 2 = b3 at *
  generalize b / 16 % 2 = b4 at *; generalize b / 32 % 2 = b5 at *; generalize b / 64 % 2 = b6 at *; generalize b / 128 % 2 = b7 at *
  omega
theorem cov_refl (a : Int) : cov a a := fun _ _ => Int.le_refl _
theorem cov_or {a b : Int} (ha : Byte a) (hb : Byte b) : Byte (Go.bits .or .u8 a b) ∧ cov (Go.bits .or .u8 a b) a := by
  obtain ⟨a, rfl, ha'⟩ := byte_nat ha
  obtain ⟨b, rfl, hb'⟩ := byte_nat hb
  clear ha hb
  have ha := ha'
  have hb := hb'
  clear ha' hb'
  rw [or_u8 a b ha hb]
  refine ⟨⟨by omega, by have := Nat.or_lt_two_pow (n := 8) ha hb; simp at this; omega⟩, ?_⟩
  rw [cov_iff]
  intro i _ h
  rw [Nat.testBit_or, h]
  rfl
def Cov : List Int → List Int → Prop
  | [], [] => True
  | a :: l, b :: m => cov a b ∧ Cov l m
  | _, _ => False
theorem Cov.len : ∀ {l m : List Int}, Cov l m → l.length = m.length
  | [], [], _ => rfl
  | _ :: l, _ :: m, h => by simp [Cov.len (l := l) (m := m) h.2]
  | [], _ :: _, h => h.elim
  | _ :: _, [], h => h.elim
theorem Cov.refl : ∀ l, Cov l l
  | [] => trivial
  | a :: l => ⟨cov_refl a, Cov.refl l⟩
theorem Cov.zeros_le : ∀ {l m : List Int}, Cov l m → zeros l ≤ zeros m
  | [], [], _ => Int.le_refl _
  | a :: l, b :: m, h => by
    have := cov_z8 h.1
    have := Cov.zeros_le (l := l) (m := m) h.2
    simp only [zeros]
    omega
  | [], _ :: _, h => h.elim
  | _ :: _, [], h => h.elim
theorem Cov.eq_of : ∀ {l m : List Int}, Bytes l → Bytes m → Cov l m → zeros m ≤ zeros l → l = m
  | [], [], _, _, _, _ => rfl
  | a :: l, b :: m, hl, hm, h, hz => by
    have h1 := cov_z8 h.1
    have h2 := Cov.zeros_le h.2
    simp only [zeros] at hz
    rw [cov_eq (hl a (by simp)) (hm b (by simp)) h.1 (by omega), Cov.eq_of (fun x hx => hl x (by simp [hx])) (fun x hx => hm x (by simp [hx])) h.2 (by omega)]
  | [], _ :: _, _, _, h, _ => h.elim
  | _ :: _, [], _, _, h, _ => h.elim
theorem Cov.append : ∀ {l m l' m' : List Int}, l.length = m.length → (Cov (l ++ l') (m ++ m') ↔ Cov l m ∧ Cov l' m')
  | [], [], _, _, _ => by simp [Cov]
  | a :: l, b :: m, l', m', h => by
    have ih := Cov.append (l := l) (m := m) (l' := l') (m' := m') (by simpa using h)
    simp only [List.cons_append, Cov, ih, and_assoc]
  | [], _ :: _, _, _, h => by simp at h
  | _ :: _, [], _, _, h => by simp at h
end Go.Proofs.Ytdohpjjggjehfaa.SMath
end
