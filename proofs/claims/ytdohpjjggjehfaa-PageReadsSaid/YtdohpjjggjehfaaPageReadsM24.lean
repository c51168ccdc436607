/- Texts of the proof of PageReads, part 24. -/
import Derived.Test.YtdohpjjggjehfaaPageReadsM10
import Derived.Laws.BitsLemmas
section
namespace Go.Proofs.Ytdohpjjggjehfaa.SMath
set_option linter.unusedVariables false
set_option linter.unusedSimpArgs false
open Go.RowKit Go.Proofs.YtdohpjjggjehfaaW.PrintWords Go.Proofs.YtdohpjjggjehfaaW.PrintMore
def Byte (x : Int) : Prop := 0 ≤ x ∧ x < 256
def Bytes (l : List Int) : Prop := ∀ x ∈ l, Byte x
theorem wf_u8 {x : Int} (h : (Lit.int .u8 x).wf = true) : Byte x := by
  simp [Lit.wf, IntKind.min, IntKind.max, IntKind.signed, IntKind.bits] at h
  unfold Byte; omega
theorem bytes_of_wf {l : List Int} (h : ∀ x ∈ l, (Lit.int .u8 x).wf = true) : Bytes l := fun x hx => wf_u8 (h x hx)
def z8 (c : Int) : Int := 8 - (c % 2 + c / 2 % 2 + c / 4 % 2 + c / 8 % 2 + c / 16 % 2 + c / 32 % 2 + c / 64 % 2 + c / 128 % 2)
def zeros : List Int → Int
  | [] => 0
  | c :: l => z8 c + zeros l
theorem z8_range (c : Int) : 0 ≤ z8 c ∧ z8 c ≤ 8 := by unfold z8; omega
theorem zeros_range (l : List Int) : 0 ≤ zeros l ∧ zeros l ≤ 8 * (l.length : Int) := by
  induction l with
  | nil => simp [zeros]
  | cons c l ih => have := z8_range c; simp only [zeros, List.length_cons]; omega
theorem zeros_append (a b : List Int) : zeros (a ++ b) = zeros a + zeros b := by
  induction a with
  | nil => simp [zeros]
  | cons c l ih => simp only [List.cons_append, zeros, ih]; omega
theorem z8_all : ∀ n : Fin 256, (z8 (n.val : Int) = 0 ↔ (n.val : Int) = 255) := by decide +kernel
theorem byte_nat {x : Int} (h : Byte x) : ∃ n : Nat, x = n ∧ n < 256 := ⟨x.toNat, by unfold Byte at h; omega, by unfold Byte at h; omega⟩
theorem z8_zero {c : Int} (h : Byte c) : z8 c = 0 ↔ c = 255 := by
  obtain ⟨n, rfl, hn⟩ := byte_nat h
  exact z8_all ⟨n, hn⟩
set_option maxHeartbeats 2000000 in
theorem zeros_zero {l : List Int} (h : Bytes l) : zeros l = 0 ↔ ∀ x ∈ l, x = 255 := by
  induction l with
  | nil => simp [zeros]
  | cons c l ih =>
    have h1 := z8_range c
    have h2 := zeros_range l
    have hc := z8_zero (h c (by simp))
    have hl := ih (fun x hx => h x (by simp [hx]))
    simp only [zeros, List.mem_cons, forall_eq_or_imp]
    constructor
    · intro h
      exact ⟨hc.mp (by omega), hl.mp (by omega)⟩
    · rintro ⟨h, h'⟩
      have := hc.mpr h
      have := hl.mpr h'
      omega
theorem and_one_u8 (x : Int) (h0 : 0 ≤ x) (h1 : x < 256) : Go.bits .and .u8 x 1 = x % 2 := by
  have := bits_mask .u8 8 (by decide) wraps_u8 1 (by decide) x h0 (by simpa using h1)
  simpa using this
theorem wraps_u64 (n : Int) (h₀ : 0 ≤ n) (h₁ : n < 2 ^ 64) : IntKind.u64.wrap n = n := by
  simp [IntKind.wrap, IntKind.bits, IntKind.signed]
  omega
theorem wrap_u64 (n : Int) : IntKind.u64.wrap n = n % 18446744073709551616 := by simp [IntKind.wrap, IntKind.bits, IntKind.signed]
theorem u64_id {n : Int} (h0 : 0 ≤ n) (h1 : n < 18446744073709551616) : IntKind.u64.wrap n = n := by rw [wrap_u64]; omega
theorem and_one_u64 (x : Int) (h0 : 0 ≤ x) (h1 : x < 18446744073709551616) : Go.bits .and .u64 x 1 = x % 2 := by
  have := bits_mask .u64 64 (by decide) wraps_u64 1 (by decide) x h0 (by simpa using h1)
  simpa using this
theorem shr_at (k : IntKind) (x : Int) (i : Nat) (h : i ≤ k.bits) : shr k x (i : Int) = x / 2 ^ i := by
  unfold shr
  rw [Int.toNat_natCast, Nat.min_eq_left h]
theorem shr_range {k : IntKind} {x : Int} (i : Int) {m : Int} (h0 : 0 ≤ x) (h1 : x < m) : 0 ≤ shr k x i ∧ shr k x i < m := by
  unfold shr
  have h2 : (0 : Int) < 2 ^ min i.toNat k.bits := Int.pow_pos (by decide)
  constructor
  · exact Int.ediv_nonneg h0 (by omega)
  · have := Int.ediv_le_self (2 ^ min i.toNat k.bits) h0
    omega
theorem bit_test (c : Int) (hc : Byte c) (i : Nat) (hi : i ≤ 8) : Go.bits .and .u8 (shr .u8 c (i : Int)) 1 = (c / 2 ^ i) % 2 := by
  have h2 := shr_range (k := .u8) (i : Int) hc.1 hc.2
  rw [and_one_u8 _ h2.1 h2.2, shr_at .u8 c i hi]
def cov (a b : Int) : Prop := ∀ i < 8, (b / 2 ^ i) % 2 ≤ (a / 2 ^ i) % 2
theorem or_u8 (a b : Nat) (ha : a < 256) (hb : b < 256) : Go.bits .or .u8 a b = ((a ||| b : Nat) : Int) := (bits_nat .u8 8 (by decide) wraps_u8 a b ha hb).2
theorem testBit_high {a i : Nat} (ha : a < 256) (hi : ¬ i < 8) : a.testBit i = false := Nat.testBit_lt_two_pow (Nat.lt_of_lt_of_le ha (by have : 2 ^ 8 ≤ 2 ^ i := Nat.pow_le_pow_right (by decide) (by omega); simpa using this))
theorem cov_refl (a : Int) : cov a a := fun _ _ => Int.le_refl _
def Cov : List Int → List Int → Prop
  | [], [] => True
  | a :: l, b :: m => cov a b ∧ Cov l m
  | _, _ => False
theorem Cov.len : ∀ {l m : List Int}, Cov l m → l.length = m.length
  | [], [], _ => rfl
  | _ :: l, _ :: m, h => by simp [Cov.len (l := l) (m := m) h.2]
  | [], _ :: _, h => h.elim
  | _ :: _, [], h => h.elim
theorem Cov.refl : ∀ l, Cov l l
  | [] => trivial
  | a :: l => ⟨cov_refl a, Cov.refl l⟩
theorem Cov.append : ∀ {l m l' m' : List Int}, l.length = m.length → (Cov (l ++ l') (m ++ m') ↔ Cov l m ∧ Cov l' m')
  | [], [], _, _, _ => by simp [Cov]
  | a :: l, b :: m, l', m', h => by
    have ih := Cov.append (l := l) (m := m) (l' := l') (m' := m') (by simpa using h)
    simp only [List.cons_append, Cov, ih, and_assoc]
  | [], _ :: _, _, _, h => by simp at h
  | _ :: _, [], _, _, h => by simp at h
end Go.Proofs.Ytdohpjjggjehfaa.SMath
end
