/- Texts of the proof of PageReads, part 26. -/
import Derived.Test.YtdohpjjggjehfaaPageReadsM25
import Derived.Test.YtdohpjjggjehfaaPageReadsM22
import Derived.Test.YtdohpjjggjehfaaPageReadsM20
section
namespace Go.Proofs.Ytdohpjjggjehfaa.SealEv
set_option linter.unusedVariables false
set_option linter.unusedSimpArgs false
open Go.RowKit Go.Proofs.Ytdohpjjggjehfaa.Print Go.Proofs.Ytdohpjjggjehfaa.SMath Go.Proofs.YtdohpjjggjehfaaW.PrintWords Go.Proofs.YtdohpjjggjehfaaW.PrintLast Go.Proofs.YtdohpjjggjehfaaW.PrintMore
def zb (c : Int) (j : Nat) : Int := 1 - (c / 2 ^ j) % 2
def zsum (c : Int) (j : Nat) : Nat → Int
  | 0 => 0
  | d + 1 => zb c j + zsum c (j + 1) d
set_option maxHeartbeats 2000000 in
theorem zsum8 (c : Int) : zsum c 0 8 = z8 c := by
  simp only [zsum, zb, z8, Nat.zero_add, Nat.reduceAdd]
  rw [show c / 2 ^ 0 = c from by simp, show c / 2 ^ 1 = c / 2 from rfl, show c / 2 ^ 2 = c / 4 from rfl, show c / 2 ^ 3 = c / 8 from rfl, show c / 2 ^ 4 = c / 16 from rfl, show c / 2 ^ 5 = c / 32 from rfl, show c / 2 ^ 6 = c / 64 from rfl, show c / 2 ^ 7 = c / 128 from rfl]
  generalize c % 2 = a0; generalize c / 2 % 2 = a1; generalize c / 4 % 2 = a2; generalize c / 8 % 2 = a3
  generalize c / 16 % 2 = a4; generalize c / 32 % 2 = a5; generalize c / 64 % 2 = a6; generalize c / 128 % 2 = a7
  omega
set_option maxHeartbeats 2000000 in
theorem seal_zeros_in (c : Int) (hc : Byte c) (x7 : List Int) (x8 x9 r : Int) (d : Nat) : ∀ (j : Nat) (x3 : Int), j + d = 8 → 0 ≤ x3 → x3 + d ≤ 2000000000000000 →
    Ev (fun k => seal_Zeros.l0 k (x3 + zsum c j d) x7 x8 (wrap64 (x9 + 1))) r → Ev (fun k => seal_Zeros.l1 k x3 c x7 x8 x9 (j : Int)) r := by
  induction d with
  | zero =>
    intro j x3 hj h0 h1 h
    refine Ev.step (f := fun k => seal_Zeros.l0 k x3 x7 x8 (wrap64 (x9 + 1))) (fun k => ?_) (by have h' := h; rw [show zsum c j 0 = 0 from rfl, Int.add_zero] at h'; exact h')
    simp only [seal_Zeros.l1]
    rw [if_neg (by omega)]
  | succ d ih =>
    intro j x3 hj h0 h1 h
    have hb := Aside0.mk (bit_test c hc j (by omega))
    have hw : wrap64 ((j : Int) + 1) = ((j + 1 : Nat) : Int) := by rw [w64 (by omega) (by omega)]; rfl
    have hz : zsum c j (d + 1) = zb c j + zsum c (j + 1) d := rfl
    have hzb : zb c j = 1 - (c / 2 ^ j) % 2 := rfl
    by_cases h2 : (c / 2 ^ j) % 2 = 0
    · refine Ev.step (f := fun k => seal_Zeros.l1 k (x3 + 1) c x7 x8 x9 ((j + 1 : Nat) : Int)) (fun k => ?_) (ih (j + 1) (x3 + 1) (by omega) (by omega) (by omega) (by rw [hz, hzb, h2, Int.sub_zero, ← Int.add_assoc] at h; exact h))
      simp only [seal_Zeros.l1]
      rw [if_pos (by omega), if_pos (by omega), if_pos (by rw [hb.out]; exact h2), hw, w64 (n := x3 + 1) (by omega) (by omega)]
    · have h3 : (c / 2 ^ j) % 2 = 1 := by omega
      refine Ev.step (f := fun k => seal_Zeros.l1 k x3 c x7 x8 x9 ((j + 1 : Nat) : Int)) (fun k => ?_) (ih (j + 1) x3 (by omega) (by omega) (by omega) (by rw [hz, hzb, h3, Int.sub_self, Int.zero_add] at h; exact h))
      simp only [seal_Zeros.l1]
      rw [if_pos (by omega), if_pos (by omega), if_neg (by rw [hb.out]; exact h2), hw]
set_option maxHeartbeats 2000000 in
theorem seal_zeros_out (l : List Int) (hl : Bytes l) (hn : l.length ≤ 140737488355328) (d : Nat) : ∀ (i : Nat) (x3 : Int), i + d = l.length → 0 ≤ x3 → x3 ≤ 8 * (i : Int) → Ev (fun k => seal_Zeros.l0 k x3 l (l.length : Int) (i : Int)) (x3 + zeros (l.drop i)) := by
  induction d with
  | zero =>
    intro i x3 hi h0 h1
    refine Ev.step (f := fun _ => some (x3 + zeros (l.drop i))) (fun k => ?_) (Ev.now _)
    simp only [seal_Zeros.l0]
    rw [if_neg (by omega), List.drop_of_length_le (by omega)]
    simp [zeros]
  | succ d ih =>
    intro i x3 hi h0 h1
    have hlt : i < l.length := by omega
    have hb := byte_at hl i hlt
    have hz := z8_range l[i]
    have hd : l.drop i = l[i] :: l.drop (i + 1) := List.drop_eq_getElem_cons hlt
    have hw : wrap64 ((i : Int) + 1) = ((i + 1 : Nat) : Int) := by rw [w64 (by omega) (by omega)]; rfl
    refine Ev.step (f := fun k => seal_Zeros.l1 k x3 l[i] l (l.length : Int) (i : Int) ((0 : Nat) : Int)) (fun k => ?_) ?_
    · simp only [seal_Zeros.l0]
      rw [if_pos (by omega), if_pos (by omega), if_pos (by omega), rd_nat l i hlt]
      rfl
    · refine seal_zeros_in l[i] hb l _ _ _ 8 0 x3 rfl h0 (by omega) ?_
      rw [zsum8, hw]
      have := ih (i + 1) (x3 + z8 l[i]) (by omega) (by omega) (by push_cast; omega)
      rw [hd]
      simp only [zeros]
      rw [← Int.add_assoc]
      exact this
theorem seal_zeros (l : List Int) (hl : Bytes l) (hn : l.length ≤ 140737488355328) : Ev (fun k => seal_Zeros.f k l) (zeros l) := by
  have := seal_zeros_out l hl hn l.length 0 0 (by omega) (by omega) (by omega)
  rw [Int.zero_add, List.drop_zero] at this
  exact this
set_option maxHeartbeats 2000000 in
theorem ref_zeros_in (l : List Int) (hl : Bytes l) (hn : l.length ≤ 140737488355328) (c : Int) (i : Nat) (hlt : i < l.length) (hc : l[i] = c) (r : Int) (d : Nat) : ∀ (j : Nat) (x3 : Int), j + d = 8 → 0 ≤ x3 → x3 + d ≤ 2000000000000000 →
    Ev (fun k => slipwayref01_Zeros.l0 k l (x3 + zsum c j d) (wrap64 ((i : Int) + 1))) r → Ev (fun k => slipwayref01_Zeros.l1 k l x3 (i : Int) (j : Int)) r := by
  have hb8 : Byte c := by rw [← hc]; exact byte_at hl i hlt
  induction d with
  | zero =>
    intro j x3 hj h0 h1 h
    refine Ev.step (f := fun k => slipwayref01_Zeros.l0 k l x3 (wrap64 ((i : Int) + 1))) (fun k => ?_) (by have h' := h; rw [show zsum c j 0 = 0 from rfl, Int.add_zero] at h'; exact h')
    simp only [slipwayref01_Zeros.l1]
    rw [if_neg (by omega)]
  | succ d ih =>
    intro j x3 hj h0 h1 h
    have hb := Aside0.mk (bit_test c hb8 j (by omega))
    have hw : wrap64 ((j : Int) + 1) = ((j + 1 : Nat) : Int) := by rw [w64 (by omega) (by omega)]; rfl
    have hu : IntKind.u64.wrap (j : Int) = (j : Int) := u64_small j (by omega)
    have hz : zsum c j (d + 1) = zb c j + zsum c (j + 1) d := rfl
    have hzb : zb c j = 1 - (c / 2 ^ j) % 2 := rfl
    by_cases h2 : (c / 2 ^ j) % 2 = 0
    · refine Ev.step (f := fun k => slipwayref01_Zeros.l1 k l (x3 + 1) (i : Int) ((j + 1 : Nat) : Int)) (fun k => ?_) (ih (j + 1) (x3 + 1) (by omega) (by omega) (by omega) (by rw [hz, hzb, h2, Int.sub_zero, ← Int.add_assoc] at h; exact h))
      simp only [slipwayref01_Zeros.l1]
      rw [if_pos (by omega), if_pos (by omega), if_pos (by omega), hu, if_pos (by omega), rd_nat l i hlt, hc, if_pos (by rw [hb.out]; exact h2), hw, w64 (n := x3 + 1) (by omega) (by omega)]
    · have h3 : (c / 2 ^ j) % 2 = 1 := by omega
      refine Ev.step (f := fun k => slipwayref01_Zeros.l1 k l x3 (i : Int) ((j + 1 : Nat) : Int)) (fun k => ?_) (ih (j + 1) x3 (by omega) (by omega) (by omega) (by rw [hz, hzb, h3, Int.sub_self, Int.zero_add] at h; exact h))
      simp only [slipwayref01_Zeros.l1]
      rw [if_pos (by omega), if_pos (by omega), if_pos (by omega), hu, if_pos (by omega), rd_nat l i hlt, hc, if_neg (by rw [hb.out]; exact h2), hw]
set_option maxHeartbeats 2000000 in
theorem ref_zeros_out (l : List Int) (hl : Bytes l) (hn : l.length ≤ 140737488355328) (d : Nat) : ∀ (i : Nat) (x3 : Int), i + d = l.length → 0 ≤ x3 → x3 ≤ 8 * (i : Int) → Ev (fun k => slipwayref01_Zeros.l0 k l x3 (i : Int)) (x3 + zeros (l.drop i)) := by
  induction d with
  | zero =>
    intro i x3 hi h0 h1
    refine Ev.step (f := fun _ => some (x3 + zeros (l.drop i))) (fun k => ?_) (Ev.now _)
    simp only [slipwayref01_Zeros.l0]
    rw [if_neg (by omega), List.drop_of_length_le (by omega)]
    simp [zeros]
  | succ d ih =>
    intro i x3 hi h0 h1
    have hlt : i < l.length := by omega
    have hz := z8_range l[i]
    have hd : l.drop i = l[i] :: l.drop (i + 1) := List.drop_eq_getElem_cons hlt
    have hw : wrap64 ((i : Int) + 1) = ((i + 1 : Nat) : Int) := by rw [w64 (by omega) (by omega)]; rfl
    refine Ev.step (f := fun k => slipwayref01_Zeros.l1 k l x3 (i : Int) ((0 : Nat) : Int)) (fun k => ?_) ?_
    · simp only [slipwayref01_Zeros.l0]
      rw [if_pos (by omega)]
      rfl
    · refine ref_zeros_in l hl hn l[i] i hlt rfl _ 8 0 x3 rfl h0 (by omega) ?_
      rw [zsum8, hw]
      have := ih (i + 1) (x3 + z8 l[i]) (by omega) (by omega) (by push_cast; omega)
      rw [hd]
      simp only [zeros]
      rw [← Int.add_assoc]
      exact this
theorem ref_zeros (l : List Int) (hl : Bytes l) (hn : l.length ≤ 140737488355328) : Ev (fun k => slipwayref01_Zeros.f k l) (zeros l) := by
  have := ref_zeros_out l hl hn l.length 0 0 (by omega) (by omega) (by omega)
  rw [Int.zero_add, List.drop_zero] at this
  exact this
def nb (n : Int) : List Int := [n / 16777216 % 256, n / 65536 % 256, n / 256 % 256, n % 256]
theorem nb_bytes (n : Int) : Bytes (nb n) := by
  intro x hx
  simp only [nb, List.mem_cons, List.not_mem_nil, or_false] at hx
  unfold Byte
  omega
def sealed (l : List Int) : List Int × Int := if (l.length : Int) > 1048576 then ([], 3) else (l ++ nb (zeros l), 0)
theorem seal_sum {l : List Int} (hl : Bytes l) (hn : l.length ≤ 140737488355328) : Ev (fun k => seal_sum.f k l) (nb (zeros l)) := by
  unfold seal_sum.f
  exact Ev.bind (seal_zeros l hl hn) (Ev.now _)
theorem grow_nil (n : Int) (h0 : 0 ≤ n) (h1 : n < 140737488355328) : slices_Grow_byte_byte.f [] n = some [] := by
  unfold slices_Grow_byte_byte.f
  rw [if_neg (by omega), w64 (by omega) (by omega)]
  by_cases h : n > 0
  · rw [if_pos h, if_pos (by omega), if_pos (by simp; omega)]
    simp only [Option.bind_some]
    rw [if_pos (by omega)]
    simp
  · rw [if_neg h]
set_option maxHeartbeats 2000000 in
theorem concat2 (a b : List Int) (h : a.length + b.length < 140737488355328) : Ev (fun k => slices_Concat_byte_byte.f k [a, b]) (a ++ b) := by
  refine Ev.of (fun k => slices_Concat_byte_byte.mono _ k) (k := 7) ?_
  have g0 := grow_nil ((a.length : Int) + b.length) (by omega) (by omega)
  have e0 : rd_L3 [a, b] 0 = a := rfl
  have e1 : rd_L3 [a, b] 1 = b := rfl
  simp only [slices_Concat_byte_byte.f, slices_Concat_byte_byte.l0, List.length_cons, List.length_nil, e0, e1, Int.zero_add, Nat.zero_add, Nat.reduceAdd]
  rw [w64 (n := (a.length : Int)) (by omega) (by omega), show wrap64 (1 : Int) = 1 from w64 (n := 1) (by decide) (by decide), e1, w64 (n := (a.length : Int) + b.length) (by omega) (by omega), show wrap64 ((1 : Int) + 1) = 2 from w64 (n := 2) (by decide) (by decide)]
  rw [if_pos (by decide), if_pos (by decide), if_pos (by decide), if_neg (by omega), if_pos (by decide), if_pos (by decide), if_pos (by decide), if_neg (by omega), if_neg (by decide), g0]
  simp only [Option.bind_some, slices_Concat_byte_byte.l1, List.length_cons, List.length_nil, e0, e1, Int.zero_add, Nat.zero_add, Nat.reduceAdd, List.nil_append]
  rw [show wrap64 (1 : Int) = 1 from w64 (n := 1) (by decide) (by decide), e1, show wrap64 ((1 : Int) + 1) = 2 from w64 (n := 2) (by decide) (by decide)]
  rw [if_pos (by decide), if_pos (by decide), if_pos (by decide), if_pos (by omega), if_pos (by decide), if_pos (by decide), if_pos (by decide), if_pos (by omega), if_neg (by decide)]
theorem seal_seal {l : List Int} (hl : Bytes l) (hn : l.length ≤ 140737488355328) : Ev (fun k => seal_Seal.f k l) (sealed l) := by
  unfold seal_Seal.f sealed
  by_cases h : (l.length : Int) > 1048576
  · rw [if_pos h]
    exact Ev.iff_pos h (Ev.now _)
  · rw [if_neg h]
    refine Ev.iff_neg h (Ev.bind (seal_sum hl hn) (Ev.bind (concat2 l (nb (zeros l)) (by simp [nb]; omega)) (Ev.now _)))
end Go.Proofs.Ytdohpjjggjehfaa.SealEv
end
