/- Texts of the proof of PageReads, part 27. -/
import Derived.Test.YtdohpjjggjehfaaPageReadsM26
import Derived.Test.YtdohpjjggjehfaaPageReadsM20
import Derived.Test.YtdohpjjggjehfaaPageReadsM22
section
namespace Go.Proofs.Ytdohpjjggjehfaa.SealEv
set_option linter.unusedVariables false
set_option linter.unusedSimpArgs false
open Go.RowKit Go.Proofs.Ytdohpjjggjehfaa.Print Go.Proofs.Ytdohpjjggjehfaa.SMath Go.Proofs.YtdohpjjggjehfaaW.PrintWords Go.Proofs.YtdohpjjggjehfaaW.PrintLast Go.Proofs.YtdohpjjggjehfaaW.PrintMore
set_option maxHeartbeats 2000000 in
theorem slices_equal_from (a b : List Int) (hlen : a.length = b.length) (hn : a.length ≤ 140737488355328) (d : Nat) : ∀ (i : Nat), i + d = a.length → a.take i = b.take i →
    Ev (fun k => slices_Equal_byte_byte.l0 k a b (a.length : Int) (i : Int)) (decide (a = b)) := by
  induction d with
  | zero =>
    intro i hi h
    have hab : a = b := by rw [List.take_of_length_le (by omega), List.take_of_length_le (by omega)] at h; exact h
    refine Ev.step (f := fun _ => some true) (fun k => ?_) (by simp only [hab, decide_true]; exact Ev.now _)
    simp only [slices_Equal_byte_byte.l0]
    rw [if_neg (by omega)]
  | succ d ih =>
    intro i hi h
    have h1 : i < a.length := by omega
    have h2 : i < b.length := by omega
    have hs := suc64 i a.length h1 hn
    by_cases he : a[i] = b[i]
    · refine Ev.step (f := fun k => slices_Equal_byte_byte.l0 k a b (a.length : Int) ((i + 1 : Nat) : Int)) (fun k => ?_) (ih (i + 1) (by omega) (by rw [List.take_succ_eq_append_getElem h1, List.take_succ_eq_append_getElem h2, h, he]))
      simp only [slices_Equal_byte_byte.l0]
      rw [if_pos (by omega), if_pos (by omega), if_pos (by omega), if_pos (by omega), rd_nat a i h1, rd_nat b i h2, if_pos he, hs]
    · have hab : ¬ a = b := fun e => he (by subst e; rfl)
      refine Ev.step (f := fun _ => some false) (fun k => ?_) (by simp only [hab, decide_false]; exact Ev.now _)
      simp only [slices_Equal_byte_byte.l0]
      rw [if_pos (by omega), if_pos (by omega), if_pos (by omega), if_pos (by omega), rd_nat a i h1, rd_nat b i h2, if_neg he]
theorem slices_equal (a b : List Int) (hn : a.length ≤ 140737488355328) : Ev (fun k => slices_Equal_byte_byte.f k a b) (decide (a = b)) := by
  unfold slices_Equal_byte_byte.f
  by_cases h : a.length = b.length
  · exact Ev.iff_pos (by omega) (slices_equal_from a b h hn a.length 0 (by omega) rfl)
  · have hab : ¬ a = b := fun e => h (by rw [e])
    simp only [hab, decide_false]
    exact Ev.iff_neg (by omega) (Ev.now _)
def state (l : List Int) : Int := if 0 < l.length ∧ zeros l = 0 then 10 else if l.length < 4 ∨ 1048580 < l.length then 11 else if l.drop (l.length - 4) = nb (zeros (l.take (l.length - 4))) then 0 else 11
theorem len4 {l : List Int} (h : 4 ≤ l.length) (hn : l.length ≤ 140737488355328) : wrap64 ((l.length : Int) - 4) = ((l.length - 4 : Nat) : Int) := by rw [w64 (by omega) (by omega)]; omega
set_option maxHeartbeats 2000000 in
theorem seal_state_j {l : List Int} (hl : Bytes l) (hn : l.length ≤ 140737488355328) (b : Bool) (hb : b = decide (0 < l.length ∧ zeros l = 0)) :
    Ev (fun k => seal_State.j0 k l (wrap64 ((l.length : Int) - 4)) b) (state l) := by
  unfold state
  by_cases h0 : 0 < l.length ∧ zeros l = 0
  · rw [if_pos h0]
    refine Ev.step (f := fun _ => some 10) (fun k => ?_) (Ev.now _)
    simp only [seal_State.j0]
    rw [if_pos (by rw [hb]; exact decide_eq_true h0)]
  · rw [if_neg h0]
    have hb' : ¬ b = true := by rw [hb]; simpa using h0
    have hw : wrap64 ((l.length : Int) - 4) = (l.length : Int) - 4 := w64 (by omega) (by omega)
    by_cases h1 : l.length < 4 ∨ 1048580 < l.length
    · rw [if_pos h1]
      refine Ev.step (f := fun _ => some 11) (fun k => ?_) (Ev.now _)
      simp only [seal_State.j0]
      rw [if_neg hb', hw]
      by_cases h2 : (l.length : Int) - 4 < 0
      · rw [if_pos h2]
      · rw [if_neg h2, if_pos (by omega)]
    · rw [if_neg h1, len4 (by omega) hn]
      have hs := seal_sum (bytes_take hl (l.length - 4)) (by rw [List.length_take]; omega)
      have he := slices_equal (l.drop (l.length - 4)) (nb (zeros (l.take (l.length - 4)))) (by rw [List.length_drop]; omega)
      refine Ev.step (f := fun k => (seal_sum.f k (l.take (l.length - 4))).bind fun t => (slices_Equal_byte_byte.f k (l.drop (l.length - 4)) t).bind fun q => if q = true then some 0 else some 11) (fun k => ?_) ?_
      · simp only [seal_State.j0]
        rw [if_neg hb', if_neg (by omega), if_neg (by omega), if_pos (by omega), if_pos (by omega)]
        rfl
      · refine Ev.bind hs (Ev.bind he ?_)
        by_cases h3 : l.drop (l.length - 4) = nb (zeros (l.take (l.length - 4)))
        · simp only [h3, decide_true, if_true]
          exact Ev.now _
        · simp only [h3, decide_false, if_false, Bool.false_eq_true]
          exact Ev.now _
theorem seal_state {l : List Int} (hl : Bytes l) (hn : l.length ≤ 140737488355328) : Ev (fun k => seal_State.f k l) (state l) := by
  unfold seal_State.f
  by_cases h : (l.length : Int) > 0
  · refine Ev.iff_pos h (Ev.bind (seal_zeros l hl hn) (seal_state_j hl hn _ ?_))
    have h' : 0 < l.length := by omega
    by_cases hz : zeros l = 0 <;> simp [hz, h']
  · refine Ev.iff_neg h (seal_state_j hl hn _ ?_)
    have h' : ¬ 0 < l.length := by omega
    simp [h']
set_option maxHeartbeats 2000000 in
theorem ref_ones_from (l : List Int) (hn : l.length ≤ 140737488355328) (d : Nat) : ∀ (i : Nat), i + d = l.length → (∀ j, j < i → ∀ h : j < l.length, l[j] = 255) →
    Ev (fun k => slipwayref01_ones.l0 k l (i : Int)) (decide (∀ x ∈ l, x = 255)) := by
  induction d with
  | zero =>
    intro i hi h
    have hab : ∀ x ∈ l, x = 255 := fun x hx => by
      obtain ⟨j, hj, rfl⟩ := List.getElem_of_mem hx
      exact h j (by omega) hj
    refine Ev.step (f := fun _ => some true) (fun k => ?_) (by rw [decide_eq_true hab]; exact Ev.now _)
    simp only [slipwayref01_ones.l0]
    rw [if_neg (by omega)]
  | succ d ih =>
    intro i hi h
    have h1 : i < l.length := by omega
    have hs := suc64 i l.length h1 hn
    by_cases he : l[i] = 255
    · refine Ev.step (f := fun k => slipwayref01_ones.l0 k l ((i + 1 : Nat) : Int)) (fun k => ?_) (ih (i + 1) (by omega) (fun j hj hl => ?_))
      · simp only [slipwayref01_ones.l0]
        rw [if_pos (by omega), if_pos (by omega), rd_nat l i h1, if_pos he, hs]
      · rcases Nat.lt_or_ge j i with hji | hji
        · exact h j hji hl
        · have : j = i := by omega
          subst this
          exact he
    · have hab : ¬ ∀ x ∈ l, x = 255 := fun e => he (e _ (List.getElem_mem h1))
      refine Ev.step (f := fun _ => some false) (fun k => ?_) (by rw [decide_eq_false hab]; exact Ev.now _)
      simp only [slipwayref01_ones.l0]
      rw [if_pos (by omega), if_pos (by omega), rd_nat l i h1, if_neg he]
theorem ref_ones (l : List Int) (hn : l.length ≤ 140737488355328) : Ev (fun k => slipwayref01_ones.f k l) (decide (∀ x ∈ l, x = 255)) := ref_ones_from l hn l.length 0 (by omega) (fun j hj => by omega)
theorem or_i64 (i : Nat) (x y : Int) (hi : i ≤ 40) (hx0 : 0 ≤ x) (hx : x % 2 ^ i = 0) (hx1 : x < 2 ^ 40) (hy0 : 0 ≤ y) (hy : y < 2 ^ i) : Go.bits .or .i64 x y = x + y := by
  have hy1 : y < 2 ^ 40 := Int.lt_of_lt_of_le hy (by exact_mod_cast Nat.pow_le_pow_right (by decide) hi)
  exact bits_join .i64 40 (by decide) (fun n h0 h1 => by rw [IntKind.wrap_i64]; omega) i x y hx0 hx hx1 hy0 hy hy1
set_option maxHeartbeats 2000000 in
theorem four_bytes {a b c d : Int} (ha : Byte a) (hb : Byte b) (hc : Byte c) (hd : Byte d) :
    Go.bits .or .i64 (Go.bits .or .i64 (Go.bits .or .i64 (wrap64 ((wrap64 a) * 16777216)) (wrap64 ((wrap64 b) * 65536))) (wrap64 ((wrap64 c) * 256))) (wrap64 d) = a * 16777216 + b * 65536 + c * 256 + d := by
  unfold Byte at ha hb hc hd
  rw [w64 (n := a) (by omega) (by omega), w64 (n := b) (by omega) (by omega), w64 (n := c) (by omega) (by omega), w64 (n := d) (by omega) (by omega), w64 (n := a * 16777216) (by omega) (by omega), w64 (n := b * 65536) (by omega) (by omega), w64 (n := c * 256) (by omega) (by omega)]
  rw [or_i64 24 (a * 16777216) (b * 65536) (by decide) (by omega) (by omega) (by omega) (by omega) (by omega)]
  rw [or_i64 16 (a * 16777216 + b * 65536) (c * 256) (by decide) (by omega) (by omega) (by omega) (by omega) (by omega)]
  rw [or_i64 8 (a * 16777216 + b * 65536 + c * 256) d (by decide) (by omega) (by omega) (by omega) (by omega) (by omega)]
theorem nb_sum {n : Int} (h0 : 0 ≤ n) (h1 : n < 4294967296) : n = 16777216 * (n / 16777216 % 256) + 65536 * (n / 65536 % 256) + 256 * (n / 256 % 256) + n % 256 := by omega
theorem nb_eq {a b c d n : Int} (ha : Byte a) (hb : Byte b) (hc : Byte c) (hd : Byte d) (h0 : 0 ≤ n) (h1 : n < 4294967296) : [a, b, c, d] = nb n ↔ a * 16777216 + b * 65536 + c * 256 + d = n := by
  unfold Byte at ha hb hc hd
  have hs := nb_sum h0 h1
  simp only [nb, List.cons.injEq, and_true]
  constructor
  · rintro ⟨rfl, rfl, rfl, rfl⟩
    omega
  · intro h
    refine ⟨by omega, by omega, by omega, by omega⟩
theorem last4 {l : List Int} (h : 4 ≤ l.length) : l.drop (l.length - 4) = [l[l.length - 4], l[l.length - 4 + 1], l[l.length - 4 + 2], l[l.length - 4 + 3]] := by
  rw [List.drop_eq_getElem_cons (by omega), List.drop_eq_getElem_cons (by omega), List.drop_eq_getElem_cons (by omega), List.drop_eq_getElem_cons (by omega), List.drop_of_length_le (by omega)]
set_option maxHeartbeats 2000000 in
theorem ref_state_j {l : List Int} (hl : Bytes l) (hn : l.length ≤ 140737488355328) (b : Bool) (hb : b = decide (0 < l.length ∧ zeros l = 0)) :
    Ev (fun k => slipwayref01_State.j0 k l b) (state l) := by
  unfold state
  by_cases h0 : 0 < l.length ∧ zeros l = 0
  · rw [if_pos h0]
    refine Ev.step (f := fun _ => some 10) (fun k => ?_) (Ev.now _)
    simp only [slipwayref01_State.j0]
    rw [if_pos (by rw [hb]; exact decide_eq_true h0)]
  · rw [if_neg h0]
    have hb' : ¬ b = true := by rw [hb]; simpa using h0
    by_cases h1 : l.length < 4 ∨ 1048580 < l.length
    · rw [if_pos h1]
      refine Ev.step (f := fun k => slipwayref01_State.j1 k l true) (fun k => ?_) (Ev.step (f := fun _ => some 11) (fun k => ?_) (Ev.now _))
      · simp only [slipwayref01_State.j0]
        rw [if_neg hb']
        by_cases h2 : (l.length : Int) < 4
        · rw [if_pos h2]
        · rw [if_neg h2, decide_eq_true (by omega)]
      · simp only [slipwayref01_State.j1]
        rw [if_pos trivial]
    · rw [if_neg h1]
      have h4 : 4 ≤ l.length := by omega
      have hz := ref_zeros (l.take (l.length - 4)) (bytes_take hl (l.length - 4)) (by rw [List.length_take]; omega)
      have hzr := zeros_range (l.take (l.length - 4))
      have e0 := len4 h4 hn
      have e1 : wrap64 (((l.length - 4 : Nat) : Int) + 1) = ((l.length - 4 + 1 : Nat) : Int) := by rw [w64 (by omega) (by omega)]; rfl
      have e2 : wrap64 (((l.length - 4 : Nat) : Int) + 2) = ((l.length - 4 + 2 : Nat) : Int) := by rw [w64 (by omega) (by omega)]; rfl
      have e3 : wrap64 (((l.length - 4 : Nat) : Int) + 3) = ((l.length - 4 + 3 : Nat) : Int) := by rw [w64 (by omega) (by omega)]; rfl
      have b0 := byte_at hl (l.length - 4) (by omega)
      have b1 := byte_at hl (l.length - 4 + 1) (by omega)
      have b2 := byte_at hl (l.length - 4 + 2) (by omega)
      have b3 := byte_at hl (l.length - 4 + 3) (by omega)
      have hzl : (l.take (l.length - 4)).length ≤ 1048576 := by rw [List.length_take]; omega
      have hq := nb_eq (n := zeros (l.take (l.length - 4))) b0 b1 b2 b3 hzr.1 (by omega)
      rw [← last4 h4] at hq
      refine Ev.step (f := fun k => slipwayref01_State.j1 k l false) (fun k => ?_) (Ev.step (f := fun k => (slipwayref01_Zeros.f k (l.take (l.length - 4))).bind fun t => if l[l.length - 4] * 16777216 + l[l.length - 4 + 1] * 65536 + l[l.length - 4 + 2] * 256 + l[l.length - 4 + 3] = t then some 0 else some 11) (fun k => ?_) (Ev.bind hz ?_))
      · simp only [slipwayref01_State.j0]
        rw [if_neg hb', if_neg (by omega), decide_eq_false (by omega)]
      · simp only [slipwayref01_State.j1]
        rw [if_neg (by decide), e0, e1, e2, e3, rd_nat l _ (by omega), rd_nat l _ (by omega), rd_nat l _ (by omega), rd_nat l _ (by omega), four_bytes b0 b1 b2 b3]
        rw [if_pos (by omega), if_pos (by omega), if_pos (by omega), if_pos (by omega), if_pos (by omega), if_pos (by omega), if_pos (by omega), if_pos (by omega), if_pos (by omega)]
        rfl
      · by_cases h3 : l.drop (l.length - 4) = nb (zeros (l.take (l.length - 4)))
        · rw [if_pos h3, if_pos (hq.mp h3)]
          exact Ev.now _
        · rw [if_neg h3, if_neg (fun e => h3 (hq.mpr e))]
          exact Ev.now _
set_option maxHeartbeats 2000000 in
theorem ref_state {l : List Int} (hl : Bytes l) (hn : l.length ≤ 140737488355328) : Ev (fun k => slipwayref01_State.f k l) (state l) := by
  unfold slipwayref01_State.f
  by_cases h : (l.length : Int) > 0
  · refine Ev.iff_pos h (Ev.bind (ref_ones l hn) (ref_state_j hl hn _ ?_))
    have h' : 0 < l.length := by omega
    have hz := zeros_zero hl
    by_cases h2 : ∀ x ∈ l, x = 255
    · rw [decide_eq_true h2, decide_eq_true (⟨h', hz.mpr h2⟩ : 0 < l.length ∧ zeros l = 0)]
    · have : ¬ zeros l = 0 := fun e => h2 (hz.mp e)
      rw [decide_eq_false h2, decide_eq_false (fun e : 0 < l.length ∧ zeros l = 0 => this e.2)]
  · refine Ev.iff_neg h (ref_state_j hl hn _ ?_)
    have h' : ¬ 0 < l.length := by omega
    simp [h']
def opened (l : List Int) : List Int × Int := if state l = 0 then (l.take (l.length - 4), 0) else ([], state l)
theorem state_ok {l : List Int} (h : state l = 0) : 4 ≤ l.length ∧ l.length ≤ 1048580 ∧ l.drop (l.length - 4) = nb (zeros (l.take (l.length - 4))) := by
  unfold state at h
  split at h
  · simp at h
  · split at h
    · simp at h
    · split at h
      · refine ⟨by omega, by omega, by assumption⟩
      · simp at h
theorem clone_all (l : List Int) (hn : l.length < 140737488355328) : slices_Clone_byte_byte.f l = some l := by
  unfold slices_Clone_byte_byte.f
  simp only [Option.bind_some, List.length_nil, Nat.zero_add, List.nil_append]
  rw [if_pos hn]
set_option maxHeartbeats 2000000 in
theorem ref_open {l : List Int} (hl : Bytes l) (hn : l.length ≤ 140737488355328) : Ev (fun k => slipwayref01_Open.f k l) (opened l) := by
  unfold slipwayref01_Open.f opened
  refine Ev.bind (ref_state hl hn) ?_
  by_cases h : state l = 0
  · obtain ⟨h4, h5, h6⟩ := state_ok h
    rw [if_pos h, if_pos h]
    refine Ev.fix fun n => ?_
    rw [len4 h4 hn, if_pos (by omega), if_pos (by omega), Int.toNat_natCast, if_pos (by rw [List.length_take]; simp; omega)]
    rfl
  · rw [if_neg h, if_neg h]
    exact Ev.now _
end Go.Proofs.Ytdohpjjggjehfaa.SealEv
end
