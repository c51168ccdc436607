/- Texts of the proof of BitmapTells, part 18. -/
import Derived.Test.YtllodfjbenmlpaaBitmapTellsM16
section
namespace Go.Proofs.Ytllodfjbenmlpaa.Bm
set_option linter.unusedVariables false
set_option linter.unusedSimpArgs false
open Go.RowKit Go.Proofs.Ytllodfjbenmlpaa.Print Go.Proofs.YtllodfjbenmlpaaW.PrintWords Go.Proofs.YtllodfjbenmlpaaW.PrintLast Go.Proofs.YtllodfjbenmlpaaW.PrintMore
theorem w64 {n : Int} (h0 : -9223372036854775808 ≤ n) (h1 : n ≤ 9223372036854775807) : wrap64 n = n := by unfold wrap64; omega
theorem Ev.iff_pos {α : Type} {c : Prop} [Decidable c] {g f : Nat → Option α} {r : α} (h : c) (k : Ev g r) : Ev (fun n => if c then g n else f n) r := k.imp fun _ hk n hn => (if_pos h).trans (hk n hn)
theorem Ev.iff_neg {α : Type} {c : Prop} [Decidable c] {g f : Nat → Option α} {r : α} (h : ¬ c) (k : Ev f r) : Ev (fun n => if c then g n else f n) r := k.imp fun _ hk n hn => (if_neg h).trans (hk n hn)
theorem Ev.fix {α : Type} {r : α} {g : Nat → Option α} (h : ∀ n, g n = some r) : Ev g r := ⟨0, fun n _ => h n⟩
theorem suc64 (i n : Nat) (h : i < n) (hn : n ≤ 140737488355328) : wrap64 ((i : Int) + 1) = ((i + 1 : Nat) : Int) := by rw [w64 (by omega) (by omega)]; rfl
def Byte (x : Int) : Prop := 0 ≤ x ∧ x < 256
def By (l : List Int) : Prop := ∀ x ∈ l, Byte x
theorem wf_u8 {x : Int} (h : (Lit.int .u8 x).wf = true) : Byte x := by
  simp [Lit.wf, IntKind.min, IntKind.max, IntKind.signed, IntKind.bits] at h
  unfold Byte
  omega
theorem by_wf {l : List Int} (h : ∀ x ∈ l, (Lit.int .u8 x).wf = true) : By l := fun x hx => wf_u8 (h x hx)
theorem b_and : ∀ x : Fin 256, ∀ s : Fin 8, (Go.bits .and .u8 (shr .u8 (x.val : Int) (s.val : Int)) 1 == 1) = x.val.testBit s.val := by decide +kernel
theorem b_mod : ∀ x : Fin 256, ∀ s : Fin 8, (Int.tmod (shr .u8 (x.val : Int) (s.val : Int)) 2 == 1) = x.val.testBit s.val := by decide +kernel
def at8 (l : List Int) (j : Nat) : Nat := (l.getD j 0).toNat
theorem at8_lt {l : List Int} (h : By l) (j : Nat) : at8 l j < 256 := by
  unfold at8
  rw [List.getD_eq_getElem?_getD]
  cases e : l[j]? with
  | none => simp
  | some x =>
    have := h x (List.mem_of_getElem? e)
    unfold Byte at this
    simp
    omega
theorem at8_get {l : List Int} (h : By l) (j : Nat) : l.getD j 0 = (at8 l j : Int) := by
  unfold at8
  rw [List.getD_eq_getElem?_getD]
  cases e : l[j]? with
  | none => simp
  | some x =>
    have := h x (List.mem_of_getElem? e)
    unfold Byte at this
    simp
    omega
def bt (l : List Int) (i : Nat) : Bool := (at8 l (i / 8)).testBit (i % 8)
def on (l : List Int) (i : Nat) : List Int := l.set (i / 8) ((at8 l (i / 8) ||| (1 <<< (i % 8)) : Nat) : Int)
theorem i8 (i : Nat) (hi : i < 1000000) : wrap64 (Int.tdiv (i : Int) 8) = ((i / 8 : Nat) : Int) ∧ Int.tmod (i : Int) 8 = ((i % 8 : Nat) : Int) := by
  refine ⟨?_, ?_⟩
  · rw [Int.tdiv_eq_ediv_of_nonneg (by omega), w64 (by omega) (by omega)]; omega
  · rw [Int.tmod_eq_emod_of_nonneg (by omega)]; omega
theorem u64_small (s : Nat) (h : s < 1000) : IntKind.u64.wrap ((s : Nat) : Int) = (s : Int) := by simp [IntKind.wrap, IntKind.bits, IntKind.signed]; omega
theorem rd_at {l : List Int} (h : By l) (j : Nat) : rd l (j : Int) = (at8 l j : Int) := by
  rw [← at8_get h j]
  simp [rd]
theorem bit_f {l : List Int} (h : By l) (i : Nat) (hi : i < 8 * l.length) (hl : l.length ≤ 1000) : bitmap_bit.f l (i : Int) = some (bt l i) := by
  obtain ⟨e1, e2⟩ := i8 i (by omega)
  unfold bitmap_bit.f
  rw [e1, e2, if_pos (by omega), if_pos (by omega), if_pos (by omega), rd_at h, b_and ⟨_, at8_lt h _⟩ ⟨i % 8, by omega⟩]
  rfl
theorem rbit_f {l : List Int} (h : By l) (i : Nat) (hi : i < 8 * l.length) (hl : l.length ≤ 1000) : slipwayref12_bit.f l (i : Int) = some (bt l i) := by
  obtain ⟨e1, e2⟩ := i8 i (by omega)
  unfold slipwayref12_bit.f
  rw [e1, e2, u64_small _ (by omega), if_pos (by omega), if_pos (by omega), if_pos (by omega), rd_at h, b_mod ⟨_, at8_lt h _⟩ ⟨i % 8, by omega⟩]
  rfl
def On (l : List Int) (a : Nat) : Prop := ∀ j, a ≤ j → j < 2048 → bt l j = true
theorem On.step {l : List Int} {a : Nat} (h : a < 2048) : On l a ↔ bt l a = true ∧ On l (a + 1) := by
  constructor
  · intro ho
    exact ⟨ho a (Nat.le_refl _) h, fun j h1 h2 => ho j (by omega) h2⟩
  · intro ⟨h1, h2⟩ j h3 h4
    by_cases e : a = j
    · rw [← e]; exact h1
    · exact h2 j (by omega) h4
theorem On.full (l : List Int) : On l 2048 := fun j h1 h2 => by omega
structure Ok (l : List Int) (n : Int) : Prop where
  n0 : 0 ≤ n
  n1 : n ≤ 2048
  len : l.length = 256
  on : On l n.toNat
open Classical in
noncomputable def chk (l : List Int) (n : Int) : Int := if Ok l n then 0 else 120
theorem chk_ok {l : List Int} {n : Int} (h : Ok l n) : chk l n = 0 := if_pos h
theorem chk_no {l : List Int} {n : Int} (h : ¬ Ok l n) : chk l n = 120 := if_neg h
set_option maxHeartbeats 2000000 in
theorem check_loop {l : List Int} (hb : By l) (hl : l.length = 256) (n : Nat) (hn : n ≤ 2048) (d : Nat) : ∀ i : Nat, n + i + d = 2048 →
    (On l (n + i) → Ev (fun k => bitmap_Check.l0 k l (n : Int) ((2048 - n : Nat) : Int) (i : Int)) 0) ∧ (¬ On l (n + i) → Ev (fun k => bitmap_Check.l0 k l (n : Int) ((2048 - n : Nat) : Int) (i : Int)) 120) := by
  induction d with
  | zero =>
    intro i hi
    have e : n + i = 2048 := by omega
    rw [e]
    refine ⟨fun _ => Ev.step (f := fun _ => some 0) (fun k => ?_) (Ev.now _), fun h => absurd (On.full l) h⟩
    simp only [bitmap_Check.l0]
    rw [if_neg (by omega)]
  | succ d ih =>
    intro i hi
    obtain ⟨ih1, ih2⟩ := ih (i + 1) (by omega)
    have st := On.step (l := l) (a := n + i) (by omega)
    have e0 : wrap64 ((n : Int) + (i : Int)) = ((n + i : Nat) : Int) := by rw [w64 (by omega) (by omega)]; omega
    have e1 := suc64 i 2048 (by omega) (by omega)
    have hbit := bit_f hb (n + i) (by omega) (by omega)
    have go : ∀ r, Ev (fun k => if bt l (n + i) = true then bitmap_Check.l0 k l (n : Int) ((2048 - n : Nat) : Int) ((i + 1 : Nat) : Int) else some 120) r → Ev (fun k => bitmap_Check.l0 k l (n : Int) ((2048 - n : Nat) : Int) (i : Int)) r := fun r h => by
      refine Ev.step (fun k => ?_) h
      simp only [bitmap_Check.l0]
      rw [if_pos (by omega), e0, hbit, Option.bind_some, e1]
    by_cases hc : bt l (n + i) = true
    · exact ⟨fun ho => go _ (Ev.iff_pos hc (ih1 (st.1 ho).2)), fun ho => go _ (Ev.iff_pos hc (ih2 (fun h => ho (st.2 ⟨hc, h⟩))))⟩
    · exact ⟨fun ho => absurd (st.1 ho).1 hc, fun ho => go _ (Ev.iff_neg hc (Ev.now _))⟩
set_option maxHeartbeats 2000000 in
theorem check_ev {l : List Int} (hb : By l) (n : Int) : Ev (fun k => bitmap_Check.f k l n) (chk l n) := by
  have bad : ∀ (h : ¬ Ok l n), Ev (fun k => bitmap_Check.j0 k l n true) (chk l n) := fun h => by
    rw [chk_no h]
    refine Ev.step (f := fun _ => some 120) (fun k => ?_) (Ev.now _)
    simp only [bitmap_Check.j0]
    rw [if_pos trivial]
  unfold bitmap_Check.f
  by_cases h0 : n < 0
  · exact Ev.iff_pos h0 (bad (fun h => by have := h.n0; omega))
  refine Ev.iff_neg h0 ?_
  by_cases h1 : n > 2048
  · exact Ev.iff_pos h1 (bad (fun h => by have := h.n1; omega))
  refine Ev.iff_neg h1 ?_
  by_cases h2 : l.length = 256
  · obtain ⟨m, rfl⟩ := Int.eq_ofNat_of_zero_le (show 0 ≤ n by omega)
    have e : ((l.length : Int) != 256) = false := by rw [h2]; rfl
    rw [e]
    obtain ⟨c1, c2⟩ := check_loop hb h2 m (by omega) (2048 - m) 0 (by omega)
    have ew : wrap64 (2048 - (m : Int)) = ((2048 - m : Nat) : Int) := by rw [w64 (by omega) (by omega)]; omega
    have go : ∀ r, Ev (fun k => bitmap_Check.l0 k l (m : Int) ((2048 - m : Nat) : Int) ((0 : Nat) : Int)) r → Ev (fun k => bitmap_Check.j0 k l (m : Int) false) r := fun r h => by
      refine Ev.step (fun k => ?_) h
      simp only [bitmap_Check.j0]
      rw [if_neg (by decide), ew]
      rfl
    by_cases ho : On l m
    · rw [chk_ok ⟨by omega, by omega, h2, by simpa using ho⟩]
      exact go _ (c1 ho)
    · rw [chk_no (fun h => ho (by simpa using h.on))]
      exact go _ (c2 ho)
  · have e : ((l.length : Int) != 256) = true := by simp; omega
    rw [e]
    exact bad (fun h => h2 h.len)
set_option maxHeartbeats 2000000 in
theorem rcheck_loop {l : List Int} (hb : By l) (hl : l.length = 256) (d : Nat) : ∀ i : Nat, i + d = 2048 → ∀ x : Int,
    (On l i → Ev (fun k => slipwayref12_Check.l0 k l (i : Int)) 0) ∧ (¬ On l i → Ev (fun k => slipwayref12_Check.l0 k l (i : Int)) 120) := by
  induction d with
  | zero =>
    intro i hi x
    have e : i = 2048 := by omega
    subst e
    refine ⟨fun _ => Ev.step (f := fun _ => some 0) (fun k => ?_) (Ev.now _), fun h => absurd (On.full l) h⟩
    simp only [slipwayref12_Check.l0]
    rw [if_neg (by omega)]
  | succ d ih =>
    intro i hi x
    obtain ⟨ih1, ih2⟩ := ih (i + 1) (by omega) x
    have st := On.step (l := l) (a := i) (by omega)
    have e1 := suc64 i 2048 (by omega) (by omega)
    have hbit := rbit_f hb i (by omega) (by omega)
    have go : ∀ r, Ev (fun k => if bt l i = true then slipwayref12_Check.l0 k l ((i + 1 : Nat) : Int) else some 120) r → Ev (fun k => slipwayref12_Check.l0 k l (i : Int)) r := fun r h => by
      refine Ev.step (fun k => ?_) h
      simp only [slipwayref12_Check.l0]
      rw [if_pos (by omega), hbit, Option.bind_some, e1]
    by_cases hc : bt l i = true
    · exact ⟨fun ho => go _ (Ev.iff_pos hc (ih1 (st.1 ho).2)), fun ho => go _ (Ev.iff_pos hc (ih2 (fun h => ho (st.2 ⟨hc, h⟩))))⟩
    · exact ⟨fun ho => absurd (st.1 ho).1 hc, fun ho => go _ (Ev.iff_neg hc (Ev.now _))⟩
set_option maxHeartbeats 2000000 in
theorem rcheck_ev {l : List Int} (hb : By l) (n : Int) : Ev (fun k => slipwayref12_Check.f k l n) (chk l n) := by
  have bad : ∀ (h : ¬ Ok l n), Ev (fun k => slipwayref12_Check.j0 k l n true) (chk l n) := fun h => by
    rw [chk_no h]
    refine Ev.step (f := fun _ => some 120) (fun k => ?_) (Ev.now _)
    simp only [slipwayref12_Check.j0]
    rw [if_pos trivial]
  unfold slipwayref12_Check.f
  by_cases h0 : n < 0
  · exact Ev.iff_pos h0 (bad (fun h => by have := h.n0; omega))
  refine Ev.iff_neg h0 ?_
  by_cases h1 : n > 2048
  · exact Ev.iff_pos h1 (bad (fun h => by have := h.n1; omega))
  refine Ev.iff_neg h1 ?_
  by_cases h2 : l.length = 256
  · obtain ⟨m, rfl⟩ := Int.eq_ofNat_of_zero_le (show 0 ≤ n by omega)
    have e : ((l.length : Int) != 256) = false := by rw [h2]; rfl
    rw [e]
    obtain ⟨c1, c2⟩ := rcheck_loop hb h2 (2048 - m) m (by omega) 0
    have go : ∀ r, Ev (fun k => slipwayref12_Check.l0 k l (m : Int)) r → Ev (fun k => slipwayref12_Check.j0 k l (m : Int) false) r := fun r h => by
      refine Ev.step (fun k => ?_) h
      simp only [slipwayref12_Check.j0]
      rw [if_neg (by decide)]
    by_cases ho : On l m
    · rw [chk_ok ⟨by omega, by omega, h2, by simpa using ho⟩]
      exact go _ (c1 ho)
    · rw [chk_no (fun h => ho (by simpa using h.on))]
      exact go _ (c2 ho)
  · have e : ((l.length : Int) != 256) = true := by simp; omega
    rw [e]
    exact bad (fun h => h2 h.len)
theorem may_ev {l : List Int} (hb : By l) (n : Int) : Ev (fun k => bitmap_may.f k l n) (if chk l n = 0 then n else 0) := by
  unfold bitmap_may.f
  refine Ev.bind (check_ev hb n) (Ev.fix (fun _ => ?_))
  by_cases h : chk l n = 0
  · rw [if_pos h, if_pos h]
  · rw [if_neg h, if_neg h]
end Go.Proofs.Ytllodfjbenmlpaa.Bm
end
