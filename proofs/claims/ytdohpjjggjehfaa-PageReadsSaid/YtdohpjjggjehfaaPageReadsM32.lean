/- Texts of the proof of PageReads, part 32. -/
import Derived.Test.YtdohpjjggjehfaaPageReadsM31
import Derived.Test.YtdohpjjggjehfaaPageReadsM20
import Derived.Test.YtdohpjjggjehfaaPageReadsM22
section
namespace Go.Proofs.Ytdohpjjggjehfaa.PackEv
set_option linter.unusedVariables false
set_option linter.unusedSimpArgs false
open Go.RowKit Go.Proofs.Ytdohpjjggjehfaa.Print Go.Proofs.Ytdohpjjggjehfaa.SMath Go.Proofs.Ytdohpjjggjehfaa.SealEv Go.Proofs.Ytdohpjjggjehfaa.PackMath Go.Proofs.YtdohpjjggjehfaaW.PrintWords Go.Proofs.YtdohpjjggjehfaaW.PrintLast Go.Proofs.YtdohpjjggjehfaaW.PrintMore
theorem fg_snoc (G : Nat → Bool) : ∀ (w p v : Nat), fg G p (w + 1) v = 2 * fg G p w v + (G (p + w)).toNat
  | 0, p, v => by simp [fg]
  | w + 1, p, v => by
    have := fg_snoc G w (p + 1) (2 * v + (G p).toNat)
    simp only [fg] at this ⊢
    rw [this]
    have e : p + 1 + w = p + (w + 1) := by omega
    rw [e]
def uval (ws b : List Int) (i : Nat) : Int := (fg (gb b) (tot ((wn ws).take i)) ((wn ws).getD i 0) 0 : Nat)
def uvals (ws b : List Int) (n : Nat) : List Int := (List.range n).map (uval ws b)
theorem uvals_succ (ws b : List Int) (n : Nat) : uvals ws b (n + 1) = uvals ws b n ++ [uval ws b n] := by simp [uvals, List.range_succ]
theorem uvals_len (ws b : List Int) (n : Nat) : (uvals ws b n).length = n := by simp [uvals]
theorem uval_at (ws b : List Int) (i : Nat) (h : i < ws.length) : uval ws b i = (fg (gb b) (tot ((wn ws).take i)) ws[i].toNat 0 : Nat) := by
  have hi : i < (wn ws).length := by rw [wn_len]; exact h
  have : (wn ws).getD i 0 = ws[i].toNat := by rw [← wn_at ws i h]; simp [List.getD_eq_getElem?_getD, hi]
  rw [uval, this]
def late (ws b : List Int) : Prop := ∃ j, tot (wn ws) ≤ j ∧ j < 8 * b.length ∧ gb b j = true
def UnpR (ws b : List Int) (r : List Int × Int) : Prop :=
  (¬ wok ws → r = ([], 1)) ∧ (wok ws → b.length ≠ (tot (wn ws) + 7) / 8 → r = ([], 3)) ∧ (wok ws → b.length = (tot (wn ws) + 7) / 8 → late ws b → r = ([], 1)) ∧
  (wok ws → b.length = (tot (wn ws) + 7) / 8 → ¬ late ws b → r = (uvals ws b ws.length, 0))
theorem UnpR.unique {ws b : List Int} {r q : List Int × Int} (h : UnpR ws b r) (k : UnpR ws b q) : r = q := by
  by_cases h1 : wok ws
  · by_cases h2 : b.length = (tot (wn ws) + 7) / 8
    · by_cases h3 : late ws b
      · rw [h.2.2.1 h1 h2 h3, k.2.2.1 h1 h2 h3]
      · rw [h.2.2.2 h1 h2 h3, k.2.2.2 h1 h2 h3]
    · rw [h.2.1 h1 h2, k.2.1 h1 h2]
  · rw [h.1 h1, k.1 h1]
theorem b2i_toNat (b : Bool) : b2i b = (b.toNat : Int) := by cases b <;> rfl
theorem b2i_u64 (b : Bool) : IntKind.u64.wrap (b2i b) = b2i b := by cases b <;> rfl
theorem n_lt8 (a n : Nat) (h : a < 8 * n) : a / 8 < n := by omega
theorem read_at (b : List Int) (hb : Bytes b) (a : Nat) (h : a < 8 * b.length) : Go.bits .and .u8 (shr .u8 (rd b ((a / 8 : Nat) : Int)) ((7 - a % 8 : Nat) : Int)) 1 = b2i (gb b a) := by
  have h1 := n_lt8 a b.length h
  rw [rd_nat b _ h1, read_u8 _ (byte_at hb _ h1) _ (by omega)]
  unfold gb
  simp [List.getD_eq_getElem?_getD, h1]
theorem seal_bit (b : List Int) (hb : Bytes b) (a : Nat) (h : a < 8 * b.length) (ha : a ≤ 8192) : seal_Unpack_1.f (a : Int) b = some (b2i (gb b a)) := by
  have h1 := n_lt8 a b.length h
  have h2 : ((a / 8 : Nat) : Int) < (b.length : Int) := Int.ofNat_lt.mpr h1
  have hr := read_at b hb a h
  unfold seal_Unpack_1.f
  rw [idx8 a ha, off8 a, hr, b2i_u64, if_pos (Int.natCast_nonneg _), if_pos h2, if_pos (Int.natCast_nonneg _)]
set_option maxHeartbeats 2000000 in
theorem or_u64 (v : Nat) (hv : v < 9223372036854775808) (b : Bool) : Go.bits .or .u64 (IntKind.u64.wrap ((v : Int) * 2)) (b2i b) = ((2 * v + b.toNat : Nat) : Int) := by
  rw [u64_id (by omega) (by omega)]
  have hb := b2i_range b
  have := bits_join .u64 64 (by decide) wraps_u64 1 ((v : Int) * 2) (b2i b) (by omega) (by omega) (by have : (2 : Int) ^ 64 = 18446744073709551616 := rfl; omega) hb.1 (by have : (2 : Int) ^ 1 = 2 := rfl; omega) (by have : (2 : Int) ^ 64 = 18446744073709551616 := rfl; omega)
  rw [this, b2i_toNat]
  omega
theorem fg_63 (G : Nat → Bool) (p t w : Nat) (h : t < w) (hw : w ≤ 64) : fg G p t 0 < 9223372036854775808 := by
  have h1 := fg_lt G t p
  have h2 : 2 ^ t ≤ 2 ^ 63 := Nat.pow_le_pow_right (by decide) (by omega)
  have h3 : (2 : Nat) ^ 63 = 9223372036854775808 := rfl
  omega
theorem late_cons {ws b : List Int} {j : Nat} (hj : ∀ i, tot (wn ws) ≤ i → i < j → gb b i = false) (hn : 8 * b.length ≤ j) : ¬ late ws b := by
  rintro ⟨i, h1, h2, h3⟩
  rw [hj i h1 (by omega)] at h3
  cases h3
theorem next_false {ws b : List Int} {j : Nat} (hj : ∀ i, tot (wn ws) ≤ i → i < j → gb b i = false) (h : gb b j = false) : ∀ i, tot (wn ws) ≤ i → i < j + 1 → gb b i = false := fun i h1 h2 => by
  rcases Nat.lt_or_ge i j with h3 | h3
  · exact hj i h1 h3
  · have : i = j := by omega
    rw [this]
    exact h
theorem mul8 (n : Nat) (h : n ≤ 600) : wrap64 (8 * (n : Int)) = ((8 * n : Nat) : Int) := by
  rw [SealEv.w64 (by omega) (by omega)]
  omega
set_option maxHeartbeats 2000000 in
theorem seal_late (ws b : List Int) (hb : Bytes b) (hn : b.length ≤ 600) (next : ¬ late ws b → ∃ r, Ev (fun k => seal_Unpack.l1 k [] 0 ws (ws.length : Int) 0 b) r ∧ r = (uvals ws b ws.length, 0)) (d : Nat) :
    ∀ j, j + d = max (8 * b.length) (tot (wn ws)) → tot (wn ws) ≤ j → (∀ i, tot (wn ws) ≤ i → i < j → gb b i = false) →
    ∃ r, Ev (fun k => seal_Unpack.l0 k ws (j : Int) b) r ∧ (late ws b → r = ([], 1)) ∧ (¬ late ws b → r = (uvals ws b ws.length, 0)) := by
  induction d with
  | zero =>
    intro j hj h0 hf
    have hl := late_cons (b := b) hf (by omega)
    obtain ⟨r, hr, hR⟩ := next hl
    refine ⟨r, Ev.step (f := fun k => seal_Unpack.l1 k [] 0 ws (ws.length : Int) 0 b) (fun k => ?_) hr, fun h => absurd h hl, fun _ => hR⟩
    simp only [seal_Unpack.l0]
    rw [mul8 _ hn, if_neg (by omega)]
  | succ d ih =>
    intro j hj h0 hf
    have nx1 : j + 1 + d = max (8 * b.length) (tot (wn ws)) := by omega
    have nx3 : j < 8 * b.length → j ≤ 8192 := fun _ => by omega
    have nx2 : tot (wn ws) ≤ j + 1 := by omega
    by_cases hlt : j < 8 * b.length
    · have hbit := seal_bit b hb j hlt (by omega)
      have hlt' : (j : Int) < ((8 * b.length : Nat) : Int) := Int.ofNat_lt.mpr hlt
      have hs := suc_small j (nx3 hlt)
      cases hg : gb b j with
      | true =>
        have hl : late ws b := ⟨j, h0, hlt, hg⟩
        refine ⟨([], 1), Ev.step (f := fun _ => some ([], 1)) (fun k => ?_) (Ev.now _), fun _ => rfl, fun h => absurd hl h⟩
        simp only [seal_Unpack.l0]
        rw [mul8 _ hn, if_pos hlt', hbit, hg]
        simp only [Option.bind_some]
        rw [if_neg (by decide)]
      | false =>
        obtain ⟨r, hr, hR⟩ := ih (j + 1) nx1 nx2 (next_false hf hg)
        refine ⟨r, Ev.step (f := fun k => seal_Unpack.l0 k ws ((j + 1 : Nat) : Int) b) (fun k => ?_) hr, hR⟩
        simp only [seal_Unpack.l0]
        rw [mul8 _ hn, if_pos hlt', hbit, hg, hs]
        simp only [Option.bind_some]
        rw [if_pos (by decide)]
    · have hl := late_cons (b := b) hf (by omega)
      obtain ⟨r, hr, hR⟩ := next hl
      refine ⟨r, Ev.step (f := fun k => seal_Unpack.l1 k [] 0 ws (ws.length : Int) 0 b) (fun k => ?_) hr, fun h => absurd h hl, fun _ => hR⟩
      simp only [seal_Unpack.l0]
      rw [mul8 _ hn, if_neg (by omega)]
theorem n_tot (ws : List Int) (hw : wok ws) (i : Nat) (h : i < ws.length) : tot ((wn ws).take i) + ws[i].toNat ≤ tot (wn ws) ∧ tot ((wn ws).take (i + 1)) = tot ((wn ws).take i) + ws[i].toNat := by
  have hi : i < (wn ws).length := by rw [wn_len]; exact h
  have h1 := tot_take_succ (wn ws) i hi
  rw [wn_at ws i h] at h1
  have h2 := tot_le (wn ws) (i + 1)
  exact ⟨by omega, h1⟩
theorem n_in (a t w T n : Nat) (h : a + w ≤ T) (ht : t < w) (hn : n = (T + 7) / 8) : a + t < 8 * n := by omega
set_option maxHeartbeats 2000000 in
theorem seal_unp_in (ws b : List Int) (hw : wok ws) (hb : Bytes b) (hn : b.length = (tot (wn ws) + 7) / 8) (i : Nat) (h : i < ws.length) (r : List Int × Int)
    (next : Ev (fun k => seal_Unpack.l1 k (uvals ws b (i + 1)) (tot ((wn ws).take (i + 1)) : Int) ws (ws.length : Int) ((i + 1 : Nat) : Int) b) r) (d : Nat) :
    ∀ t, t + d = ws[i].toNat → Ev (fun k => seal_Unpack.l2 k (uvals ws b i) ((tot ((wn ws).take i) + t : Nat) : Int) ((fg (gb b) (tot ((wn ws).take i)) t 0 : Nat) : Int) ws (ws.length : Int) (i : Int) ws[i] (t : Int) b) r := by
  have hg := hw.2 _ (List.getElem_mem h)
  have hg1 := hg.1
  have hg2 := hg.2
  have hmax := tot_max hw
  obtain ⟨hA, hS⟩ := n_tot ws hw i h
  have h64 := hw.1
  have hw64 := n_64 _ hg2
  induction d with
  | zero =>
    intro t ht
    have htw : t = ws[i].toNat := ht
    refine Ev.step (f := fun k => seal_Unpack.l1 k (uvals ws b (i + 1)) (tot ((wn ws).take (i + 1)) : Int) ws (ws.length : Int) ((i + 1 : Nat) : Int) b) (fun k => ?_) next
    have e1 : ¬ ((t : Int) < ws[i]) := by omega
    have e2 : (uvals ws b i).length < 17592186044416 := by rw [uvals_len]; omega
    have e3 := suc64 i ws.length h (by omega)
    simp only [seal_Unpack.l2]
    rw [if_neg e1, if_pos e2, e3, hS, uvals_succ, uval_at ws b i h, htw]
  | succ d ih =>
    intro t ht
    have htw := n_lt t d _ ht
    have hbit := seal_bit b hb (tot ((wn ws).take i) + t) (n_in _ _ _ _ _ hA htw hn) (n_8192 _ _ _ _ hA hmax htw)
    have hor := or_u64 (fg (gb b) (tot ((wn ws).take i)) t 0) (fg_63 _ _ _ _ htw hw64) (gb b (tot ((wn ws).take i) + t))
    rw [← fg_snoc] at hor
    have e1 : (t : Int) < ws[i] := n_int _ _ htw
    have ea := suc_add (tot ((wn ws).take i)) t (n_8192 _ _ _ _ hA hmax htw)
    have et := suc_small t (n_t t _ htw hw64)
    refine Ev.step (f := fun k => seal_Unpack.l2 k (uvals ws b i) ((tot ((wn ws).take i) + (t + 1) : Nat) : Int) ((fg (gb b) (tot ((wn ws).take i)) (t + 1) 0 : Nat) : Int) ws (ws.length : Int) (i : Int) ws[i] ((t + 1 : Nat) : Int) b) (fun k => ?_) (ih (t + 1) (n_next t d _ ht))
    simp only [seal_Unpack.l2]
    rw [if_pos e1, hbit]
    simp only [Option.bind_some]
    rw [hor, ea, et]
set_option maxHeartbeats 2000000 in
theorem seal_unp_out (ws b : List Int) (hw : wok ws) (hb : Bytes b) (hn : b.length = (tot (wn ws) + 7) / 8) (d : Nat) : ∀ i, i + d = ws.length →
    Ev (fun k => seal_Unpack.l1 k (uvals ws b i) (tot ((wn ws).take i) : Int) ws (ws.length : Int) (i : Int) b) (uvals ws b ws.length, 0) := by
  have h64 := hw.1
  induction d with
  | zero =>
    intro i hi
    have : i = ws.length := by omega
    subst this
    refine Ev.step (f := fun _ => some (uvals ws b ws.length, 0)) (fun k => ?_) (Ev.now _)
    simp only [seal_Unpack.l1]
    rw [if_neg (by omega)]
  | succ d ih =>
    intro i hi
    have h : i < ws.length := by omega
    have h0 := seal_unp_in ws b hw hb hn i h _ (ih (i + 1) (by omega)) ws[i].toNat 0 (by omega)
    refine Ev.step (f := fun k => seal_Unpack.l2 k (uvals ws b i) ((tot ((wn ws).take i) + 0 : Nat) : Int) ((fg (gb b) (tot ((wn ws).take i)) 0 0 : Nat) : Int) ws (ws.length : Int) (i : Int) ws[i] ((0 : Nat) : Int) b) (fun k => ?_) h0
    simp only [seal_Unpack.l1]
    rw [if_pos (by omega), if_pos (by omega), if_pos (by omega), rd_nat ws i h]
    rfl
set_option maxHeartbeats 2000000 in
theorem seal_unpack_ev (ws b : List Int) (hb : Bytes b) : ∃ r, Ev (fun k => seal_Unpack.f k ws b) r ∧ UnpR ws b r := by
  obtain ⟨q, hq, q1, q2⟩ := seal_total_ev ws
  unfold seal_Unpack.f
  by_cases hw : wok ws
  · rw [q1 hw] at hq
    have hmax := tot_max hw
    have hd := div8 _ hmax
    by_cases hn : b.length = (tot (wn ws) + 7) / 8
    · have h600 : b.length ≤ 600 := by omega
      have hout := seal_unp_out ws b hw hb hn ws.length 0 (by omega)
      obtain ⟨r, hr, r1, r2⟩ := seal_late ws b hb h600 (fun _ => ⟨_, hout, rfl⟩) (max (8 * b.length) (tot (wn ws)) - tot (wn ws)) (tot (wn ws)) (by omega) (Nat.le_refl _) (fun i h1 h2 => by omega)
      refine ⟨r, Ev.bind hq (Ev.iff_pos rfl (Ev.iff_pos ?_ hr)), fun h => absurd hw h, fun _ h => absurd hn h, fun _ _ => r1, fun _ _ => r2⟩
      simp only [hd]
      omega
    · refine ⟨([], 3), Ev.bind hq (Ev.iff_pos rfl (Ev.iff_neg ?_ (Ev.now _))), fun h => absurd hw h, fun _ _ => rfl, fun _ h => absurd h hn, fun _ h => absurd h hn⟩
      simp only [hd]
      omega
  · rw [q2 hw] at hq
    exact ⟨([], 1), Ev.bind hq (Ev.iff_neg (by decide) (Ev.now _)), fun _ => rfl, fun h => absurd h hw, fun h => absurd h hw, fun h => absurd h hw⟩
set_option maxHeartbeats 2000000 in
theorem ref_late (ws b : List Int) (hb : Bytes b) (hn : b.length ≤ 600) (acc : List Int) (d : Nat) :
    ∀ j, j + d = max (8 * b.length) (tot (wn ws)) → tot (wn ws) ≤ j → (∀ i, tot (wn ws) ≤ i → i < j → gb b i = false) →
    ∃ r, Ev (fun k => slipwayref01_Unpack.l2 k b (b.length : Int) acc (j : Int)) r ∧ (late ws b → r = ([], 1)) ∧ (¬ late ws b → r = (acc, 0)) := by
  induction d with
  | zero =>
    intro j hj h0 hf
    have hl := late_cons (b := b) hf (by omega)
    refine ⟨(acc, 0), Ev.step (f := fun _ => some (acc, 0)) (fun k => ?_) (Ev.now _), fun h => absurd h hl, fun _ => rfl⟩
    simp only [slipwayref01_Unpack.l2]
    rw [mul8 _ hn, if_neg (by omega)]
  | succ d ih =>
    intro j hj h0 hf
    have nx1 : j + 1 + d = max (8 * b.length) (tot (wn ws)) := by omega
    have nx3 : j < 8 * b.length → j ≤ 8192 := fun _ => by omega
    have nx2 : tot (wn ws) ≤ j + 1 := by omega
    by_cases hlt : j < 8 * b.length
    · have e8 := idx8 j (by omega)
      have es := off8 j
      have eu := u64_small (7 - j % 8) (n_7 j)
      have er := read_at b hb j hlt
      have hlt' : (j : Int) < ((8 * b.length : Nat) : Int) := Int.ofNat_lt.mpr hlt
      have h8 : ((j / 8 : Nat) : Int) < (b.length : Int) := Int.ofNat_lt.mpr (n_lt8 j _ hlt)
      have hs := suc_small j (nx3 hlt)
      cases hg : gb b j with
      | true =>
        have hl : late ws b := ⟨j, h0, hlt, hg⟩
        refine ⟨([], 1), Ev.step (f := fun _ => some ([], 1)) (fun k => ?_) (Ev.now _), fun _ => rfl, fun h => absurd hl h⟩
        simp only [slipwayref01_Unpack.l2]
        rw [mul8 _ hn, if_pos hlt', e8, es, eu, er, hg, if_pos (Int.natCast_nonneg _), if_pos h8, if_pos (Int.natCast_nonneg _), if_neg (by decide)]
      | false =>
        obtain ⟨r, hr, hR⟩ := ih (j + 1) nx1 nx2 (next_false hf hg)
        refine ⟨r, Ev.step (f := fun k => slipwayref01_Unpack.l2 k b (b.length : Int) acc ((j + 1 : Nat) : Int)) (fun k => ?_) hr, hR⟩
        simp only [slipwayref01_Unpack.l2]
        rw [mul8 _ hn, if_pos hlt', e8, es, eu, er, hg, hs, if_pos (Int.natCast_nonneg _), if_pos h8, if_pos (Int.natCast_nonneg _), if_pos (by decide)]
    · have hl := late_cons (b := b) hf (by omega)
      refine ⟨(acc, 0), Ev.step (f := fun _ => some (acc, 0)) (fun k => ?_) (Ev.now _), fun h => absurd h hl, fun _ => rfl⟩
      simp only [slipwayref01_Unpack.l2]
      rw [mul8 _ hn, if_neg (by omega)]
set_option maxHeartbeats 2000000 in
theorem ref_unp_in (ws b : List Int) (hw : wok ws) (hb : Bytes b) (hn : b.length = (tot (wn ws) + 7) / 8) (i : Nat) (h : i < ws.length) (r : List Int × Int)
    (next : Ev (fun k => slipwayref01_Unpack.l0 k ws b (b.length : Int) (uvals ws b (i + 1)) (tot ((wn ws).take (i + 1)) : Int) ((i + 1 : Nat) : Int)) r) (d : Nat) :
    ∀ t, t + d = ws[i].toNat → Ev (fun k => slipwayref01_Unpack.l1 k ws b (b.length : Int) (uvals ws b i) ((tot ((wn ws).take i) + t : Nat) : Int) (i : Int) ((fg (gb b) (tot ((wn ws).take i)) t 0 : Nat) : Int) (t : Int)) r := by
  have hg := hw.2 _ (List.getElem_mem h)
  have hg1 := hg.1
  have hg2 := hg.2
  have hmax := tot_max hw
  obtain ⟨hA, hS⟩ := n_tot ws hw i h
  have h64 := hw.1
  have hw64 := n_64 _ hg2
  have hi0 : (i : Int) < (ws.length : Int) := Int.ofNat_lt.mpr h
  induction d with
  | zero =>
    intro t ht
    have htw : t = ws[i].toNat := ht
    refine Ev.step (f := fun k => slipwayref01_Unpack.l0 k ws b (b.length : Int) (uvals ws b (i + 1)) (tot ((wn ws).take (i + 1)) : Int) ((i + 1 : Nat) : Int)) (fun k => ?_) next
    have e1 : ¬ ((t : Int) < ws[i]) := by omega
    have e2 : (uvals ws b i).length < 17592186044416 := by rw [uvals_len]; omega
    have e3 := suc64 i ws.length h (by omega)
    simp only [slipwayref01_Unpack.l1]
    rw [if_pos (Int.natCast_nonneg _), if_pos hi0, rd_nat ws i h, if_neg e1, if_pos e2, e3, hS, uvals_succ, uval_at ws b i h, htw]
  | succ d ih =>
    intro t ht
    have htw := n_lt t d _ ht
    have hin := n_in _ _ _ _ _ hA htw hn
    have h8192 := n_8192 _ _ _ _ hA hmax htw
    have e8 := idx8 (tot ((wn ws).take i) + t) h8192
    have es := off8 (tot ((wn ws).take i) + t)
    have eu := u64_small (7 - (tot ((wn ws).take i) + t) % 8) (n_7 _)
    have er := read_at b hb (tot ((wn ws).take i) + t) hin
    have h8 : (((tot ((wn ws).take i) + t) / 8 : Nat) : Int) < (b.length : Int) := Int.ofNat_lt.mpr (n_lt8 _ _ hin)
    have hor := or_u64 (fg (gb b) (tot ((wn ws).take i)) t 0) (fg_63 _ _ _ _ htw hw64) (gb b (tot ((wn ws).take i) + t))
    rw [← fg_snoc] at hor
    have e1 : (t : Int) < ws[i] := n_int _ _ htw
    have ea := suc_add (tot ((wn ws).take i)) t h8192
    have et := suc_small t (n_t t _ htw hw64)
    refine Ev.step (f := fun k => slipwayref01_Unpack.l1 k ws b (b.length : Int) (uvals ws b i) ((tot ((wn ws).take i) + (t + 1) : Nat) : Int) (i : Int) ((fg (gb b) (tot ((wn ws).take i)) (t + 1) 0 : Nat) : Int) ((t + 1 : Nat) : Int)) (fun k => ?_) (ih (t + 1) (n_next t d _ ht))
    simp only [slipwayref01_Unpack.l1]
    rw [if_pos (Int.natCast_nonneg _), if_pos hi0, rd_nat ws i h, if_pos e1, e8, es, eu, er, b2i_u64, hor, ea, et, if_pos (Int.natCast_nonneg _), if_pos h8, if_pos (Int.natCast_nonneg _)]
set_option maxHeartbeats 2000000 in
theorem ref_unp_out (ws b : List Int) (hw : wok ws) (hb : Bytes b) (hn : b.length = (tot (wn ws) + 7) / 8) (r : List Int × Int)
    (next : Ev (fun k => slipwayref01_Unpack.l2 k b (b.length : Int) (uvals ws b ws.length) (tot (wn ws) : Int)) r) (d : Nat) : ∀ i, i + d = ws.length →
    Ev (fun k => slipwayref01_Unpack.l0 k ws b (b.length : Int) (uvals ws b i) (tot ((wn ws).take i) : Int) (i : Int)) r := by
  have h64 := hw.1
  induction d with
  | zero =>
    intro i hi
    have : i = ws.length := by omega
    subst this
    refine Ev.step (f := fun k => slipwayref01_Unpack.l2 k b (b.length : Int) (uvals ws b ws.length) (tot (wn ws) : Int)) (fun k => ?_) next
    simp only [slipwayref01_Unpack.l0]
    rw [if_neg (by omega), tot_all]
  | succ d ih =>
    intro i hi
    have h : i < ws.length := by omega
    have h0 := ref_unp_in ws b hw hb hn i h _ (ih (i + 1) (by omega)) ws[i].toNat 0 (by omega)
    refine Ev.step (f := fun k => slipwayref01_Unpack.l1 k ws b (b.length : Int) (uvals ws b i) ((tot ((wn ws).take i) + 0 : Nat) : Int) (i : Int) ((fg (gb b) (tot ((wn ws).take i)) 0 0 : Nat) : Int) ((0 : Nat) : Int)) (fun k => ?_) h0
    simp only [slipwayref01_Unpack.l0]
    rw [if_pos (by omega)]
    rfl
set_option maxHeartbeats 2000000 in
theorem ref_unpack_ev (ws b : List Int) (hb : Bytes b) : ∃ r, Ev (fun k => slipwayref01_Unpack.f k ws b) r ∧ UnpR ws b r := by
  obtain ⟨q, hq, q1, q2⟩ := ref_width_ev ws
  unfold slipwayref01_Unpack.f
  by_cases hw : wok ws
  · rw [q1 hw] at hq
    have hmax := tot_max hw
    by_cases hn : b.length = (tot (wn ws) + 7) / 8
    · have h600 : b.length ≤ 600 := by omega
      obtain ⟨r, hr, r1, r2⟩ := ref_late ws b hb h600 (uvals ws b ws.length) (max (8 * b.length) (tot (wn ws)) - tot (wn ws)) (tot (wn ws)) (by omega) (Nat.le_refl _) (fun i h1 h2 => by omega)
      have hout := ref_unp_out ws b hw hb hn r hr ws.length 0 (by omega)
      refine ⟨r, Ev.bind hq (Ev.iff_pos rfl (Ev.iff_pos (by simp only; omega) ?_)), fun h => absurd hw h, fun _ h => absurd hn h, fun _ _ => r1, fun _ _ => r2⟩
      have e : (((tot (wn ws) + 7) / 8 : Nat) : Int) = (b.length : Int) := by rw [hn]
      simp only [e]
      exact hout
    · exact ⟨([], 3), Ev.bind hq (Ev.iff_pos rfl (Ev.iff_neg (by simp only; omega) (Ev.now _))), fun h => absurd hw h, fun _ _ => rfl, fun _ h => absurd h hn, fun _ h => absurd h hn⟩
  · rw [q2 hw] at hq
    exact ⟨([], 1), Ev.bind hq (Ev.iff_neg (by decide) (Ev.now _)), fun _ => rfl, fun h => absurd h hw, fun h => absurd h hw, fun h => absurd h hw⟩
end Go.Proofs.Ytdohpjjggjehfaa.PackEv
end
