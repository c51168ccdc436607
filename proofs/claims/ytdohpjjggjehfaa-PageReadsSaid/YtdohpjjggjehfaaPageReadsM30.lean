/- Texts of the proof of PageReads, part 30. -/
import Derived.Test.YtdohpjjggjehfaaPageReadsM29
import Derived.Test.YtdohpjjggjehfaaPageReadsM25
import Derived.Test.YtdohpjjggjehfaaPageReadsM22
import Derived.Test.YtdohpjjggjehfaaPageReadsM20
section
namespace Go.Proofs.Ytdohpjjggjehfaa.PackEv
set_option linter.unusedVariables false
set_option linter.unusedSimpArgs false
open Go.RowKit Go.Proofs.Ytdohpjjggjehfaa.Print Go.Proofs.Ytdohpjjggjehfaa.SMath Go.Proofs.Ytdohpjjggjehfaa.SealEv Go.Proofs.Ytdohpjjggjehfaa.PackMath Go.Proofs.YtdohpjjggjehfaaW.PrintWords Go.Proofs.YtdohpjjggjehfaaW.PrintLast Go.Proofs.YtdohpjjggjehfaaW.PrintMore
def good (w : Int) : Prop := 1 ≤ w ∧ w ≤ 64
def wok (ws : List Int) : Prop := ws.length ≤ 64 ∧ ∀ w ∈ ws, good w
def wn (ws : List Int) : List Nat := ws.map Int.toNat
theorem wn_len (ws : List Int) : (wn ws).length = ws.length := by simp [wn]
theorem wn_at (ws : List Int) (i : Nat) (h : i < ws.length) : (wn ws)[i]'(by rw [wn_len]; exact h) = ws[i].toNat := by simp [wn]
theorem tot_take_le (ws : List Int) (hg : ∀ j (h : j < ws.length), ws[j] ≤ 64) : ∀ i, i ≤ ws.length → tot ((wn ws).take i) ≤ 64 * i
  | 0, _ => by simp [tot]
  | i + 1, h => by
    have ih := tot_take_le ws hg i (by omega)
    have hi : i < (wn ws).length := by rw [wn_len]; omega
    rw [tot_take_succ _ _ hi, wn_at ws i (by omega)]
    have := hg i (by omega)
    omega
theorem tot_all (ws : List Int) : tot ((wn ws).take ws.length) = tot (wn ws) := by rw [← wn_len ws, List.take_length]
def TotR (ws : List Int) (r : Int × Int) : Prop := (wok ws → r = ((tot (wn ws) : Int), 0)) ∧ (¬ wok ws → r = (0, 1))
theorem tot_step (ws : List Int) (i : Nat) (h : i < ws.length) (h0 : 0 ≤ ws[i]) : (tot ((wn ws).take i) : Int) + ws[i] = (tot ((wn ws).take (i + 1)) : Int) := by
  have hi : i < (wn ws).length := by rw [wn_len]; omega
  rw [tot_take_succ _ _ hi, wn_at ws i h]
  omega
theorem tot_le_of (ws : List Int) (h64 : ws.length ≤ 64) (i : Nat) (hi : i ≤ ws.length) (hg : ∀ j, j < i → ∀ h : j < ws.length, good ws[j]) : tot ((wn ws).take i) ≤ 64 * i := by
  induction i with
  | zero => simp [tot]
  | succ i ih =>
    have ih' := ih (by omega) (fun j hj h => hg j (by omega) h)
    have hlt : i < (wn ws).length := by rw [wn_len]; omega
    have := (hg i (by omega) (by omega)).2
    rw [tot_take_succ _ _ hlt, wn_at ws i (by omega)]
    omega
theorem all_good {ws : List Int} (hg : ∀ j, j < ws.length → ∀ h : j < ws.length, good ws[j]) : ∀ w ∈ ws, good w := fun w hw => by
  obtain ⟨j, hj, rfl⟩ := List.getElem_of_mem hw
  exact hg j hj hj
set_option maxHeartbeats 2000000 in
theorem seal_total_from (ws : List Int) (h64 : ws.length ≤ 64) (d : Nat) : ∀ i, i + d = ws.length → (∀ j, j < i → ∀ h : j < ws.length, good ws[j]) →
    ∃ r, Ev (fun k => seal_total.l0 k (tot ((wn ws).take i) : Int) ws (ws.length : Int) (i : Int)) r ∧ TotR ws r := by
  induction d with
  | zero =>
    intro i hi hg
    have : i = ws.length := by omega
    subst this
    refine ⟨((tot (wn ws) : Int), 0), Ev.step (f := fun _ => some ((tot (wn ws) : Int), 0)) (fun k => ?_) (Ev.now _), fun _ => rfl, fun h => absurd ⟨h64, all_good hg⟩ h⟩
    simp only [seal_total.l0]
    rw [if_neg (by omega), tot_all]
  | succ d ih =>
    intro i hi hg
    have h1 : i < ws.length := by omega
    have hs := suc64 i ws.length h1 (by omega)
    have hle := tot_le_of ws h64 i (by omega) hg
    by_cases hw : good ws[i]
    · have hst := tot_step ws i h1 (by have := hw.1; omega)
      obtain ⟨r, hr, hR⟩ := ih (i + 1) (by omega) (fun j hj h => by
        rcases Nat.lt_or_ge j i with hji | hji
        · exact hg j hji h
        · have : j = i := by omega
          subst this
          exact hw)
      refine ⟨r, Ev.step (f := fun k => seal_total.l0 k (tot ((wn ws).take (i + 1)) : Int) ws (ws.length : Int) ((i + 1 : Nat) : Int)) (fun k => ?_) hr, hR⟩
      have hw1 := hw.1
      have hw2 := hw.2
      simp only [seal_total.l0]
      rw [rd_nat ws i h1, SealEv.w64 (n := (tot ((wn ws).take i) : Int) + ws[i]) (by omega) (by omega), hst, hs]
      rw [if_pos (by omega), if_pos (by omega), if_pos (by omega), if_neg (by omega), if_neg (by omega)]
    · refine ⟨(0, 1), Ev.step (f := fun _ => some (0, 1)) (fun k => ?_) (Ev.now _), fun h => absurd (h.2 _ (List.getElem_mem h1)) hw, fun _ => rfl⟩
      simp only [seal_total.l0]
      rw [rd_nat ws i h1, if_pos (by omega), if_pos (by omega), if_pos (by omega)]
      unfold good at hw
      by_cases h2 : ws[i] < 1
      · rw [if_pos h2]
      · rw [if_neg h2, if_pos (by omega)]
theorem seal_total_ev (ws : List Int) : ∃ r, Ev (fun k => seal_total.f k ws) r ∧ TotR ws r := by
  unfold seal_total.f
  by_cases h : ws.length ≤ 64
  · obtain ⟨r, hr, hR⟩ := seal_total_from ws h ws.length 0 (by omega) (fun j hj => by omega)
    exact ⟨r, Ev.iff_neg (by omega) hr, hR⟩
  · exact ⟨(0, 1), Ev.iff_pos (by omega) (Ev.now _), fun hw => absurd hw.1 h, fun _ => rfl⟩
def WidR (ws : List Int) (r : Int × Int) : Prop := (wok ws → r = ((((tot (wn ws) + 7) / 8 : Nat) : Int), 0)) ∧ (¬ wok ws → r = (0, 1))
theorem tot_max {ws : List Int} (h : wok ws) : tot (wn ws) ≤ 4096 := by
  have := tot_take_le ws (fun j hj => (h.2 _ (List.getElem_mem hj)).2) ws.length (Nat.le_refl _)
  rw [tot_all] at this
  have := h.1
  omega
theorem div8 (n : Nat) (h : n ≤ 4096) : wrap64 (Int.tdiv (wrap64 ((n : Int) + 7)) 8) = (((n + 7) / 8 : Nat) : Int) := by
  rw [SealEv.w64 (n := (n : Int) + 7) (by omega) (by omega), Int.tdiv_eq_ediv_of_nonneg (by omega), SealEv.w64 (by omega) (by omega)]
  omega
theorem div8_0 : wrap64 (Int.tdiv (wrap64 ((0 : Int) + 7)) 8) = 0 := div8 0 (by omega)
theorem seal_width_ev (ws : List Int) : ∃ r, Ev (fun k => seal_Width.f k ws) r ∧ WidR ws r := by
  obtain ⟨r, hr, h1, h2⟩ := seal_total_ev ws
  unfold seal_Width.f
  by_cases h : wok ws
  · rw [h1 h] at hr
    refine ⟨_, Ev.bind hr (Ev.now _), fun _ => ?_, fun hn => absurd h hn⟩
    simp only [div8 _ (tot_max h)]
  · rw [h2 h] at hr
    refine ⟨_, Ev.bind hr (Ev.now _), fun hw => absurd hw h, fun _ => ?_⟩
    simp only [div8_0]
set_option maxHeartbeats 2000000 in
theorem ref_width_from (ws : List Int) (h64 : ws.length ≤ 64) (d : Nat) : ∀ i, i + d = ws.length → (∀ j, j < i → ∀ h : j < ws.length, good ws[j]) →
    ∃ r, Ev (fun k => slipwayref01_Width.l0 k ws (tot ((wn ws).take i) : Int) (i : Int)) r ∧ WidR ws r := by
  induction d with
  | zero =>
    intro i hi hg
    have : i = ws.length := by omega
    subst this
    have hw : wok ws := ⟨h64, all_good hg⟩
    refine ⟨((((tot (wn ws) + 7) / 8 : Nat) : Int), 0), Ev.step (f := fun _ => some ((((tot (wn ws) + 7) / 8 : Nat) : Int), 0)) (fun k => ?_) (Ev.now _), fun _ => rfl, fun h => absurd hw h⟩
    simp only [slipwayref01_Width.l0]
    rw [if_neg (by omega), tot_all, div8 _ (tot_max hw)]
  | succ d ih =>
    intro i hi hg
    have h1 : i < ws.length := by omega
    have hs := suc64 i ws.length h1 (by omega)
    have hle := tot_le_of ws h64 i (by omega) hg
    by_cases hw : good ws[i]
    · have hst := tot_step ws i h1 (by have := hw.1; omega)
      obtain ⟨r, hr, hR⟩ := ih (i + 1) (by omega) (fun j hj h => by
        rcases Nat.lt_or_ge j i with hji | hji
        · exact hg j hji h
        · have : j = i := by omega
          subst this
          exact hw)
      refine ⟨r, Ev.step (f := fun k => slipwayref01_Width.l0 k ws (tot ((wn ws).take (i + 1)) : Int) ((i + 1 : Nat) : Int)) (fun k => ?_) hr, hR⟩
      have hw1 := hw.1
      have hw2 := hw.2
      simp only [slipwayref01_Width.l0]
      rw [rd_nat ws i h1, SealEv.w64 (n := (tot ((wn ws).take i) : Int) + ws[i]) (by omega) (by omega), hst, hs]
      rw [if_pos (by omega), if_pos (by omega), if_neg (by omega), if_neg (by omega)]
    · refine ⟨(0, 1), Ev.step (f := fun _ => some (0, 1)) (fun k => ?_) (Ev.now _), fun h => absurd (h.2 _ (List.getElem_mem h1)) hw, fun _ => rfl⟩
      simp only [slipwayref01_Width.l0]
      rw [rd_nat ws i h1, if_pos (by omega), if_pos (by omega)]
      unfold good at hw
      by_cases h2 : ws[i] < 1
      · rw [if_pos h2]
      · rw [if_neg h2, if_pos (by omega)]
theorem ref_width_ev (ws : List Int) : ∃ r, Ev (fun k => slipwayref01_Width.f k ws) r ∧ WidR ws r := by
  unfold slipwayref01_Width.f
  by_cases h : ws.length ≤ 64
  · obtain ⟨r, hr, hR⟩ := ref_width_from ws h ws.length 0 (by omega) (fun j hj => by omega)
    exact ⟨r, Ev.iff_neg (by omega) hr, hR⟩
  · exact ⟨(0, 1), Ev.iff_pos (by omega) (Ev.now _), fun hw => absurd hw.1 h, fun _ => rfl⟩
set_option maxRecDepth 100000 in
theorem len64_j (x c : Nat) (hx : x < 4294967296) (hc : c ≤ 32) : Ev (fun k => bits_Len64.j0 k (x : Int) (c : Int)) ((c + len x : Nat) : Int) := by
  refine Ev.step (f := fun _ => some ((c + len x : Nat) : Int)) (fun k => ?_) (Ev.now _)
  rw [bits_Len64.j0]
  have l32 : len x ≤ 32 := (len_le x 32).mpr hx
  by_cases h1 : 65536 ≤ x
  · have e1 : (x : Int) / 65536 = ((x / 65536 : Nat) : Int) := by omega
    have hs := len_shift x 16 h1
    have hx2 : x / 65536 < 65536 := by omega
    have e16 : x / 2 ^ 16 = x / 65536 := rfl
    rw [e16] at hs
    rw [if_pos (by omega), e1]
    generalize x / 65536 = y at hs hx2
    by_cases h2 : 256 ≤ y
    · have e2 : (y : Int) / 256 % 256 = ((y / 256 : Nat) : Int) := by omega
      have hs2 := len_shift y 8 h2
      have e8 : y / 2 ^ 8 = y / 256 := rfl
      rw [e8] at hs2
      have hb : y / 256 < 256 := by omega
      rw [if_pos (by omega), e2, if_pos (by omega), if_pos (by omega), tab_at (by decide +kernel) _ hb]
      generalize len (y / 256) = q at hs2
      congr 1
      rw [SealEv.w64 (n := (c : Int) + 16) (by omega) (by omega), SealEv.w64 (n := (c : Int) + 16 + 8) (by omega) (by omega), SealEv.w64 (n := (q : Int)) (by omega) (by omega), SealEv.w64 (by omega) (by omega)]
      omega
    · have e2 : (y : Int) % 256 = (y : Int) := by omega
      rw [if_neg (by omega), e2, if_pos (by omega), if_pos (by omega), tab_at (by decide +kernel) _ (by omega)]
      generalize len y = q at hs
      congr 1
      rw [SealEv.w64 (n := (c : Int) + 16) (by omega) (by omega), SealEv.w64 (n := (q : Int)) (by omega) (by omega), SealEv.w64 (by omega) (by omega)]
      omega
  · rw [if_neg (by omega)]
    by_cases h2 : 256 ≤ x
    · have e2 : (x : Int) / 256 % 256 = ((x / 256 : Nat) : Int) := by omega
      have hs2 := len_shift x 8 h2
      have e8 : x / 2 ^ 8 = x / 256 := rfl
      rw [e8] at hs2
      have hb : x / 256 < 256 := by omega
      rw [if_pos (by omega), e2, if_pos (by omega), if_pos (by omega), tab_at (by decide +kernel) _ hb]
      generalize len (x / 256) = q at hs2
      congr 1
      rw [SealEv.w64 (n := (c : Int) + 8) (by omega) (by omega), SealEv.w64 (n := (q : Int)) (by omega) (by omega), SealEv.w64 (by omega) (by omega)]
      omega
    · have e2 : (x : Int) % 256 = (x : Int) := by omega
      rw [if_neg (by omega), e2, if_pos (by omega), if_pos (by omega), tab_at (by decide +kernel) _ (by omega)]
      generalize len x = q at l32
      congr 1
      rw [SealEv.w64 (n := (q : Int)) (by omega) (by omega), SealEv.w64 (by omega) (by omega)]
      omega
set_option maxHeartbeats 2000000 in
theorem len64 {v : Int} (hv : U64 v) : Ev (fun k => bits_Len64.f k v) (len v.toNat : Int) := by
  obtain ⟨x, rfl⟩ := Int.eq_ofNat_of_zero_le hv.1
  have hx : x < 18446744073709551616 := by have := hv.2; omega
  rw [Int.toNat_natCast]
  unfold bits_Len64.f
  by_cases h : 4294967296 ≤ x
  · have e1 : (x : Int) / 4294967296 = ((x / 4294967296 : Nat) : Int) := by omega
    have hs := len_shift x 32 h
    have e32 : x / 2 ^ 32 = x / 4294967296 := rfl
    rw [e32] at hs
    refine Ev.iff_pos (by omega) ?_
    rw [e1, hs]
    exact len64_j (x / 4294967296) 32 (by omega) (by omega)
  · refine Ev.iff_neg (by omega) ?_
    have := len64_j x 0 (by omega) (by omega)
    rw [Nat.zero_add] at this
    exact this
end Go.Proofs.Ytdohpjjggjehfaa.PackEv
end
