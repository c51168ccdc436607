/- Texts of the proof of PageReads, part 28. -/
import Derived.Test.YtdohpjjggjehfaaPageReadsM27
import Derived.Test.YtdohpjjggjehfaaPageReadsM23
section
namespace Go.Proofs.Ytdohpjjggjehfaa.SealEv
set_option linter.unusedVariables false
set_option linter.unusedSimpArgs false
open Go.RowKit Go.Proofs.Ytdohpjjggjehfaa.Print Go.Proofs.Ytdohpjjggjehfaa.SMath Go.Proofs.YtdohpjjggjehfaaW.PrintWords Go.Proofs.YtdohpjjggjehfaaW.PrintLast Go.Proofs.YtdohpjjggjehfaaW.PrintMore
def mb (m : List Int) (i : Nat) (x : Int) : Int := if m = [] then x else Go.bits .or .u8 x (m.getD (i % m.length) 0)
def masked (l m : List Int) : List Int := l.mapIdx (mb m)
theorem masked_len (l m : List Int) : (masked l m).length = l.length := by simp [masked]
theorem masked_at (l m : List Int) (i : Nat) (h : i < l.length) : (masked l m)[i]'(by rw [masked_len]; exact h) = mb m i l[i] := by simp [masked]
theorem tmod_nat (i n : Nat) : Int.tmod (i : Int) (n : Int) = ((i % n : Nat) : Int) := by
  rw [Int.tmod_eq_emod_of_nonneg (by omega)]
  rfl
theorem mask_at (m : List Int) (i : Nat) (x : Int) (h : 0 < m.length) : Go.bits .or .u8 x (rd m (Int.tmod (i : Int) (m.length : Int))) = mb m i x := by
  have hne : ¬ m = [] := fun e => by rw [e] at h; simp at h
  have hlt : i % m.length < m.length := Nat.mod_lt _ h
  rw [tmod_nat, rd_nat m _ hlt, mb, if_neg hne]
  simp [List.getD_eq_getElem?_getD, hlt]
theorem mask_none (m : List Int) (i : Nat) (x : Int) (h : ¬ 0 < m.length) : mb m i x = x := by
  have he : m = [] := List.length_eq_zero_iff.mp (by omega)
  rw [mb, if_pos he]
theorem td_set (M l : List Int) (i : Nat) (h : i < l.length) (hM : M.length = l.length) (v : Int) (hv : v = M[i]'(by omega)) : (M.take i ++ l.drop i).set i v = M.take (i + 1) ++ l.drop (i + 1) := by
  have hi : i < M.length := by omega
  rw [List.drop_eq_getElem_cons h, List.take_succ_eq_append_getElem hi, List.set_append_right i v (by rw [List.length_take]; omega)]
  have : i - (M.take i).length = 0 := by rw [List.length_take]; omega
  rw [this, List.set_cons_zero, hv, List.append_assoc]
  rfl
theorem td_get (M l : List Int) (i : Nat) (h : i < l.length) (hM : M.length = l.length) : rd (M.take i ++ l.drop i) (i : Int) = l[i] := by
  have h1 : i < (M.take i ++ l.drop i).length := by rw [List.length_append, List.length_take, List.length_drop]; omega
  rw [rd_nat _ i h1, List.getElem_append_right (by rw [List.length_take]; omega)]
  simp only [List.getElem_drop, List.length_take]
  congr 1
  omega
theorem td_len (M l : List Int) (i : Nat) (h : i ≤ l.length) (hM : M.length = l.length) : (M.take i ++ l.drop i).length = l.length := by
  rw [List.length_append, List.length_take, List.length_drop]
  omega
theorem td_skip (M l : List Int) (i : Nat) (h : i < l.length) (hM : M.length = l.length) (hv : l[i] = M[i]'(by omega)) : M.take i ++ l.drop i = M.take (i + 1) ++ l.drop (i + 1) := by
  have hi : i < M.length := by omega
  rw [List.drop_eq_getElem_cons h, List.take_succ_eq_append_getElem hi, hv, List.append_assoc]
  rfl
set_option maxHeartbeats 2000000 in
theorem seal_mask_from (l m : List Int) (hn : l.length ≤ 140737488355328) (d : Nat) : ∀ (i : Nat), i + d = l.length →
    Ev (fun k => seal_Mask.l0 k m ((masked l m).take i ++ l.drop i) (l.length : Int) (i : Int)) (masked l m) := by
  have hM := masked_len l m
  induction d with
  | zero =>
    intro i hi
    refine Ev.step (f := fun _ => some (masked l m)) (fun k => ?_) (Ev.now _)
    simp only [seal_Mask.l0]
    rw [if_neg (by omega), List.take_of_length_le (by omega), List.drop_of_length_le (by omega), List.append_nil]
  | succ d ih =>
    intro i hi
    have h1 : i < l.length := by omega
    have hs := suc64 i l.length h1 hn
    have hl := td_len (masked l m) l i (by omega) hM
    have hg := td_get (masked l m) l i h1 hM
    by_cases hm : 0 < m.length
    · have hlt : i % m.length < m.length := Nat.mod_lt _ hm
      have hlt' : ((i % m.length : Nat) : Int) < (m.length : Int) := Int.ofNat_lt.mpr hlt
      have ht := tmod_nat i m.length
      have hst := td_set (masked l m) l i h1 hM (mb m i l[i]) (masked_at l m i h1).symm
      refine Ev.step (f := fun k => seal_Mask.l0 k m ((masked l m).take (i + 1) ++ l.drop (i + 1)) (l.length : Int) ((i + 1 : Nat) : Int)) (fun k => ?_) (ih (i + 1) (by omega))
      simp only [seal_Mask.l0]
      rw [hg, mask_at m i _ hm, hs, Int.toNat_natCast, hst, ht]
      rw [if_pos (by omega), if_pos (by omega), if_pos (by omega), if_pos (by omega), if_neg (by omega), if_pos (Int.natCast_nonneg _), if_pos hlt']
    · have hsk := td_skip (masked l m) l i h1 hM (by rw [masked_at l m i h1, mask_none m i _ hm])
      refine Ev.step (f := fun k => seal_Mask.l0 k m ((masked l m).take (i + 1) ++ l.drop (i + 1)) (l.length : Int) ((i + 1 : Nat) : Int)) (fun k => ?_) (ih (i + 1) (by omega))
      simp only [seal_Mask.l0]
      rw [if_pos (by omega), if_neg (by omega), hs, hsk]
theorem seal_mask (l m : List Int) (hn : l.length < 140737488355328) : Ev (fun k => seal_Mask.f k l m) (masked l m) := by
  unfold seal_Mask.f
  rw [clone_all l hn]
  simp only [Option.bind_some]
  have := seal_mask_from l m (by omega) l.length 0 (by omega)
  rw [List.take_zero, List.nil_append, List.drop_zero] at this
  exact this
set_option maxHeartbeats 2000000 in
theorem ref_mask_from (l m : List Int) (hn : l.length < 140737488355328) (d : Nat) : ∀ (i : Nat), i + d = l.length →
    Ev (fun k => slipwayref01_Mask.l0 k l m ((masked l m).take i) (i : Int)) (masked l m) := by
  have hM := masked_len l m
  induction d with
  | zero =>
    intro i hi
    refine Ev.step (f := fun _ => some (masked l m)) (fun k => ?_) (Ev.now _)
    simp only [slipwayref01_Mask.l0]
    rw [if_neg (by omega), List.take_of_length_le (by omega)]
  | succ d ih =>
    intro i hi
    have h1 : i < l.length := by omega
    have hs := suc64 i l.length h1 (by omega)
    have hl : ((masked l m).take i).length = i := by rw [List.length_take]; omega
    have htk : (masked l m).take (i + 1) = (masked l m).take i ++ [mb m i l[i]] := by rw [List.take_succ_eq_append_getElem (by omega), masked_at l m i h1]
    by_cases hm : 0 < m.length
    · have hlt : i % m.length < m.length := Nat.mod_lt _ hm
      have hlt' : ((i % m.length : Nat) : Int) < (m.length : Int) := Int.ofNat_lt.mpr hlt
      have ht := tmod_nat i m.length
      refine Ev.step (f := fun k => slipwayref01_Mask.l0 k l m ((masked l m).take (i + 1)) ((i + 1 : Nat) : Int)) (fun k => ?_) (ih (i + 1) (by omega))
      simp only [slipwayref01_Mask.l0]
      rw [rd_nat l i h1, mask_at m i _ hm, hs, ht, ← htk]
      rw [if_pos (by omega), if_pos (by omega), if_pos (by omega), if_neg (by omega), if_pos (Int.natCast_nonneg _), if_pos hlt', if_pos (by omega)]
    · refine Ev.step (f := fun k => slipwayref01_Mask.l0 k l m ((masked l m).take (i + 1)) ((i + 1 : Nat) : Int)) (fun k => ?_) (ih (i + 1) (by omega))
      simp only [slipwayref01_Mask.l0]
      rw [rd_nat l i h1, hs, htk, mask_none m i _ hm]
      rw [if_pos (by omega), if_pos (by omega), if_neg (by omega), if_pos (by omega)]
theorem ref_mask (l m : List Int) (hn : l.length < 140737488355328) : Ev (fun k => slipwayref01_Mask.f k l m) (masked l m) := ref_mask_from l m hn l.length 0 (by omega)
theorem Cov.split {a b : List Int} {i : Nat} (ha : i < a.length) (hb : i < b.length) : Cov (a.drop i) (b.drop i) ↔ cov a[i] b[i] ∧ Cov (a.drop (i + 1)) (b.drop (i + 1)) := by
  rw [List.drop_eq_getElem_cons ha, List.drop_eq_getElem_cons hb]
  rfl
end Go.Proofs.Ytdohpjjggjehfaa.SealEv
end
