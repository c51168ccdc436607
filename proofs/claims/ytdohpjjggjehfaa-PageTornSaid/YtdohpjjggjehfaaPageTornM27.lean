/- Texts of the proof of PageTorn, part 27. -/
import Derived.Test.YtdohpjjggjehfaaPageTornM26
import Derived.Test.YtdohpjjggjehfaaPageTornM22
import Derived.Test.YtdohpjjggjehfaaPageTornM20
section
namespace Go.Proofs.Ytdohpjjggjehfaa.SealEv
set_option linter.unusedVariables false
set_option linter.unusedSimpArgs false
open Go.RowKit Go.Proofs.Ytdohpjjggjehfaa.Print Go.Proofs.Ytdohpjjggjehfaa.SMath Go.Proofs.YtdohpjjggjehfaaW.PrintWords Go.Proofs.YtdohpjjggjehfaaW.PrintLast Go.Proofs.YtdohpjjggjehfaaW.PrintMore
def mb (m : List Int) (i : Nat) (x : Int) : Int := if m = [] then x else Go.bits .or .u8 x (m.getD (i % m.length) 0)
def masked (l m : List Int) : List Int := l.mapIdx (mb m)
theorem masked_len (l m : List Int) : (masked l m).length = l.length := by simp [masked]
theorem masked_at (l m : List Int) (i : Nat) (h : i < l.length) : (masked l m)[i]'(by rw [masked_len]; exact h) = mb m i l[i] := by simp [masked]
theorem mb_byte {m : List Int} (hm : Bytes m) (i : Nat) {x : Int} (hx : Byte x) : Byte (mb m i x) ∧ cov (mb m i x) x := by
  unfold mb
  by_cases h : m = []
  · rw [if_pos h]
    exact ⟨hx, cov_refl x⟩
  · rw [if_neg h]
    have hp : 0 < m.length := List.length_pos_iff.mpr h
    have hlt : i % m.length < m.length := Nat.mod_lt _ hp
    have : m.getD (i % m.length) 0 = m[i % m.length] := by simp [List.getD_eq_getElem?_getD, hlt]
    rw [this]
    exact cov_or hx (byte_at hm _ hlt)
theorem masked_bytes {l m : List Int} (hl : Bytes l) (hm : Bytes m) : Bytes (masked l m) := by
  intro x hx
  obtain ⟨j, hj, rfl⟩ := List.getElem_of_mem hx
  rw [masked_len] at hj
  rw [masked_at l m j hj]
  exact (mb_byte hm j (byte_at hl j hj)).1
theorem Cov.of_get : ∀ {a b : List Int}, a.length = b.length → (∀ i (h : i < a.length) (h' : i < b.length), cov a[i] b[i]) → Cov a b
  | [], [], _, _ => trivial
  | x :: a, y :: b, hl, h => ⟨h 0 (by simp) (by simp), Cov.of_get (by simpa using hl) (fun i h1 h2 => h (i + 1) (Nat.succ_lt_succ h1) (Nat.succ_lt_succ h2))⟩
  | [], _ :: _, hl, _ => by simp at hl
  | _ :: _, [], hl, _ => by simp at hl
theorem masked_cov {l m : List Int} (hl : Bytes l) (hm : Bytes m) : Cov (masked l m) l :=
  Cov.of_get (masked_len l m) (fun i h h' => by rw [masked_at l m i h']; exact (mb_byte hm i (byte_at hl i h')).2)
theorem tmod_nat (i n : Nat) : Int.tmod (i : Int) (n : Int) = ((i % n : Nat) : Int) := by
  rw [Int.tmod_eq_emod_of_nonneg (by omega)]
  rfl
theorem mask_at (m : List Int) (i : Nat) (x : Int) (h : 0 < m.length) : Go.bits .or .u8 x (rd m (Int.tmod (i : Int) (m.length : Int))) = mb m i x := by
  have hne : ¬ m = [] := fun e => by rw [e] at h; simp at h
  have hlt : i % m.length < m.length := Nat.mod_lt _ h
  rw [tmod_nat, rd_nat m _ hlt, mb, if_neg hne]
  simp [List.getD_eq_getElem?_getD, hlt]
theorem mask_none (m : List Int) (i : Nat) (x : Int) (h : ¬ 0 < m.length) : mb m i x = x := by
  have he : m = [] := List.length_eq_zero_iff.mp (by omega)
  rw [mb, if_pos he]
theorem td_set (M l : List Int) (i : Nat) (h : i < l.length) (hM : M.length = l.length) (v : Int) (hv : v = M[i]'(by omega)) : (M.take i ++ l.drop i).set i v = M.take (i + 1) ++ l.drop (i + 1) := by
  have hi : i < M.length := by omega
  rw [List.drop_eq_getElem_cons h, List.take_succ_eq_append_getElem hi, List.set_append_right i v (by rw [List.length_take]; omega)]
  have : i - (M.take i).length = 0 := by rw [List.length_take]; omega
  rw [this, List.set_cons_zero, hv, List.append_assoc]
  rfl
theorem td_get (M l : List Int) (i : Nat) (h : i < l.length) (hM : M.length = l.length) : rd (M.take i ++ l.drop i) (i : Int) = l[i] := by
  have h1 : i < (M.take i ++ l.drop i).length := by rw [List.length_append, List.length_take, List.length_drop]; omega
  rw [rd_nat _ i h1, List.getElem_append_right (by rw [List.length_take]; omega)]
  simp only [List.getElem_drop, List.length_take]
  congr 1
  omega
theorem td_len (M l : List Int) (i : Nat) (h : i ≤ l.length) (hM : M.length = l.length) : (M.take i ++ l.drop i).length = l.length := by
  rw [List.length_append, List.length_take, List.length_drop]
  omega
theorem td_skip (M l : List Int) (i : Nat) (h : i < l.length) (hM : M.length = l.length) (hv : l[i] = M[i]'(by omega)) : M.take i ++ l.drop i = M.take (i + 1) ++ l.drop (i + 1) := by
  have hi : i < M.length := by omega
  rw [List.drop_eq_getElem_cons h, List.take_succ_eq_append_getElem hi, hv, List.append_assoc]
  rfl
set_option maxHeartbeats 2000000 in
theorem seal_mask_from (l m : List Int) (hn : l.length ≤ 140737488355328) (d : Nat) : ∀ (i : Nat), i + d = l.length →
    Ev (fun k => seal_Mask.l0 k m ((masked l m).take i ++ l.drop i) (l.length : Int) (i : Int)) (masked l m) := by
  have hM := masked_len l m
  induction d with
  | zero =>
    intro i hi
    refine Ev.step (f := fun _ => some (masked l m)) (fun k => ?_) (Ev.now _)
    simp only [seal_Mask.l0]
    rw [if_neg (by omega), List.take_of_length_le (by omega), List.drop_of_length_le (by omega), List.append_nil]
  | succ d ih =>
    intro i hi
    have h1 : i < l.length := by omega
    have hs := suc64 i l.length h1 hn
    have hl := td_len (masked l m) l i (by omega) hM
    have hg := td_get (masked l m) l i h1 hM
    by_cases hm : 0 < m.length
    · have hlt : i % m.length < m.length := Nat.mod_lt _ hm
      have hlt' : ((i % m.length : Nat) : Int) < (m.length : Int) := Int.ofNat_lt.mpr hlt
      have ht := tmod_nat i m.length
      have hst := td_set (masked l m) l i h1 hM (mb m i l[i]) (masked_at l m i h1).symm
      refine Ev.step (f := fun k => seal_Mask.l0 k m ((masked l m).take (i + 1) ++ l.drop (i + 1)) (l.length : Int) ((i + 1 : Nat) : Int)) (fun k => ?_) (ih (i + 1) (by omega))
      simp only [seal_Mask.l0]
      rw [hg, mask_at m i _ hm, hs, Int.toNat_natCast, hst, ht]
      rw [if_pos (by omega), if_pos (by omega), if_pos (by omega), if_pos (by omega), if_neg (by omega), if_pos (Int.natCast_nonneg _), if_pos hlt']
    · have hsk := td_skip (masked l m) l i h1 hM (by rw [masked_at l m i h1, mask_none m i _ hm])
      refine Ev.step (f := fun k => seal_Mask.l0 k m ((masked l m).take (i + 1) ++ l.drop (i + 1)) (l.length : Int) ((i + 1 : Nat) : Int)) (fun k => ?_) (ih (i + 1) (by omega))
      simp only [seal_Mask.l0]
      rw [if_pos (by omega), if_neg (by omega), hs, hsk]
theorem seal_mask (l m : List Int) (hn : l.length < 140737488355328) : Ev (fun k => seal_Mask.f k l m) (masked l m) := by
  unfold seal_Mask.f
  rw [clone_all l hn]
  simp only [Option.bind_some]
  have := seal_mask_from l m (by omega) l.length 0 (by omega)
  rw [List.take_zero, List.nil_append, List.drop_zero] at this
  exact this
theorem Cov.split {a b : List Int} {i : Nat} (ha : i < a.length) (hb : i < b.length) : Cov (a.drop i) (b.drop i) ↔ cov a[i] b[i] ∧ Cov (a.drop (i + 1)) (b.drop (i + 1)) := by
  rw [List.drop_eq_getElem_cons ha, List.drop_eq_getElem_cons hb]
  rfl
set_option maxHeartbeats 2000000 in
theorem nb_le {a b : Int} (ha0 : 0 ≤ a) (ha : a < 4294967296) (hb0 : 0 ≤ b) (hb : b < 4294967296) (h : Cov (nb a) (nb b)) : b ≤ a := by
  have ea := nb_sum ha0 ha
  have eb := nb_sum hb0 hb
  have ba := nb_bytes a
  have bb := nb_bytes b
  simp only [nb, Cov, and_true] at h
  have h0 := cov_le (ba _ (by simp [nb])) (bb _ (by simp [nb])) h.1
  have h1 := cov_le (ba _ (by simp [nb])) (bb _ (by simp [nb])) h.2.1
  have h2 := cov_le (ba _ (by simp [nb])) (bb _ (by simp [nb])) h.2.2.1
  have h3 := cov_le (ba _ (by simp [nb])) (bb _ (by simp [nb])) h.2.2.2
  omega
theorem sealed_cov {p q : List Int} (hp : Bytes p) (hq : Bytes q) (hl : p.length = q.length) (hn : p.length ≤ 1048576) (h : Cov (p ++ nb (zeros p)) (q ++ nb (zeros q))) : p = q := by
  obtain ⟨h1, h2⟩ := (Cov.append hl).mp h
  have r1 := zeros_range p
  have r2 := zeros_range q
  have h3 := nb_le r1.1 (by omega) r2.1 (by omega) h2
  exact Cov.eq_of hp hq h1 h3
end Go.Proofs.Ytdohpjjggjehfaa.SealEv
end
