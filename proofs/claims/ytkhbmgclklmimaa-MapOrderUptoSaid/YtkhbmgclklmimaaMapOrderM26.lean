/- Texts of the proof of MapOrder, part 26. -/
import Derived.Test.YtkhbmgclklmimaaMapOrderM25
import Derived.Test.YtkhbmgclklmimaaMapOrderM20
import Derived.Test.YtkhbmgclklmimaaMapOrderM21
section
namespace Go.Proofs.Ytkhbmgclklmimaa.MapEv
set_option linter.unusedVariables false
set_option linter.unusedSimpArgs false
open Go.RowKit Go.Proofs.Ytkhbmgclklmimaa.Print Go.Proofs.YtkhbmgclklmimaaW.PrintWords Go.Proofs.YtkhbmgclklmimaaW.PrintLast Go.Proofs.YtkhbmgclklmimaaW.PrintMore
theorem rdP (l : List S42) (i : Nat) (h : i < l.length) : rd_T42 l (i : Int) = l[i] := by simp [rd_T42, List.getD_eq_getElem?_getD, h]
def kb (p : Nat) (pb : List Bool) (pw : List Int) : Nat → Nat → List Bool → List Int → List Bool × List Int
  | 0, _, b, w => (b, w)
  | d + 1, i, b, w => if p * 64 + i < b.length then kb p pb pw d (i + 1) (b.set (p * 64 + i) (b.getD (p * 64 + i) false || pb.getD i false)) (w.set (p * 64 + i) (mx (w.getD (p * 64 + i) 0) (pw.getD i 0))) else kb p pb pw d (i + 1) b w
set_option maxHeartbeats 2000000 in
theorem kb_len (p : Nat) (pb : List Bool) (pw : List Int) : ∀ (d i : Nat) (b : List Bool) (w : List Int), (kb p pb pw d i b w).1.length = b.length ∧ (kb p pb pw d i b w).2.length = w.length
  | 0, _, _, _ => ⟨rfl, rfl⟩
  | d + 1, i, b, w => by
    unfold kb
    split
    · have := kb_len p pb pw d (i + 1) (b.set (p * 64 + i) (b.getD (p * 64 + i) false || pb.getD i false)) (w.set (p * 64 + i) (mx (w.getD (p * 64 + i) 0) (pw.getD i 0)))
      simpa using this
    · exact kb_len p pb pw d (i + 1) b w
def kr : List S55 → List Bool → List Int → Int → List Bool × List Int × Int
  | [], b, w, s => (b, w, s)
  | r :: rs, b, w, s => if r.f1 < (b.length : Int) then kr rs (lrn b w s r.f0 r.f1 r.f2).1 (lrn b w s r.f0 r.f1 r.f2).2.1 (lrn b w s r.f0 r.f1 r.f2).2.2 else kr rs b w s
theorem kr_len : ∀ (l : List S55) (b : List Bool) (w : List Int) (s : Int), (kr l b w s).1.length = b.length ∧ (kr l b w s).2.1.length = w.length
  | [], _, _, _ => ⟨rfl, rfl⟩
  | r :: rs, b, w, s => by
    unfold kr
    split
    · have h1 := kr_len rs (lrn b w s r.f0 r.f1 r.f2).1 (lrn b w s r.f0 r.f1 r.f2).2.1 (lrn b w s r.f0 r.f1 r.f2).2.2
      have h2 := lrn_len b w s r.f0 r.f1 r.f2
      exact ⟨h1.1.trans h2.1, h1.2.trans h2.2⟩
    · exact kr_len rs b w s
theorem pidx (p i : Nat) (hp : p ≤ 3) (hi : i ≤ 64) : wrap64 (wrap64 ((p : Int) * 64) + (i : Int)) = ((p * 64 + i : Nat) : Int) := by
  rw [w64 (n := (p : Int) * 64) (by omega) (by omega), w64 (by omega) (by omega)]
  omega
theorem rdB_at (b : List Bool) (i : Nat) : rdOf false b (i : Int) = b.getD i false := by simp [rdOf]
theorem rdI_at (b : List Int) (i : Nat) : rd b (i : Int) = b.getD i 0 := by simp [rd]
set_option maxHeartbeats 2000000 in
theorem rp_l1 (x0 most : Int) (l : List S42) (N pi f0 f1 f3 : Int) (p : Nat) (hp : p ≤ 3) (pb : List Bool) (pw : List Int) (recs : List S55) (hpl : pw.length = pb.length) (h64 : pb.length ≤ 64) (s : Int) {r : List Bool × List Int × Int × Int × Int} (d : Nat) :
    ∀ (i : Nat) (b : List Bool) (w : List Int), i + d = pb.length → (b.length : Int) = x0 → w.length = b.length →
    Ev (fun k => mapjnl_Replay.l2 k x0 most l N pi recs (recs.length : Int) 0 (kb p pb pw d i b w).1 (kb p pb pw d i b w).2 s) r →
    Ev (fun k => mapjnl_Replay.l1 k x0 most l N pi (pb.length : Int) (i : Int) b w s f0 f1 (p : Int) f3 pb pw recs) r := by
  induction d with
  | zero =>
    intro i b w hi hb hw h
    refine Ev.step (fun k => ?_) h
    simp only [mapjnl_Replay.l1]
    rw [if_neg (by omega)]
    rfl
  | succ d ih =>
    intro i b w hi hb hw h
    have n0 : (0 : Int) ≤ (i : Int) := by omega
    have n1 : (i : Int) < (pb.length : Int) := by omega
    have n2 : (i : Int) < (pw.length : Int) := by omega
    have m0 : (0 : Int) ≤ ((p * 64 + i : Nat) : Int) := by omega
    have hi64 : i ≤ 64 := by omega
    have hlt : i < pb.length := by omega
    have hl : pb.length ≤ 140737488355328 := by omega
    by_cases c : p * 64 + i < b.length
    · have m1 : ((p * 64 + i : Nat) : Int) < x0 := by omega
      have m2 : ((p * 64 + i : Nat) : Int) < (b.length : Int) := by omega
      have m3 : ((p * 64 + i : Nat) : Int) < (w.length : Int) := by omega
      have hk : kb p pb pw (d + 1) i b w = kb p pb pw d (i + 1) (b.set (p * 64 + i) (b.getD (p * 64 + i) false || pb.getD i false)) (w.set (p * 64 + i) (mx (w.getD (p * 64 + i) 0) (pw.getD i 0))) := by
        rw [kb, if_pos c]
      rw [hk] at h
      refine Ev.step (fun k => ?_) (ih (i + 1) _ _ (by omega) (by rw [List.length_set]; exact hb) (by rw [List.length_set, List.length_set]; exact hw) h)
      simp only [mapjnl_Replay.l1]
      rw [if_pos n1, pidx p i hp hi64, if_pos m1, if_pos m0, if_pos m2, suc64 i pb.length hlt hl, rdB_at b, rdI_at w, rdI_at pw, rdB_at pb, Int.toNat_natCast]
      by_cases hv : b.getD (p * 64 + i) false = true
      · rw [if_pos hv, if_pos m3, if_pos n0, if_pos n2, hv, Bool.true_or]
      · have hv' : b.getD (p * 64 + i) false = false := by simpa using hv
        rw [if_neg hv, if_pos n0, if_pos n1, if_pos m3, if_pos n2, hv', Bool.false_or]
    · have m1 : ¬ ((p * 64 + i : Nat) : Int) < x0 := by omega
      have hk : kb p pb pw (d + 1) i b w = kb p pb pw d (i + 1) b w := by rw [kb, if_neg c]
      rw [hk] at h
      refine Ev.step (fun k => ?_) (ih (i + 1) b w (by omega) hb hw h)
      simp only [mapjnl_Replay.l1]
      rw [if_pos n1, pidx p i hp hi64, if_neg m1, suc64 i pb.length hlt hl]
set_option maxHeartbeats 2000000 in
theorem rp_l2 (x0 most : Int) (l : List S42) (N : Int) (pi : Int) (recs : List S55) (hr : recs.length ≤ 24) (hok : ∀ x ∈ recs, okR x.f0 x.f1 x.f2) {r : List Bool × List Int × Int × Int × Int} (d : Nat) :
    ∀ (i : Nat) (b : List Bool) (w : List Int) (s : Int), i + d = recs.length → (b.length : Int) = x0 → w.length = b.length →
    Ev (fun k => mapjnl_Replay.l0 k x0 most l N (wrap64 (pi + 1)) (kr (recs.drop i) b w s).1 (kr (recs.drop i) b w s).2.1 (kr (recs.drop i) b w s).2.2) r →
    Ev (fun k => mapjnl_Replay.l2 k x0 most l N pi recs (recs.length : Int) (i : Int) b w s) r := by
  induction d with
  | zero =>
    intro i b w s hi hb hw h
    rw [List.drop_of_length_le (by omega)] at h
    refine Ev.step (fun k => ?_) h
    simp only [mapjnl_Replay.l2]
    rw [if_neg (by omega)]
    rfl
  | succ d ih =>
    intro i b w s hi hb hw h
    have hlt : i < recs.length := by omega
    have n0 : (0 : Int) ≤ (i : Int) := by omega
    have n1 : (i : Int) < (recs.length : Int) := by omega
    have hl : recs.length ≤ 140737488355328 := by omega
    have ho := hok _ (List.getElem_mem hlt)
    have hd : recs.drop i = recs[i] :: recs.drop (i + 1) := List.drop_eq_getElem_cons hlt
    rw [hd] at h
    unfold kr at h
    by_cases c : recs[i].f1 < (b.length : Int)
    · rw [if_pos c] at h
      have ln := lrn_len b w s recs[i].f0 recs[i].f1 recs[i].f2
      refine Ev.step (fun k => ?_) (ih (i + 1) _ _ _ (by omega) (by rw [ln.1]; exact hb) (by rw [ln.1, ln.2]; exact hw) h)
      simp only [mapjnl_Replay.l2]
      rw [if_pos n1, if_pos n0, if_pos n1, rdT recs i hlt, if_pos (by omega), learn_f ho c hw, suc64 i recs.length hlt hl]
      rfl
    · rw [if_neg c] at h
      refine Ev.step (fun k => ?_) (ih (i + 1) b w s (by omega) hb hw h)
      simp only [mapjnl_Replay.l2]
      rw [if_pos n1, if_pos n0, if_pos n1, rdT recs i hlt, if_neg (by omega), suc64 i recs.length hlt hl]
set_option maxHeartbeats 2000000 in
theorem okP.parts {kind gen part seq : Int} {bad : List Bool} {wear : List Int} {recs : List S55} (h : okP kind gen part seq bad wear recs) :
    (∃ p : Nat, part = (p : Int) ∧ p ≤ 3) ∧ bad.length ≤ 64 ∧ wear.length = bad.length ∧ recs.length ≤ 24 ∧ ∀ x ∈ recs, okR x.f0 x.f1 x.f2 := by
  rcases h with ⟨_, _, h2, h3, h4, _, h6, _⟩ | ⟨_, _, h2, _, h4, h5, h6, h7⟩
  · refine ⟨⟨part.toNat, by omega, by omega⟩, by omega, h4, by omega, fun x hx => ?_⟩
    have : recs = [] := List.length_eq_zero_iff.1 h6
    rw [this] at hx
    cases hx
  · exact ⟨⟨0, by omega, by omega⟩, by omega, by omega, h6, h7⟩
abbrev Rp := List Bool × List Int × Int × Int × Int
end Go.Proofs.Ytkhbmgclklmimaa.MapEv
end
