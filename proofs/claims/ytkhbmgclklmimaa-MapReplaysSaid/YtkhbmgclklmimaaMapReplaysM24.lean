/- Texts of the proof of MapReplays, part 24. -/
import Derived.Test.YtkhbmgclklmimaaMapReplaysM23
import Derived.Test.YtkhbmgclklmimaaMapReplaysM14
import Derived.Test.YtkhbmgclklmimaaMapReplaysM16
import Derived.Test.YtkhbmgclklmimaaMapReplaysM17
import Derived.Test.YtkhbmgclklmimaaMapReplaysM18
import Derived.Test.YtkhbmgclklmimaaMapReplaysM19
section
namespace Go.Proofs.Ytkhbmgclklmimaa.MapEv
set_option linter.unusedVariables false
set_option linter.unusedSimpArgs false
open Go.RowKit Go.Proofs.Ytkhbmgclklmimaa.Print Go.Proofs.YtkhbmgclklmimaaW.PrintWords Go.Proofs.YtkhbmgclklmimaaW.PrintLast Go.Proofs.YtkhbmgclklmimaaW.PrintMore
theorem rdP (l : List S42) (i : Nat) (h : i < l.length) : rd_T42 l (i : Int) = l[i] := by simp [rd_T42, List.getD_eq_getElem?_getD, h]
def kb (p : Nat) (pb : List Bool) (pw : List Int) : Nat → Nat → List Bool → List Int → List Bool × List Int
  | 0, _, b, w => (b, w)
  | d + 1, i, b, w => if p * 64 + i < b.length then kb p pb pw d (i + 1) (b.set (p * 64 + i) (b.getD (p * 64 + i) false || pb.getD i false)) (w.set (p * 64 + i) (mx (w.getD (p * 64 + i) 0) (pw.getD i 0))) else kb p pb pw d (i + 1) b w
set_option maxHeartbeats 2000000 in
theorem kb_len (p : Nat) (pb : List Bool) (pw : List Int) : ∀ (d i : Nat) (b : List Bool) (w : List Int), (kb p pb pw d i b w).1.length = b.length ∧ (kb p pb pw d i b w).2.length = w.length
  | 0, _, _, _ => ⟨rfl, rfl⟩
  | d + 1, i, b, w => by
    unfold kb
    split
    · have := kb_len p pb pw d (i + 1) (b.set (p * 64 + i) (b.getD (p * 64 + i) false || pb.getD i false)) (w.set (p * 64 + i) (mx (w.getD (p * 64 + i) 0) (pw.getD i 0)))
      simpa using this
    · exact kb_len p pb pw d (i + 1) b w
def kr : List S55 → List Bool → List Int → Int → List Bool × List Int × Int
  | [], b, w, s => (b, w, s)
  | r :: rs, b, w, s => if r.f1 < (b.length : Int) then kr rs (lrn b w s r.f0 r.f1 r.f2).1 (lrn b w s r.f0 r.f1 r.f2).2.1 (lrn b w s r.f0 r.f1 r.f2).2.2 else kr rs b w s
theorem kr_len : ∀ (l : List S55) (b : List Bool) (w : List Int) (s : Int), (kr l b w s).1.length = b.length ∧ (kr l b w s).2.1.length = w.length
  | [], _, _, _ => ⟨rfl, rfl⟩
  | r :: rs, b, w, s => by
    unfold kr
    split
    · have h1 := kr_len rs (lrn b w s r.f0 r.f1 r.f2).1 (lrn b w s r.f0 r.f1 r.f2).2.1 (lrn b w s r.f0 r.f1 r.f2).2.2
      have h2 := lrn_len b w s r.f0 r.f1 r.f2
      exact ⟨h1.1.trans h2.1, h1.2.trans h2.2⟩
    · exact kr_len rs b w s
theorem pidx (p i : Nat) (hp : p ≤ 3) (hi : i ≤ 64) : wrap64 (wrap64 ((p : Int) * 64) + (i : Int)) = ((p * 64 + i : Nat) : Int) := by
  rw [w64 (n := (p : Int) * 64) (by omega) (by omega), w64 (by omega) (by omega)]
  omega
theorem rdB_at (b : List Bool) (i : Nat) : rdOf false b (i : Int) = b.getD i false := by simp [rdOf]
theorem rdI_at (b : List Int) (i : Nat) : rd b (i : Int) = b.getD i 0 := by simp [rd]
set_option maxHeartbeats 2000000 in
theorem rp_l1 (x0 most : Int) (l : List S42) (N pi f0 f1 f3 : Int) (p : Nat) (hp : p ≤ 3) (pb : List Bool) (pw : List Int) (recs : List S55) (hpl : pw.length = pb.length) (h64 : pb.length ≤ 64) (s : Int) {r : List Bool × List Int × Int × Int × Int} (d : Nat) :
    ∀ (i : Nat) (b : List Bool) (w : List Int), i + d = pb.length → (b.length : Int) = x0 → w.length = b.length →
    Ev (fun k => mapjnl_Replay.l2 k x0 most l N pi recs (recs.length : Int) 0 (kb p pb pw d i b w).1 (kb p pb pw d i b w).2 s) r →
    Ev (fun k => mapjnl_Replay.l1 k x0 most l N pi (pb.length : Int) (i : Int) b w s f0 f1 (p : Int) f3 pb pw recs) r := by
  induction d with
  | zero =>
    intro i b w hi hb hw h
    refine Ev.step (fun k => ?_) h
    simp only [mapjnl_Replay.l1]
    rw [if_neg (by omega)]
    rfl
  | succ d ih =>
    intro i b w hi hb hw h
    have n0 : (0 : Int) ≤ (i : Int) := by omega
    have n1 : (i : Int) < (pb.length : Int) := by omega
    have n2 : (i : Int) < (pw.length : Int) := by omega
    have m0 : (0 : Int) ≤ ((p * 64 + i : Nat) : Int) := by omega
    have hi64 : i ≤ 64 := by omega
    have hlt : i < pb.length := by omega
    have hl : pb.length ≤ 140737488355328 := by omega
    by_cases c : p * 64 + i < b.length
    · have m1 : ((p * 64 + i : Nat) : Int) < x0 := by omega
      have m2 : ((p * 64 + i : Nat) : Int) < (b.length : Int) := by omega
      have m3 : ((p * 64 + i : Nat) : Int) < (w.length : Int) := by omega
      have hk : kb p pb pw (d + 1) i b w = kb p pb pw d (i + 1) (b.set (p * 64 + i) (b.getD (p * 64 + i) false || pb.getD i false)) (w.set (p * 64 + i) (mx (w.getD (p * 64 + i) 0) (pw.getD i 0))) := by
        rw [kb, if_pos c]
      rw [hk] at h
      refine Ev.step (fun k => ?_) (ih (i + 1) _ _ (by omega) (by rw [List.length_set]; exact hb) (by rw [List.length_set, List.length_set]; exact hw) h)
      simp only [mapjnl_Replay.l1]
      rw [if_pos n1, pidx p i hp hi64, if_pos m1, if_pos m0, if_pos m2, suc64 i pb.length hlt hl, rdB_at b, rdI_at w, rdI_at pw, rdB_at pb, Int.toNat_natCast]
      by_cases hv : b.getD (p * 64 + i) false = true
      · rw [if_pos hv, if_pos m3, if_pos n0, if_pos n2, hv, Bool.true_or]
      · have hv' : b.getD (p * 64 + i) false = false := by simpa using hv
        rw [if_neg hv, if_pos n0, if_pos n1, if_pos m3, if_pos n2, hv', Bool.false_or]
    · have m1 : ¬ ((p * 64 + i : Nat) : Int) < x0 := by omega
      have hk : kb p pb pw (d + 1) i b w = kb p pb pw d (i + 1) b w := by rw [kb, if_neg c]
      rw [hk] at h
      refine Ev.step (fun k => ?_) (ih (i + 1) b w (by omega) hb hw h)
      simp only [mapjnl_Replay.l1]
      rw [if_pos n1, pidx p i hp hi64, if_neg m1, suc64 i pb.length hlt hl]
set_option maxHeartbeats 2000000 in
theorem rp_l2 (x0 most : Int) (l : List S42) (N : Int) (pi : Int) (recs : List S55) (hr : recs.length ≤ 24) (hok : ∀ x ∈ recs, okR x.f0 x.f1 x.f2) {r : List Bool × List Int × Int × Int × Int} (d : Nat) :
    ∀ (i : Nat) (b : List Bool) (w : List Int) (s : Int), i + d = recs.length → (b.length : Int) = x0 → w.length = b.length →
    Ev (fun k => mapjnl_Replay.l0 k x0 most l N (wrap64 (pi + 1)) (kr (recs.drop i) b w s).1 (kr (recs.drop i) b w s).2.1 (kr (recs.drop i) b w s).2.2) r →
    Ev (fun k => mapjnl_Replay.l2 k x0 most l N pi recs (recs.length : Int) (i : Int) b w s) r := by
  induction d with
  | zero =>
    intro i b w s hi hb hw h
    rw [List.drop_of_length_le (by omega)] at h
    refine Ev.step (fun k => ?_) h
    simp only [mapjnl_Replay.l2]
    rw [if_neg (by omega)]
    rfl
  | succ d ih =>
    intro i b w s hi hb hw h
    have hlt : i < recs.length := by omega
    have n0 : (0 : Int) ≤ (i : Int) := by omega
    have n1 : (i : Int) < (recs.length : Int) := by omega
    have hl : recs.length ≤ 140737488355328 := by omega
    have ho := hok _ (List.getElem_mem hlt)
    have hd : recs.drop i = recs[i] :: recs.drop (i + 1) := List.drop_eq_getElem_cons hlt
    rw [hd] at h
    unfold kr at h
    by_cases c : recs[i].f1 < (b.length : Int)
    · rw [if_pos c] at h
      have ln := lrn_len b w s recs[i].f0 recs[i].f1 recs[i].f2
      refine Ev.step (fun k => ?_) (ih (i + 1) _ _ _ (by omega) (by rw [ln.1]; exact hb) (by rw [ln.1, ln.2]; exact hw) h)
      simp only [mapjnl_Replay.l2]
      rw [if_pos n1, if_pos n0, if_pos n1, rdT recs i hlt, if_pos (by omega), learn_f ho c hw, suc64 i recs.length hlt hl]
      rfl
    · rw [if_neg c] at h
      refine Ev.step (fun k => ?_) (ih (i + 1) b w s (by omega) hb hw h)
      simp only [mapjnl_Replay.l2]
      rw [if_pos n1, if_pos n0, if_pos n1, rdT recs i hlt, if_neg (by omega), suc64 i recs.length hlt hl]
set_option maxHeartbeats 2000000 in
theorem kn_l0 (f0 f1 f3 : Int) (p : Nat) (hp : p ≤ 3) (pb : List Bool) (pw : List Int) (recs : List S55) (hpl : pw.length = pb.length) (h64 : pb.length ≤ 64) (s : Int) {r : List Bool × List Int × Int} (d : Nat) :
    ∀ (i : Nat) (b : List Bool) (w : List Int), i + d = pb.length → w.length = b.length →
    Ev (fun k => slipwayref06_know.l1 k 0 (kb p pb pw d i b w).1 (kb p pb pw d i b w).2 (mx s f3) f0 f1 (p : Int) f3 pb pw recs) r →
    Ev (fun k => slipwayref06_know.l0 k (i : Int) b w s f0 f1 (p : Int) f3 pb pw recs) r := by
  induction d with
  | zero =>
    intro i b w hi hw h
    refine Ev.step (f := fun k => slipwayref06_know.j1 k (i : Int) false b w s f0 f1 (p : Int) f3 pb pw recs) (fun k => ?_) (Ev.step (fun k => ?_) h)
    · simp only [slipwayref06_know.l0]
      rw [if_neg (by omega)]
    · simp only [slipwayref06_know.j1]
      rw [if_neg (by decide)]
      rfl
  | succ d ih =>
    intro i b w hi hw h
    have n0 : (0 : Int) ≤ (i : Int) := by omega
    have n1 : (i : Int) < (pb.length : Int) := by omega
    have n2 : (i : Int) < (pw.length : Int) := by omega
    have m0 : (0 : Int) ≤ ((p * 64 + i : Nat) : Int) := by omega
    have hi64 : i ≤ 64 := by omega
    have hlt : i < pb.length := by omega
    have hl : pb.length ≤ 140737488355328 := by omega
    have st : ∀ {q}, Ev (fun k => slipwayref06_know.j1 k (i : Int) true b w s f0 f1 (p : Int) f3 pb pw recs) q → Ev (fun k => slipwayref06_know.l0 k (i : Int) b w s f0 f1 (p : Int) f3 pb pw recs) q := fun {q} hq => by
      refine Ev.step (fun k => ?_) hq
      simp only [slipwayref06_know.l0]
      rw [if_pos n1, decide_eq_true n2]
    by_cases c : p * 64 + i < b.length
    · have m2 : ((p * 64 + i : Nat) : Int) < (b.length : Int) := by omega
      have m3 : ((p * 64 + i : Nat) : Int) < (w.length : Int) := by omega
      have hk : kb p pb pw (d + 1) i b w = kb p pb pw d (i + 1) (b.set (p * 64 + i) (b.getD (p * 64 + i) false || pb.getD i false)) (w.set (p * 64 + i) (mx (w.getD (p * 64 + i) 0) (pw.getD i 0))) := by
        rw [kb, if_pos c]
      rw [hk] at h
      refine st (Ev.step (fun k => ?_) (ih (i + 1) _ _ (by omega) (by rw [List.length_set, List.length_set]; exact hw) h))
      simp only [slipwayref06_know.j1]
      rw [if_pos trivial, pidx p i hp hi64, if_pos m2, if_pos m3, if_pos m0, suc64 i pb.length hlt hl, rdB_at b, rdI_at w, rdI_at pw, rdB_at pb, Int.toNat_natCast]
      by_cases hv : b.getD (p * 64 + i) false = true
      · rw [if_pos hv, if_pos n0, if_pos n2, hv, Bool.true_or]
      · have hv' : b.getD (p * 64 + i) false = false := by simpa using hv
        rw [if_neg hv, if_pos n0, if_pos n1, if_pos n2, hv', Bool.false_or]
    · have m2 : ¬ ((p * 64 + i : Nat) : Int) < (b.length : Int) := by omega
      have hk : kb p pb pw (d + 1) i b w = kb p pb pw d (i + 1) b w := by rw [kb, if_neg c]
      rw [hk] at h
      refine st (Ev.step (fun k => ?_) (ih (i + 1) b w (by omega) hw h))
      simp only [slipwayref06_know.j1]
      rw [if_pos trivial, pidx p i hp hi64, if_neg m2, suc64 i pb.length hlt hl]
set_option maxHeartbeats 2000000 in
theorem kn_l1 (f0 f1 f2 f3 : Int) (pb : List Bool) (pw : List Int) (recs : List S55) (hr : recs.length ≤ 24) (hok : ∀ x ∈ recs, okR x.f0 x.f1 x.f2) (d : Nat) :
    ∀ (i : Nat) (b : List Bool) (w : List Int) (s : Int), i + d = recs.length → w.length = b.length →
    Ev (fun k => slipwayref06_know.l1 k (i : Int) b w s f0 f1 f2 f3 pb pw recs) (kr (recs.drop i) b w s) := by
  induction d with
  | zero =>
    intro i b w s hi hw
    rw [List.drop_of_length_le (by omega)]
    refine Ev.step (f := fun _ => some (b, w, s)) (fun k => ?_) (Ev.now _)
    simp only [slipwayref06_know.l1]
    rw [if_neg (by omega)]
  | succ d ih =>
    intro i b w s hi hw
    have hlt : i < recs.length := by omega
    have n0 : (0 : Int) ≤ (i : Int) := by omega
    have n1 : (i : Int) < (recs.length : Int) := by omega
    have hl : recs.length ≤ 140737488355328 := by omega
    have ho := hok _ (List.getElem_mem hlt)
    have hd : recs.drop i = recs[i] :: recs.drop (i + 1) := List.drop_eq_getElem_cons hlt
    rw [hd]
    unfold kr
    by_cases c : recs[i].f1 < (b.length : Int)
    · rw [if_pos c]
      have ln := lrn_len b w s recs[i].f0 recs[i].f1 recs[i].f2
      refine Ev.step (fun k => ?_) (ih (i + 1) _ _ _ (by omega) (by rw [ln.1, ln.2]; exact hw))
      simp only [slipwayref06_know.l1]
      rw [if_pos n1, if_pos n0, rdT recs i hlt, if_pos c, one_f ho c hw, suc64 i recs.length hlt hl]
      rfl
    · rw [if_neg c]
      refine Ev.step (fun k => ?_) (ih (i + 1) b w s (by omega) hw)
      simp only [slipwayref06_know.l1]
      rw [if_pos n1, if_pos n0, rdT recs i hlt, if_neg c, suc64 i recs.length hlt hl]
set_option maxHeartbeats 2000000 in
theorem okP.parts {kind gen part seq : Int} {bad : List Bool} {wear : List Int} {recs : List S55} (h : okP kind gen part seq bad wear recs) :
    (∃ p : Nat, part = (p : Int) ∧ p ≤ 3) ∧ bad.length ≤ 64 ∧ wear.length = bad.length ∧ recs.length ≤ 24 ∧ ∀ x ∈ recs, okR x.f0 x.f1 x.f2 := by
  rcases h with ⟨_, _, h2, h3, h4, _, h6, _⟩ | ⟨_, _, h2, _, h4, h5, h6, h7⟩
  · refine ⟨⟨part.toNat, by omega, by omega⟩, by omega, h4, by omega, fun x hx => ?_⟩
    have : recs = [] := List.length_eq_zero_iff.1 h6
    rw [this] at hx
    cases hx
  · exact ⟨⟨0, by omega, by omega⟩, by omega, by omega, h6, h7⟩
abbrev Rp := List Bool × List Int × Int × Int × Int
set_option maxHeartbeats 2000000 in
theorem rep_from (l : List S42) (hn : l.length ≤ 140737488355328) (hl : ∀ x ∈ l, x.f5.length ≤ 140737488355328 ∧ x.f6.length ≤ 140737488355328) (x0 : Int) (d : Nat) : ∀ (i : Nat) (most : Int) (b : List Bool) (w : List Int) (s : Int), i + d = l.length → (b.length : Int) = x0 → w.length = b.length → b.length ≤ 256 →
    ∃ r : Rp, Ev (fun k => mapjnl_Replay.l0 k x0 most l (l.length : Int) (i : Int) b w s) r ∧ Ev (fun k => slipwayref06_Replay.l0 k l most (i : Int) b w s) r ∧ r.1.length ≤ 256 ∧ r.2.1.length ≤ 256 := by
  induction d with
  | zero =>
    intro i most b w s hi hb hw h256
    refine ⟨(b, w, s, most, 0), Ev.step (f := fun _ => some (b, w, s, most, 0)) (fun k => ?_) (Ev.now _), Ev.step (f := fun _ => some (b, w, s, most, 0)) (fun k => ?_) (Ev.now _), h256, by simp only []; omega⟩
    · simp only [mapjnl_Replay.l0]
      rw [if_neg (by omega)]
    · simp only [slipwayref06_Replay.l0]
      rw [if_neg (by omega)]
  | succ d ih =>
    intro i most b w s hi hb hw h256
    have hlt : i < l.length := by omega
    have n0 : (0 : Int) ≤ (i : Int) := by omega
    have n1 : (i : Int) < (l.length : Int) := by omega
    obtain ⟨hf5, hf6⟩ := hl _ (List.getElem_mem hlt)
    generalize hP : l[i] = P at hf5 hf6
    have hg : rd_T42 l (i : Int) = P := (rdP l i hlt).trans hP
    have A : ∀ {r}, Ev (fun k => (mapjnl_fits.f k P.f0 P.f1 P.f2 P.f3 P.f4 P.f5 P.f6).bind fun t599 => (if t599 = true then (mapjnl_Replay.l1 k x0 (mx most P.f1) l (l.length : Int) (i : Int) (P.f4.length : Int) 0 b w (mx s P.f3) P.f0 P.f1 P.f2 P.f3 P.f4 P.f5 P.f6) else (mapjnl_Replay.l0 k x0 most l (l.length : Int) ((i + 1 : Nat) : Int) b w s))) r → Ev (fun k => mapjnl_Replay.l0 k x0 most l (l.length : Int) (i : Int) b w s) r := fun {r} h => by
      refine Ev.step (fun k => ?_) h
      simp only [mapjnl_Replay.l0]
      rw [if_pos n1, if_pos n0, if_pos n1, hg, suc64 i l.length hlt hn]
    have B : ∀ {r}, Ev (fun k => (slipwayref06_page.f k P.f0 P.f1 P.f2 P.f3 P.f4 P.f5 P.f6).bind fun t670 => (if t670 = true then ((slipwayref06_know.f k b w s P.f0 P.f1 P.f2 P.f3 P.f4 P.f5 P.f6).bind fun bt672 => (slipwayref06_Replay.l0 k l (mx most P.f1) ((i + 1 : Nat) : Int) bt672.1 bt672.2.1 bt672.2.2)) else (slipwayref06_Replay.l0 k l most ((i + 1 : Nat) : Int) b w s))) r → Ev (fun k => slipwayref06_Replay.l0 k l most (i : Int) b w s) r := fun {r} h => by
      refine Ev.step (fun k => ?_) h
      simp only [slipwayref06_Replay.l0]
      rw [if_pos n1, if_pos n0, hg, suc64 i l.length hlt hn]
    by_cases c : okP P.f0 P.f1 P.f2 P.f3 P.f4 P.f5 P.f6
    · obtain ⟨⟨p, hp, hp3⟩, h64, hpl, hr, hok⟩ := c.parts
      have kl := kb_len p P.f4 P.f5 P.f4.length 0 b w
      have rl := kr_len P.f6 (kb p P.f4 P.f5 P.f4.length 0 b w).1 (kb p P.f4 P.f5 P.f4.length 0 b w).2 (mx s P.f3)
      obtain ⟨r, r1, r2, r3, r4⟩ := ih (i + 1) (mx most P.f1) (kr P.f6 (kb p P.f4 P.f5 P.f4.length 0 b w).1 (kb p P.f4 P.f5 P.f4.length 0 b w).2 (mx s P.f3)).1 (kr P.f6 (kb p P.f4 P.f5 P.f4.length 0 b w).1 (kb p P.f4 P.f5 P.f4.length 0 b w).2 (mx s P.f3)).2.1 (kr P.f6 (kb p P.f4 P.f5 P.f4.length 0 b w).1 (kb p P.f4 P.f5 P.f4.length 0 b w).2 (mx s P.f3)).2.2 (by omega) (by rw [rl.1, kl.1]; exact hb) (by rw [rl.1, rl.2, kl.1, kl.2]; exact hw) (by rw [rl.1, kl.1]; exact h256)
      refine ⟨r, A (Ev.bind (fits_ev _ _ _ _ _ _ _ hf5 hf6) (Ev.iff_pos (decide_eq_true c) ?_)), B (Ev.bind (rpage_ev _ _ _ _ _ _ _ hf5) (Ev.iff_pos (decide_eq_true c) (Ev.bind ?_ r2))), r3, r4⟩
      · rw [hp]
        refine rp_l1 x0 (mx most P.f1) l (l.length : Int) (i : Int) P.f0 P.f1 P.f3 p hp3 P.f4 P.f5 P.f6 hpl h64 (mx s P.f3) P.f4.length 0 b w (by omega) hb hw ?_
        refine rp_l2 x0 (mx most P.f1) l (l.length : Int) (i : Int) P.f6 hr hok P.f6.length 0 _ _ (mx s P.f3) (by omega) (by rw [kl.1]; exact hb) (by rw [kl.1, kl.2]; exact hw) ?_
        rw [List.drop_zero, suc64 i l.length hlt hn]
        exact r1
      · unfold slipwayref06_know.f
        rw [hp]
        refine kn_l0 P.f0 P.f1 P.f3 p hp3 P.f4 P.f5 P.f6 hpl h64 s P.f4.length 0 b w (by omega) hw ?_
        have := kn_l1 P.f0 P.f1 (p : Int) P.f3 P.f4 P.f5 P.f6 hr hok P.f6.length 0 (kb p P.f4 P.f5 P.f4.length 0 b w).1 (kb p P.f4 P.f5 P.f4.length 0 b w).2 (mx s P.f3) (by omega) (by rw [kl.1, kl.2]; exact hw)
        rw [List.drop_zero] at this
        exact this
    · obtain ⟨r, r1, r2, r3, r4⟩ := ih (i + 1) most b w s (by omega) hb hw h256
      exact ⟨r, A (Ev.bind (fits_ev _ _ _ _ _ _ _ hf5 hf6) (Ev.iff_neg (by simpa using c) r1)), B (Ev.bind (rpage_ev _ _ _ _ _ _ _ hf5) (Ev.iff_neg (by simpa using c) r2)), r3, r4⟩
set_option maxHeartbeats 2000000 in
theorem replay_ev (n : Int) (l : List S42) (hn : l.length ≤ 140737488355328) (hl : ∀ x ∈ l, x.f5.length ≤ 140737488355328 ∧ x.f6.length ≤ 140737488355328) :
    ∃ r : Rp, Ev (fun k => mapjnl_Replay.f k n l) r ∧ Ev (fun k => slipwayref06_Replay.f k n l) r ∧ r.1.length ≤ 256 ∧ r.2.1.length ≤ 256 := by
  unfold mapjnl_Replay.f slipwayref06_Replay.f
  by_cases h : sized n
  · have e : nw n = (List.replicate n.toNat false, List.replicate n.toNat 0, 0, 0) := if_pos h
    have h' := h
    unfold sized at h'
    obtain ⟨r, r1, r2, r3, r4⟩ := rep_from l hn hl n l.length 0 0 (List.replicate n.toNat false) (List.replicate n.toNat 0) 0 (by omega) (by rw [List.length_replicate]; omega) (by rw [List.length_replicate, List.length_replicate]) (by rw [List.length_replicate]; omega)
    exact ⟨r, Ev.bindS (fun _ => (new_f n).trans (congrArg some e)) (Ev.iff_pos rfl r1), Ev.bindS (fun _ => (rnew_f n).trans (congrArg some e)) (Ev.iff_pos rfl r2), r3, r4⟩
  · have e : nw n = ([], [], 0, 20) := if_neg h
    exact ⟨([], [], 0, 0, 20), Ev.bindS (fun _ => (new_f n).trans (congrArg some e)) (Ev.iff_neg (by decide) (Ev.now _)), Ev.bindS (fun _ => (rnew_f n).trans (congrArg some e)) (Ev.iff_neg (by decide) (Ev.now _)), by simp, by simp⟩
end Go.Proofs.Ytkhbmgclklmimaa.MapEv
end
