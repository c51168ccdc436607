/- Texts of the proof of InodeMakes, part 34. -/
import Derived.Test.YtjoojmodghpimaaInodeMakesM33
import Derived.Test.YtjoojmodghpimaaInodeMakesM19
import Derived.Test.YtjoojmodghpimaaInodeMakesM20
import Derived.Test.YtjoojmodghpimaaInodeMakesM21
section
namespace Go.Proofs.Ytjoojmodghpimaa.InoEv
set_option linter.unusedVariables false
set_option linter.unusedSimpArgs false
open Go.RowKit Go.Proofs.Ytjoojmodghpimaa.Print Go.Proofs.Ytjoojmodghpimaa.SMath Go.Proofs.Ytjoojmodghpimaa.SealEv Go.Proofs.Ytjoojmodghpimaa.PackMath Go.Proofs.Ytjoojmodghpimaa.PackEv Go.Proofs.YtjoojmodghpimaaW.PrintWords Go.Proofs.YtjoojmodghpimaaW.PrintLast Go.Proofs.YtjoojmodghpimaaW.PrintMore
theorem str_eq {a b : List Int} (ha : Bytes a) (hb : Bytes b) : (strOfNums a).toList = (strOfNums b).toList ↔ a = b := by
  have h : ((strOfNums a).toList == (strOfNums b).toList) = decide (a = b) := Option.some.inj (bytes_equal ha hb)
  constructor
  · intro e
    have : ((strOfNums a).toList == (strOfNums b).toList) = true := by rw [e]; simp
    rw [this] at h
    exact of_decide_eq_true h.symm
  · rintro rfl; rfl
theorem ref_heads (b : List Int) (hb : Bytes b) (h : b.length = 64) : Ev (fun k => slipwayref01_Unpack.f k hws (b.take 24)) (heads b, 0) := by
  obtain ⟨q, hq, qR, rfl⟩ := unp_heads b hb h
  obtain ⟨p, hp, pR⟩ := ref_unpack_ev hws (b.take 24) (bytes_take hb 24)
  obtain rfl := pR.unique qR
  exact hp
theorem ref_root (b : List Int) (hb : Bytes b) (h : b.length = 64) (i : Nat) (hi : i < 4) : Ev (fun k => slipwayref01_Unpack.f k rws (cut b 24 i)) (uvals rws (cut b 24 i) 3, 0) := by
  obtain ⟨q, hq, qR, rfl⟩ := unp_root b hb h i hi
  obtain ⟨p, hp, pR⟩ := ref_unpack_ev rws (cut b 24 i) (cut_bytes hb i)
  obtain rfl := pR.unique qR
  exact hp
def roots_to (b : List Int) (i : Nat) : List S51 := (List.range i).map (un b)
def refEnd (k : Nat) (x : List Int) (c0 c1 c2 c3 c4 c5 : Int) (r : List S51) : Option (Int × Int × Int × Int × Int × Int × (List (S51)) × Int) :=
  (slipwayref14_Encode.f k c0 c1 c2 c3 c4 c5 r).bind fun bt339 => (if bt339.2 = 0 then (if (strOfNums bt339.1).toList = (strOfNums x).toList then (some (c0, c1, c2, c3, c4, c5, r, 0)) else (some (0, 0, 0, 0, 0, 0, ([] : List (S51)), 140))) else (some (0, 0, 0, 0, 0, 0, ([] : List (S51)), 140)))
theorem nat_lt {i d : Nat} {z : Int} (hz : 0 ≤ z) (h : i + (d + 1) = z.toNat) : (i : Int) < z := by omega
theorem c_a {i : Nat} : (0 : Int) ≤ ((24 + i * 9 : Nat) : Int) := by omega
theorem c_b {i : Nat} : ((24 + i * 9 : Nat) : Int) ≤ ((24 + (i + 1) * 9 : Nat) : Int) := by omega
theorem c_c {i : Nat} {x : List Int} (hl : x.length = 64) (h : i < 4) : ((24 + (i + 1) * 9 : Nat) : Int) ≤ (x.length : Int) := by omega
theorem l_a {n : Nat} (h : n = 3) : (0 : Int) < (n : Int) := by omega
theorem l_b {n : Nat} (h : n = 3) : (1 : Int) < (n : Int) := by omega
theorem l_c {n : Nat} (h : n = 3) : (2 : Int) < (n : Int) := by omega
theorem l_d (x : List Int) {i : Nat} (h : i < 4) : (roots_to x i).length < 5864062014805 := by unfold roots_to; rw [List.length_map, List.length_range]; omega
set_option maxHeartbeats 2000000 in
theorem rgo (x : List Int) (hx : Bytes x) (hl : x.length = 64) (c0 c1 c2 c3 c4 c5 : Int) (h4 : rd (heads x) 2 ≤ 4) {v : Int × Int × Int × Int × Int × Int × (List (S51)) × Int} (hE : Ev (fun k => refEnd k x c0 c1 c2 c3 c4 c5 (roots x)) v) (d : Nat) : ∀ i : Nat, i + d = (rd (heads x) 2).toNat →
    Ev (fun k => slipwayref14_Decode.l0 k x (heads x) (i : Int) c0 c1 c2 c3 c4 c5 (roots_to x i)) v := by
  have hp := heads_pos x 2 (by omega)
  have hp : 0 ≤ rd (heads x) 2 := hp
  have h8 : (heads x).length = 8 := uvals_len _ _ _
  have e2 : wrap64 (rd (heads x) 2) = rd (heads x) 2 := w64 (by omega) (by omega)
  induction d with
  | zero =>
    intro i hi
    have er : roots_to x i = roots x := by unfold roots_to roots; rw [← hi, Nat.add_zero]
    rw [er]
    refine Ev.step (fun k => ?_) hE
    simp only [slipwayref14_Decode.l0]
    rw [if_pos (by rw [h8]; decide), e2, if_neg (by omega)]
    rfl
  | succ d ih =>
    intro i hi
    have hi4 : i < 4 := by omega
    have e9 : wrap64 (9 * (i : Int)) = ((9 * i : Nat) : Int) := by rw [w64 (by omega) (by omega)]; omega
    have e24 : wrap64 (24 + ((9 * i : Nat) : Int)) = ((24 + i * 9 : Nat) : Int) := by rw [w64 (by omega) (by omega)]; omega
    have e33 : wrap64 (33 + ((9 * i : Nat) : Int)) = ((24 + (i + 1) * 9 : Nat) : Int) := by rw [w64 (by omega) (by omega)]; omega
    have hs : wrap64 ((i : Int) + 1) = ((i + 1 : Nat) : Int) := by rw [w64 (by omega) (by omega)]; rfl
    have hR := ref_root x hx hl i hi4
    have nx := ih (i + 1) (by omega)
    have en : roots_to x (i + 1) = roots_to x i ++ [un x i] := by simp [roots_to, List.range_succ]
    rw [en] at nx
    refine Ev.step (fun k => by simp only [slipwayref14_Decode.l0]; rfl) ?_
    rw [e2, e9, e24, e33, hs]
    refine Ev.iff_pos (by rw [h8]; decide) (Ev.iff_pos (nat_lt hp hi) (Ev.bind (Ev.fix (fun _ => rfl)) (Ev.iff_pos c_a (Ev.iff_pos c_b (Ev.iff_pos (c_c hl hi4) ?_)))))
    rw [Int.toNat_natCast, Int.toNat_natCast]
    have hu3 : (uvals rws (cut x 24 i) 3).length = 3 := uvals_len _ _ _
    exact Ev.bind hR (Ev.iff_pos (l_a hu3) (Ev.iff_pos (l_b hu3) (Ev.iff_pos (l_c hu3) (Ev.iff_pos (l_d x hi4) nx))))
set_option maxHeartbeats 2000000 in
theorem dec_both (x : List Int) (hx : Bytes x) (hn : x.length ≤ 140737488355328) : EvB (fun k => inode_Decode.f k x) (fun k => slipwayref14_Decode.f k x) (fun r => r.2.2.2.2.2.2.1.length ≤ 4) := by
  unfold inode_Decode.f slipwayref14_Decode.f
  by_cases hl : x.length = 64
  rotate_left
  · exact EvB.lneg hl (EvB.rneg (by omega) (EvB.now (by decide)))
  refine EvB.lpos hl (EvB.rpos (by omega) ?_)
  obtain ⟨q, hq, _, rfl⟩ := unp_heads x hx hl
  have h8 : (heads x).length = 8 := uvals_len _ _ _
  have w24 : Ev (fun k => seal_Width.f k hws) ((24 : Int), (0 : Int)) := wid hws hws_ok 24 (by rw [hws_tot])
  have w9 : Ev (fun k => seal_Width.f k rws) ((9 : Int), (0 : Int)) := wid rws rws_ok 9 (by rw [rws_tot])
  refine EvB.lbind w24 ?_
  refine EvB.lpos (by rfl) ?_
  refine EvB.lbind w9 ?_
  refine EvB.lpos (by rfl) ?_
  refine EvB.lbind hq ?_
  refine EvB.lpos (by rfl) ?_
  refine EvB.lpos h8 ?_
  refine EvB.rbind (Ev.fix (fun _ => rfl)) (EvB.rpos (by omega) (EvB.rbind (ref_heads x hx hl) (EvB.rpos (by rw [h8]; decide) ?_)))
  have bad : Ev (fun k => slipwayref14_Decode.j0 k x (heads x) true) (0, 0, 0, 0, 0, 0, ([] : List S51), 140) := by
    refine Ev.step (f := fun _ => some (0, 0, 0, 0, 0, 0, ([] : List S51), 140)) (fun k => ?_) (Ev.now _)
    simp only [slipwayref14_Decode.j0]
    rw [if_pos trivial]
  refine EvB.ite (fun _ => ⟨_, Ev.now _, bad, by decide⟩) (fun h2 => EvB.rpos (by rw [h8]; decide) ?_)
  by_cases h5 : rd (heads x) 5 > 16777216
  · rw [decide_eq_true h5]
    exact EvB.lpos h5 ⟨_, Ev.now _, bad, by decide⟩
  rw [decide_eq_false h5]
  have h2 : ¬ rd (heads x) 2 > 4 := h2
  have hp : 0 ≤ rd (heads x) 2 := heads_pos x 2 (by omega)
  refine EvB.lneg h5 (EvB.lpos hp ?_)
  have hd := dgo_ev x hx hl (rd (heads x) 2).toNat 0 [] (by omega)
  rw [← List.range_eq_range', List.nil_append] at hd
  refine EvB.lbind hd ?_
  obtain ⟨p, p1, p2, pR, p64⟩ := enc_both (wrap64 (rd (heads x) 0)) (wrap64 (rd (heads x) 4)) (wrap64 (rd (heads x) 5)) (wrap64 (rd (heads x) 6)) (wrap64 (rd (heads x) 7)) (wrap64 (rd (heads x) 1)) (roots x)
  have rl : (roots x).length ≤ 4 := by unfold roots; rw [List.length_map, List.length_range]; omega
  -- the end of the reference's, whatever it comes to
  have fin : ∀ {v}, Ev (fun k => refEnd k x (wrap64 (rd (heads x) 0)) (wrap64 (rd (heads x) 4)) (wrap64 (rd (heads x) 5)) (wrap64 (rd (heads x) 6)) (wrap64 (rd (heads x) 7)) (wrap64 (rd (heads x) 1)) (roots x)) v → Ev (fun k => slipwayref14_Decode.j0 k x (heads x) false) v := fun hE => by
    refine Ev.step (fun k => ?_) (rgo x hx hl _ _ _ _ _ _ (by omega) hE (rd (heads x) 2).toNat 0 (by omega))
    simp only [slipwayref14_Decode.j0]
    rw [if_neg (by decide), if_pos (by rw [h8]; decide), if_pos (by rw [h8]; decide), if_pos (by rw [h8]; decide), if_pos (by rw [h8]; decide), if_pos (by rw [h8]; decide), if_pos (by rw [h8]; decide)]
    rfl
  refine EvB.lbind p1 ?_
  by_cases h0 : p.2 = 0
  · refine EvB.lpos h0 (EvB.lbind (slices_equal p.1 x (by omega)) ?_)
    have hb := (pR h0).2.2.1
    by_cases he : p.1 = x
    · refine EvB.lpos (decide_eq_true he) ⟨_, Ev.now _, fin (Ev.bind p2 (Ev.iff_pos h0 (Ev.iff_pos ((str_eq hb hx).2 he) (Ev.now _)))), rl⟩
    · refine EvB.lneg (by simp [he]) ⟨_, Ev.now _, fin (Ev.bind p2 (Ev.iff_pos h0 (Ev.iff_neg (fun h => he ((str_eq hb hx).1 h)) (Ev.now _)))), by decide⟩
  · exact EvB.lneg h0 ⟨_, Ev.now _, fin (Ev.bind p2 (Ev.iff_neg h0 (Ev.now _))), by decide⟩
end Go.Proofs.Ytjoojmodghpimaa.InoEv
end
