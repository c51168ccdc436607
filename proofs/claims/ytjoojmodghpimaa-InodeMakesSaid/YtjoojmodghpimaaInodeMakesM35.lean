/- Texts of the proof of InodeMakes, part 35. -/
import Derived.Test.YtjoojmodghpimaaInodeMakesM34
import Derived.Test.YtjoojmodghpimaaInodeMakesM19
import Derived.Test.YtjoojmodghpimaaInodeMakesM20
import Derived.Test.YtjoojmodghpimaaInodeMakesM22
section
namespace Go.Proofs.Ytjoojmodghpimaa.Pure
set_option linter.unusedVariables false
set_option linter.unusedSimpArgs false
open Go.RowKit Go.Proofs.Ytjoojmodghpimaa.Print Go.Proofs.Ytjoojmodghpimaa.SMath Go.Proofs.Ytjoojmodghpimaa.SealEv Go.Proofs.Ytjoojmodghpimaa.InoEv Go.Proofs.Ytjoojmodghpimaa.PackEv Go.Proofs.YtjoojmodghpimaaW.PrintWords Go.Proofs.YtjoojmodghpimaaW.PrintLast Go.Proofs.YtjoojmodghpimaaW.PrintMore
theorem live_enc : Ev (fun k => inode_Encode.f k 1 1 5 0 0 0 [(⟨0, 1, 30⟩ : S51)]) ([1, 0, 1, 0, 0, 0, 0, 1, 0, 0, 0, 0, 0, 0, 0, 5, 0, 0, 0, 0, 0, 0, 0, 0, 0, 0, 0, 0, 1, 0, 0, 0, 30] ++ List.replicate 31 0, 0) :=
  Ev.of (inode_Encode.mono _ _ _ _ _ _ _) (k := 400) (by decide +kernel)
theorem live_ev : Ev (fun k => slipwaylaw14_live.f k) true := by
  unfold slipwaylaw14_live.f
  refine Ev.bind live_enc (Ev.iff_pos rfl (Ev.iff_pos (by decide) (Ev.iff_pos (by decide) (Ev.bindS (fun _ => bytes_equal ?_ ?_) ?_))))
  · unfold Bytes Byte; decide
  · unfold Bytes Byte; decide
  · exact Ev.now _
set_option maxHeartbeats 2000000 in
theorem esame_both (l m : List S51) (he : l.length = m.length) (hn : l.length ≤ 140737488355328) (d : Nat) : ∀ i : Nat, i + d = l.length →
    EvB (fun k => extent_Same.l0 k l m (l.length : Int) (i : Int)) (fun k => slipwayref13_Same.l0 k l m (i : Int)) (fun _ => True) := by
  induction d with
  | zero =>
    intro i hi
    refine EvB.stepl (f' := fun _ => some true) (fun k => by simp only [extent_Same.l0]; rw [if_neg (by omega)]) (EvB.stepr (f' := fun _ => some true) (fun k => by simp only [slipwayref13_Same.l0]; rw [if_neg (by omega)]) (EvB.now trivial))
  | succ d ih =>
    intro i hi
    have hlt : i < l.length := by omega
    have hs := suc64 i l.length hlt (by omega)
    refine EvB.stepl (fun k => by simp only [extent_Same.l0]; rfl) (EvB.stepr (fun k => by simp only [slipwayref13_Same.l0]; rfl) ?_)
    rw [hs]
    refine EvB.lpos (by omega) (EvB.lpos (by omega) (EvB.lpos (by omega) (EvB.lpos (by omega) (EvB.rpos (by omega) (EvB.rpos (by omega) (EvB.rpos (by omega) ?_))))))
    exact EvB.ite (fun _ => EvB.now trivial) (fun _ => ih (i + 1) (by omega))
set_option maxHeartbeats 2000000 in
theorem same_both (a0 a1 a2 a3 a4 a5 : Int) (l : List S51) (b0 b1 b2 b3 b4 b5 : Int) (m : List S51) (hn : l.length ≤ 140737488355328) :
    EvB (fun k => inode_Same.f k a0 a1 a2 a3 a4 a5 l b0 b1 b2 b3 b4 b5 m) (fun k => slipwayref14_Same.f k a0 a1 a2 a3 a4 a5 l b0 b1 b2 b3 b4 b5 m) (fun _ => True) := by
  have no : EvB (fun _ => some false) (fun _ => some false) (fun _ => True) := EvB.now trivial
  unfold inode_Same.f slipwayref14_Same.f
  refine EvB.ite (fun _ => EvB.ite (fun _ => EvB.ite (fun _ => EvB.ite (fun _ => EvB.ite (fun _ => EvB.ite (fun _ => ?_) (fun _ => no)) (fun _ => no)) (fun _ => no)) (fun _ => no)) (fun _ => no)) (fun _ => no)
  refine EvB.bind (Q := fun _ => True) ?_ (fun b _ => EvB.now trivial)
  unfold extent_Same.f slipwayref13_Same.f
  exact EvB.ite (fun h => esame_both l m (by omega) hn l.length 0 (by omega)) (fun _ => no)
set_option maxHeartbeats 2000000 in
theorem ref_free (g : Int) : Ev (fun k => slipwayref14_Check.f k 0 0 0 0 g 0 ([] : List S51)) (if 0 ≤ g ∧ g ≤ 4294967295 then 0 else 140) := by
  by_cases h : 0 ≤ g ∧ g ≤ 4294967295
  · rw [if_pos h]
    obtain ⟨r, r1, r2, _⟩ := chk_both 0 0 0 0 g 0 ([] : List S51)
    have e0 : Ev (fun k => extent_Check.f k []) 0 := by
      unfold extent_Check.f
      refine Ev.step (f := fun _ => some 0) (fun k => ?_) (Ev.now _)
      simp only [extent_Check.l0]
      rw [if_neg (by decide)]
    have X : Ev (fun k => inode_Check.j0 k true 0 0 0 0 g 0 ([] : List S51)) 0 := by
      refine Ev.step (fun k => by simp only [inode_Check.j0]; rfl) ?_
      refine Ev.iff_pos (by first | trivial | rfl | decide) (Ev.iff_pos (by first | trivial | rfl | decide) (Ev.iff_pos (by first | trivial | rfl | decide) (Ev.iff_pos (by first | trivial | rfl | decide) (Ev.iff_pos (by first | trivial | rfl | decide) (Ev.iff_pos (by first | trivial | rfl | decide) (Ev.iff_pos (by first | trivial | rfl | decide) (Ev.iff_neg (by decide) (Ev.now _))))))))
    have := Ev.same r1 (chk_in (l := []) ⟨by decide, by decide, by decide, by decide, h, by decide⟩ (by decide) X)
    subst this
    exact r2
  · rw [if_neg h]
    exact ref_out (fun hh => h hh.1.2.2.2.2.1)
set_option maxHeartbeats 2000000 in
theorem free_both (g : Int) : EvB (fun _ => inode_Free.f g) (fun k => slipwayref14_Free.f k g) (fun r => r.2.2.2.2.2.2.length ≤ 0) := by
  unfold inode_Free.f slipwayref14_Free.f
  refine EvB.rbind (ref_free g) ?_
  by_cases h0 : g < 0
  · rw [if_neg (show ¬ (0 ≤ g ∧ g ≤ 4294967295) by omega)]
    exact EvB.lpos h0 (EvB.rneg (by decide) (EvB.now (by decide)))
  by_cases h1 : g > 4294967295
  · rw [if_neg (show ¬ (0 ≤ g ∧ g ≤ 4294967295) by omega)]
    exact EvB.lneg h0 (EvB.lpos h1 (EvB.rneg (by decide) (EvB.now (by decide))))
  · rw [if_pos (show 0 ≤ g ∧ g ≤ 4294967295 by omega)]
    exact EvB.lneg h0 (EvB.lneg h1 (EvB.rpos rfl (EvB.now (Nat.le_refl 0))))
set_option maxHeartbeats 2000000 in
theorem InodeMakes : slipwaylaw14_InodeMakes.Pure := by
  intro a0 a1 a2 a3 a4 a5 l b0 b1 b2 b3 b4 b5 m x _ _ _ _ _ _ hl _ _ _ _ _ _ hm hx
  refine Ev.rounds ?_
  have hx8 : Bytes x := bytes_of_wf hx.2.2
  have hxn : x.length ≤ 140737488355328 := by have := hx.2.1; omega
  have hln : l.length ≤ 140737488355328 := by have := hl.2.1; omega
  unfold slipwaylaw14_InodeMakes.f
  obtain ⟨p, p1, p2, pR, _⟩ := enc_both a0 a1 a2 a3 a4 a5 l
  obtain ⟨v, v1, v2, v4⟩ := dec_both x hx8 hxn
  obtain ⟨c, c1, c2, _⟩ := chk_both a0 a1 a2 a3 a4 a5 l
  obtain ⟨s, s1, s2, _⟩ := same_both a0 a1 a2 a3 a4 a5 l b0 b1 b2 b3 b4 b5 m hln
  obtain ⟨f, f1, f2, f0⟩ := free_both a4
  refine Ev.bind live_ev (Ev.iff_pos rfl (Ev.bind p1 (Ev.bind p2 (Ev.bind v1 (Ev.bind v2 ?_)))))
  refine Ev.bind (a := true) ?_ (Ev.iff_pos rfl (Ev.iff_pos rfl (Ev.bind (same_self _ _ _ _ _ _ _ (by omega)) (Ev.iff_pos rfl (Ev.iff_pos rfl (Ev.bind c1 (Ev.bind c2 (Ev.iff_pos rfl (Ev.bind s1 (Ev.bind s2 (Ev.iff_pos (by simp) (Ev.bind f1 (Ev.bind f2 (Ev.bind (same_self _ _ _ _ _ _ _ (by omega)) (Ev.iff_pos rfl ?_)))))))))))))))
  · unfold bytes_Equal.f
    exact Ev.fix (fun _ => by simp)
  · have : ∃ t, inode_Blocks.f a2 = some t ∧ slipwayref14_Blocks.f a2 = some t := by
      unfold inode_Blocks.f slipwayref14_Blocks.f
      by_cases h : a2 ≤ 0
      · exact ⟨_, if_pos h, if_pos h⟩
      · exact ⟨_, if_neg h, if_neg h⟩
    obtain ⟨t, t1, t2⟩ := this
    exact Ev.bindS (fun _ => t1) (Ev.bindS (fun _ => t2) (Ev.fix (fun _ => by simp)))
end Go.Proofs.Ytjoojmodghpimaa.Pure
end
