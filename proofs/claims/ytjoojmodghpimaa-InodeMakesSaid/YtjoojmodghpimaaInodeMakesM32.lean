/- Texts of the proof of InodeMakes, part 32. -/
import Derived.Test.YtjoojmodghpimaaInodeMakesM31
import Derived.Test.YtjoojmodghpimaaInodeMakesM19
import Derived.Test.YtjoojmodghpimaaInodeMakesM20
section
namespace Go.Proofs.Ytjoojmodghpimaa.InoEv
set_option linter.unusedVariables false
set_option linter.unusedSimpArgs false
open Go.RowKit Go.Proofs.Ytjoojmodghpimaa.Print Go.Proofs.Ytjoojmodghpimaa.SMath Go.Proofs.Ytjoojmodghpimaa.SealEv Go.Proofs.Ytjoojmodghpimaa.PackMath Go.Proofs.Ytjoojmodghpimaa.PackEv Go.Proofs.YtjoojmodghpimaaW.PrintWords Go.Proofs.YtjoojmodghpimaaW.PrintLast Go.Proofs.YtjoojmodghpimaaW.PrintMore
def EvB {α : Type} (f g : Nat → Option α) (P : α → Prop) : Prop := ∃ r, Ev f r ∧ Ev g r ∧ P r
section
variable {α β : Type} {P : α → Prop} {c : Prop} [Decidable c]
theorem EvB.ite {f g f' g' : Nat → Option α} (h1 : c → EvB f g P) (h2 : ¬ c → EvB f' g' P) : EvB (fun n => if c then f n else f' n) (fun n => if c then g n else g' n) P := by
  by_cases h : c
  · obtain ⟨r, a, b, p⟩ := h1 h
    exact ⟨r, Ev.iff_pos h a, Ev.iff_pos h b, p⟩
  · obtain ⟨r, a, b, p⟩ := h2 h
    exact ⟨r, Ev.iff_neg h a, Ev.iff_neg h b, p⟩
theorem EvB.lpos {f f' g : Nat → Option α} (h : c) (k : EvB f g P) : EvB (fun n => if c then f n else f' n) g P := by
  obtain ⟨r, a, b, p⟩ := k
  exact ⟨r, Ev.iff_pos h a, b, p⟩
theorem EvB.lneg {f f' g : Nat → Option α} (h : ¬ c) (k : EvB f' g P) : EvB (fun n => if c then f n else f' n) g P := by
  obtain ⟨r, a, b, p⟩ := k
  exact ⟨r, Ev.iff_neg h a, b, p⟩
theorem EvB.rpos {f f' g : Nat → Option α} (h : c) (k : EvB g f P) : EvB g (fun n => if c then f n else f' n) P := by
  obtain ⟨r, a, b, p⟩ := k
  exact ⟨r, a, Ev.iff_pos h b, p⟩
theorem EvB.rneg {f f' g : Nat → Option α} (h : ¬ c) (k : EvB g f' P) : EvB g (fun n => if c then f n else f' n) P := by
  obtain ⟨r, a, b, p⟩ := k
  exact ⟨r, a, Ev.iff_neg h b, p⟩
theorem EvB.lite {f f' g : Nat → Option α} (h1 : c → EvB f g P) (h2 : ¬ c → EvB f' g P) : EvB (fun n => if c then f n else f' n) g P := by
  by_cases h : c
  · exact EvB.lpos h (h1 h)
  · exact EvB.lneg h (h2 h)
theorem EvB.bind {Q : β → Prop} {f g : Nat → Option β} {F G : Nat → β → Option α} (h : EvB f g Q) (k : ∀ b, Q b → EvB (fun n => F n b) (fun n => G n b) P) : EvB (fun n => (f n).bind (F n)) (fun n => (g n).bind (G n)) P := by
  obtain ⟨r, a, b, q⟩ := h
  obtain ⟨s, a', b', p⟩ := k r q
  exact ⟨s, Ev.bind a a', Ev.bind b b', p⟩
theorem EvB.lbind {f : Nat → Option β} {F : Nat → β → Option α} {g : Nat → Option α} {b : β} (h : Ev f b) (k : EvB (fun n => F n b) g P) : EvB (fun n => (f n).bind (F n)) g P := by
  obtain ⟨s, a', b', p⟩ := k
  exact ⟨s, Ev.bind h a', b', p⟩
theorem EvB.rbind {f : Nat → Option β} {F : Nat → β → Option α} {g : Nat → Option α} {b : β} (h : Ev f b) (k : EvB g (fun n => F n b) P) : EvB g (fun n => (f n).bind (F n)) P := by
  obtain ⟨s, a', b', p⟩ := k
  exact ⟨s, a', Ev.bind h b', p⟩
theorem EvB.stepl {f f' g : Nat → Option α} (h : ∀ k, f (k + 1) = f' k) (k : EvB f' g P) : EvB f g P := by
  obtain ⟨r, a, b, p⟩ := k
  exact ⟨r, Ev.step h a, b, p⟩
theorem EvB.stepr {f f' g : Nat → Option α} (h : ∀ k, f (k + 1) = f' k) (k : EvB g f' P) : EvB g f P := by
  obtain ⟨r, a, b, p⟩ := k
  exact ⟨r, a, Ev.step h b, p⟩
theorem EvB.now {a : α} (h : P a) : EvB (fun _ => some a) (fun _ => some a) P := ⟨a, Ev.now _, Ev.now _, h⟩
end
set_option maxHeartbeats 2000000 in
theorem one_both (x y z : Int) : EvB (fun k => extent_One.f k x y z) (fun _ => slipwayref13_One.f x y z) (fun _ => True) := by
  have tail : ∀ b : Bool, ∀ g : Nat → Option Int, (b = true → ∀ n, g n = some 130) → (b = false → ∀ n, g n = if (wrap64 (x + y)) > 65536 then (some 130) else (if (wrap64 (z + y)) > 8192 then (some 130) else (some 0))) → EvB (fun k => extent_One.j0 k b x y z) g (fun _ => True) := by
    intro b g h1 h2
    refine EvB.stepl (f' := fun k => if b = true then (some 130) else (if (wrap64 (x + y)) > 65536 then (some 130) else (if (wrap64 (z + y)) > 8192 then (some 130) else (some 0)))) (fun k => by simp only [extent_One.j0]) ?_
    cases b with
    | true => exact ⟨130, Ev.iff_pos rfl (Ev.now _), Ev.fix (h1 rfl), trivial⟩
    | false =>
      have e : g = fun _ => if (wrap64 (x + y)) > 65536 then (some 130) else (if (wrap64 (z + y)) > 8192 then (some 130) else (some 0)) := funext (h2 rfl)
      rw [e]
      refine EvB.lneg (by decide) (EvB.ite (fun _ => EvB.now trivial) (fun _ => EvB.ite (fun _ => EvB.now trivial) (fun _ => EvB.now trivial)))
  unfold extent_One.f slipwayref13_One.f
  refine EvB.ite (fun h => tail _ _ (fun _ _ => rfl) (fun h => by cases h)) (fun _ => EvB.ite (fun h => tail _ _ (fun _ _ => rfl) (fun h => by cases h)) (fun _ => EvB.ite (fun h => tail _ _ (fun _ _ => rfl) (fun h => by cases h)) (fun _ => EvB.ite (fun h => tail _ _ (fun _ _ => rfl) (fun h => by cases h)) (fun _ => EvB.ite (fun h => tail _ _ (fun _ _ => rfl) (fun h => by cases h)) (fun _ => ?_)))))
  refine tail _ _ (fun h _ => if_pos (of_decide_eq_true h)) (fun h _ => if_neg (of_decide_eq_false h))
set_option maxHeartbeats 2000000 in
theorem ext_both (l : List S51) (hn : l.length ≤ 4) (d : Nat) : ∀ i : Nat, i + d = l.length →
    EvB (fun k => extent_Check.l0 k l l (l.length : Int) (i : Int)) (fun k => slipwayref13_Check.l0 k l (i : Int)) (fun _ => True) := by
  induction d with
  | zero =>
    intro i hi
    refine EvB.stepl (f' := fun _ => some 0) (fun k => by simp only [extent_Check.l0]; rw [if_neg (by omega)]) (EvB.stepr (f' := fun _ => some 0) (fun k => by simp only [slipwayref13_Check.l0]; rw [if_neg (by omega)]) (EvB.now trivial))
  | succ d ih =>
    intro i hi
    have hlt : i < l.length := by omega
    have hs := suc64 i l.length hlt (by omega)
    refine EvB.stepl (fun k => by simp only [extent_Check.l0]; rfl) (EvB.stepr (fun k => by simp only [slipwayref13_Check.l0]; rfl) ?_)
    rw [hs]
    refine EvB.lpos (by omega) (EvB.lpos (by omega) (EvB.lpos (by omega) (EvB.rpos (by omega) (EvB.rpos (by omega) ?_))))
    refine EvB.bind (one_both _ _ _) (fun e _ => EvB.ite (fun _ => EvB.ite (fun hp => ?_) (fun _ => ih (i + 1) (by omega))) (fun _ => EvB.now trivial))
    refine EvB.ite (fun _ => EvB.ite (fun _ => ?_) (fun h => ?_)) (fun h => ?_)
    · refine EvB.lbind (Ev.fix (fun _ => rfl)) (EvB.ite (fun _ => EvB.now trivial) (fun _ => ?_))
      refine EvB.bind (Q := fun _ => True) ?_ (fun t _ => EvB.ite (fun _ => EvB.now trivial) (fun _ => ih (i + 1) (by omega)))
      unfold extent_joins.f slipwayref13_goes.f
      exact EvB.lbind (Ev.fix (fun _ => rfl)) (EvB.ite (fun _ => EvB.ite (fun _ => EvB.now trivial) (fun _ => EvB.now trivial)) (fun _ => EvB.now trivial))
    · exact absurd (by rw [w64 (by omega) (by omega)]; omega) h
    · exact absurd (by rw [w64 (by omega) (by omega)]; omega) h
set_option maxHeartbeats 2000000 in
theorem ents_both (a0 a1 a2 a3 a4 a5 : Int) (l : List S51) (hn : l.length ≤ 4) (d : Nat) : ∀ (i : Nat) (p : Int), i + d = l.length → (i = 0 → p = -1) → (∀ h : 0 < i, ∀ h' : i - 1 < l.length, p = l[i - 1].f0) → -1 ≤ p →
    EvB (fun k => inode_entries.l0 k l p l (l.length : Int) (i : Int)) (fun k => slipwayref14_root.l0 k (i : Int) a0 a1 a2 a3 a4 a5 l) (fun _ => True) := by
  induction d with
  | zero =>
    intro i p hi _ _ _
    refine EvB.stepl (f' := fun _ => some (decide ((l.length : Int) > 0))) (fun k => by simp only [inode_entries.l0]; rw [if_neg (by omega)]) (EvB.stepr (f' := fun _ => some (decide ((l.length : Int) > 0))) (fun k => by simp only [slipwayref14_root.l0]; rw [if_neg (by omega)]) (EvB.now trivial))
  | succ d ih =>
    intro i p hi hz hp hm
    have hlt : i < l.length := by omega
    have hs := suc64 i l.length hlt (by omega)
    refine EvB.stepl (fun k => by simp only [inode_entries.l0]; rfl) (EvB.stepr (fun k => by simp only [slipwayref14_root.l0]; rfl) ?_)
    rw [rdT51 l i hlt, hs]
    refine EvB.lpos (by omega) (EvB.lpos (by omega) (EvB.lpos (by omega) (EvB.rpos (by omega) (EvB.rpos (by omega) ?_))))
    by_cases g0 : l[i].f0 < 0
    · exact EvB.lpos (by omega) (EvB.rpos g0 (EvB.now trivial))
    refine EvB.rneg g0 ?_
    by_cases g1 : l[i].f0 ≥ 65536
    · refine EvB.rpos g1 (EvB.lite (fun _ => EvB.now trivial) (fun _ => EvB.lpos g1 (EvB.now trivial)))
    refine EvB.rneg g1 ?_
    by_cases g2 : l[i].f1 = 0
    rotate_left
    · refine EvB.rneg g2 (EvB.lite (fun _ => EvB.now trivial) (fun _ => EvB.lneg g1 (EvB.lneg g2 (EvB.now trivial))))
    refine EvB.rpos g2 ?_
    by_cases g3 : l[i].f2 < 1
    · refine EvB.rpos g3 (EvB.lite (fun _ => EvB.now trivial) (fun _ => EvB.lneg g1 (EvB.lpos g2 (EvB.lpos g3 (EvB.now trivial)))))
    refine EvB.rneg g3 ?_
    by_cases g4 : l[i].f2 ≥ 8192
    · refine EvB.rpos g4 (EvB.lite (fun _ => EvB.now trivial) (fun _ => EvB.lneg g1 (EvB.lpos g2 (EvB.lneg g3 (EvB.lpos g4 (EvB.now trivial))))))
    refine EvB.rneg g4 ?_
    have next := ih (i + 1) l[i].f0 (by omega) (fun h => by omega) (fun _ _ => by simp) (by omega)
    by_cases hi0 : 0 < i
    · have e1 : wrap64 ((i : Int) - 1) = ((i - 1 : Nat) : Int) := by rw [w64 (by omega) (by omega)]; omega
      have hp' := hp hi0 (by omega)
      rw [e1, rdT51 l (i - 1) (by omega), ← hp']
      refine EvB.rpos (by omega) (EvB.rpos (by omega) (EvB.rpos (by omega) ?_))
      refine EvB.ite (fun _ => EvB.now trivial) (fun _ => ?_)
      exact EvB.lneg g1 (EvB.lpos g2 (EvB.lneg g3 (EvB.lneg g4 next)))
    · have hp' := hz (by omega)
      refine EvB.rneg (by omega) (EvB.lneg (by omega) (EvB.lneg g1 (EvB.lpos g2 (EvB.lneg g3 (EvB.lneg g4 next)))))
set_option maxHeartbeats 2000000 in
theorem root_both (a0 a1 a2 a3 a4 a5 : Int) (l : List S51) (hn : l.length ≤ 4) :
    EvB (fun k => if a5 = 0 then (extent_Check.f k l).bind fun t => some (t == 0) else (inode_entries.f k l).bind fun t => some t) (fun k => slipwayref14_root.f k a0 a1 a2 a3 a4 a5 l) (fun _ => True) := by
  unfold slipwayref14_root.f
  refine EvB.rneg (by omega) (EvB.ite (fun _ => ?_) (fun _ => ?_))
  · unfold extent_Check.f slipwayref13_Check.f
    exact EvB.bind (ext_both l hn l.length 0 (by omega)) (fun e _ => EvB.now trivial)
  · obtain ⟨r, h1, h2, _⟩ := ents_both a0 a1 a2 a3 a4 a5 l hn l.length 0 (-1) (by omega) (fun _ => rfl) (fun h => by omega) (by omega)
    unfold inode_entries.f
    exact ⟨r, Ev.bind h1 (Ev.now _), h2, trivial⟩
def INB (a0 a1 a2 a3 a4 a5 : Int) : Prop := (0 ≤ a0 ∧ a0 ≤ 2) ∧ (0 ≤ a1 ∧ a1 ≤ 1000) ∧ (0 ≤ a2 ∧ a2 ≤ 16777216) ∧ (0 ≤ a3 ∧ a3 ≤ 65536) ∧ (0 ≤ a4 ∧ a4 ≤ 4294967295) ∧ (0 ≤ a5 ∧ a5 ≤ 2)
theorem rj_true (a0 a1 a2 a3 a4 a5 : Int) (l : List S51) : Ev (fun k => slipwayref14_Check.j0 k true a0 a1 a2 a3 a4 a5 l) 140 := by
  refine Ev.step (f := fun _ => some 140) (fun k => ?_) (Ev.now _)
  simp only [slipwayref14_Check.j0]
  rw [if_pos trivial]
theorem rj1_true (a0 a1 a2 a3 a4 a5 : Int) (l : List S51) : Ev (fun k => slipwayref14_Check.j1 k true a0 a1 a2 a3 a4 a5 l) 140 := by
  refine Ev.step (f := fun _ => some 140) (fun k => ?_) (Ev.now _)
  simp only [slipwayref14_Check.j1]
  rw [if_pos trivial]
theorem rj1_false (a0 a1 a2 a3 a4 a5 : Int) (l : List S51) {g : Nat → Option Int} {P : Int → Prop} (h : EvB g (fun _ => if a0 = 2 then (if (Int.tmod a2 256) = 0 then (some 0) else (some 140)) else (some 0)) P) : EvB g (fun k => slipwayref14_Check.j1 k false a0 a1 a2 a3 a4 a5 l) P := by
  refine EvB.stepr (fun k => by simp only [slipwayref14_Check.j1]; rfl) ?_
  exact EvB.rneg (by decide) h
theorem chk_no (a0 a1 a2 a3 a4 a5 : Int) (l : List S51) : Ev (fun k => inode_Check.j0 k false a0 a1 a2 a3 a4 a5 l) 140 := by
  refine Ev.step (f := fun _ => some 140) (fun k => ?_) (Ev.now _)
  simp only [inode_Check.j0]
  rw [if_neg (by decide)]
set_option maxHeartbeats 2000000 in
theorem chk_out {a0 a1 a2 a3 a4 a5 : Int} {l : List S51} (h : ¬ (INB a0 a1 a2 a3 a4 a5 ∧ l.length ≤ 4)) : Ev (fun k => inode_Check.f k a0 a1 a2 a3 a4 a5 l) 140 := by
  have no : EvP (fun k => inode_Check.j0 k false a0 a1 a2 a3 a4 a5 l) (fun e => e = 140) := ⟨140, chk_no _ _ _ _ _ _ _, rfl⟩
  have : EvP (fun k => inode_Check.f k a0 a1 a2 a3 a4 a5 l) (fun e => e = 140) := by
    unfold inode_Check.f
    refine EvP.ite (fun h0 => EvP.ite (fun h1 => EvP.ite (fun h2 => EvP.ite (fun h3 => EvP.ite (fun h4 => EvP.ite (fun h5 => EvP.ite (fun h6 => EvP.ite (fun h7 => EvP.ite (fun h8 => EvP.ite (fun h9 => EvP.ite (fun h10 => EvP.ite (fun h11 => ?_) (fun _ => no)) (fun _ => no)) (fun _ => no)) (fun _ => no)) (fun _ => no)) (fun _ => no)) (fun _ => no)) (fun _ => no)) (fun _ => no)) (fun _ => no)) (fun _ => no)) (fun _ => no)
    have hl : ¬ (l.length : Int) ≤ 4 := fun hl => h ⟨⟨⟨h0, h1⟩, ⟨h2, h3⟩, ⟨h4, h5⟩, ⟨h6, h7⟩, ⟨h8, h9⟩, ⟨h10, h11⟩⟩, by omega⟩
    rw [decide_eq_false hl]
    exact no
  obtain ⟨r, hr, rfl⟩ := this
  exact hr
set_option maxHeartbeats 2000000 in
theorem ref_out {a0 a1 a2 a3 a4 a5 : Int} {l : List S51} (h : ¬ (INB a0 a1 a2 a3 a4 a5 ∧ l.length ≤ 4)) : Ev (fun k => slipwayref14_Check.f k a0 a1 a2 a3 a4 a5 l) 140 := by
  have no : EvP (fun k => slipwayref14_Check.j0 k true a0 a1 a2 a3 a4 a5 l) (fun e => e = 140) := ⟨140, rj_true _ _ _ _ _ _ _, rfl⟩
  have : EvP (fun k => slipwayref14_Check.f k a0 a1 a2 a3 a4 a5 l) (fun e => e = 140) := by
    unfold slipwayref14_Check.f
    refine EvP.ite (fun _ => no) (fun h0 => EvP.ite (fun _ => no) (fun h1 => EvP.ite (fun _ => no) (fun h2 => EvP.ite (fun _ => no) (fun h3 => EvP.ite (fun _ => no) (fun h4 => EvP.ite (fun _ => no) (fun h5 => EvP.ite (fun _ => no) (fun h6 => EvP.ite (fun _ => no) (fun h7 => EvP.ite (fun _ => no) (fun h8 => EvP.ite (fun _ => no) (fun h9 => EvP.ite (fun _ => no) (fun h10 => EvP.ite (fun _ => no) (fun h11 => ?_))))))))))))
    have hl : (l.length : Int) > 4 := by
      refine Int.not_le.mp (fun hl => h ⟨?_, by omega⟩)
      unfold INB
      omega
    refine EvP.bind (P := fun t => t = false) ⟨false, ?_, rfl⟩ (fun t ht => by subst ht; exact no)
    unfold slipwayref14_root.f
    exact Ev.iff_pos hl (Ev.now _)
  obtain ⟨r, hr, rfl⟩ := this
  exact hr
set_option maxHeartbeats 2000000 in
theorem chk_in {a0 a1 a2 a3 a4 a5 : Int} {l : List S51} (h : INB a0 a1 a2 a3 a4 a5) (hn : l.length ≤ 4) {r : Int} (k : Ev (fun k => inode_Check.j0 k true a0 a1 a2 a3 a4 a5 l) r) : Ev (fun k => inode_Check.f k a0 a1 a2 a3 a4 a5 l) r := by
  obtain ⟨⟨h0, h1⟩, ⟨h2, h3⟩, ⟨h4, h5⟩, ⟨h6, h7⟩, ⟨h8, h9⟩, ⟨h10, h11⟩⟩ := h
  have hl : (l.length : Int) ≤ 4 := by omega
  unfold inode_Check.f
  rw [decide_eq_true hl]
  exact Ev.iff_pos h0 (Ev.iff_pos h1 (Ev.iff_pos h2 (Ev.iff_pos h3 (Ev.iff_pos h4 (Ev.iff_pos h5 (Ev.iff_pos h6 (Ev.iff_pos h7 (Ev.iff_pos h8 (Ev.iff_pos h9 (Ev.iff_pos h10 (Ev.iff_pos h11 k)))))))))))
set_option maxHeartbeats 2000000 in
theorem ref_in {a0 a1 a2 a3 a4 a5 : Int} {l : List S51} (h : INB a0 a1 a2 a3 a4 a5) {r : Int} (k : Ev (fun k => (slipwayref14_root.f k a0 a1 a2 a3 a4 a5 l).bind fun t245 => (slipwayref14_Check.j0 k (!t245) a0 a1 a2 a3 a4 a5 l)) r) : Ev (fun k => slipwayref14_Check.f k a0 a1 a2 a3 a4 a5 l) r := by
  unfold INB at h
  unfold slipwayref14_Check.f
  exact Ev.iff_neg (by omega) (Ev.iff_neg (by omega) (Ev.iff_neg (by omega) (Ev.iff_neg (by omega) (Ev.iff_neg (by omega) (Ev.iff_neg (by omega) (Ev.iff_neg (by omega) (Ev.iff_neg (by omega) (Ev.iff_neg (by omega) (Ev.iff_neg (by omega) (Ev.iff_neg (by omega) (Ev.iff_neg (by omega) k)))))))))))
theorem chk_both (a0 a1 a2 a3 a4 a5 : Int) (l : List S51) : EvB (fun k => inode_Check.f k a0 a1 a2 a3 a4 a5 l) (fun k => slipwayref14_Check.f k a0 a1 a2 a3 a4 a5 l) (fun _ => True) := by
  by_cases hb : INB a0 a1 a2 a3 a4 a5 ∧ l.length ≤ 4
  rotate_left
  · exact ⟨140, chk_out hb, ref_out hb, trivial⟩
  obtain ⟨hi, hn⟩ := hb
  suffices hh : EvB (fun k => inode_Check.j0 k true a0 a1 a2 a3 a4 a5 l) (fun k => (slipwayref14_root.f k a0 a1 a2 a3 a4 a5 l).bind fun t245 => (slipwayref14_Check.j0 k (!t245) a0 a1 a2 a3 a4 a5 l)) (fun _ => True) by
    obtain ⟨r, x, y, _⟩ := hh
    exact ⟨r, chk_in hi hn x, ref_in hi y, trivial⟩
  obtain ⟨t, t1, t2, _⟩ := root_both a0 a1 a2 a3 a4 a5 l hn
  refine EvB.rbind t2 (EvB.stepl (fun k => by simp only [inode_Check.j0]; rfl) (EvB.lpos (c := true = true) rfl ?_))
  by_cases hk : a0 = 0
  · refine EvB.lpos hk ?_
    cases t with
    | false =>
      -- the root does not stand
      have hz : ¬ (a5 = 0 ∧ l = []) := by
        rintro ⟨rfl, rfl⟩
        have e0 : Ev (fun k => extent_Check.f k []) 0 := by
          unfold extent_Check.f
          refine Ev.step (f := fun _ => some 0) (fun k => ?_) (Ev.now _)
          simp only [extent_Check.l0]
          rw [if_neg (by decide)]
        exact absurd (Ev.same t1 (Ev.iff_pos rfl (Ev.bind e0 (Ev.now _)))) (by decide)
      refine ⟨140, ?_, rj_true _ _ _ _ _ _ _, trivial⟩
      obtain ⟨r, hr, rfl⟩ : EvP (fun _ : Nat => (if a1 = 0 then (if a2 = 0 then (if a3 = 0 then (if a5 = 0 then (if ((l.length : Int) = 0) then (if a0 = 2 then (if (Int.tmod a2 256) = 0 then (some (0 : Int)) else (some 140)) else (some 0)) else (some 140)) else (some 140)) else (some 140)) else (some 140)) else (some 140))) (fun e => e = 140) := by
        refine EvP.ite (fun _ => EvP.ite (fun _ => EvP.ite (fun _ => EvP.ite (fun h5 => EvP.ite (fun hl => ?_) (fun _ => EvP.now rfl)) (fun _ => EvP.now rfl)) (fun _ => EvP.now rfl)) (fun _ => EvP.now rfl)) (fun _ => EvP.now rfl)
        exact absurd ⟨h5, List.eq_nil_of_length_eq_zero (by omega)⟩ hz
      exact hr
    | true =>
      refine EvB.stepr (fun k => by simp only [slipwayref14_Check.j0]; rfl) (EvB.rneg (by decide) (EvB.rpos hk ?_))
      refine EvB.ite (fun _ => EvB.ite (fun _ => EvB.ite (fun _ => EvB.ite (fun _ => ?_) (fun _ => ⟨140, Ev.now _, rj1_true _ _ _ _ _ _ _, trivial⟩)) (fun _ => ⟨140, Ev.now _, rj1_true _ _ _ _ _ _ _, trivial⟩)) (fun _ => ⟨140, Ev.now _, rj1_true _ _ _ _ _ _ _, trivial⟩)) (fun _ => ⟨140, Ev.now _, rj1_true _ _ _ _ _ _ _, trivial⟩)
      by_cases hl : (l.length : Int) = 0
      · have e : ((l.length : Int) != 0) = false := by simp [hl]
        rw [e]
        exact EvB.lpos hl (rj1_false _ _ _ _ _ _ _ (EvB.ite (fun _ => EvB.ite (fun _ => EvB.now trivial) (fun _ => EvB.now trivial)) (fun _ => EvB.now trivial)))
      · have e : ((l.length : Int) != 0) = true := by simpa using hl
        rw [e]
        exact EvB.lneg hl ⟨140, Ev.now _, rj1_true _ _ _ _ _ _ _, trivial⟩
  · refine EvB.lneg hk ?_
    have fin : EvB (fun _ : Nat => if a0 = 2 then (if (Int.tmod a2 256) = 0 then (some (0 : Int)) else (some 140)) else (some 0)) (fun k => slipwayref14_Check.j0 k false a0 a1 a2 a3 a4 a5 l) (fun _ => True) :=
      EvB.stepr (fun k => by simp only [slipwayref14_Check.j0]; rfl) (EvB.rneg (by decide) (EvB.rneg hk (rj1_false _ _ _ _ _ _ _ (EvB.ite (fun _ => EvB.ite (fun _ => EvB.now trivial) (fun _ => EvB.now trivial)) (fun _ => EvB.now trivial)))))
    by_cases h5 : a5 = 0
    · refine EvB.lpos h5 ?_
      obtain ⟨e, he, _⟩ := ext_both l hn l.length 0 (by omega)
      have he' : Ev (fun k => extent_Check.f k l) e := by unfold extent_Check.f; exact he
      have ht := Ev.same t1 (Ev.iff_pos h5 (Ev.bind he' (Ev.now _)))
      refine EvB.lbind he' ?_
      by_cases h0 : e = 0
      · have : t = true := by rw [ht]; simp [h0]
        subst this
        exact EvB.lpos h0 fin
      · have : t = false := by rw [ht]; simp [h0]
        subst this
        exact EvB.lneg h0 ⟨140, Ev.now _, rj_true _ _ _ _ _ _ _, trivial⟩
    · refine EvB.lneg h5 ?_
      obtain ⟨e, he, _⟩ := ents_both a0 a1 a2 a3 a4 a5 l hn l.length 0 (-1) (by omega) (fun _ => rfl) (fun h => by omega) (by omega)
      have he' : Ev (fun k => inode_entries.f k l) e := by unfold inode_entries.f; exact he
      have ht := Ev.same t1 (Ev.iff_neg h5 (Ev.bind he' (Ev.now _)))
      subst ht
      refine EvB.lbind he' ?_
      cases t with
      | true => exact EvB.lpos rfl fin
      | false => exact EvB.lneg (by decide) ⟨140, Ev.now _, rj_true _ _ _ _ _ _ _, trivial⟩
end Go.Proofs.Ytjoojmodghpimaa.InoEv
end
