/- Texts of the proof of InodeOwn, part 29. -/
import Derived.Test.YtjoojmodghpimaaInodeOwnM23
import Derived.Test.YtjoojmodghpimaaInodeOwnM28
import Derived.Test.YtjoojmodghpimaaInodeOwnM19
section
namespace Go.Proofs.Ytjoojmodghpimaa.InoEv
set_option linter.unusedVariables false
set_option linter.unusedSimpArgs false
open Go.RowKit Go.Proofs.Ytjoojmodghpimaa.Print Go.Proofs.Ytjoojmodghpimaa.SMath Go.Proofs.Ytjoojmodghpimaa.SealEv Go.Proofs.Ytjoojmodghpimaa.PackMath Go.Proofs.Ytjoojmodghpimaa.PackEv Go.Proofs.YtjoojmodghpimaaW.PrintWords Go.Proofs.YtjoojmodghpimaaW.PrintLast Go.Proofs.YtjoojmodghpimaaW.PrintMore
def EvP {α : Type} (f : Nat → Option α) (P : α → Prop) : Prop := ∃ r, Ev f r ∧ P r
theorem EvP.ite {α : Type} {c : Prop} [Decidable c] {g f : Nat → Option α} {P : α → Prop} (h1 : c → EvP g P) (h2 : ¬ c → EvP f P) : EvP (fun n => if c then g n else f n) P := by
  by_cases h : c
  · obtain ⟨r, hr, p⟩ := h1 h
    exact ⟨r, Ev.iff_pos h hr, p⟩
  · obtain ⟨r, hr, p⟩ := h2 h
    exact ⟨r, Ev.iff_neg h hr, p⟩
theorem EvP.bind {α β : Type} {f : Nat → Option α} {g : Nat → α → Option β} {P : α → Prop} {Q : β → Prop} (h : EvP f P) (k : ∀ a, P a → EvP (fun n => g n a) Q) : EvP (fun n => (f n).bind (g n)) Q := by
  obtain ⟨a, ha, pa⟩ := h
  obtain ⟨r, hr, pr⟩ := k a pa
  exact ⟨r, Ev.bind ha hr, pr⟩
theorem EvP.step {α : Type} {f g : Nat → Option α} {P : α → Prop} (h : ∀ k, f (k + 1) = g k) (k : EvP g P) : EvP f P := by
  obtain ⟨r, hr, pr⟩ := k
  exact ⟨r, Ev.step h hr, pr⟩
theorem EvP.now {α : Type} {a : α} {P : α → Prop} (h : P a) : EvP (fun _ => some a) P := ⟨a, Ev.now _, h⟩
theorem EvP.imp {α : Type} {f : Nat → Option α} {P Q : α → Prop} (h : EvP f P) (k : ∀ a, P a → Q a) : EvP f Q := by
  obtain ⟨a, ha, pa⟩ := h
  exact ⟨a, ha, k a pa⟩
def RootOK (x : S51) : Prop := (0 ≤ x.f0 ∧ x.f0 < 65536) ∧ (0 ≤ x.f1 ∧ x.f1 ≤ 4096) ∧ (0 ≤ x.f2 ∧ x.f2 < 8192)
theorem rdT51 (l : List S51) (i : Nat) (h : i < l.length) : rd_T51 l (i : Int) = l[i] := by simp [rd_T51, List.getD_eq_getElem?_getD, h]
set_option maxHeartbeats 2000000 in
theorem one_ev (x y z : Int) : EvP (fun k => extent_One.f k x y z) (fun e => e = 0 → RootOK ⟨x, y, z⟩) := by
  have bad : ∀ b : Bool, (b = true ∨ ((0 ≤ x ∧ x < 65536) ∧ (0 ≤ y ∧ y ≤ 4096) ∧ (0 ≤ z ∧ z < 8192))) → EvP (fun k => extent_One.j0 k b x y z) (fun e => e = 0 → RootOK ⟨x, y, z⟩) := by
    intro b hb
    refine EvP.step (g := fun k => if b = true then (some 130) else (if (wrap64 (x + y)) > 65536 then (some 130) else (if (wrap64 (z + y)) > 8192 then (some 130) else (some 0)))) (fun k => by simp only [extent_One.j0]) ?_
    refine EvP.ite (fun _ => EvP.now (fun h => absurd h (by decide))) (fun h => EvP.ite (fun _ => EvP.now (fun h => absurd h (by decide))) (fun _ => EvP.ite (fun _ => EvP.now (fun h => absurd h (by decide))) (fun _ => EvP.now (fun _ => ?_))))
    exact hb.elim (fun h' => absurd h' h) id
  unfold extent_One.f
  refine EvP.ite (fun h => bad _ (.inl rfl)) (fun h => EvP.ite (fun h => bad _ (.inl rfl)) (fun h => EvP.ite (fun h => bad _ (.inl rfl)) (fun h => EvP.ite (fun h => bad _ (.inl rfl)) (fun h => EvP.ite (fun h => bad _ (.inl rfl)) (fun h => bad _ ?_)))))
  by_cases hz : z ≥ 8192
  · left; simp [hz]
  · right; omega
set_option maxHeartbeats 2000000 in
theorem ext_from (l : List S51) (hn : l.length ≤ 4) (d : Nat) : ∀ i : Nat, i + d = l.length → (∀ j, j < i → ∀ h : j < l.length, RootOK l[j]) →
    EvP (fun k => extent_Check.l0 k l l (l.length : Int) (i : Int)) (fun e => e = 0 → ∀ x ∈ l, RootOK x) := by
  induction d with
  | zero =>
    intro i hi hg
    refine EvP.step (g := fun _ => some 0) (fun k => ?_) (EvP.now (fun _ x hx => ?_))
    · simp only [extent_Check.l0]
      rw [if_neg (by omega)]
    · obtain ⟨j, hj, rfl⟩ := List.getElem_of_mem hx
      exact hg j (by omega) hj
  | succ d ih =>
    intro i hi hg
    have hlt : i < l.length := by omega
    have hs := suc64 i l.length hlt (by omega)
    have next : RootOK l[i] → EvP (fun k => extent_Check.l0 k l l (l.length : Int) (wrap64 ((i : Int) + 1))) (fun e => e = 0 → ∀ x ∈ l, RootOK x) := fun hr => by
      rw [hs]
      refine ih (i + 1) (by omega) (fun j hj h => ?_)
      rcases Nat.lt_or_ge j i with h1 | h1
      · exact hg j h1 h
      · have : j = i := by omega
        subst this
        exact hr
    refine EvP.step (fun k => by simp only [extent_Check.l0]; rfl) ?_
    refine EvP.ite (fun _ => EvP.ite (fun _ => EvP.ite (fun _ => EvP.bind (one_ev _ _ _) (fun e he => EvP.ite (fun h0 => ?_) (fun _ => EvP.now (fun h => absurd h (by decide))))) (fun h => by omega)) (fun h => by omega)) (fun h => by omega)
    have hr : RootOK l[i] := by have := he h0; rw [rdT51 l i hlt] at this; exact this
    refine EvP.ite (fun hp => ?_) (fun _ => next hr)
    have e1 : wrap64 ((i : Int) - 1) = ((i - 1 : Nat) : Int) := by rw [w64 (by omega) (by omega)]; omega
    rw [e1]
    refine EvP.ite (fun _ => EvP.ite (fun _ => ?_) (fun h => by omega)) (fun h => by omega)
    refine EvP.bind (P := fun _ => True) ⟨_, Ev.fix (fun _ => rfl), trivial⟩ (fun t _ => EvP.ite (fun _ => EvP.now (fun h => absurd h (by decide))) (fun _ => ?_))
    refine EvP.bind (P := fun _ => True) ?_ (fun t _ => EvP.ite (fun _ => EvP.now (fun h => absurd h (by decide))) (fun _ => next hr))
    unfold extent_joins.f
    refine EvP.bind (P := fun _ => True) ⟨_, Ev.fix (fun _ => rfl), trivial⟩ (fun t _ => EvP.ite (fun _ => EvP.ite (fun _ => EvP.now trivial) (fun _ => EvP.now trivial)) (fun _ => EvP.now trivial))
set_option maxHeartbeats 2000000 in
theorem ents_from (l : List S51) (hn : l.length ≤ 4) (d : Nat) : ∀ (i : Nat) (p : Int), i + d = l.length → -1 ≤ p → (∀ j, j < i → ∀ h : j < l.length, RootOK l[j]) →
    EvP (fun k => inode_entries.l0 k l p l (l.length : Int) (i : Int)) (fun e => e = true → ∀ x ∈ l, RootOK x) := by
  induction d with
  | zero =>
    intro i p hi hp hg
    refine EvP.step (g := fun _ => some (decide ((l.length : Int) > 0))) (fun k => ?_) (EvP.now (fun _ x hx => ?_))
    · simp only [inode_entries.l0]
      rw [if_neg (by omega)]
    · obtain ⟨j, hj, rfl⟩ := List.getElem_of_mem hx
      exact hg j (by omega) hj
  | succ d ih =>
    intro i p hi hp hg
    have hlt : i < l.length := by omega
    have hs := suc64 i l.length hlt (by omega)
    refine EvP.step (fun k => by simp only [inode_entries.l0]; rfl) ?_
    rw [rdT51 l i hlt, hs]
    refine EvP.ite (fun _ => EvP.ite (fun _ => EvP.ite (fun _ => ?_) (fun h => by omega)) (fun h => by omega)) (fun h => by omega)
    refine EvP.ite (fun _ => EvP.now (fun h => absurd h (by decide))) (fun h1 => EvP.ite (fun _ => EvP.now (fun h => absurd h (by decide))) (fun h2 => EvP.ite (fun h3 => EvP.ite (fun _ => EvP.now (fun h => absurd h (by decide))) (fun h4 => EvP.ite (fun _ => EvP.now (fun h => absurd h (by decide))) (fun h5 => ?_))) (fun _ => EvP.now (fun h => absurd h (by decide)))))
    refine ih (i + 1) _ (by omega) (by omega) (fun j hj h => ?_)
    rcases Nat.lt_or_ge j i with h1' | h1'
    · exact hg j h1' h
    · have : j = i := by omega
      subst this
      unfold RootOK
      omega
def OK (a0 a1 a2 a3 a4 a5 : Int) (l : List S51) : Prop := (0 ≤ a0 ∧ a0 ≤ 2) ∧ (0 ≤ a1 ∧ a1 ≤ 1000) ∧ (0 ≤ a2 ∧ a2 ≤ 16777216) ∧ (0 ≤ a3 ∧ a3 ≤ 65536) ∧ (0 ≤ a4 ∧ a4 ≤ 4294967295) ∧ (0 ≤ a5 ∧ a5 ≤ 2) ∧ l.length ≤ 4 ∧ ∀ x ∈ l, RootOK x
set_option maxHeartbeats 2000000 in
theorem chk_ev (a0 a1 a2 a3 a4 a5 : Int) (l : List S51) : EvP (fun k => inode_Check.f k a0 a1 a2 a3 a4 a5 l) (fun e => e = 0 → OK a0 a1 a2 a3 a4 a5 l) := by
  have no : EvP (fun k => inode_Check.j0 k false a0 a1 a2 a3 a4 a5 l) (fun e => e = 0 → OK a0 a1 a2 a3 a4 a5 l) := by
    refine EvP.step (g := fun _ => some 140) (fun k => ?_) (EvP.now (fun h => absurd h (by decide)))
    simp only [inode_Check.j0]
    rw [if_neg (by decide)]
  unfold inode_Check.f
  refine EvP.ite (fun h0 => EvP.ite (fun h1 => EvP.ite (fun h2 => EvP.ite (fun h3 => EvP.ite (fun h4 => EvP.ite (fun h5 => EvP.ite (fun h6 => EvP.ite (fun h7 => EvP.ite (fun h8 => EvP.ite (fun h9 => EvP.ite (fun h10 => EvP.ite (fun h11 => ?_) (fun _ => no)) (fun _ => no)) (fun _ => no)) (fun _ => no)) (fun _ => no)) (fun _ => no)) (fun _ => no)) (fun _ => no)) (fun _ => no)) (fun _ => no)) (fun _ => no)) (fun _ => no)
  by_cases hl : (l.length : Int) ≤ 4
  · have hn : l.length ≤ 4 := by omega
    have ok : (∀ x ∈ l, RootOK x) → OK a0 a1 a2 a3 a4 a5 l := fun h => ⟨⟨h0, h1⟩, ⟨h2, h3⟩, ⟨h4, h5⟩, ⟨h6, h7⟩, ⟨h8, h9⟩, ⟨h10, h11⟩, hn, h⟩
    rw [decide_eq_true hl]
    refine EvP.step (fun k => by simp only [inode_Check.j0]; rfl) ?_
    have fin : (∀ x ∈ l, RootOK x) → EvP (fun _ : Nat => if a0 = 2 then (if (Int.tmod a2 256) = 0 then (some (0 : Int)) else (some 140)) else (some 0)) (fun e => e = 0 → OK a0 a1 a2 a3 a4 a5 l) := fun h =>
      EvP.ite (fun _ => EvP.ite (fun _ => EvP.now (fun _ => ok h)) (fun _ => EvP.now (fun h => absurd h (by decide)))) (fun _ => EvP.now (fun _ => ok h))
    refine EvP.ite (fun _ => ?_) (fun h => absurd trivial h)
    refine EvP.ite (fun _ => ?_) (fun _ => ?_)
    · refine EvP.ite (fun _ => EvP.ite (fun _ => EvP.ite (fun _ => EvP.ite (fun _ => EvP.ite (fun hz => ?_) (fun _ => EvP.now (fun h => absurd h (by decide)))) (fun _ => EvP.now (fun h => absurd h (by decide)))) (fun _ => EvP.now (fun h => absurd h (by decide)))) (fun _ => EvP.now (fun h => absurd h (by decide)))) (fun _ => EvP.now (fun h => absurd h (by decide)))
      have : l = [] := by cases l with
        | nil => rfl
        | cons x xs => simp at hz; omega
      subst this
      exact fin (fun x hx => by cases hx)
    · refine EvP.ite (fun _ => ?_) (fun _ => ?_)
      · unfold extent_Check.f
        exact EvP.bind (ext_from l hn l.length 0 (by omega) (fun j hj => by omega)) (fun e he => EvP.ite (fun h => fin (he h)) (fun _ => EvP.now (fun h => absurd h (by decide))))
      · unfold inode_entries.f
        exact EvP.bind (ents_from l hn l.length 0 (-1) (by omega) (by omega) (fun j hj => by omega)) (fun e he => EvP.ite (fun h => fin (he h)) (fun _ => EvP.now (fun h => absurd h (by decide))))
  · rw [decide_eq_false hl]
    exact no
end Go.Proofs.Ytjoojmodghpimaa.InoEv
end
