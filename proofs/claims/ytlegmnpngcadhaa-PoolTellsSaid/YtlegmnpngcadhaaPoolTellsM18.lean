/- Texts of the proof of PoolTells, part 18. -/
import Derived.Test.YtlegmnpngcadhaaPoolTellsM17
import Derived.Test.YtlegmnpngcadhaaPoolTellsM13
import Derived.Test.YtlegmnpngcadhaaPoolTellsM14
section
namespace Go.Proofs.Ytlegmnpngcadhaa.Pl
set_option linter.unusedVariables false
set_option linter.unusedSimpArgs false
open Go.RowKit Go.Proofs.Ytlegmnpngcadhaa.Print Go.Proofs.YtlegmnpngcadhaaW.PrintWords Go.Proofs.YtlegmnpngcadhaaW.PrintLast Go.Proofs.YtlegmnpngcadhaaW.PrintMore
def bst (mo : Bool) (w : List Int) (b : Int) (y : Nat) : Int := if b < 0 then (y : Int) else if (if mo = true then rd w (y : Int) > rd w b else rd w (y : Int) < rd w b) then (y : Int) else b
def top (mo : Bool) (w : List Int) (L : List Nat) : Int := L.foldl (bst mo w) (-1)
theorem bst_is (mo : Bool) (w : List Int) (b : Int) (y : Nat) : bst mo w b y = y ∨ bst mo w b y = b := by
  unfold bst
  by_cases c : b < 0
  · rw [if_pos c]; exact .inl rfl
  · rw [if_neg c]
    by_cases d : (if mo = true then rd w (y : Int) > rd w b else rd w (y : Int) < rd w b)
    · rw [if_pos d]; exact .inl rfl
    · rw [if_neg d]; exact .inr rfl
set_option maxHeartbeats 2000000 in
theorem fold_mem (mo : Bool) (w : List Int) (M : List Nat) : ∀ (L : List Nat) (b : Int), (∀ x ∈ L, x ∈ M) → (b = -1 ∨ ∃ x ∈ M, b = ((x : Nat) : Int)) → (L.foldl (bst mo w) b = -1 ∨ ∃ x ∈ M, L.foldl (bst mo w) b = ((x : Nat) : Int)) := by
  intro L
  induction L with
  | nil => intro b _ h; exact h
  | cons y L ih =>
    intro b hL h
    refine ih _ (fun x hx => hL x (List.mem_cons_of_mem _ hx)) ?_
    rcases bst_is mo w b y with e | e
    · exact .inr ⟨y, hL y (List.mem_cons_self), e⟩
    · rw [e]; exact h
theorem top_mem (mo : Bool) (w : List Int) (L : List Nat) : top mo w L = -1 ∨ ∃ x ∈ L, top mo w L = ((x : Nat) : Int) := fold_mem mo w L L (-1) (fun _ h => h) (.inl rfl)
theorem top_snoc (mo : Bool) (w : List Int) (L : List Nat) (y : Nat) : top mo w (L ++ [y]) = bst mo w (top mo w L) y := by unfold top; rw [List.foldl_append]; rfl
theorem top_lt {mo : Bool} {w : List Int} {L : List Nat} {n : Nat} (h : ∀ x ∈ L, x < n) (hn : 0 < n) : top mo w L < (n : Int) := by
  rcases top_mem mo w L with e | ⟨x, hx, e⟩
  · rw [e]; omega
  · have := h x hx; rw [e]; omega
theorem rd_ints {L : List Nat} {i : Nat} (h : i < L.length) : rd (ints L) (i : Int) = (L[i] : Int) := by
  rw [rd_nat (ints L) i (by rw [ints_len]; exact h)]
  simp [ints]
set_option maxHeartbeats 2000000 in
theorem least_from (mo : Bool) (r w : List Int) (L : List Nat) (hL : ∀ x ∈ L, x < w.length) (hn : L.length ≤ 140737488355328) (d : Nat) : ∀ i : Nat, i + d = L.length →
    Ev (fun k => pool_least.l0 k mo (top mo w (L.take i)) (ints L) (L.length : Int) (i : Int) r w) (mx (top mo w L) 0, decide (top mo w L ≥ 0)) := by
  induction d with
  | zero =>
    intro i hi
    rw [List.take_of_length_le (by omega)]
    refine Ev.step (f := fun _ => some (mx (top mo w L) 0, decide (top mo w L ≥ 0))) (fun k => ?_) (Ev.now _)
    simp only [pool_least.l0]
    rw [if_neg (by omega)]
  | succ d ih =>
    intro i hi
    have h1 : i < L.length := by omega
    have nx := ih (i + 1) (by omega)
    rw [List.take_add_one, List.getElem?_eq_getElem h1, Option.toList_some, top_snoc] at nx
    have hb := hL L[i] (List.getElem_mem h1)
    have ht := top_lt (mo := mo) (w := w) (L := L.take i) (n := w.length) (fun x hx => hL x (List.mem_of_mem_take hx)) (by omega)
    generalize top mo w (L.take i) = b at nx ht
    have e1 : (i : Int) < (L.length : Int) := by omega
    have e2 : (i : Int) < ((ints L).length : Int) := by rw [ints_len]; omega
    have e3 : 0 ≤ (i : Int) := by omega
    refine Ev.step (f := fun k => pool_least.l0 k mo (bst mo w b L[i]) (ints L) (L.length : Int) ((i + 1 : Nat) : Int) r w) (fun k => ?_) nx
    simp only [pool_least.l0]
    rw [if_pos e1, if_pos e3, if_pos e2, rd_ints h1, suc64 i L.length h1 hn]
    generalize L[i] = y at hb
    unfold bst
    by_cases c : b < 0
    · rw [if_pos c, if_pos c]
    · have c0 : 0 ≤ b := by omega
      have y0 : 0 ≤ (y : Int) := by omega
      have y1 : (y : Int) < (w.length : Int) := by omega
      rw [if_neg c, if_neg c]
      cases mo
      · simp only [Bool.false_eq_true, if_false]
        rw [if_pos y0, if_pos y1, if_pos c0, if_pos ht]
        by_cases e : rd w (y : Int) < rd w b
        · rw [if_pos e, if_pos e]
        · rw [if_neg e, if_neg e]
      · simp only [if_true]
        rw [if_pos y0, if_pos y1, if_pos c0, if_pos ht]
        by_cases e : rd w (y : Int) > rd w b
        · rw [if_pos e, if_pos e]
        · rw [if_neg e, if_neg e]
theorem idx_lt {r : List Int} {a : Int} {n x : Nat} (h : x ∈ idx r a n) : x < n := by
  unfold idx at h
  exact List.mem_range.1 (List.mem_filter.1 h).1
theorem mem_idx {r : List Int} {a : Int} {n x : Nat} : x ∈ idx r a n ↔ x < n ∧ r.getD x 0 = a := by
  unfold idx
  rw [List.mem_filter, List.mem_range, beq_iff_eq]
theorem blk_len (r w : List Int) (a : Int) : (blk r w a).length ≤ 256 := by
  by_cases h : Ok r w
  · rw [blk_ok h]
    exact Nat.le_trans (idx_len r a r.length) h.n1
  · rw [blk_no h]; simp
theorem blk_lt (r w : List Int) (a : Int) : ∀ x ∈ blk r w a, x < w.length := by
  intro x hx
  by_cases h : Ok r w
  · rw [blk_ok h] at hx
    have := idx_lt hx
    have := h.len
    omega
  · rw [blk_no h] at hx; cases hx
theorem least_ev (r w : List Int) (a : Int) (mo : Bool) : Ev (fun k => pool_least.f k r w (ints (blk r w a)) mo) (mx (top mo w (blk r w a)) 0, decide (top mo w (blk r w a) ≥ 0)) := by
  unfold pool_least.f
  have := least_from mo r w (blk r w a) (blk_lt r w a) (by have := blk_len r w a; omega) (blk r w a).length 0 (by omega)
  rw [ints_len]
  exact this
theorem choose_ev (r w : List Int) : Ev (fun k => pool_Choose.f k r w) (mx (top false w (blk r w 1)) 0, decide (top false w (blk r w 1) ≥ 0)) := by
  unfold pool_Choose.f
  exact Ev.bind (of_ev r w 1) (Ev.bind (least_ev r w 1 false) (Ev.now _))
def Good (r : List Int) (j : Nat) : Prop := j < r.length ∧ r.getD j 0 ≠ 6
def Spr (r w : List Int) (p : Int × Int) : Prop := ((∀ j, ¬ Good r j) ∧ p = (0, 0)) ∨ ((∃ j, Good r j ∧ p.1 = rd w (j : Int)) ∧ (∀ j : Nat, Good r j → p.1 ≤ rd w (j : Int)) ∧ (∃ j, Good r j ∧ p.2 = rd w (j : Int)) ∧ ∀ j : Nat, Good r j → rd w (j : Int) ≤ p.2)
theorem Spr.eq {r w : List Int} {p q : Int × Int} (hp : Spr r w p) (hq : Spr r w q) : p = q := by
  rcases hp with ⟨g, rfl⟩ | ⟨⟨j, gj, ej⟩, lj, ⟨m, gm, em⟩, lm⟩
  · rcases hq with ⟨_, rfl⟩ | ⟨⟨j, gj, _⟩, _⟩
    · rfl
    · exact absurd gj (g j)
  · rcases hq with ⟨g, rfl⟩ | ⟨⟨j', gj', ej'⟩, lj', ⟨m', gm', em'⟩, lm'⟩
    · exact absurd gj (g j)
    · have a1 := lj j' gj'
      have a2 := lj' j gj
      have a3 := lm m' gm'
      have a4 := lm' m gm
      exact Prod.ext (by omega) (by omega)
set_option maxHeartbeats 2000000 in
theorem min_from (l : List Int) (hn : l.length ≤ 140737488355328) (d : Nat) : ∀ (i : Nat) (m : Int), i + d = l.length → m ∈ l → (∀ j (h : j < l.length), j < i → m ≤ l[j]) → ∃ q, Ev (fun k => slices_Min_int64_int64.l0 k l m (i : Int)) q ∧ q ∈ l ∧ ∀ x ∈ l, q ≤ x := by
  induction d with
  | zero =>
    intro i m hi hm hj
    refine ⟨m, Ev.step (f := fun _ => some m) (fun k => ?_) (Ev.now _), hm, fun x hx => ?_⟩
    · simp only [slices_Min_int64_int64.l0]
      rw [if_neg (by omega)]
    · obtain ⟨j, h, rfl⟩ := List.getElem_of_mem hx
      exact hj j h (by omega)
  | succ d ih =>
    intro i m hi hm hj
    have h1 : i < l.length := by omega
    obtain ⟨q, q1, q2⟩ := ih (i + 1) (mn m l[i]) (by omega) (by
      unfold mn
      split
      · exact List.getElem_mem h1
      · exact hm) (fun j h hji => by
      unfold mn
      by_cases e : j = i
      · subst e
        split <;> omega
      · have := hj j h (by omega)
        split <;> omega)
    refine ⟨q, Ev.step (fun k => ?_) q1, q2⟩
    simp only [slices_Min_int64_int64.l0]
    rw [if_pos (by omega), if_pos (by omega), rd_nat l i h1, suc64 i l.length h1 hn]
set_option maxHeartbeats 2000000 in
theorem min_ev (l : List Int) (hn : l.length ≤ 140737488355328) (h0 : l ≠ []) : ∃ q, Ev (fun k => slices_Min_int64_int64.f k l) q ∧ q ∈ l ∧ ∀ x ∈ l, q ≤ x := by
  have h1 : 0 < l.length := List.length_pos_iff.2 h0
  obtain ⟨q, q1, q2⟩ := min_from l hn (l.length - 1) 1 l[0] (by omega) (List.getElem_mem h1) (fun j h hj => by
    have : j = 0 := by omega
    subst this
    exact Int.le_refl _)
  refine ⟨q, ?_, q2⟩
  unfold slices_Min_int64_int64.f
  refine Ev.iff_neg (by omega) (Ev.iff_pos (by omega) ?_)
  rw [show rd l 0 = l[0] from rd_nat l 0 h1]
  exact q1
set_option maxHeartbeats 2000000 in
theorem max_from (l : List Int) (hn : l.length ≤ 140737488355328) (d : Nat) : ∀ (i : Nat) (m : Int), i + d = l.length → m ∈ l → (∀ j (h : j < l.length), j < i → l[j] ≤ m) → ∃ q, Ev (fun k => slices_Max_int64_int64.l0 k l m (i : Int)) q ∧ q ∈ l ∧ ∀ x ∈ l, x ≤ q := by
  induction d with
  | zero =>
    intro i m hi hm hj
    refine ⟨m, Ev.step (f := fun _ => some m) (fun k => ?_) (Ev.now _), hm, fun x hx => ?_⟩
    · simp only [slices_Max_int64_int64.l0]
      rw [if_neg (by omega)]
    · obtain ⟨j, h, rfl⟩ := List.getElem_of_mem hx
      exact hj j h (by omega)
  | succ d ih =>
    intro i m hi hm hj
    have h1 : i < l.length := by omega
    obtain ⟨q, q1, q2⟩ := ih (i + 1) (mx m l[i]) (by omega) (by
      unfold mx
      split
      · exact List.getElem_mem h1
      · exact hm) (fun j h hji => by
      unfold mx
      by_cases e : j = i
      · subst e
        split <;> omega
      · have := hj j h (by omega)
        split <;> omega)
    refine ⟨q, Ev.step (fun k => ?_) q1, q2⟩
    simp only [slices_Max_int64_int64.l0]
    rw [if_pos (by omega), if_pos (by omega), rd_nat l i h1, suc64 i l.length h1 hn]
set_option maxHeartbeats 2000000 in
theorem max_ev (l : List Int) (hn : l.length ≤ 140737488355328) (h0 : l ≠ []) : ∃ q, Ev (fun k => slices_Max_int64_int64.f k l) q ∧ q ∈ l ∧ ∀ x ∈ l, x ≤ q := by
  have h1 : 0 < l.length := List.length_pos_iff.2 h0
  obtain ⟨q, q1, q2⟩ := max_from l hn (l.length - 1) 1 l[0] (by omega) (List.getElem_mem h1) (fun j h hj => by
    have : j = 0 := by omega
    subst this
    exact Int.le_refl _)
  refine ⟨q, ?_, q2⟩
  unfold slices_Max_int64_int64.f
  refine Ev.iff_neg (by omega) (Ev.iff_pos (by omega) ?_)
  rw [show rd l 0 = l[0] from rd_nat l 0 h1]
  exact q1
set_option maxHeartbeats 2000000 in
theorem spread_tail (r w : List Int) (l : List Int) (hn : l.length ≤ 140737488355328) (hm : ∀ x, x ∈ l ↔ ∃ j, Good r j ∧ x = rd w (j : Int)) :
    ∃ p, Ev (fun k => if l = [] then some ((0 : Int), (0 : Int)) else (slices_Min_int64_int64.f k l).bind fun a => (slices_Max_int64_int64.f k l).bind fun b => some (a, b)) p ∧ Spr r w p := by
  by_cases h0 : l = []
  · refine ⟨(0, 0), Ev.iff_pos h0 (Ev.now _), .inl ⟨fun j gj => ?_, rfl⟩⟩
    have := (hm (rd w (j : Int))).2 ⟨j, gj, rfl⟩
    rw [h0] at this
    cases this
  · obtain ⟨a, a1, a2, a3⟩ := min_ev l hn h0
    obtain ⟨b, b1, b2, b3⟩ := max_ev l hn h0
    exact ⟨(a, b), Ev.iff_neg h0 (Ev.bind a1 (Ev.bind b1 (Ev.now _))), .inr ⟨(hm a).1 a2, fun j gj => a3 _ ((hm _).2 ⟨j, gj, rfl⟩), (hm b).1 b2, fun j gj => b3 _ ((hm _).2 ⟨j, gj, rfl⟩)⟩⟩
theorem kn_getD {r w : List Int} (h : Ok r w) {j : Nat} (hj : j < r.length) : kn (r.getD j 0) := by
  rw [List.getD_eq_getElem?_getD, List.getElem?_eq_getElem hj]
  exact h.ro _ (List.getElem_mem hj)
set_option maxHeartbeats 2000000 in
theorem spread_ev {r w : List Int} (h : Ok r w) : ∃ p, Ev (fun k => pool_Spread.f k r w) p ∧ Spr r w p := by
  have hb : ∀ a, ∀ x ∈ blk r w a, x < w.length := blk_lt r w
  have hl : ∀ a, (blk r w a).length ≤ 256 := blk_len r w
  obtain ⟨p, p1, p2⟩ := spread_tail r w (([ints (blk r w 1), ints (blk r w 2), ints (blk r w 3), ints (blk r w 4), ints (blk r w 5)] : List (List Int)).flatten.map (rd w)) (by
    have a1 := hl 1; have a2 := hl 2; have a3 := hl 3; have a4 := hl 4; have a5 := hl 5
    simp only [List.length_map, List.flatten_cons, List.flatten_nil, List.length_append, ints_len, List.length_nil]
    omega) (fun x => by
    have key : ∀ y : Int, y ∈ ([ints (blk r w 1), ints (blk r w 2), ints (blk r w 3), ints (blk r w 4), ints (blk r w 5)] : List (List Int)).flatten ↔ ∃ j : Nat, Good r j ∧ y = (j : Int) := by
      intro y
      have e : ∀ a, y ∈ ints (blk r w a) ↔ ∃ j : Nat, (j < r.length ∧ r.getD j 0 = a) ∧ y = (j : Int) := by
        intro a
        unfold ints
        rw [List.mem_map, blk_ok h]
        exact ⟨fun ⟨j, hj, e⟩ => ⟨j, mem_idx.1 hj, e.symm⟩, fun ⟨j, hj, e⟩ => ⟨j, mem_idx.2 hj, e.symm⟩⟩
      simp only [List.flatten_cons, List.flatten_nil, List.mem_append, e, List.not_mem_nil, or_false]
      constructor
      · rintro (⟨j, ⟨hj, ha⟩, e⟩ | ⟨j, ⟨hj, ha⟩, e⟩ | ⟨j, ⟨hj, ha⟩, e⟩ | ⟨j, ⟨hj, ha⟩, e⟩ | ⟨j, ⟨hj, ha⟩, e⟩) <;> exact ⟨j, ⟨hj, by omega⟩, e⟩
      · rintro ⟨j, ⟨hj, ha⟩, e⟩
        have kk := kn_getD h hj
        unfold kn at kk
        by_cases c1 : r.getD j 0 = 1
        · exact .inl ⟨j, ⟨hj, c1⟩, e⟩
        by_cases c2 : r.getD j 0 = 2
        · exact .inr (.inl ⟨j, ⟨hj, c2⟩, e⟩)
        by_cases c3 : r.getD j 0 = 3
        · exact .inr (.inr (.inl ⟨j, ⟨hj, c3⟩, e⟩))
        by_cases c4 : r.getD j 0 = 4
        · exact .inr (.inr (.inr (.inl ⟨j, ⟨hj, c4⟩, e⟩)))
        · exact .inr (.inr (.inr (.inr ⟨j, ⟨hj, by omega⟩, e⟩)))
    rw [List.mem_map]
    constructor
    · rintro ⟨y, hy, e⟩
      obtain ⟨j, gj, e'⟩ := (key y).1 hy
      exact ⟨j, gj, by rw [← e, e']⟩
    · rintro ⟨j, gj, e⟩
      exact ⟨(j : Int), (key _).2 ⟨j, gj, rfl⟩, e.symm⟩)
  refine ⟨p, ?_, p2⟩
  unfold pool_Spread.f
  refine Ev.bind (of_ev r w 1) (Ev.bind (of_ev r w 2) (Ev.bind (of_ev r w 3) (Ev.bind (of_ev r w 4) (Ev.bind (of_ev r w 5) (Ev.bindS (fun n => ?_) p1)))))
  unfold pool_Spread.all
  rw [if_pos]
  intro x hx
  have one : ∀ a, x = ints (blk r w a) → x.length < 100000 ∧ ∀ b ∈ x, 0 ≤ b ∧ b < (w.length : Int) := by
    rintro a rfl
    refine ⟨by rw [ints_len]; have := hl a; omega, fun b hb' => ?_⟩
    unfold ints at hb'
    obtain ⟨j, hj, rfl⟩ := List.mem_map.1 hb'
    have := hb a j hj
    exact ⟨by omega, by omega⟩
  simp only [List.mem_cons, List.not_mem_nil, or_false] at hx
  rcases hx with e | e | e | e | e
  · exact one 1 e
  · exact one 2 e
  · exact one 3 e
  · exact one 4 e
  · exact one 5 e
set_option maxHeartbeats 2000000 in
theorem spread_no {r w : List Int} (h : ¬ Ok r w) : Ev (fun k => pool_Spread.f k r w) (0, 0) := by
  have e : ∀ a, Ev (fun k => pool_of.f k r w a) ([] : List Int) := fun a => by
    have := of_ev r w a
    rw [blk_no h] at this
    exact this
  unfold pool_Spread.f
  refine Ev.bind (e 1) (Ev.bind (e 2) (Ev.bind (e 3) (Ev.bind (e 4) (Ev.bind (e 5) (Ev.bindS (a := ([] : List Int)) (fun n => ?_) (Ev.iff_pos rfl (Ev.now _)))))))
  unfold pool_Spread.all
  rw [if_pos]
  · rfl
  · intro x hx
    simp only [List.mem_cons, List.not_mem_nil, or_false, or_self] at hx
    subst hx
    exact ⟨by decide, fun b hb => by cases hb⟩
end Go.Proofs.Ytlegmnpngcadhaa.Pl
end
