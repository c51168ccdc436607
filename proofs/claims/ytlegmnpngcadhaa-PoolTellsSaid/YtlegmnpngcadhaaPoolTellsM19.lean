/- Texts of the proof of PoolTells, part 19. -/
import Derived.Test.YtlegmnpngcadhaaPoolTellsM18
import Derived.Test.YtlegmnpngcadhaaPoolTellsM14
import Derived.Test.YtlegmnpngcadhaaPoolTellsM15
import Derived.Test.YtlegmnpngcadhaaPoolTellsM16
section
namespace Go.Proofs.Ytlegmnpngcadhaa.Pure
set_option linter.unusedVariables false
set_option linter.unusedSimpArgs false
open Go.RowKit Go.Proofs.Ytlegmnpngcadhaa.Print Go.Proofs.Ytlegmnpngcadhaa.Pl Go.Proofs.YtlegmnpngcadhaaW.PrintWords Go.Proofs.YtlegmnpngcadhaaW.PrintLast Go.Proofs.YtlegmnpngcadhaaW.PrintMore
theorem getD_at {r : List Int} {i : Nat} (h : i < r.length) : r.getD i 0 = r[i] := by rw [List.getD_eq_getElem?_getD, List.getElem?_eq_getElem h]; rfl
theorem top_step (mo : Bool) (r w : List Int) (a : Int) {i : Nat} (h : i < r.length) : top mo w (idx r a (i + 1)) = if r[i] = a then bst mo w (top mo w (idx r a i)) i else top mo w (idx r a i) := by
  rw [idx_succ, getD_at h]
  by_cases e : r[i] = a
  · rw [if_pos e, if_pos e, top_snoc]
  · rw [if_neg e, if_neg e]
theorem top_idx {mo : Bool} {w r : List Int} {a : Int} {i : Nat} (h : i < w.length) : top mo w (idx r a i) < (w.length : Int) := by
  by_cases e : 0 < i
  · have := top_lt (mo := mo) (w := w) (L := idx r a i) (n := i) (fun x hx => idx_lt hx) e
    omega
  · have e0 : i = 0 := by omega
    subst e0
    show ((-1 : Int) < _)
    omega
set_option maxHeartbeats 2000000 in
theorem rch_from (r w : List Int) (hl : w.length = r.length) (hn : r.length ≤ 256) (d : Nat) : ∀ i : Nat, i + d = r.length →
    Ev (fun k => slipwayref04_Choose.l0 k (top false w (idx r 1 i)) (i : Int) r w) (if top false w (idx r 1 r.length) < 0 then ((0 : Int), false) else (top false w (idx r 1 r.length), true)) := by
  induction d with
  | zero =>
    intro i hi
    have e : i = r.length := by omega
    subst e
    refine Ev.step (f := fun k => slipwayref04_Choose.j1 k (top false w (idx r 1 r.length)) (r.length : Int) false r w) (fun k => ?_) ?_
    · simp only [slipwayref04_Choose.l0]
      rw [if_neg (by omega)]
    · refine Ev.step (f := fun _ => if top false w (idx r 1 r.length) < 0 then some ((0 : Int), false) else some (top false w (idx r 1 r.length), true)) (fun k => ?_) ?_
      · simp only [slipwayref04_Choose.j1]
        rw [if_neg (by decide)]
      · by_cases c : top false w (idx r 1 r.length) < 0
        · rw [if_pos c, if_pos c]; exact Ev.now _
        · rw [if_neg c, if_neg c]; exact Ev.now _
  | succ d ih =>
    intro i hi
    have h1 : i < r.length := by omega
    have h2 : i < w.length := by omega
    have nx := ih (i + 1) (by omega)
    rw [top_step false r w 1 h1] at nx
    have ht := top_idx (mo := false) (w := w) (r := r) (a := 1) h2
    generalize top false w (idx r 1 i) = b at nx ht ⊢
    refine Ev.step (f := fun k => slipwayref04_Choose.j1 k b (i : Int) true r w) (fun k => ?_) (Ev.step (fun k => ?_) nx)
    · simp only [slipwayref04_Choose.l0]
      rw [if_pos (by omega), decide_eq_true (by omega)]
    · simp only [slipwayref04_Choose.j1]
      rw [if_pos trivial, if_pos (by omega), if_pos (by omega), rd_nat r i h1, suc64 i 256 (by omega) (by omega)]
      by_cases e : r[i] = 1
      · rw [if_pos e, if_pos e]
        unfold bst
        by_cases c : b < 0
        · rw [if_pos c, if_pos c]
        · rw [if_neg c, if_neg c, if_pos (show (i : Int) < (w.length : Int) by omega), if_pos (show 0 ≤ b by omega), if_pos ht]
          simp only [Bool.false_eq_true, if_false]
          by_cases g : rd w (i : Int) < rd w b
          · rw [if_pos g, if_pos g]
          · rw [if_neg g, if_neg g]
      · rw [if_neg e, if_neg e]
set_option maxHeartbeats 2000000 in
theorem rchoose_ev (r w : List Int) : Ev (fun k => slipwayref04_Choose.f k r w) (mx (top false w (blk r w 1)) 0, decide (top false w (blk r w 1) ≥ 0)) := by
  unfold slipwayref04_Choose.f
  refine Ev.bind (rcheck_ev r w) ?_
  by_cases h : Ok r w
  · rw [chk_ok h, blk_ok h]
    have := rch_from r w h.len h.n1 r.length 0 (by omega)
    by_cases c : top false w (idx r 1 r.length) < 0
    · rw [if_pos c] at this
      rw [show mx (top false w (idx r 1 r.length)) 0 = 0 by unfold mx; rw [if_pos c], decide_eq_false (by omega)]
      exact Ev.iff_pos rfl this
    · rw [if_neg c] at this
      rw [show mx (top false w (idx r 1 r.length)) 0 = top false w (idx r 1 r.length) by unfold mx; rw [if_neg c], decide_eq_true (by omega)]
      exact Ev.iff_pos rfl this
  · rw [chk_no h, blk_no h]
    exact Ev.iff_neg (by decide) (Ev.now _)
set_option maxHeartbeats 2000000 in
theorem rall_from (r w : List Int) (a : Int) (hn : r.length ≤ 256) (d : Nat) : ∀ i : Nat, i + d = r.length → Ev (fun k => slipwayref04_All.l0 k a (ints (idx r a i)) (i : Int) r w) (ints (idx r a r.length)) := by
  induction d with
  | zero =>
    intro i hi
    have e : i = r.length := by omega
    subst e
    refine Ev.step (f := fun _ => some (ints (idx r a r.length))) (fun k => ?_) (Ev.now _)
    simp only [slipwayref04_All.l0]
    rw [if_neg (by omega)]
  | succ d ih =>
    intro i hi
    have h1 : i < r.length := by omega
    have hl := idx_len r a i
    have nx := ih (i + 1) (by omega)
    rw [idx_succ, getD_at h1] at nx
    refine Ev.step (f := fun k => if r[i] = a then slipwayref04_All.l0 k a (ints (idx r a i) ++ [(i : Int)]) ((i + 1 : Nat) : Int) r w else slipwayref04_All.l0 k a (ints (idx r a i)) ((i + 1 : Nat) : Int) r w) (fun k => ?_) ?_
    · simp only [slipwayref04_All.l0]
      rw [if_pos (by omega), if_pos (by omega), rd_nat r i h1, suc64 i 256 (by omega) (by omega), if_pos (show (ints (idx r a i)).length < 17592186044416 by rw [ints_len]; omega)]
    · by_cases e : r[i] = a
      · rw [if_pos e, ints_snoc] at nx
        exact Ev.iff_pos e nx
      · rw [if_neg e] at nx
        exact Ev.iff_neg e nx
theorem rall_ev (r w : List Int) (a : Int) : Ev (fun k => slipwayref04_All.f k r w a) (ints (blk r w a)) := by
  unfold slipwayref04_All.f
  refine Ev.bind (rcheck_ev r w) ?_
  by_cases h : Ok r w
  · rw [blk_ok h]
    exact Ev.iff_pos (chk_ok h) (rall_from r w a h.n1 r.length 0 (by omega))
  · rw [blk_no h, chk_no h]
    exact Ev.iff_neg (by decide) (Ev.now _)
def Upto (r w : List Int) (i : Nat) (a b : Int) : Prop := ((∀ j, j < i → r.getD j 0 = 6) ∧ a = -1 ∧ b = 0) ∨ (0 ≤ a ∧ (∃ j, j < i ∧ r.getD j 0 ≠ 6 ∧ a = rd w ((j : Nat) : Int)) ∧ (∀ j : Nat, j < i → r.getD j 0 ≠ 6 → a ≤ rd w (j : Int)) ∧ (∃ j, j < i ∧ r.getD j 0 ≠ 6 ∧ b = rd w ((j : Nat) : Int)) ∧ ∀ j : Nat, j < i → r.getD j 0 ≠ 6 → rd w (j : Int) ≤ b)
set_option maxHeartbeats 2000000 in
theorem upto_skip {r w : List Int} {i : Nat} {a b : Int} (h : Upto r w i a b) (e : r.getD i 0 = 6) : Upto r w (i + 1) a b := by
  rcases h with ⟨h1, h2⟩ | ⟨h0, ⟨j, j1, j2, j3⟩, hj, ⟨m, m1, m2, m3⟩, hm⟩
  · refine .inl ⟨fun j hj => ?_, h2⟩
    by_cases c : j = i
    · rw [c]; exact e
    · exact h1 j (by omega)
  · refine .inr ⟨h0, ⟨j, by omega, j2, j3⟩, fun x hx h6 => ?_, ⟨m, by omega, m2, m3⟩, fun x hx h6 => ?_⟩
    · by_cases c : x = i
      · rw [c] at h6; exact absurd e h6
      · exact hj x (by omega) h6
    · by_cases c : x = i
      · rw [c] at h6; exact absurd e h6
      · exact hm x (by omega) h6
set_option maxHeartbeats 2000000 in
theorem upto_take {r w : List Int} {i : Nat} {a b : Int} (h : Upto r w i a b) (e : r.getD i 0 ≠ 6) (h0 : 0 ≤ rd w (i : Int)) : Upto r w (i + 1) (if a < 0 then rd w (i : Int) else if rd w (i : Int) < a then rd w (i : Int) else a) (mx b (rd w (i : Int))) := by
  rcases h with ⟨h1, rfl, rfl⟩ | ⟨ha, ⟨j, j1, j2, j3⟩, hj, ⟨m, m1, m2, m3⟩, hm⟩
  · rw [if_pos (by decide), show mx 0 (rd w (i : Int)) = rd w (i : Int) by unfold mx; split <;> omega]
    refine .inr ⟨h0, ⟨i, by omega, e, rfl⟩, fun x hx h6 => ?_, ⟨i, by omega, e, rfl⟩, fun x hx h6 => ?_⟩
    · by_cases c : x = i
      · rw [c]; omega
      · exact absurd (h1 x (by omega)) h6
    · by_cases c : x = i
      · rw [c]; omega
      · exact absurd (h1 x (by omega)) h6
  · rw [if_neg (by omega)]
    refine .inr ⟨by split <;> omega, ?_, fun x hx h6 => ?_, ?_, fun x hx h6 => ?_⟩
    · by_cases c : rd w (i : Int) < a
      · rw [if_pos c]; exact ⟨i, by omega, e, rfl⟩
      · rw [if_neg c]; exact ⟨j, by omega, j2, j3⟩
    · by_cases c : x = i
      · rw [c]; split <;> omega
      · have := hj x (by omega) h6
        split <;> omega
    · unfold mx
      by_cases c : b < rd w (i : Int)
      · rw [if_pos c]; exact ⟨i, by omega, e, rfl⟩
      · rw [if_neg c]; exact ⟨m, by omega, m2, m3⟩
    · unfold mx
      by_cases c : x = i
      · rw [c]; split <;> omega
      · have := hm x (by omega) h6
        split <;> omega
theorem upto_end {r w : List Int} {a b : Int} (h : Upto r w r.length a b) : Spr r w (mx a 0, b) := by
  rcases h with ⟨h1, rfl, rfl⟩ | ⟨h0, ⟨j, j1, j2, j3⟩, hj, ⟨m, m1, m2, m3⟩, hm⟩
  · exact .inl ⟨fun j g => g.2 (h1 j g.1), rfl⟩
  · rw [show mx a 0 = a by unfold mx; rw [if_neg (by omega)]]
    exact .inr ⟨⟨j, ⟨j1, j2⟩, j3⟩, fun x g => hj x g.1 g.2, ⟨m, ⟨m1, m2⟩, m3⟩, fun x g => hm x g.1 g.2⟩
set_option maxHeartbeats 2000000 in
theorem rspread_from {r w : List Int} (ok : Ok r w) (d : Nat) : ∀ (i : Nat) (a b : Int), i + d = r.length → Upto r w i a b → ∃ p, Ev (fun k => slipwayref04_Spread.l0 k a b (i : Int) r w) p ∧ Spr r w p := by
  have hl := ok.len
  have hn := ok.n1
  induction d with
  | zero =>
    intro i a b hi h
    have e : i = r.length := by omega
    subst e
    refine ⟨_, Ev.step (f := fun k => slipwayref04_Spread.j1 k a b (r.length : Int) false r w) (fun k => ?_) (Ev.step (f := fun _ => some (mx a 0, b)) (fun k => ?_) (Ev.now _)), upto_end h⟩
    · simp only [slipwayref04_Spread.l0]
      rw [if_neg (by omega)]
    · simp only [slipwayref04_Spread.j1]
      rw [if_neg (by decide)]
  | succ d ih =>
    intro i a b hi h
    have h1 : i < r.length := by omega
    have h2 : i < w.length := by omega
    have h0 : 0 ≤ rd w (i : Int) := by rw [rd_nat w i h2]; exact (ok.we _ (List.getElem_mem h2)).1
    have L : ∀ {p}, Ev (fun k => slipwayref04_Spread.j1 k a b (i : Int) true r w) p → Ev (fun k => slipwayref04_Spread.l0 k a b (i : Int) r w) p := fun {p} g => Ev.step (fun k => by
      simp only [slipwayref04_Spread.l0]
      rw [if_pos (by omega), decide_eq_true (by omega)]) g
    by_cases e : r[i] = 6
    · obtain ⟨p, p1, p2⟩ := ih (i + 1) a b (by omega) (upto_skip h (by rw [getD_at h1]; exact e))
      refine ⟨p, L (Ev.step (fun k => ?_) p1), p2⟩
      simp only [slipwayref04_Spread.j1]
      rw [if_pos trivial, if_pos (by omega), if_pos (by omega), rd_nat r i h1, suc64 i 256 (by omega) (by omega), if_pos e]
    · obtain ⟨p, p1, p2⟩ := ih (i + 1) _ _ (by omega) (upto_take h (by rw [getD_at h1]; exact e) h0)
      refine ⟨p, L (Ev.step (fun k => ?_) p1), p2⟩
      simp only [slipwayref04_Spread.j1]
      rw [if_pos trivial, if_pos (by omega), if_pos (by omega), rd_nat r i h1, suc64 i 256 (by omega) (by omega), if_neg e]
      have e4 : (i : Int) < (w.length : Int) := by omega
      by_cases c : a < 0
      · rw [if_pos c, if_pos c, if_pos e4]
      · rw [if_neg c, if_neg c, if_pos e4]
        by_cases g : rd w (i : Int) < a
        · rw [if_pos g, if_pos g]
        · rw [if_neg g, if_neg g]
set_option maxHeartbeats 2000000 in
theorem spreads (r w : List Int) : ∃ p, Ev (fun k => pool_Spread.f k r w) p ∧ Ev (fun k => slipwayref04_Spread.f k r w) p := by
  by_cases h : Ok r w
  · obtain ⟨p, p1, p2⟩ := spread_ev h
    obtain ⟨q, q1, q2⟩ := rspread_from h r.length 0 (-1) 0 (by omega) (.inl ⟨fun j hj => by omega, rfl, rfl⟩)
    have e := Spr.eq p2 q2
    subst e
    refine ⟨p, p1, ?_⟩
    unfold slipwayref04_Spread.f
    exact Ev.bind (rcheck_ev r w) (Ev.iff_pos (chk_ok h) q1)
  · refine ⟨(0, 0), spread_no h, ?_⟩
    unfold slipwayref04_Spread.f
    exact Ev.bind (rcheck_ev r w) (Ev.iff_neg (by rw [chk_no h]; decide) (Ev.now _))
def cold (w : List Int) (a b m : Int) : Int × Int × Bool := if b < 0 then (0, 0, false) else if m < 0 then (0, 0, false) else if wrap64 (rd w m - rd w b) < mx a 1 then (0, 0, false) else (b, m, true)
set_option maxHeartbeats 2000000 in
theorem cold_ev (r w : List Int) (a : Int) : Ev (fun k => pool_Cold.f k r w a) (cold w a (top false w (blk r w 2)) (top true w (blk r w 1))) := by
  unfold pool_Cold.f
  refine Ev.bind (of_ev r w 2) (Ev.bind (least_ev r w 2 false) (Ev.bind (of_ev r w 1) (Ev.bind (least_ev r w 1 true) ?_)))
  have hb := top_mem false w (blk r w 2)
  have hm := top_mem true w (blk r w 1)
  have hb2 : top false w (blk r w 2) < 0 ∨ top false w (blk r w 2) < (w.length : Int) := hb.elim (fun e => .inl (by omega)) fun ⟨x, hx, e⟩ => .inr (by have := blk_lt r w 2 x hx; omega)
  have hm2 : top true w (blk r w 1) < 0 ∨ top true w (blk r w 1) < (w.length : Int) := hm.elim (fun e => .inl (by omega)) fun ⟨x, hx, e⟩ => .inr (by have := blk_lt r w 1 x hx; omega)
  generalize top false w (blk r w 2) = b at hb2 ⊢
  generalize top true w (blk r w 1) = m at hm2 ⊢
  unfold cold
  by_cases c : b < 0
  · rw [if_pos c]
    exact Ev.iff_neg (by simp; omega) (Ev.now _)
  rw [if_neg c]
  refine Ev.iff_pos (decide_eq_true (by omega)) ?_
  by_cases d : m < 0
  · rw [if_pos d]
    exact Ev.iff_neg (by simp; omega) (Ev.now _)
  rw [if_neg d]
  have eb : mx b 0 = b := by unfold mx; rw [if_neg c]
  have em : mx m 0 = m := by unfold mx; rw [if_neg d]
  refine Ev.iff_pos (decide_eq_true (by omega)) ?_
  simp only [eb, em]
  refine Ev.iff_pos (by omega) (Ev.iff_pos (by omega) (Ev.iff_pos (by omega) (Ev.iff_pos (by omega) ?_)))
  by_cases g : wrap64 (rd w m - rd w b) < mx a 1
  · rw [show (if wrap64 (rd w m - rd w b) < mx a 1 then ((0 : Int), (0 : Int), false) else (b, m, true)) = (0, 0, false) from if_pos g]
    exact Ev.iff_pos g (Ev.now _)
  · rw [show (if wrap64 (rd w m - rd w b) < mx a 1 then ((0 : Int), (0 : Int), false) else (b, m, true)) = (b, m, true) from if_neg g]
    exact Ev.iff_neg g (Ev.now _)
set_option maxHeartbeats 2000000 in
theorem rcold_from (r w : List Int) (a : Int) (hl : w.length = r.length) (hn : r.length ≤ 256) (d : Nat) : ∀ i : Nat, i + d = r.length →
    Ev (fun k => slipwayref04_Cold.l0 k a (top false w (idx r 2 i)) (top true w (idx r 1 i)) (i : Int) r w) (cold w a (top false w (idx r 2 r.length)) (top true w (idx r 1 r.length))) := by
  induction d with
  | zero =>
    intro i hi
    have e : i = r.length := by omega
    subst e
    have hb2 : top false w (idx r 2 r.length) < 0 ∨ top false w (idx r 2 r.length) < (w.length : Int) := (top_mem false w (idx r 2 r.length)).elim (fun e => .inl (by omega)) fun ⟨x, hx, e⟩ => .inr (by have := idx_lt hx; omega)
    have hm2 : top true w (idx r 1 r.length) < 0 ∨ top true w (idx r 1 r.length) < (w.length : Int) := (top_mem true w (idx r 1 r.length)).elim (fun e => .inl (by omega)) fun ⟨x, hx, e⟩ => .inr (by have := idx_lt hx; omega)
    generalize top false w (idx r 2 r.length) = b at hb2 ⊢
    generalize top true w (idx r 1 r.length) = m at hm2 ⊢
    refine Ev.step (f := fun k => slipwayref04_Cold.j1 k a b m (r.length : Int) false r w) (fun k => ?_) (Ev.step (f := fun _ => some (cold w a b m)) (fun k => ?_) (Ev.now _))
    · simp only [slipwayref04_Cold.l0]
      rw [if_neg (by omega)]
    · simp only [slipwayref04_Cold.j1]
      rw [if_neg (by decide)]
      unfold cold
      by_cases c : b < 0
      · rw [if_pos c, if_pos c]
      rw [if_neg c, if_neg c]
      by_cases d : m < 0
      · rw [if_pos d, if_pos d]
      rw [if_neg d, if_neg d, if_pos (by omega), if_pos (by omega), if_pos (by omega), if_pos (by omega)]
      by_cases g : wrap64 (rd w m - rd w b) < mx a 1
      · rw [if_pos g, if_pos g]
      · rw [if_neg g, if_neg g]
  | succ d ih =>
    intro i hi
    have h1 : i < r.length := by omega
    have h2 : i < w.length := by omega
    have nx := ih (i + 1) (by omega)
    rw [top_step false r w 2 h1, top_step true r w 1 h1] at nx
    have hb := top_idx (mo := false) (w := w) (r := r) (a := 2) h2
    have hm := top_idx (mo := true) (w := w) (r := r) (a := 1) h2
    generalize top false w (idx r 2 i) = b at nx hb ⊢
    generalize top true w (idx r 1 i) = m at nx hm ⊢
    generalize cold w a (top false w (idx r 2 r.length)) (top true w (idx r 1 r.length)) = R at nx ⊢
    have L : ∀ {p}, Ev (fun k => slipwayref04_Cold.j1 k a b m (i : Int) true r w) p → Ev (fun k => slipwayref04_Cold.l0 k a b m (i : Int) r w) p := fun {p} g => Ev.step (fun k => by
      simp only [slipwayref04_Cold.l0]
      rw [if_pos (by omega), decide_eq_true (by omega)]) g
    have J : ∀ {p} (x : Bool), Ev (fun k => slipwayref04_Cold.l0 k a (if x = true then (i : Int) else b) (if r[i] = 1 then bst true w m i else m) ((i + 1 : Nat) : Int) r w) p → Ev (fun k => slipwayref04_Cold.j2 k a b m (i : Int) x r w) p := fun {p} x g => Ev.step (fun k => by
      simp only [slipwayref04_Cold.j2]
      have a0 : 0 ≤ (i : Int) := by omega
      have a1 : (i : Int) < (r.length : Int) := by omega
      have a2 : (i : Int) < (w.length : Int) := by omega
      rw [rd_nat r i h1, suc64 i 256 (by omega) (by omega)]
      by_cases e : r[i] = 1
      · simp only [if_pos e, if_pos a0, if_pos a1, if_pos a2]
        unfold bst
        by_cases c : m < 0
        · simp only [if_pos c]
          cases x
          · rfl
          · rfl
        · have c0 : 0 ≤ m := by omega
          simp only [if_neg c, if_pos c0, if_pos hm, if_true]
          by_cases g : rd w (i : Int) > rd w m
          · simp only [if_pos g]
            cases x
            · rfl
            · rfl
          · simp only [if_neg g]
            cases x
            · rfl
            · rfl
      · simp only [if_neg e, if_pos a0, if_pos a1]
        cases x
        · rfl
        · rfl) g
    refine L (Ev.step (f := fun k => slipwayref04_Cold.j2 k a b m (i : Int) (decide (r[i] = 2 ∧ (b < 0 ∨ rd w (i : Int) < rd w b))) r w) (fun k => ?_) (J _ ?_))
    · simp only [slipwayref04_Cold.j1]
      rw [if_pos trivial, if_pos (by omega), if_pos (by omega), rd_nat r i h1]
      by_cases e : r[i] = 2
      · rw [if_pos e]
        by_cases c : b < 0
        · rw [if_pos c, decide_eq_true ⟨e, .inl c⟩]
        · rw [if_neg c, if_pos (by omega), if_pos (by omega), if_pos hb]
          rw [show decide (r[i] = 2 ∧ (b < 0 ∨ rd w (i : Int) < rd w b)) = decide (rd w (i : Int) < rd w b) from decide_eq_decide.2 ⟨fun g => g.2.resolve_left c, fun g => ⟨e, .inr g⟩⟩]
      · rw [if_neg e, decide_eq_false (fun g => e g.1)]
    · rw [show (if decide (r[i] = 2 ∧ (b < 0 ∨ rd w (i : Int) < rd w b)) = true then (i : Int) else b) = if r[i] = 2 then bst false w b i else b from ?_]
      · exact nx
      · by_cases e : r[i] = 2
        · rw [if_pos e]
          unfold bst
          by_cases c : b < 0
          · rw [if_pos (decide_eq_true ⟨e, .inl c⟩), if_pos c]
          · rw [if_neg c]
            simp only [Bool.false_eq_true, if_false]
            by_cases g : rd w (i : Int) < rd w b
            · rw [if_pos (decide_eq_true ⟨e, .inr g⟩), if_pos g]
            · rw [if_neg (by simp only [decide_eq_true_eq]; exact fun k => k.2.elim c g), if_neg g]
        · rw [if_neg e, if_neg (by simp only [decide_eq_true_eq]; exact fun k => e k.1)]
theorem rcold_ev (r w : List Int) (a : Int) : Ev (fun k => slipwayref04_Cold.f k r w a) (cold w a (top false w (blk r w 2)) (top true w (blk r w 1))) := by
  unfold slipwayref04_Cold.f
  refine Ev.bind (rcheck_ev r w) ?_
  by_cases h : Ok r w
  · rw [blk_ok h, blk_ok h]
    exact Ev.iff_pos (chk_ok h) (rcold_from r w a h.len h.n1 r.length 0 (by omega))
  · rw [blk_no h, blk_no h, chk_no h]
    exact Ev.iff_neg (by decide) (Ev.now _)
theorem told_ev (r w : List Int) (a b : Int) : Ev (fun k => slipwaylaw04_told.f k r w a b) ((ints (blk r w a)).take b.toNat) := by
  unfold slipwaylaw04_told.f
  have := blk_len r w a
  exact Ev.bind (of_ev r w a) (Ev.iff_pos (by rw [ints_len]; omega) (Ev.now _))
set_option maxHeartbeats 2000000 in
theorem PoolTells : slipwaylaw04_PoolTells.Pure := by
  intro r w a gap most _ _ _ _ hm
  have hm0 : 0 ≤ most ∧ most ≤ 255 := by
    have := hm
    simp [Lit.wf, IntKind.min, IntKind.max, IntKind.signed, IntKind.bits] at this
    omega
  have bl := blk_len r w a
  have il := ints_len (blk r w a)
  refine Ev.rounds ?_
  obtain ⟨p, p1, p2⟩ := spreads r w
  unfold slipwaylaw04_PoolTells.f
  refine Ev.bind (choose_ev r w) (Ev.bind (rchoose_ev r w) (Ev.bind (rall_ev r w a) (Ev.bind p1 (Ev.bind p2 (Ev.bind (cold_ev r w gap) (Ev.bind (rcold_ev r w gap) (Ev.bind begun_ev (Ev.iff_pos rfl (Ev.iff_pos rfl (Ev.iff_pos (by simp) (Ev.bind (count_ev r w a) (Ev.iff_pos (by rw [il]) (Ev.bind (told_ev r w a 999) (Ev.bind (eqi_ev _ _ (by rw [List.length_take]; omega)) (Ev.iff_pos (decide_eq_true (List.take_of_length_le (by rw [il]; simp; omega))) ?_)))))))))))))))
  have ew : wrap64 most = most := w64 (by omega) (by omega)
  rw [ew]
  have em : 0 ≤ mn ((ints (blk r w a)).length : Int) most ∧ mn ((ints (blk r w a)).length : Int) most ≤ ((ints (blk r w a)).length : Int) := by
    unfold mn
    split <;> omega
  refine Ev.bind (told_ev r w a most) (Ev.iff_pos em.1 (Ev.iff_pos em.2 (Ev.bind (eqi_ev _ _ (by rw [List.length_take]; omega)) (Ev.iff_pos (decide_eq_true ?_) (Ev.iff_pos rfl (Ev.iff_pos rfl (Ev.iff_pos rfl (Ev.iff_pos rfl ?_))))))))
  · unfold mn
    by_cases c : most < ((ints (blk r w a)).length : Int)
    · rw [if_pos c]
    · rw [if_neg c, List.take_of_length_le (by omega), List.take_of_length_le (by omega)]
  · rw [show ∀ b : Bool, (b == b) = true by decide]
    exact Ev.now _
end Go.Proofs.Ytlegmnpngcadhaa.Pure
end
