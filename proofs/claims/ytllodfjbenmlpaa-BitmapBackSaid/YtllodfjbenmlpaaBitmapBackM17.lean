/- Texts of the proof of BitmapBack, part 17. -/
import Derived.Test.YtllodfjbenmlpaaBitmapBackM15
import Derived.Test.YtllodfjbenmlpaaBitmapBackM13
section
namespace Go.Proofs.Ytllodfjbenmlpaa.Bm
set_option linter.unusedVariables false
set_option linter.unusedSimpArgs false
open Go.RowKit Go.Proofs.Ytllodfjbenmlpaa.Print Go.Proofs.YtllodfjbenmlpaaW.PrintWords Go.Proofs.YtllodfjbenmlpaaW.PrintLast Go.Proofs.YtllodfjbenmlpaaW.PrintMore
def nxt (q : List (Nat × Nat)) (i : Nat) : List (Nat × Nat) := match q.getLast? with
  | none => [(i, 1)]
  | some (a, c) => if a + c = i then q.dropLast ++ [(a, c + 1)] else q ++ [(i, 1)]
theorem nxt_nil (i : Nat) : nxt [] i = [(i, 1)] := rfl
theorem nxt_snoc (p : List (Nat × Nat)) (a c i : Nat) : nxt (p ++ [(a, c)]) i = if a + c = i then p ++ [(a, c + 1)] else p ++ [(a, c)] ++ [(i, 1)] := by
  unfold nxt
  rw [List.getLast?_concat]
  simp only [List.dropLast_concat]
theorem nil_or_snoc (q : List (Nat × Nat)) : q = [] ∨ ∃ p a c, q = p ++ [(a, c)] := by
  rcases List.eq_nil_or_concat q with h | ⟨p, x, h⟩
  · exact .inl h
  · exact .inr ⟨p, x.1, x.2, by simpa using h⟩
def pcs (l : List Int) : Nat → List (Nat × Nat)
  | 0 => []
  | i + 1 => if bt l i = true then pcs l i else nxt (pcs l i) i
def zc (l : List Int) : Nat → Nat
  | 0 => 0
  | i + 1 => zc l i + if bt l i = true then 0 else 1
def sm (q : List (Nat × Nat)) : Nat := (q.map Prod.snd).sum
theorem sm_snoc (p : List (Nat × Nat)) (x : Nat × Nat) : sm (p ++ [x]) = sm p + x.2 := by simp [sm]
structure Inv (l : List Int) (i : Nat) (q : List (Nat × Nat)) : Prop where
  mem : ∀ x ∈ q, 1 ≤ x.2 ∧ x.1 + x.2 ≤ i ∧ ∀ j, x.1 ≤ j → j < x.1 + x.2 → bt l j = false
  sum : sm q = zc l i
  len : q.length ≤ i
set_option maxHeartbeats 2000000 in
theorem pcs_inv (l : List Int) : ∀ i, Inv l i (pcs l i)
  | 0 => ⟨fun x hx => by simp [pcs] at hx, rfl, by simp [pcs]⟩
  | i + 1 => by
    have ih := pcs_inv l i
    rw [pcs]
    by_cases hb : bt l i = true
    · rw [if_pos hb]
      exact ⟨fun x hx => by obtain ⟨h1, h2, h3⟩ := ih.mem x hx; exact ⟨h1, by omega, h3⟩, by rw [ih.sum, zc, if_pos hb]; rfl, by have := ih.len; omega⟩
    · rw [if_neg hb]
      have hb' : bt l i = false := by simpa using hb
      have new : 1 ≤ ((i, 1) : Nat × Nat).2 ∧ ((i, 1) : Nat × Nat).1 + ((i, 1) : Nat × Nat).2 ≤ i + 1 ∧ ∀ j, ((i, 1) : Nat × Nat).1 ≤ j → j < ((i, 1) : Nat × Nat).1 + ((i, 1) : Nat × Nat).2 → bt l j = false := ⟨Nat.le_refl _, Nat.le_refl _, fun j h1 h2 => by
        simp only [] at h1 h2
        rw [show j = i by omega]
        exact hb'⟩
      rcases nil_or_snoc (pcs l i) with e | ⟨p, a, c, e⟩
      · rw [e, nxt_nil]
        have hs := ih.sum
        rw [e] at hs
        exact ⟨fun x hx => by rw [List.mem_singleton.1 hx]; exact new, by rw [zc, if_neg hb, ← hs]; rfl, by simp⟩
      · rw [e] at ih
        rw [e, nxt_snoc]
        have hl := ih.len
        rw [List.length_append, List.length_singleton] at hl
        have hs := ih.sum
        rw [sm_snoc] at hs
        by_cases h : a + c = i
        · rw [if_pos h]
          refine ⟨fun x hx => ?_, by rw [sm_snoc, zc, if_neg hb, ← hs]; simp only []; omega, by rw [List.length_append, List.length_singleton]; omega⟩
          rcases List.mem_append.1 hx with hx | hx
          · obtain ⟨h1, h2, h3⟩ := ih.mem x (List.mem_append_left _ hx)
            exact ⟨h1, by omega, h3⟩
          · rw [List.mem_singleton.1 hx]
            obtain ⟨h1, h2, h3⟩ := ih.mem (a, c) (List.mem_append_right _ (List.mem_singleton.2 rfl))
            refine ⟨by simp only []; omega, by simp only []; omega, fun j hj1 hj2 => ?_⟩
            simp only [] at hj1 hj2
            by_cases ej : j = i
            · rw [ej]; exact hb'
            · exact h3 j hj1 (by simp only []; omega)
        · rw [if_neg h]
          refine ⟨fun x hx => ?_, by rw [sm_snoc, sm_snoc, zc, if_neg hb, ← hs], by rw [List.length_append, List.length_append, List.length_singleton, List.length_singleton]; omega⟩
          rcases List.mem_append.1 hx with hx | hx
          · obtain ⟨h1, h2, h3⟩ := ih.mem x hx
            exact ⟨h1, by omega, h3⟩
          · rw [List.mem_singleton.1 hx]; exact new
theorem zc_le (l : List Int) : ∀ i, zc l i ≤ i
  | 0 => Nat.le_refl _
  | i + 1 => by have := zc_le l i; rw [zc]; split <;> omega
def s52 (x : Nat × Nat) : S52 := ⟨(x.1 : Int), (x.2 : Int)⟩
def s36 (x : Nat × Nat) : S36 := ⟨(x.1 : Int), (x.2 : Int)⟩
theorem rd52_last (p : List (Nat × Nat)) (x : Nat × Nat) : rd_T52 ((p ++ [x]).map s52) ((p.length : Nat) : Int) = s52 x := by
  simp [rd_T52, List.getD_eq_getElem?_getD, List.getElem?_append_right]
theorem set52_last (p : List (Nat × Nat)) (x y : Nat × Nat) : ((p ++ [x]).map s52).set ((p.length : Nat) : Int).toNat (s52 y) = (p ++ [y]).map s52 := by
  rw [Int.toNat_natCast, List.map_append, List.map_append, List.set_append_right _ _ (by simp)]
  simp
set_option maxHeartbeats 2000000 in
theorem pieces_loop {l : List Int} (hb : By l) (hl : l.length = 256) (n : Nat) (hn : n ≤ 2048) (d : Nat) : ∀ i : Nat, i + d = n → Ev (fun k => bitmap_pieces.l0 k l ((pcs l i).map s52) (n : Int) (i : Int)) ((pcs l n).map s52) := by
  induction d with
  | zero =>
    intro i hi
    have e : i = n := by omega
    subst e
    refine Ev.step (f := fun _ => some ((pcs l i).map s52)) (fun k => ?_) (Ev.now _)
    simp only [bitmap_pieces.l0]
    rw [if_neg (by omega)]
  | succ d ih =>
    intro i hi
    have e1 := suc64 i 2048 (by omega) (by omega)
    have hbit := bit_f hb i (by omega) (by omega)
    have nx := ih (i + 1) (by omega)
    rw [pcs] at nx
    have inv := pcs_inv l i
    by_cases c : bt l i = true
    · rw [if_pos c] at nx
      refine Ev.step (fun k => ?_) nx
      simp only [bitmap_pieces.l0]
      rw [if_pos (by omega), hbit, Option.bind_some, if_pos c, e1]
    · rw [if_neg c] at nx
      rcases nil_or_snoc (pcs l i) with e | ⟨p, a, q, e⟩
      · rw [e, nxt_nil] at nx
        rw [e]
        refine Ev.step (fun k => ?_) nx
        simp only [bitmap_pieces.l0]
        rw [if_pos (by omega), hbit, Option.bind_some, if_neg c, if_neg (show ¬ wrap64 ((([] : List (Nat × Nat)).map s52).length - 1 : Int) ≥ 0 by rw [List.map_nil, List.length_nil, w64 (by omega) (by omega)]; omega), if_pos (by simp), e1]
        rfl
      · have hm := inv.mem (a, q) (by rw [e]; exact List.mem_append_right _ (List.mem_singleton.2 rfl))
        have hlen := inv.len
        rw [e, List.length_append, List.length_singleton] at hlen
        have ll : (((p ++ [(a, q)]).map s52).length : Int) = ((p.length + 1 : Nat) : Int) := by simp
        have ew : wrap64 ((((p ++ [(a, q)]).map s52).length : Int) - 1) = ((p.length : Nat) : Int) := by rw [ll, w64 (by omega) (by omega)]; omega
        have en : bitmap_piece_end.f (s52 (a, q)).f0 (s52 (a, q)).f1 = some ((a + q : Nat) : Int) := by
          unfold bitmap_piece_end.f s52
          simp only []
          rw [w64 (by omega) (by omega)]
          rfl
        rw [e, nxt_snoc] at nx
        rw [e]
        by_cases h : a + q = i
        · rw [if_pos h] at nx
          refine Ev.step (fun k => ?_) nx
          have es : wrap64 ((s52 (a, q)).f1 + 1) = ((q + 1 : Nat) : Int) := by unfold s52; simp only []; rw [w64 (by omega) (by omega)]; rfl
          simp only [bitmap_pieces.l0]
          rw [if_pos (by omega), hbit, Option.bind_some, if_neg c, ew, if_pos (show ((p.length : Nat) : Int) ≥ 0 by omega), if_pos (show (0 : Int) ≤ ((p.length : Nat) : Int) by omega), if_pos (show ((p.length : Nat) : Int) < (((p ++ [(a, q)]).map s52).length : Int) by rw [ll]; omega), rd52_last, en, Option.bind_some, if_pos (by omega), e1, es]
          rw [show (⟨(s52 (a, q)).f0, ((q + 1 : Nat) : Int)⟩ : S52) = s52 (a, q + 1) from rfl, set52_last]
        · rw [if_neg h] at nx
          refine Ev.step (fun k => ?_) nx
          simp only [bitmap_pieces.l0]
          rw [if_pos (by omega), hbit, Option.bind_some, if_neg c, ew, if_pos (show ((p.length : Nat) : Int) ≥ 0 by omega), if_pos (show (0 : Int) ≤ ((p.length : Nat) : Int) by omega), if_pos (show ((p.length : Nat) : Int) < (((p ++ [(a, q)]).map s52).length : Int) by rw [ll]; omega), rd52_last, en, Option.bind_some, if_neg (by omega), if_pos (by simp; omega), e1]
          rw [List.map_append (l₁ := p ++ [(a, q)])]
          rfl
open Classical in
noncomputable def rns (l : List Int) (n : Int) : List (Nat × Nat) := if Ok l n then pcs l n.toNat else []
theorem rns_ok {l : List Int} {n : Int} (h : Ok l n) : rns l n = pcs l n.toNat := if_pos h
theorem rns_no {l : List Int} {n : Int} (h : ¬ Ok l n) : rns l n = [] := if_neg h
theorem rns_len {l : List Int} {n : Int} : (rns l n).length ≤ 2048 := by
  by_cases h : Ok l n
  · rw [rns_ok h]
    have := (pcs_inv l n.toNat).len
    have := h.n1
    omega
  · rw [rns_no h]; simp
set_option maxHeartbeats 2000000 in
theorem pieces_ev {l : List Int} (hb : By l) (n : Int) : Ev (fun k => bitmap_pieces.f k l n) ((rns l n).map s52) := by
  unfold bitmap_pieces.f
  refine Ev.bind (may_ev hb n) ?_
  by_cases h : Ok l n
  · rw [chk_ok h, if_pos rfl, rns_ok h]
    have := h.n0
    have := h.n1
    obtain ⟨m, rfl⟩ := Int.eq_ofNat_of_zero_le h.n0
    rw [Int.toNat_natCast]
    exact pieces_loop hb h.len m (by omega) m 0 (by omega)
  · rw [chk_no h, if_neg (by decide), rns_no h]
    refine Ev.step (f := fun _ => some []) (fun k => ?_) (Ev.now _)
    simp only [bitmap_pieces.l0]
    rw [if_neg (by omega)]
set_option maxHeartbeats 2000000 in
theorem tot_sum (q : List (Nat × Nat)) : ∀ s : Nat, s + sm q < 4611686018427387904 → (q.map s52).foldl (fun s x => wrap64 (s + x.f1)) (s : Int) = ((s + sm q : Nat) : Int) := by
  induction q with
  | nil => intro s _; simp [sm]
  | cons x q ih =>
    intro s hs
    have e : sm (x :: q) = x.2 + sm q := by simp [sm]
    rw [e] at hs ⊢
    simp only [List.map_cons, List.foldl_cons]
    rw [show wrap64 ((s : Int) + (s52 x).f1) = ((s + x.2 : Nat) : Int) by unfold s52; simp only []; rw [w64 (by omega) (by omega)]; rfl, ih (s + x.2) (by omega)]
    congr 1
    omega
noncomputable def cnt (l : List Int) (n : Int) : Nat := sm (rns l n)
theorem cnt_ok {l : List Int} {n : Int} (h : Ok l n) : cnt l n = zc l n.toNat := by
  unfold cnt
  rw [rns_ok h]
  exact (pcs_inv l n.toNat).sum
theorem cnt_le (l : List Int) (n : Int) : cnt l n ≤ 2048 := by
  by_cases h : Ok l n
  · rw [cnt_ok h]
    have := zc_le l n.toNat
    have := h.n1
    omega
  · unfold cnt
    rw [rns_no h]
    simp [sm]
theorem count_ev {l : List Int} (hb : By l) (n : Int) : Ev (fun k => bitmap_Count.f k l n) (cnt l n : Int) := by
  unfold bitmap_Count.f
  refine Ev.bind (pieces_ev hb n) ?_
  have := cnt_le l n
  have h := tot_sum (rns l n) 0 (by unfold cnt at this; omega)
  rw [show RunsIt.tot ((rns l n).map s52) = (cnt l n : Int) by unfold RunsIt.tot cnt; rw [Nat.zero_add] at h; exact h]
  exact Ev.now _
theorem told_ev {l : List Int} (hb : By l) (n m : Int) : Ev (fun k => slipwaylaw12_told.f k l n m) (((rns l n).take m.toNat).map s36) := by
  unfold slipwaylaw12_told.f
  refine Ev.bind (pieces_ev hb n) (Ev.iff_pos (by have := @rns_len l n; rw [List.length_map]; omega) ?_)
  rw [← List.map_take, List.map_map]
  exact Ev.now _
end Go.Proofs.Ytllodfjbenmlpaa.Bm
end
