/- Texts of the proof of BitmapTells, part 21. -/
import Derived.Test.YtllodfjbenmlpaaBitmapTellsM19
import Derived.Test.YtllodfjbenmlpaaBitmapTellsM16
section
namespace Go.Proofs.Ytllodfjbenmlpaa.Bm
set_option linter.unusedVariables false
set_option linter.unusedSimpArgs false
open Go.RowKit Go.Proofs.Ytllodfjbenmlpaa.Print Go.Proofs.YtllodfjbenmlpaaW.PrintWords Go.Proofs.YtllodfjbenmlpaaW.PrintLast Go.Proofs.YtllodfjbenmlpaaW.PrintMore
def nxt (q : List (Nat × Nat)) (i : Nat) : List (Nat × Nat) := match q.getLast? with
  | none => [(i, 1)]
  | some (a, c) => if a + c = i then q.dropLast ++ [(a, c + 1)] else q ++ [(i, 1)]
theorem nxt_nil (i : Nat) : nxt [] i = [(i, 1)] := rfl
theorem nxt_snoc (p : List (Nat × Nat)) (a c i : Nat) : nxt (p ++ [(a, c)]) i = if a + c = i then p ++ [(a, c + 1)] else p ++ [(a, c)] ++ [(i, 1)] := by
  unfold nxt
  rw [List.getLast?_concat]
  simp only [List.dropLast_concat]
theorem nil_or_snoc (q : List (Nat × Nat)) : q = [] ∨ ∃ p a c, q = p ++ [(a, c)] := by
  rcases List.eq_nil_or_concat q with h | ⟨p, x, h⟩
  · exact .inl h
  · exact .inr ⟨p, x.1, x.2, by simpa using h⟩
def pcs (l : List Int) : Nat → List (Nat × Nat)
  | 0 => []
  | i + 1 => if bt l i = true then pcs l i else nxt (pcs l i) i
def zc (l : List Int) : Nat → Nat
  | 0 => 0
  | i + 1 => zc l i + if bt l i = true then 0 else 1
def sm (q : List (Nat × Nat)) : Nat := (q.map Prod.snd).sum
theorem sm_snoc (p : List (Nat × Nat)) (x : Nat × Nat) : sm (p ++ [x]) = sm p + x.2 := by simp [sm]
structure Inv (l : List Int) (i : Nat) (q : List (Nat × Nat)) : Prop where
  mem : ∀ x ∈ q, 1 ≤ x.2 ∧ x.1 + x.2 ≤ i ∧ ∀ j, x.1 ≤ j → j < x.1 + x.2 → bt l j = false
  sum : sm q = zc l i
  len : q.length ≤ i
set_option maxHeartbeats 2000000 in
theorem pcs_inv (l : List Int) : ∀ i, Inv l i (pcs l i)
  | 0 => ⟨fun x hx => by simp [pcs] at hx, rfl, by simp [pcs]⟩
  | i + 1 => by
    have ih := pcs_inv l i
    rw [pcs]
    by_cases hb : bt l i = true
    · rw [if_pos hb]
      exact ⟨fun x hx => by obtain ⟨h1, h2, h3⟩ := ih.mem x hx; exact ⟨h1, by omega, h3⟩, by rw [ih.sum, zc, if_pos hb]; rfl, by have := ih.len; omega⟩
    · rw [if_neg hb]
      have hb' : bt l i = false := by simpa using hb
      have new : 1 ≤ ((i, 1) : Nat × Nat).2 ∧ ((i, 1) : Nat × Nat).1 + ((i, 1) : Nat × Nat).2 ≤ i + 1 ∧ ∀ j, ((i, 1) : Nat × Nat).1 ≤ j → j < ((i, 1) : Nat × Nat).1 + ((i, 1) : Nat × Nat).2 → bt l j = false := ⟨Nat.le_refl _, Nat.le_refl _, fun j h1 h2 => by
        simp only [] at h1 h2
        rw [show j = i by omega]
        exact hb'⟩
      rcases nil_or_snoc (pcs l i) with e | ⟨p, a, c, e⟩
      · rw [e, nxt_nil]
        have hs := ih.sum
        rw [e] at hs
        exact ⟨fun x hx => by rw [List.mem_singleton.1 hx]; exact new, by rw [zc, if_neg hb, ← hs]; rfl, by simp⟩
      · rw [e] at ih
        rw [e, nxt_snoc]
        have hl := ih.len
        rw [List.length_append, List.length_singleton] at hl
        have hs := ih.sum
        rw [sm_snoc] at hs
        by_cases h : a + c = i
        · rw [if_pos h]
          refine ⟨fun x hx => ?_, by rw [sm_snoc, zc, if_neg hb, ← hs]; simp only []; omega, by rw [List.length_append, List.length_singleton]; omega⟩
          rcases List.mem_append.1 hx with hx | hx
          · obtain ⟨h1, h2, h3⟩ := ih.mem x (List.mem_append_left _ hx)
            exact ⟨h1, by omega, h3⟩
          · rw [List.mem_singleton.1 hx]
            obtain ⟨h1, h2, h3⟩ := ih.mem (a, c) (List.mem_append_right _ (List.mem_singleton.2 rfl))
            refine ⟨by simp only []; omega, by simp only []; omega, fun j hj1 hj2 => ?_⟩
            simp only [] at hj1 hj2
            by_cases ej : j = i
            · rw [ej]; exact hb'
            · exact h3 j hj1 (by simp only []; omega)
        · rw [if_neg h]
          refine ⟨fun x hx => ?_, by rw [sm_snoc, sm_snoc, zc, if_neg hb, ← hs], by rw [List.length_append, List.length_append, List.length_singleton, List.length_singleton]; omega⟩
          rcases List.mem_append.1 hx with hx | hx
          · obtain ⟨h1, h2, h3⟩ := ih.mem x hx
            exact ⟨h1, by omega, h3⟩
          · rw [List.mem_singleton.1 hx]; exact new
theorem zc_le (l : List Int) : ∀ i, zc l i ≤ i
  | 0 => Nat.le_refl _
  | i + 1 => by have := zc_le l i; rw [zc]; split <;> omega
def s52 (x : Nat × Nat) : S52 := ⟨(x.1 : Int), (x.2 : Int)⟩
def s36 (x : Nat × Nat) : S36 := ⟨(x.1 : Int), (x.2 : Int)⟩
theorem rd52_last (p : List (Nat × Nat)) (x : Nat × Nat) : rd_T52 ((p ++ [x]).map s52) ((p.length : Nat) : Int) = s52 x := by
  simp [rd_T52, List.getD_eq_getElem?_getD, List.getElem?_append_right]
theorem set52_last (p : List (Nat × Nat)) (x y : Nat × Nat) : ((p ++ [x]).map s52).set ((p.length : Nat) : Int).toNat (s52 y) = (p ++ [y]).map s52 := by
  rw [Int.toNat_natCast, List.map_append, List.map_append, List.set_append_right _ _ (by simp)]
  simp
set_option maxHeartbeats 2000000 in
theorem pieces_loop {l : List Int} (hb : By l) (hl : l.length = 256) (n : Nat) (hn : n ≤ 2048) (d : Nat) : ∀ i : Nat, i + d = n → Ev (fun k => bitmap_pieces.l0 k l ((pcs l i).map s52) (n : Int) (i : Int)) ((pcs l n).map s52) := by
  induction d with
  | zero =>
    intro i hi
    have e : i = n := by omega
    subst e
    refine Ev.step (f := fun _ => some ((pcs l i).map s52)) (fun k => ?_) (Ev.now _)
    simp only [bitmap_pieces.l0]
    rw [if_neg (by omega)]
  | succ d ih =>
    intro i hi
    have e1 := suc64 i 2048 (by omega) (by omega)
    have hbit := bit_f hb i (by omega) (by omega)
    have nx := ih (i + 1) (by omega)
    rw [pcs] at nx
    have inv := pcs_inv l i
    by_cases c : bt l i = true
    · rw [if_pos c] at nx
      refine Ev.step (fun k => ?_) nx
      simp only [bitmap_pieces.l0]
      rw [if_pos (by omega), hbit, Option.bind_some, if_pos c, e1]
    · rw [if_neg c] at nx
      rcases nil_or_snoc (pcs l i) with e | ⟨p, a, q, e⟩
      · rw [e, nxt_nil] at nx
        rw [e]
        refine Ev.step (fun k => ?_) nx
        simp only [bitmap_pieces.l0]
        rw [if_pos (by omega), hbit, Option.bind_some, if_neg c, if_neg (show ¬ wrap64 ((([] : List (Nat × Nat)).map s52).length - 1 : Int) ≥ 0 by rw [List.map_nil, List.length_nil, w64 (by omega) (by omega)]; omega), if_pos (by simp), e1]
        rfl
      · have hm := inv.mem (a, q) (by rw [e]; exact List.mem_append_right _ (List.mem_singleton.2 rfl))
        have hlen := inv.len
        rw [e, List.length_append, List.length_singleton] at hlen
        have ll : (((p ++ [(a, q)]).map s52).length : Int) = ((p.length + 1 : Nat) : Int) := by simp
        have ew : wrap64 ((((p ++ [(a, q)]).map s52).length : Int) - 1) = ((p.length : Nat) : Int) := by rw [ll, w64 (by omega) (by omega)]; omega
        have en : bitmap_piece_end.f (s52 (a, q)).f0 (s52 (a, q)).f1 = some ((a + q : Nat) : Int) := by
          unfold bitmap_piece_end.f s52
          simp only []
          rw [w64 (by omega) (by omega)]
          rfl
        rw [e, nxt_snoc] at nx
        rw [e]
        by_cases h : a + q = i
        · rw [if_pos h] at nx
          refine Ev.step (fun k => ?_) nx
          have es : wrap64 ((s52 (a, q)).f1 + 1) = ((q + 1 : Nat) : Int) := by unfold s52; simp only []; rw [w64 (by omega) (by omega)]; rfl
          simp only [bitmap_pieces.l0]
          rw [if_pos (by omega), hbit, Option.bind_some, if_neg c, ew, if_pos (show ((p.length : Nat) : Int) ≥ 0 by omega), if_pos (show (0 : Int) ≤ ((p.length : Nat) : Int) by omega), if_pos (show ((p.length : Nat) : Int) < (((p ++ [(a, q)]).map s52).length : Int) by rw [ll]; omega), rd52_last, en, Option.bind_some, if_pos (by omega), e1, es]
          rw [show (⟨(s52 (a, q)).f0, ((q + 1 : Nat) : Int)⟩ : S52) = s52 (a, q + 1) from rfl, set52_last]
        · rw [if_neg h] at nx
          refine Ev.step (fun k => ?_) nx
          simp only [bitmap_pieces.l0]
          rw [if_pos (by omega), hbit, Option.bind_some, if_neg c, ew, if_pos (show ((p.length : Nat) : Int) ≥ 0 by omega), if_pos (show (0 : Int) ≤ ((p.length : Nat) : Int) by omega), if_pos (show ((p.length : Nat) : Int) < (((p ++ [(a, q)]).map s52).length : Int) by rw [ll]; omega), rd52_last, en, Option.bind_some, if_neg (by omega), if_pos (by simp; omega), e1]
          rw [List.map_append (l₁ := p ++ [(a, q)])]
          rfl
open Classical in
noncomputable def rns (l : List Int) (n : Int) : List (Nat × Nat) := if Ok l n then pcs l n.toNat else []
theorem rns_ok {l : List Int} {n : Int} (h : Ok l n) : rns l n = pcs l n.toNat := if_pos h
theorem rns_no {l : List Int} {n : Int} (h : ¬ Ok l n) : rns l n = [] := if_neg h
theorem rns_len {l : List Int} {n : Int} : (rns l n).length ≤ 2048 := by
  by_cases h : Ok l n
  · rw [rns_ok h]
    have := (pcs_inv l n.toNat).len
    have := h.n1
    omega
  · rw [rns_no h]; simp
set_option maxHeartbeats 2000000 in
theorem pieces_ev {l : List Int} (hb : By l) (n : Int) : Ev (fun k => bitmap_pieces.f k l n) ((rns l n).map s52) := by
  unfold bitmap_pieces.f
  refine Ev.bind (may_ev hb n) ?_
  by_cases h : Ok l n
  · rw [chk_ok h, if_pos rfl, rns_ok h]
    have := h.n0
    have := h.n1
    obtain ⟨m, rfl⟩ := Int.eq_ofNat_of_zero_le h.n0
    rw [Int.toNat_natCast]
    exact pieces_loop hb h.len m (by omega) m 0 (by omega)
  · rw [chk_no h, if_neg (by decide), rns_no h]
    refine Ev.step (f := fun _ => some []) (fun k => ?_) (Ev.now _)
    simp only [bitmap_pieces.l0]
    rw [if_neg (by omega)]
set_option maxHeartbeats 2000000 in
theorem tot_sum (q : List (Nat × Nat)) : ∀ s : Nat, s + sm q < 4611686018427387904 → (q.map s52).foldl (fun s x => wrap64 (s + x.f1)) (s : Int) = ((s + sm q : Nat) : Int) := by
  induction q with
  | nil => intro s _; simp [sm]
  | cons x q ih =>
    intro s hs
    have e : sm (x :: q) = x.2 + sm q := by simp [sm]
    rw [e] at hs ⊢
    simp only [List.map_cons, List.foldl_cons]
    rw [show wrap64 ((s : Int) + (s52 x).f1) = ((s + x.2 : Nat) : Int) by unfold s52; simp only []; rw [w64 (by omega) (by omega)]; rfl, ih (s + x.2) (by omega)]
    congr 1
    omega
noncomputable def cnt (l : List Int) (n : Int) : Nat := sm (rns l n)
theorem cnt_ok {l : List Int} {n : Int} (h : Ok l n) : cnt l n = zc l n.toNat := by
  unfold cnt
  rw [rns_ok h]
  exact (pcs_inv l n.toNat).sum
theorem cnt_le (l : List Int) (n : Int) : cnt l n ≤ 2048 := by
  by_cases h : Ok l n
  · rw [cnt_ok h]
    have := zc_le l n.toNat
    have := h.n1
    omega
  · unfold cnt
    rw [rns_no h]
    simp [sm]
theorem count_ev {l : List Int} (hb : By l) (n : Int) : Ev (fun k => bitmap_Count.f k l n) (cnt l n : Int) := by
  unfold bitmap_Count.f
  refine Ev.bind (pieces_ev hb n) ?_
  have := cnt_le l n
  have h := tot_sum (rns l n) 0 (by unfold cnt at this; omega)
  rw [show RunsIt.tot ((rns l n).map s52) = (cnt l n : Int) by unfold RunsIt.tot cnt; rw [Nat.zero_add] at h; exact h]
  exact Ev.now _
theorem told_ev {l : List Int} (hb : By l) (n m : Int) : Ev (fun k => slipwaylaw12_told.f k l n m) (((rns l n).take m.toNat).map s36) := by
  unfold slipwaylaw12_told.f
  refine Ev.bind (pieces_ev hb n) (Ev.iff_pos (by have := @rns_len l n; rw [List.length_map]; omega) ?_)
  rw [← List.map_take, List.map_map]
  exact Ev.now _
def fst_ (goal want : Int) : List (Nat × Nat) → Option (Int × Int)
  | [] => none
  | x :: r => if ((x.1 + x.2 : Nat) : Int) - mx (x.1 : Int) goal ≥ want then some (mx (x.1 : Int) goal, want) else fst_ goal want r
def snd_ (goal want : Int) : List (Nat × Nat) → Int × Int → Int × Int
  | [], b => b
  | x :: r, b => if (x.1 : Int) < goal ∧ (x.2 : Int) ≥ want then ((x.1 : Int), want) else if (x.2 : Int) > b.2 then snd_ goal want r ((x.1 : Int), (x.2 : Int)) else snd_ goal want r b
def fnd (q : List (Nat × Nat)) (goal want : Int) : Int × Int := match fst_ goal want q with
  | some r => r
  | none => snd_ goal want q (0, 0)
def Small (q : List (Nat × Nat)) : Prop := ∀ x ∈ q, x.1 + x.2 ≤ 2048
theorem rd52 (q : List (Nat × Nat)) (i : Nat) (h : i < q.length) : rd_T52 (q.map s52) (i : Int) = s52 q[i] := by simp [rd_T52, List.getD_eq_getElem?_getD, h]
theorem mx_range (a : Nat) (goal : Int) (h0 : 0 ≤ goal) (h1 : goal ≤ 2048) (ha : a ≤ 2048) : 0 ≤ mx (a : Int) goal ∧ mx (a : Int) goal ≤ 2048 := by unfold mx; split <;> omega
set_option maxHeartbeats 2000000 in
theorem run_second (q : List (Nat × Nat)) (hs : Small q) (goal want : Int) (hlen : q.length ≤ 2048) (d : Nat) : ∀ (i : Nat) (b : Int × Int), i + d = q.length → Ev (fun k => bitmap_Run.l1 k goal want (q.map s52) (q.length : Int) (i : Int) b.1 b.2) (snd_ goal want (q.drop i) b) := by
  induction d with
  | zero =>
    intro i b hi
    have e : i = q.length := by omega
    subst e
    rw [List.drop_length]
    refine Ev.step (f := fun _ => some b) (fun k => ?_) (Ev.now _)
    simp only [bitmap_Run.l1]
    rw [if_neg (by omega)]
  | succ d ih =>
    intro i b hi
    have hi2 : i < q.length := by omega
    have e1 := suc64 i 4096 (by omega) (by omega)
    have hd : q.drop i = q[i] :: q.drop (i + 1) := List.drop_eq_getElem_cons hi2
    have hrd := rd52 q i hi2
    have hl : ((q.map s52).length : Int) = (q.length : Int) := by simp
    rw [hd]
    have nx : ∀ x : Bool, x = decide ((q[i].1 : Int) < goal ∧ (q[i].2 : Int) ≥ want) → Ev (fun k => bitmap_Run.j4 k goal want (q.map s52) (q.length : Int) (i : Int) x b.1 b.2 (q[i].1 : Int) (q[i].2 : Int)) (snd_ goal want (q[i] :: q.drop (i + 1)) b) := fun x hx => by
      refine Ev.step (f := fun k => if x = true then some ((q[i].1 : Int), want) else (if (q[i].2 : Int) > b.2 then bitmap_Run.l1 k goal want (q.map s52) (q.length : Int) ((i + 1 : Nat) : Int) (q[i].1 : Int) (q[i].2 : Int) else bitmap_Run.l1 k goal want (q.map s52) (q.length : Int) ((i + 1 : Nat) : Int) b.1 b.2)) (fun k => ?_) ?_
      · simp only [bitmap_Run.j4]
        rw [e1]
      · rw [snd_]
        by_cases c : (q[i].1 : Int) < goal ∧ (q[i].2 : Int) ≥ want
        · rw [if_pos c]
          exact Ev.iff_pos (by rw [hx]; exact decide_eq_true c) (Ev.now _)
        · rw [if_neg c]
          refine Ev.iff_neg (by rw [hx, decide_eq_false c]; decide) ?_
          by_cases c2 : (q[i].2 : Int) > b.2
          · rw [if_pos c2]
            exact Ev.iff_pos c2 (ih (i + 1) ((q[i].1 : Int), (q[i].2 : Int)) (by omega))
          · rw [if_neg c2]
            exact Ev.iff_neg c2 (ih (i + 1) b (by omega))
    refine Ev.step (f := fun k => if (q[i].1 : Int) < goal then bitmap_Run.j4 k goal want (q.map s52) (q.length : Int) (i : Int) (decide ((q[i].2 : Int) ≥ want)) b.1 b.2 (q[i].1 : Int) (q[i].2 : Int) else bitmap_Run.j4 k goal want (q.map s52) (q.length : Int) (i : Int) false b.1 b.2 (q[i].1 : Int) (q[i].2 : Int)) (fun k => ?_) ?_
    · simp only [bitmap_Run.l1]
      rw [if_pos (by omega), if_pos (by omega), if_pos (by rw [hl]; omega), hrd]
      rfl
    · by_cases c : (q[i].1 : Int) < goal
      · exact Ev.iff_pos c (nx _ (decide_eq_decide.2 ⟨fun h => ⟨c, h⟩, fun h => h.2⟩))
      · exact Ev.iff_neg c (nx _ (decide_eq_false (fun h => c h.1)).symm)
set_option maxHeartbeats 2000000 in
theorem run_first (q : List (Nat × Nat)) (hs : Small q) (goal want : Int) (h0 : 0 ≤ goal) (h1 : goal ≤ 2048) (hlen : q.length ≤ 2048) (d : Nat) : ∀ i : Nat, i + d = q.length →
    Ev (fun k => bitmap_Run.l0 k goal want (q.map s52) (q.map s52) (q.length : Int) (i : Int)) (match fst_ goal want (q.drop i) with | some r => r | none => snd_ goal want q (0, 0)) := by
  have hl : ((q.map s52).length : Int) = (q.length : Int) := by simp
  induction d with
  | zero =>
    intro i hi
    have e : i = q.length := by omega
    subst e
    rw [List.drop_length]
    have := run_second q hs goal want hlen q.length 0 (0, 0) (by omega)
    rw [List.drop_zero] at this
    refine Ev.step (fun k => ?_) this
    simp only [bitmap_Run.l0]
    rw [if_neg (by omega), hl]
    rfl
  | succ d ih =>
    intro i hi
    have hi2 : i < q.length := by omega
    have e1 := suc64 i 4096 (by omega) (by omega)
    have hd : q.drop i = q[i] :: q.drop (i + 1) := List.drop_eq_getElem_cons hi2
    have hrd := rd52 q i hi2
    have hsm := hs _ (List.getElem_mem hi2)
    have hmx := mx_range q[i].1 goal h0 h1 (by omega)
    have en : bitmap_piece_end.f (s52 q[i]).f0 (s52 q[i]).f1 = some ((q[i].1 + q[i].2 : Nat) : Int) := by
      unfold bitmap_piece_end.f s52
      simp only []
      rw [w64 (by omega) (by omega)]
      rfl
    rw [hd]
    refine Ev.step (f := fun k => if ((q[i].1 + q[i].2 : Nat) : Int) - mx (q[i].1 : Int) goal ≥ want then some (mx (q[i].1 : Int) goal, want) else bitmap_Run.l0 k goal want (q.map s52) (q.map s52) (q.length : Int) ((i + 1 : Nat) : Int)) (fun k => ?_) ?_
    · simp only [bitmap_Run.l0]
      rw [if_pos (by omega), if_pos (by omega), if_pos (by rw [hl]; omega), hrd, en, Option.bind_some, e1]
      rw [show (s52 q[i]).f0 = (q[i].1 : Int) from rfl, w64 (n := ((q[i].1 + q[i].2 : Nat) : Int) - mx (q[i].1 : Int) goal) (by omega) (by omega)]
    · rw [fst_]
      by_cases c : ((q[i].1 + q[i].2 : Nat) : Int) - mx (q[i].1 : Int) goal ≥ want
      · rw [if_pos c]
        exact Ev.iff_pos c (Ev.now _)
      · rw [if_neg c]
        exact Ev.iff_neg c (ih (i + 1) (by omega))
theorem rns_small (l : List Int) (n : Int) : Small (rns l n) := fun x hx => by
  by_cases h : Ok l n
  · rw [rns_ok h] at hx
    have := ((pcs_inv l n.toNat).mem x hx).2.1
    have := h.n1
    omega
  · rw [rns_no h] at hx
    simp at hx
open Classical in
noncomputable def from_ (l : List Int) (n goal : Int) : Int := if 0 ≤ goal ∧ goal < (if Ok l n then n else 0) then goal else 0
theorem from_range (l : List Int) (n goal : Int) : 0 ≤ from_ l n goal ∧ from_ l n goal ≤ 2048 := by
  unfold from_
  by_cases ho : Ok l n
  · have := ho.n1
    rw [if_pos ho]
    split <;> omega
  · rw [if_neg ho]
    split <;> omega
open Classical in
theorem run_ev {l : List Int} (hb : By l) (n goal want : Int) : Ev (fun k => bitmap_Run.f k l n goal want) (if want < 1 then (0, 0) else fnd (rns l n) (from_ l n goal) want) := by
  unfold bitmap_Run.f
  by_cases hw : want < 1
  · rw [if_pos hw]
    exact Ev.iff_pos hw (Ev.now _)
  rw [if_neg hw]
  refine Ev.iff_neg hw ?_
  have j1 : ∀ g, 0 ≤ g → g ≤ 2048 → Ev (fun k => bitmap_Run.j1 k l n g want) (fnd (rns l n) g want) := fun g h0 h1 => by
    refine Ev.step (f := fun k => (bitmap_pieces.f k l n).bind fun t118 => (bitmap_Run.l0 k g want t118 t118 (t118.length : Int) 0)) (fun k => by simp only [bitmap_Run.j1]) (Ev.bind (pieces_ev hb n) ?_)
    have := run_first (rns l n) (rns_small l n) g want h0 h1 rns_len (rns l n).length 0 (by omega)
    rw [List.drop_zero] at this
    rw [show (((rns l n).map s52).length : Int) = ((rns l n).length : Int) by simp]
    exact this
  have hj : ∀ x : Bool, from_ l n goal = (if x = true then 0 else goal) → Ev (fun k => bitmap_Run.j0 k l n goal want x) (fnd (rns l n) (from_ l n goal) want) := fun x hx => by
    have hr := from_range l n goal
    refine Ev.step (f := fun k => if x = true then bitmap_Run.j1 k l n 0 want else bitmap_Run.j1 k l n goal want) (fun k => by simp only [bitmap_Run.j0]) ?_
    by_cases c : x = true
    · rw [if_pos c] at hx
      rw [hx]
      exact Ev.iff_pos c (j1 0 (by omega) (by omega))
    · rw [if_neg c] at hx
      rw [hx] at hr ⊢
      exact Ev.iff_neg c (j1 goal hr.1 hr.2)
  by_cases hg : goal < 0
  · refine Ev.iff_pos hg (hj true ?_)
    rw [if_pos rfl]
    unfold from_
    rw [if_neg (by omega)]
  · refine Ev.iff_neg hg (Ev.bind (may_ev hb n) (hj _ ?_))
    have e : (if chk l n = 0 then n else 0) = (if Ok l n then n else 0) := by
      by_cases h : Ok l n
      · rw [chk_ok h, if_pos rfl, if_pos h]
      · rw [chk_no h, if_neg (by decide), if_neg h]
    rw [e]
    unfold from_
    by_cases c : goal ≥ (if Ok l n then n else 0)
    · rw [if_neg (by omega), decide_eq_true c, if_pos rfl]
    · rw [if_pos ⟨by omega, by omega⟩, decide_eq_false c, if_neg (by decide)]
theorem fst_none {goal want : Int} : ∀ {q : List (Nat × Nat)}, fst_ goal want q = none → ∀ x ∈ q, goal ≤ (x.1 : Int) → (x.2 : Int) < want
  | [], h, x, hx, _ => by simp at hx
  | y :: q, h, x, hx, hg => by
    rw [fst_] at h
    split at h
    · cases h
    · rename_i c
      rcases List.mem_cons.1 hx with e | hx
      · subst e
        have : mx (x.1 : Int) goal = (x.1 : Int) := by unfold mx; split <;> omega
        rw [this] at c
        omega
      · exact fst_none h x hx hg
end Go.Proofs.Ytllodfjbenmlpaa.Bm
end
