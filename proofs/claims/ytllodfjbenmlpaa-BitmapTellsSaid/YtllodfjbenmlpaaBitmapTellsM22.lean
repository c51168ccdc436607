/- Texts of the proof of BitmapTells, part 22. -/
import Derived.Test.YtllodfjbenmlpaaBitmapTellsM21
import Derived.Test.YtllodfjbenmlpaaBitmapTellsM16
import Derived.Test.YtllodfjbenmlpaaBitmapTellsM17
section
namespace Go.Proofs.Ytllodfjbenmlpaa.Bm
set_option linter.unusedVariables false
set_option linter.unusedSimpArgs false
open Go.RowKit Go.Proofs.Ytllodfjbenmlpaa.Print Go.Proofs.YtllodfjbenmlpaaW.PrintWords Go.Proofs.YtllodfjbenmlpaaW.PrintLast Go.Proofs.YtllodfjbenmlpaaW.PrintMore
theorem rd36_last (p : List (Nat × Nat)) (x : Nat × Nat) : rd_T36 ((p ++ [x]).map s36) ((p.length : Nat) : Int) = s36 x := by
  simp [rd_T36, List.getD_eq_getElem?_getD, List.getElem?_append_right]
theorem set36_last (p : List (Nat × Nat)) (x y : Nat × Nat) : ((p ++ [x]).map s36).set ((p.length : Nat) : Int).toNat (s36 y) = (p ++ [y]).map s36 := by
  rw [Int.toNat_natCast, List.map_append, List.map_append, List.set_append_right _ _ (by simp)]
  simp
theorem rd36r (q : List (Nat × Nat)) (i : Nat) (h : i < q.length) : rd_T36 (q.map s36) (i : Int) = s36 q[i] := by simp [rd_T36, List.getD_eq_getElem?_getD, h]
set_option maxHeartbeats 1000000 in
theorem rruns_loop {l : List Int} (hb : By l) (hl : l.length = 256) (n : Nat) (hn : n ≤ 2048) (d : Nat) : ∀ i : Nat, i + d = n → Ev (fun k => slipwayref12_Runs.l0 k l (n : Int) ((pcs l i).map s36) (i : Int)) ((pcs l n).map s36) := by
  induction d with
  | zero =>
    intro i hi
    have e : i = n := by omega
    subst e
    refine Ev.step (f := fun _ => some ((pcs l i).map s36)) (fun k => ?_) (Ev.now _)
    simp only [slipwayref12_Runs.l0]
    rw [if_neg (by omega)]
  | succ d ih =>
    intro i hi
    have e1 := Aside0.mk (suc64 i 2048 (by omega) (by omega))
    have hbit := rbit_f hb i (by omega) (by omega)
    have nx := ih (i + 1) (by omega)
    rw [pcs] at nx
    have inv := pcs_inv l i
    by_cases c : bt l i = true
    · rw [if_pos c] at nx
      refine Ev.step (fun k => ?_) nx
      simp only [slipwayref12_Runs.l0]
      rw [if_pos (by omega), hbit, Option.bind_some, if_pos c, e1.out]
    · rw [if_neg c] at nx
      rcases nil_or_snoc (pcs l i) with e | ⟨p, a, q, e⟩
      · rw [e, nxt_nil] at nx
        rw [e]
        refine Ev.step (fun k => ?_) nx
        simp only [slipwayref12_Runs.l0]
        rw [if_pos (by omega), hbit, Option.bind_some, if_neg c, if_neg (show ¬ ((([] : List (Nat × Nat)).map s36).length : Int) > 0 by simp), if_pos (by simp), e1.out]
        rfl
      · have hm := inv.mem (a, q) (by rw [e]; exact List.mem_append_right _ (List.mem_singleton.2 rfl))
        have hlen := inv.len
        rw [e, List.length_append, List.length_singleton] at hlen
        have ll : (((p ++ [(a, q)]).map s36).length : Int) = ((p.length + 1 : Nat) : Int) := by simp
        have ew := Aside0.mk (show wrap64 ((((p ++ [(a, q)]).map s36).length : Int) - 1) = ((p.length : Nat) : Int) by rw [ll, w64 (by omega) (by omega)]; omega)
        have en := Aside0.mk (show wrap64 ((s36 (a, q)).f0 + (s36 (a, q)).f1) = ((a + q : Nat) : Int) from w64 (n := ((a + q : Nat) : Int)) (by omega) (by omega))
        have es := Aside0.mk (show wrap64 ((s36 (a, q)).f1 + 1) = ((q + 1 : Nat) : Int) from w64 (n := ((q + 1 : Nat) : Int)) (by omega) (by omega))
        rw [e, nxt_snoc] at nx
        rw [e]
        by_cases h : a + q = i
        · rw [if_pos h] at nx
          refine Ev.step (fun k => ?_) nx
          simp only [slipwayref12_Runs.l0]
          rw [if_pos (by omega), hbit, Option.bind_some, if_neg c, if_pos (show (((p ++ [(a, q)]).map s36).length : Int) > 0 by rw [ll]; omega), ew.out, if_pos (show (0 : Int) ≤ ((p.length : Nat) : Int) by omega), if_pos (show ((p.length : Nat) : Int) < (((p ++ [(a, q)]).map s36).length : Int) by rw [ll]; omega), rd36_last, en.out, if_pos (by omega), e1.out, es.out]
          rw [show (⟨(s36 (a, q)).f0, ((q + 1 : Nat) : Int)⟩ : S36) = s36 (a, q + 1) from rfl, set36_last]
        · rw [if_neg h] at nx
          refine Ev.step (fun k => ?_) nx
          simp only [slipwayref12_Runs.l0]
          rw [if_pos (by omega), hbit, Option.bind_some, if_neg c, if_pos (show (((p ++ [(a, q)]).map s36).length : Int) > 0 by rw [ll]; omega), ew.out, if_pos (show (0 : Int) ≤ ((p.length : Nat) : Int) by omega), if_pos (show ((p.length : Nat) : Int) < (((p ++ [(a, q)]).map s36).length : Int) by rw [ll]; omega), rd36_last, en.out, if_neg (by omega), if_pos (by simp; omega), e1.out]
          rw [List.map_append (l₁ := p ++ [(a, q)])]
          rfl
set_option maxHeartbeats 2000000 in
theorem rruns_ev {l : List Int} (hb : By l) (n : Int) : Ev (fun k => slipwayref12_Runs.f k l n) ((rns l n).map s36) := by
  unfold slipwayref12_Runs.f
  refine Ev.bind (rcheck_ev hb n) ?_
  by_cases h : Ok l n
  · rw [chk_ok h, rns_ok h]
    have := h.n0
    have := h.n1
    obtain ⟨m, rfl⟩ := Int.eq_ofNat_of_zero_le h.n0
    rw [Int.toNat_natCast]
    exact Ev.iff_pos rfl (rruns_loop hb h.len m (by omega) m 0 (by omega))
  · rw [chk_no h, rns_no h]
    exact Ev.iff_neg (by decide) (Ev.iff_pos (by decide) (Ev.now _))
set_option maxHeartbeats 2000000 in
theorem rcount_loop (q : List (Nat × Nat)) (hlen : q.length ≤ 2048) (hsm : sm q ≤ 2048) (d : Nat) : ∀ i : Nat, i + d = q.length → Ev (fun k => slipwayref12_Count.l0 k ((sm (q.take i) : Nat) : Int) (q.map s36) (i : Int)) ((sm q : Nat) : Int) := by
  have hl : ((q.map s36).length : Int) = (q.length : Int) := by simp
  induction d with
  | zero =>
    intro i hi
    have e : i = q.length := by omega
    subst e
    rw [List.take_length]
    refine Ev.step (f := fun _ => some ((sm q : Nat) : Int)) (fun k => ?_) (Ev.now _)
    simp only [slipwayref12_Count.l0]
    rw [if_neg (by omega)]
  | succ d ih =>
    intro i hi
    have hi2 : i < q.length := by omega
    have e1 := suc64 i 4096 (by omega) (by omega)
    have hrd := rd36r q i hi2
    have nx := ih (i + 1) (by omega)
    have hle : sm (q.take (i + 1)) ≤ sm q := by
      have e2 : sm q = sm (q.take (i + 1)) + sm (q.drop (i + 1)) := by
        unfold sm
        rw [← List.sum_append, ← List.map_append, List.take_append_drop]
      omega
    have ht : q.take (i + 1) = q.take i ++ [q[i]] := by rw [List.take_add_one, List.getElem?_eq_getElem hi2, Option.toList_some]
    rw [ht, sm_snoc] at nx hle
    refine Ev.step (fun k => ?_) nx
    simp only [slipwayref12_Count.l0]
    rw [if_pos (by omega), if_pos (by omega), hrd, e1]
    rw [show (s36 q[i]).f1 = ((q[i].2 : Nat) : Int) from rfl, w64 (by omega) (by omega)]
    rfl
theorem rcount_ev {l : List Int} (hb : By l) (n : Int) : Ev (fun k => slipwayref12_Count.f k l n) (cnt l n : Int) := by
  unfold slipwayref12_Count.f
  refine Ev.bind (rruns_ev hb n) ?_
  have := rcount_loop (rns l n) rns_len (cnt_le l n) (rns l n).length 0 (by omega)
  rw [List.take_zero, show sm [] = 0 from rfl] at this
  exact this
def rsnd_ (want : Int) : List (Nat × Nat) → Int × Int → Int × Int
  | [], b => b
  | x :: r, b => if (x.2 : Int) ≥ want then ((x.1 : Int), want) else if (x.2 : Int) > b.2 then rsnd_ want r ((x.1 : Int), (x.2 : Int)) else rsnd_ want r b
set_option maxHeartbeats 2000000 in
theorem rsnd_eq (goal want : Int) : ∀ (q : List (Nat × Nat)) (b : Int × Int), (∀ x ∈ q, goal ≤ (x.1 : Int) → (x.2 : Int) < want) → rsnd_ want q b = snd_ goal want q b
  | [], _, _ => rfl
  | x :: q, b, h => by
    have hx := h x (List.mem_cons_self ..)
    have hq : ∀ y ∈ q, goal ≤ (y.1 : Int) → (y.2 : Int) < want := fun y hy => h y (List.mem_cons_of_mem _ hy)
    rw [rsnd_, snd_]
    by_cases c : (x.2 : Int) ≥ want
    · rw [if_pos c, if_pos ⟨by omega, c⟩]
    · rw [if_neg c, if_neg (show ¬ ((x.1 : Int) < goal ∧ (x.2 : Int) ≥ want) from fun k => c k.2)]
      split
      · exact rsnd_eq goal want q _ hq
      · exact rsnd_eq goal want q b hq
set_option maxHeartbeats 2000000 in
theorem rrun_second (q : List (Nat × Nat)) (want : Int) (hlen : q.length ≤ 2048) (d : Nat) : ∀ (i : Nat) (b : Int × Int), i + d = q.length → Ev (fun k => slipwayref12_Run.l1 k want (q.map s36) (i : Int) b.1 b.2) (rsnd_ want (q.drop i) b) := by
  have hl : ((q.map s36).length : Int) = (q.length : Int) := by simp
  induction d with
  | zero =>
    intro i b hi
    have e : i = q.length := by omega
    subst e
    rw [List.drop_length]
    refine Ev.step (f := fun _ => some b) (fun k => ?_) (Ev.now _)
    simp only [slipwayref12_Run.l1]
    rw [if_neg (by omega)]
  | succ d ih =>
    intro i b hi
    have hi2 : i < q.length := by omega
    have e1 := suc64 i 4096 (by omega) (by omega)
    have hd : q.drop i = q[i] :: q.drop (i + 1) := List.drop_eq_getElem_cons hi2
    have hrd := rd36r q i hi2
    rw [hd]
    refine Ev.step (f := fun k => if (q[i].2 : Int) ≥ want then some ((q[i].1 : Int), want) else (if (q[i].2 : Int) > b.2 then slipwayref12_Run.l1 k want (q.map s36) ((i + 1 : Nat) : Int) (q[i].1 : Int) (q[i].2 : Int) else slipwayref12_Run.l1 k want (q.map s36) ((i + 1 : Nat) : Int) b.1 b.2)) (fun k => ?_) ?_
    · simp only [slipwayref12_Run.l1]
      rw [if_pos (by omega), if_pos (by omega), hrd, e1]
      rfl
    · rw [rsnd_]
      by_cases c : (q[i].2 : Int) ≥ want
      · rw [if_pos c]
        exact Ev.iff_pos c (Ev.now _)
      · rw [if_neg c]
        refine Ev.iff_neg c ?_
        by_cases c2 : (q[i].2 : Int) > b.2
        · rw [if_pos c2]
          exact Ev.iff_pos c2 (ih (i + 1) ((q[i].1 : Int), (q[i].2 : Int)) (by omega))
        · rw [if_neg c2]
          exact Ev.iff_neg c2 (ih (i + 1) b (by omega))
set_option maxHeartbeats 2000000 in
theorem rrun_first (q : List (Nat × Nat)) (hs : Small q) (goal want : Int) (h0 : 0 ≤ goal) (h1 : goal ≤ 2048) (hlen : q.length ≤ 2048) (d : Nat) : ∀ i : Nat, i + d = q.length →
    Ev (fun k => slipwayref12_Run.l0 k goal want (q.map s36) (i : Int) 0 0) (match fst_ goal want (q.drop i) with | some r => r | none => rsnd_ want q (0, 0)) := by
  have hl : ((q.map s36).length : Int) = (q.length : Int) := by simp
  induction d with
  | zero =>
    intro i hi
    have e : i = q.length := by omega
    subst e
    rw [List.drop_length]
    have := rrun_second q want hlen q.length 0 (0, 0) (by omega)
    rw [List.drop_zero] at this
    refine Ev.step (fun k => ?_) this
    simp only [slipwayref12_Run.l0]
    rw [if_neg (by omega)]
    rfl
  | succ d ih =>
    intro i hi
    have hi2 : i < q.length := by omega
    have e1 := suc64 i 4096 (by omega) (by omega)
    have hd : q.drop i = q[i] :: q.drop (i + 1) := List.drop_eq_getElem_cons hi2
    have hrd := rd36r q i hi2
    have hsm := hs _ (List.getElem_mem hi2)
    have hmx := mx_range q[i].1 goal h0 h1 (by omega)
    have en : wrap64 ((s36 q[i]).f0 + (s36 q[i]).f1) = ((q[i].1 + q[i].2 : Nat) : Int) := by
      unfold s36
      simp only []
      rw [w64 (by omega) (by omega)]
      rfl
    rw [hd]
    refine Ev.step (f := fun k => if ((q[i].1 + q[i].2 : Nat) : Int) - mx (q[i].1 : Int) goal ≥ want then some (mx (q[i].1 : Int) goal, want) else slipwayref12_Run.l0 k goal want (q.map s36) ((i + 1 : Nat) : Int) 0 0) (fun k => ?_) ?_
    · simp only [slipwayref12_Run.l0]
      rw [if_pos (by omega), if_pos (by omega), hrd, en, e1]
      rw [show (s36 q[i]).f0 = (q[i].1 : Int) from rfl, w64 (n := ((q[i].1 + q[i].2 : Nat) : Int) - mx (q[i].1 : Int) goal) (by omega) (by omega)]
    · rw [fst_]
      by_cases c : ((q[i].1 + q[i].2 : Nat) : Int) - mx (q[i].1 : Int) goal ≥ want
      · rw [if_pos c]
        exact Ev.iff_pos c (Ev.now _)
      · rw [if_neg c]
        exact Ev.iff_neg c (ih (i + 1) (by omega))
theorem rfnd (q : List (Nat × Nat)) (goal want : Int) : (match fst_ goal want q with | some r => r | none => rsnd_ want q (0, 0)) = fnd q goal want := by
  unfold fnd
  cases h : fst_ goal want q with
  | some r => rfl
  | none => exact rsnd_eq goal want q _ (fst_none h)
open Classical in
theorem rrun_ev {l : List Int} (hb : By l) (n goal want : Int) : Ev (fun k => slipwayref12_Run.f k l n goal want) (if want < 1 then (0, 0) else fnd (rns l n) (from_ l n goal) want) := by
  unfold slipwayref12_Run.f
  refine Ev.bind (rcheck_ev hb n) ?_
  by_cases ho : Ok l n
  · rw [chk_ok ho]
    refine Ev.iff_pos rfl ?_
    by_cases hw : want < 1
    · rw [if_pos hw]
      exact Ev.iff_pos hw (Ev.now _)
    rw [if_neg hw]
    refine Ev.iff_neg hw ?_
    have j1 : ∀ g, 0 ≤ g → g ≤ 2048 → Ev (fun k => slipwayref12_Run.j1 k l n g want) (fnd (rns l n) g want) := fun g h0 h1 => by
      refine Ev.step (f := fun k => (slipwayref12_Runs.f k l n).bind fun t272 => (slipwayref12_Run.l0 k g want t272 0 0 0)) (fun k => by simp only [slipwayref12_Run.j1]) (Ev.bind (rruns_ev hb n) ?_)
      have := rrun_first (rns l n) (rns_small l n) g want h0 h1 rns_len (rns l n).length 0 (by omega)
      rw [List.drop_zero, rfnd] at this
      exact this
    have hj : ∀ x : Bool, from_ l n goal = (if x = true then 0 else goal) → Ev (fun k => slipwayref12_Run.j0 k l n goal want x) (fnd (rns l n) (from_ l n goal) want) := fun x hx => by
      have hr := from_range l n goal
      refine Ev.step (f := fun k => if x = true then slipwayref12_Run.j1 k l n 0 want else slipwayref12_Run.j1 k l n goal want) (fun k => by simp only [slipwayref12_Run.j0]) ?_
      by_cases c : x = true
      · rw [if_pos c] at hx
        rw [hx]
        exact Ev.iff_pos c (j1 0 (by omega) (by omega))
      · rw [if_neg c] at hx
        rw [hx] at hr ⊢
        exact Ev.iff_neg c (j1 goal hr.1 hr.2)
    by_cases hg : goal < 0
    · refine Ev.iff_pos hg (hj true ?_)
      rw [if_pos rfl]
      unfold from_
      rw [if_neg (by omega)]
    · refine Ev.iff_neg hg (hj _ ?_)
      unfold from_
      rw [if_pos ho]
      by_cases c : goal ≥ n
      · rw [if_neg (by omega), decide_eq_true c, if_pos rfl]
      · rw [if_pos ⟨by omega, by omega⟩, decide_eq_false c, if_neg (by decide)]
  · rw [chk_no ho]
    refine Ev.iff_neg (by decide) (Ev.iff_pos (by decide) ?_)
    have e : fnd (rns l n) (from_ l n goal) want = (0, 0) := by rw [rns_no ho]; rfl
    rw [e, ite_self]
    exact Ev.now _
theorem same36 (q : List S36) (hlen : q.length ≤ 4096) : Ev (fun k => slipwayref12_Piece.f k q q) true := by
  have go : ∀ (d i : Nat), i + d = q.length → Ev (fun k => slipwayref12_Piece.l0 k q q (q.length : Int) (i : Int)) true := by
    intro d
    induction d with
    | zero =>
      intro i hi
      refine Ev.step (f := fun _ => some true) (fun k => ?_) (Ev.now _)
      simp only [slipwayref12_Piece.l0]
      rw [if_neg (by omega)]
    | succ d ih =>
      intro i hi
      refine Ev.step (fun k => ?_) (ih (i + 1) (by omega))
      simp only [slipwayref12_Piece.l0]
      rw [if_pos (by omega), if_pos (by omega), if_pos (by omega), if_pos (by omega), if_neg (by simp), suc64 i 8192 (by omega) (by omega)]
  unfold slipwayref12_Piece.f
  exact Ev.iff_pos rfl (go q.length 0 (by omega))
end Go.Proofs.Ytllodfjbenmlpaa.Bm
end
