/- Texts of the proof of MapChanges, part 21. -/
import Derived.Test.YtkhbmgclklmimaaMapChangesM20
import Derived.Test.YtkhbmgclklmimaaMapChangesM14
import Derived.Test.YtkhbmgclklmimaaMapChangesM15
import Derived.Test.YtkhbmgclklmimaaMapChangesM16
import Derived.Test.YtkhbmgclklmimaaMapChangesM17
import Derived.Test.YtkhbmgclklmimaaMapChangesM18
section
namespace Go.Proofs.Ytkhbmgclklmimaa.MapEv
set_option linter.unusedVariables false
set_option linter.unusedSimpArgs false
open Go.RowKit Go.Proofs.Ytkhbmgclklmimaa.Print Go.Proofs.YtkhbmgclklmimaaW.PrintWords Go.Proofs.YtkhbmgclklmimaaW.PrintLast Go.Proofs.YtkhbmgclklmimaaW.PrintMore
def there (b : Int) : Prop := 0 ≤ b ∧ b < 256
instance (b : Int) : Decidable (there b) := by unfold there; infer_instance
def okR (a b c : Int) : Prop := (a = 1 ∧ there b ∧ c = 0) ∨ (a = 2 ∧ there b ∧ worn c) ∨ (a = 3 ∧ b = 0 ∧ seqOK c)
instance (a b c : Int) : Decidable (okR a b c) := by unfold okR; infer_instance
set_option maxHeartbeats 2000000 in
theorem rec_j (a b c : Int) (flag : Bool) (hf : flag = decide (there b)) : Ev (fun k => mapjnl_record.j0 k flag a b c) (decide (okR a b c)) := by
  refine Ev.step (f := fun _ => some (decide (okR a b c))) (fun k => ?_) (Ev.now _)
  simp only [mapjnl_record.j0]
  by_cases h1 : a = 1
  · rw [if_pos h1]
    by_cases ht : there b
    · rw [if_pos (hf.trans (decide_eq_true ht))]
      congr 1
      by_cases hc : c = 0
      · simp [okR, h1, ht, hc]
      · simp [okR, h1, hc]
    · rw [if_neg (by rw [hf]; simpa using ht)]
      congr 1
      simp [okR, h1, ht]
  · rw [if_neg h1]
    by_cases h2 : a = 2
    · rw [if_pos h2]
      by_cases ht : there b
      · rw [if_pos (hf.trans (decide_eq_true ht)), worn_f]
        simp only [Option.bind_some]
        congr 1
        by_cases hc : worn c
        · simp [okR, h2, ht, hc]
        · simp [okR, h2, hc]
      · rw [if_neg (by rw [hf]; simpa using ht)]
        congr 1
        simp [okR, h2, ht]
    · rw [if_neg h2]
      by_cases h3 : a = 3
      · rw [if_pos h3]
        by_cases hb : b = 0
        · rw [if_pos hb, seq_f]
          simp only [Option.bind_some]
          congr 1
          by_cases hc : seqOK c
          · simp [okR, h3, hb, hc]
          · simp [okR, h3, hc]
        · rw [if_neg hb]
          congr 1
          simp [okR, h3, hb]
      · rw [if_neg h3]
        congr 1
        simp [okR, h1, h2, h3]
theorem rec_ev (a b c : Int) : Ev (fun k => mapjnl_record.f k a b c) (decide (okR a b c)) := by
  unfold mapjnl_record.f
  by_cases h : b ≥ 0
  · refine Ev.iff_pos h (rec_j a b c _ (decide_eq_decide.2 ?_))
    unfold there
    omega
  · exact Ev.iff_neg h (rec_j a b c false (decide_eq_false (fun ht => h ht.1)).symm)
set_option maxHeartbeats 2000000 in
theorem may_j (a b c : Int) (flag : Bool) (hf : flag = decide (there b)) : Ev (fun k => slipwayref06_may.j0 k flag a b c) (decide (okR a b c)) := by
  refine Ev.step (f := fun _ => some (decide (okR a b c))) (fun k => ?_) (Ev.now _)
  simp only [slipwayref06_may.j0]
  by_cases h1 : a = 1
  · rw [if_pos h1]
    by_cases ht : there b
    · rw [if_pos (hf.trans (decide_eq_true ht))]
      congr 1
      by_cases hc : c = 0
      · simp [okR, h1, ht, hc]
      · simp [okR, h1, hc]
    · rw [if_neg (by rw [hf]; simpa using ht)]
      congr 1
      simp [okR, h1, ht]
  · rw [if_neg h1]
    by_cases h2 : a = 2
    · rw [if_pos h2]
      by_cases ht : there b
      · rw [if_pos (hf.trans (decide_eq_true ht))]
        by_cases hc : c ≥ 0
        · rw [if_pos hc]
          congr 1
          simp [okR, h2, ht, worn, hc]
        · rw [if_neg hc]
          congr 1
          simp [okR, h2, worn, hc]
      · rw [if_neg (by rw [hf]; simpa using ht)]
        congr 1
        simp [okR, h2, ht]
    · rw [if_neg h2]
      by_cases h3 : a = 3
      · rw [if_pos h3]
        by_cases hb : b = 0
        · rw [if_pos hb]
          by_cases hc : c ≥ 0
          · rw [if_pos hc]
            congr 1
            simp [okR, h3, hb, seqOK, hc]
          · rw [if_neg hc]
            congr 1
            simp [okR, h3, seqOK, hc]
        · rw [if_neg hb]
          congr 1
          simp [okR, h3, hb]
      · rw [if_neg h3]
        congr 1
        simp [okR, h1, h2, h3]
theorem may_ev (a b c : Int) : Ev (fun k => slipwayref06_may.f k a b c) (decide (okR a b c)) := by
  unfold slipwayref06_may.f
  by_cases h : b ≥ 0
  · refine Ev.iff_pos h (may_j a b c _ (decide_eq_decide.2 ?_))
    unfold there
    omega
  · exact Ev.iff_neg h (may_j a b c false (decide_eq_false (fun ht => h ht.1)).symm)
theorem okR.block {a b c : Int} (h : okR a b c) : 0 ≤ b := by
  rcases h with ⟨_, h, _⟩ | ⟨_, h, _⟩ | ⟨_, h, _⟩
  · exact h.1
  · exact h.1
  · omega
def lrn (b : List Bool) (w : List Int) (s : Int) (x y z : Int) : List Bool × List Int × Int :=
  if x = 1 then (b.set y.toNat true, w, s) else if x = 2 then (b, w.set y.toNat (mx (rd w y) z), s) else (b, w, mx s z)
theorem lrn_len (b : List Bool) (w : List Int) (s : Int) (x y z : Int) : (lrn b w s x y z).1.length = b.length ∧ (lrn b w s x y z).2.1.length = w.length := by
  unfold lrn
  split
  · simp
  · split <;> simp
theorem learn_f {b : List Bool} {w : List Int} {s x y z : Int} (h : okR x y z) (hy : y < (b.length : Int)) (hw : w.length = b.length) : mapjnl_learn.f b w s x y z = some (lrn b w s x y z) := by
  have h0 := h.block
  unfold mapjnl_learn.f lrn
  by_cases h1 : x = 1
  · rw [if_pos h1, if_pos h1, if_pos h0, if_pos hy]
  · rw [if_neg h1, if_neg h1]
    by_cases h2 : x = 2
    · rw [if_pos h2, if_pos h2, if_pos h0, if_pos (by rw [hw]; exact hy)]
    · rw [if_neg h2, if_neg h2]
set_option maxHeartbeats 2000000 in
theorem one_f {b : List Bool} {w : List Int} {s x y z : Int} (h : okR x y z) (hy : y < (b.length : Int)) (hw : w.length = b.length) : slipwayref06_one.f b w s x y z = some (lrn b w s x y z) := by
  have h0 := h.block
  unfold slipwayref06_one.f lrn
  by_cases h1 : x = 1
  · rw [if_pos h1, if_pos h1, if_pos h0, if_pos hy]
  · rw [if_neg h1, if_neg h1]
    by_cases h2 : x = 2
    · rw [if_pos h2, if_pos h2, if_pos h0, if_pos (by rw [hw]; exact hy)]
    · rw [if_neg h2, if_neg h2, if_pos (by rcases h with ⟨h, _⟩ | ⟨h, _⟩ | ⟨h, _⟩ <;> omega)]
abbrev St := List Bool × List Int × Int × Int
set_option maxHeartbeats 2000000 in
theorem app_from (l : List S55) (hn : l.length ≤ 140737488355328) (b0 : List Bool) (w0 : List Int) (s0 : Int) (h256 : b0.length ≤ 256) (d : Nat) : ∀ (i : Nat) (b : List Bool) (w : List Int) (s : Int), i + d = l.length → b.length = b0.length → w.length = b0.length →
    ∃ r : St, Ev (fun k => mapjnl_Apply.l0 k l (l.length : Int) (i : Int) b0 w0 s0 b w s) r ∧ Ev (fun k => slipwayref06_Apply.l0 k l (i : Int) b w s) r ∧ r.1.length ≤ 256 ∧ r.2.1.length ≤ 256 := by
  induction d with
  | zero =>
    intro i b w s hi hb hw
    refine ⟨(b, w, s, 0), Ev.step (f := fun _ => some (b, w, s, 0)) (fun k => ?_) (Ev.now _), Ev.step (f := fun _ => some (b, w, s, 0)) (fun k => ?_) (Ev.now _), by simp only []; omega, by simp only []; omega⟩
    · simp only [mapjnl_Apply.l0]
      rw [if_neg (by omega)]
    · simp only [slipwayref06_Apply.l0]
      rw [if_neg (by omega)]
  | succ d ih =>
    intro i b w s hi hb hw
    have hlt : i < l.length := by omega
    have n1 : (i : Int) < (l.length : Int) := by omega
    have n0 : (0 : Int) ≤ (i : Int) := by omega
    have bad : ∃ r : St, (r = ([], [], 0, 61)) ∧ r.1.length ≤ 256 ∧ r.2.1.length ≤ 256 := ⟨([], [], 0, 61), rfl, by simp, by simp⟩
    have A : ∀ {r}, Ev (fun k => (mapjnl_record.f k l[i].f0 l[i].f1 l[i].f2).bind fun t243 => (if t243 = true then (if l[i].f1 ≥ (b0.length : Int) then (some (([] : List Bool), ([] : List Int), (0 : Int), (61 : Int))) else ((mapjnl_learn.f b w s l[i].f0 l[i].f1 l[i].f2).bind fun bt244 => (mapjnl_Apply.l0 k l (l.length : Int) ((i + 1 : Nat) : Int) b0 w0 s0 bt244.1 bt244.2.1 bt244.2.2))) else (some (([] : List Bool), ([] : List Int), 0, 61)))) r → Ev (fun k => mapjnl_Apply.l0 k l (l.length : Int) (i : Int) b0 w0 s0 b w s) r := fun {r} h => by
      refine Ev.step (fun k => ?_) h
      simp only [mapjnl_Apply.l0]
      rw [if_pos n1, if_pos n0, if_pos n1, rdT l i hlt, suc64 i l.length hlt hn]
    have B : ∀ {r}, Ev (fun k => (slipwayref06_may.f k l[i].f0 l[i].f1 l[i].f2).bind fun t363 => (if t363 = true then (if l[i].f1 ≥ (b.length : Int) then (some (([] : List Bool), ([] : List Int), (0 : Int), (61 : Int))) else ((slipwayref06_one.f b w s l[i].f0 l[i].f1 l[i].f2).bind fun bt366 => (slipwayref06_Apply.l0 k l ((i + 1 : Nat) : Int) bt366.1 bt366.2.1 bt366.2.2))) else (some (([] : List Bool), ([] : List Int), 0, 61)))) r → Ev (fun k => slipwayref06_Apply.l0 k l (i : Int) b w s) r := fun {r} h => by
      refine Ev.step (fun k => ?_) h
      simp only [slipwayref06_Apply.l0]
      rw [if_pos n1, if_pos n0, rdT l i hlt, suc64 i l.length hlt hn]
    by_cases hr : okR l[i].f0 l[i].f1 l[i].f2
    · by_cases hy : l[i].f1 ≥ (b0.length : Int)
      · exact ⟨([], [], 0, 61), A (Ev.bind (rec_ev _ _ _) (Ev.iff_pos (decide_eq_true hr) (Ev.iff_pos hy (Ev.now _)))), B (Ev.bind (may_ev _ _ _) (Ev.iff_pos (decide_eq_true hr) (Ev.iff_pos (by rw [hb]; exact hy) (Ev.now _)))), by simp, by simp⟩
      · have hy' : l[i].f1 < (b.length : Int) := by rw [hb]; omega
        have ln := lrn_len b w s l[i].f0 l[i].f1 l[i].f2
        obtain ⟨r, r1, r2, r3, r4⟩ := ih (i + 1) (lrn b w s l[i].f0 l[i].f1 l[i].f2).1 (lrn b w s l[i].f0 l[i].f1 l[i].f2).2.1 (lrn b w s l[i].f0 l[i].f1 l[i].f2).2.2 (by omega) (ln.1.trans hb) (ln.2.trans hw)
        exact ⟨r, A (Ev.bind (rec_ev _ _ _) (Ev.iff_pos (decide_eq_true hr) (Ev.iff_neg hy (Ev.bindS (fun _ => learn_f hr hy' (hw.trans hb.symm)) r1)))), B (Ev.bind (may_ev _ _ _) (Ev.iff_pos (decide_eq_true hr) (Ev.iff_neg (by rw [hb]; exact hy) (Ev.bindS (fun _ => one_f hr hy' (hw.trans hb.symm)) r2)))), r3, r4⟩
    · exact ⟨([], [], 0, 61), A (Ev.bind (rec_ev _ _ _) (Ev.iff_neg (by simpa using hr) (Ev.now _))), B (Ev.bind (may_ev _ _ _) (Ev.iff_neg (by simpa using hr) (Ev.now _))), by simp, by simp⟩
set_option maxHeartbeats 2000000 in
theorem apply_ev (b : List Bool) (w : List Int) (s : Int) (l : List S55) (hw : w.length ≤ 140737488355328) (hn : l.length ≤ 140737488355328) :
    ∃ r : St, Ev (fun k => mapjnl_Apply.f k b w s l) r ∧ Ev (fun k => slipwayref06_Apply.f k b w s l) r ∧ r.1.length ≤ 256 ∧ r.2.1.length ≤ 256 := by
  unfold mapjnl_Apply.f slipwayref06_Apply.f
  by_cases c : okS b w s
  · have hl := c.len
    obtain ⟨r, r1, r2, r3, r4⟩ := app_from l hn b w s hl.1 l.length 0 b w s (by omega) rfl hl.2.2
    exact ⟨r, Ev.bind (check_ev b w s hw) (Ev.iff_pos (chk_ok c) (Ev.bindS (fun _ => clone_f b w s hl.1 hl.2.1) r1)), Ev.bind (rcheck_ev b w s hw) (Ev.iff_pos (chk_ok c) (Ev.bindS (fun _ => rclone_f b w s hl.1 hl.2.1) r2)), r3, r4⟩
  · have h60 : ¬ chk b w s = 0 := fun h => c (chk_zero h)
    exact ⟨([], [], 0, chk b w s), Ev.bind (check_ev b w s hw) (Ev.iff_neg h60 (Ev.now _)), Ev.bind (rcheck_ev b w s hw) (Ev.iff_neg h60 (Ev.now _)), by simp, by simp⟩
def dif (a b : List Bool) (u v : List Int) (x : List S55) (i : Nat) (p q : Bool) (y z : Int) : List S55 :=
  x ++ (if p = true ∧ q = false then [⟨1, (i : Int), 0⟩] else []) ++ (if z > y then [⟨2, (i : Int), z⟩] else [])
theorem dif_len (a b : List Bool) (u v : List Int) (x : List S55) (i : Nat) (p q : Bool) (y z : Int) : (dif a b u v x i p q y z).length ≤ x.length + 2 := by
  unfold dif
  simp only [List.length_append]
  split <;> split <;> simp
set_option maxHeartbeats 2000000 in
theorem diff_tail {a b : List Bool} {u v : List Int} {sa sb : Int} {r : List S55 × Int} (x : List S55) (i : Nat) (hx : x.length ≤ 1000) (hu : i < u.length) (hv : i < v.length) (n : Int) (hn : i < 140737488355328)
    (p q : Bool) (next : Ev (fun k => mapjnl_Diff.l0 k (dif a b u v x i p q u[i] v[i]) n ((i + 1 : Nat) : Int) a u sa b v sb) r) :
    Ev (fun k => mapjnl_Diff.j3 k x (i : Int) n (i : Int) (p && !q) a u sa b v sb) r := by
  have n0 : (0 : Int) ≤ (i : Int) := by omega
  have n1 : (i : Int) < (u.length : Int) := by omega
  have n2 : (i : Int) < (v.length : Int) := by omega
  have x1 : x.length < 5864062014805 := by omega
  have x2 : (x ++ [(⟨1, (i : Int), 0⟩ : S55)]).length < 5864062014805 := by simp; omega
  have gu := rd_nat u i hu
  have gv := rd_nat v i hv
  have hs := suc64 i (i + 1) (by omega) (by omega)
  refine Ev.step (fun k => ?_) next
  simp only [mapjnl_Diff.j3]
  by_cases hp : p = true ∧ q = false
  · have e : (p && !q) = true := by simp [hp.1, hp.2]
    rw [if_pos e, if_pos x1]
    simp only [Option.bind_some]
    rw [if_pos n0, if_pos n2, if_pos n1, gu, gv, hs]
    by_cases hz : v[i] > u[i]
    · rw [if_pos hz, if_pos x2]
      unfold dif
      rw [if_pos hp, if_pos hz]
    · rw [if_neg hz]
      unfold dif
      rw [if_pos hp, if_neg hz, List.append_nil]
  · have e : ¬ (p && !q) = true := by
      intro h
      apply hp
      simpa using h
    rw [if_neg e, if_pos n0, if_pos n2, if_pos n1, gu, gv, hs]
    by_cases hz : v[i] > u[i]
    · rw [if_pos hz, if_pos x1]
      unfold dif
      rw [if_neg hp, if_pos hz, List.append_nil]
    · rw [if_neg hz]
      unfold dif
      rw [if_neg hp, if_neg hz, List.append_nil, List.append_nil]
set_option maxHeartbeats 2000000 in
theorem rdiff_tail {a b : List Bool} {u v : List Int} {sa sb : Int} {r : List S55 × Int} (x : List S55) (i : Nat) (hx : x.length ≤ 1000) (hu : i < u.length) (hv : i < v.length) (hn : i < 140737488355328)
    (p q : Bool) (next : Ev (fun k => slipwayref06_Diff.l0 k (dif a b u v x i p q u[i] v[i]) ((i + 1 : Nat) : Int) a u sa b v sb) r) :
    Ev (fun k => slipwayref06_Diff.j4 k x (i : Int) (p && !q) a u sa b v sb) r := by
  have n0 : (0 : Int) ≤ (i : Int) := by omega
  have n1 : (i : Int) < (u.length : Int) := by omega
  have n2 : (i : Int) < (v.length : Int) := by omega
  have x1 : x.length < 5864062014805 := by omega
  have x2 : (x ++ [(⟨1, (i : Int), 0⟩ : S55)]).length < 5864062014805 := by simp; omega
  have gu := rd_nat u i hu
  have gv := rd_nat v i hv
  have hs := suc64 i (i + 1) (by omega) (by omega)
  refine Ev.step (fun k => ?_) next
  simp only [slipwayref06_Diff.j4]
  by_cases hp : p = true ∧ q = false
  · have e : (p && !q) = true := by simp [hp.1, hp.2]
    rw [if_pos e, if_pos x1]
    simp only [Option.bind_some]
    rw [if_pos n0, if_pos n2, if_pos n1, gu, gv, hs]
    by_cases hz : v[i] > u[i]
    · rw [if_pos hz, if_pos x2]
      unfold dif
      rw [if_pos hp, if_pos hz]
    · rw [if_neg hz]
      unfold dif
      rw [if_pos hp, if_neg hz, List.append_nil]
  · have e : ¬ (p && !q) = true := by
      intro h
      apply hp
      simpa using h
    rw [if_neg e, if_pos n0, if_pos n2, if_pos n1, gu, gv, hs]
    by_cases hz : v[i] > u[i]
    · rw [if_pos hz, if_pos x1]
      unfold dif
      rw [if_neg hp, if_pos hz, List.append_nil]
    · rw [if_neg hz]
      unfold dif
      rw [if_neg hp, if_neg hz, List.append_nil, List.append_nil]
set_option maxHeartbeats 2000000 in
theorem diff_from (a b : List Bool) (u v : List Int) (sa sb : Int) (hb : b.length = a.length) (hu : u.length = a.length) (hv : v.length = a.length) (hn : a.length ≤ 256) (d : Nat) : ∀ (i : Nat) (x : List S55), i + d = a.length → x.length ≤ 1 + 2 * i →
    ∃ r : List S55 × Int, Ev (fun k => mapjnl_Diff.l0 k x (a.length : Int) (i : Int) a u sa b v sb) r ∧ Ev (fun k => slipwayref06_Diff.l0 k x (i : Int) a u sa b v sb) r ∧ r.1.length ≤ 1000 := by
  induction d with
  | zero =>
    intro i x hi hx
    refine ⟨(x, 0), Ev.step (f := fun _ => some (x, 0)) (fun k => ?_) (Ev.now _), Ev.step (f := fun k => slipwayref06_Diff.j3 k x (i : Int) false a u sa b v sb) (fun k => ?_) (Ev.step (f := fun _ => some (x, 0)) (fun k => ?_) (Ev.now _)), by simp only []; omega⟩
    · simp only [mapjnl_Diff.l0]
      rw [if_neg (by omega)]
    · simp only [slipwayref06_Diff.l0]
      rw [if_neg (by omega)]
    · simp only [slipwayref06_Diff.j3]
      rw [if_neg (by decide)]
  | succ d ih =>
    intro i x hi hx
    have h1 : i < a.length := by omega
    have h2 : i < b.length := by omega
    have h3 : i < u.length := by omega
    have h4 : i < v.length := by omega
    have n0 : (0 : Int) ≤ (i : Int) := by omega
    have n1 : (i : Int) < (a.length : Int) := by omega
    have n2 : (i : Int) < (b.length : Int) := by omega
    have n4 : (i : Int) < (v.length : Int) := by omega
    have hx' : x.length ≤ 1000 := by omega
    have hi' : i < 140737488355328 := by omega
    obtain ⟨r, r1, r2, r3⟩ := ih (i + 1) (dif a b u v x i b[i] a[i] u[i] v[i]) (by omega) (by have := dif_len a b u v x i b[i] a[i] u[i] v[i]; omega)
    have t1 := diff_tail x i hx' h3 h4 (a.length : Int) hi' b[i] a[i] r1
    have t2 := rdiff_tail x i hx' h3 h4 hi' b[i] a[i] r2
    have gb := rd_bool b i h2
    have ga := rd_bool a i h1
    refine ⟨r, Ev.step (fun k => ?_) t1, Ev.step (f := fun k => slipwayref06_Diff.j3 k x (i : Int) true a u sa b v sb) (fun k => ?_) (Ev.step (fun k => ?_) t2), r3⟩
    · simp only [mapjnl_Diff.l0]
      rw [if_pos n1, if_pos n0, if_pos n2, gb]
      by_cases hp : b[i] = true
      · rw [if_pos hp, if_pos n1, ga, hp, Bool.true_and]
      · have hp' : b[i] = false := by simpa using hp
        rw [if_neg hp, hp', Bool.false_and]
    · simp only [slipwayref06_Diff.l0]
      rw [if_pos n2, decide_eq_true n4]
    · simp only [slipwayref06_Diff.j3]
      rw [if_pos trivial, if_pos n0, if_pos n2, gb]
      by_cases hp : b[i] = true
      · rw [if_pos hp, if_pos n1, ga, hp, Bool.true_and]
      · have hp' : b[i] = false := by simpa using hp
        rw [if_neg hp, hp', Bool.false_and]
theorem cv_len {b1 : List Bool} {w1 : List Int} {s1 : Int} {b2 : List Bool} {w2 : List Int} {s2 : Int} (h : cv b1 w1 s1 b2 w2 s2) : okS b1 w1 s1 ∧ okS b2 w2 s2 ∧ b1.length = b2.length := by
  have h0 := h.1
  unfold jn at h0
  split at h0
  · rename_i c
    split at h0
    · rename_i hl
      exact ⟨c.1, c.2, hl⟩
    · exact absurd h0 (by decide)
  · exact absurd h0 (by decide)
set_option maxHeartbeats 2000000 in
theorem diff_j0 (a : List Bool) (u : List Int) (sa : Int) (b : List Bool) (v : List Int) (sb : Int) (hna : a.length ≤ 140737488355328) (hnb : b.length ≤ 140737488355328) (h1 : u.length ≤ 140737488355328) (h2 : v.length ≤ 140737488355328) (flag : Bool) :
    ∃ r : List S55 × Int, Ev (fun k => mapjnl_Diff.j0 k flag a u sa b v sb) r ∧ Ev (fun k => slipwayref06_Diff.j0 k flag a u sa b v sb) r ∧ r.1.length ≤ 1000 := by
  cases flag with
  | true =>
    refine ⟨([], 60), Ev.step (f := fun _ => some ([], 60)) (fun k => ?_) (Ev.now _), Ev.step (f := fun _ => some ([], 60)) (fun k => ?_) (Ev.now _), by simp⟩
    · simp only [mapjnl_Diff.j0]
      rw [if_pos trivial]
    · simp only [slipwayref06_Diff.j0]
      rw [if_pos trivial]
  | false =>
    have A : ∀ {r}, Ev (fun k => (mapjnl_Covers.f k b v sb a u sa).bind fun t377 => (if t377 = true then (if sb > sa then (if ([] : List (S55)).length < 5864062014805 then (mapjnl_Diff.j1 k (([] : List (S55)) ++ [(⟨3, 0, sb⟩ : S55)]) a u sa b v sb) else (none)) else (mapjnl_Diff.j1 k ([] : List (S55)) a u sa b v sb)) else (some (([] : List (S55)), 1)))) r → Ev (fun k => mapjnl_Diff.j0 k false a u sa b v sb) r := fun {r} h => by
      refine Ev.step (fun k => ?_) h
      simp only [mapjnl_Diff.j0]
      rw [if_neg (by decide)]
    have B : ∀ {r}, Ev (fun k => (slipwayref06_Covers.f k b v sb a u sa).bind fun t402 => (if t402 = true then (if sb > sa then (if ([] : List (S55)).length < 5864062014805 then (slipwayref06_Diff.j1 k (([] : List (S55)) ++ [(⟨3, 0, sb⟩ : S55)]) a u sa b v sb) else (none)) else (slipwayref06_Diff.j1 k ([] : List (S55)) a u sa b v sb)) else (some (([] : List (S55)), 1)))) r → Ev (fun k => slipwayref06_Diff.j0 k false a u sa b v sb) r := fun {r} h => by
      refine Ev.step (fun k => ?_) h
      simp only [slipwayref06_Diff.j0]
      rw [if_neg (by decide)]
    by_cases c : cv b v sb a u sa
    · obtain ⟨c1, c2, cl⟩ := cv_len c
      have l1 := c1.len
      have l2 := c2.len
      have go : ∀ x : List S55, x.length ≤ 1 → ∃ r : List S55 × Int, Ev (fun k => mapjnl_Diff.j1 k x a u sa b v sb) r ∧ Ev (fun k => slipwayref06_Diff.j1 k x a u sa b v sb) r ∧ r.1.length ≤ 1000 := fun x hx => by
        obtain ⟨r, r1, r2, r3⟩ := diff_from a b u v sa sb cl l2.2.2 (by omega) l2.1 a.length 0 x (by omega) (by omega)
        refine ⟨r, Ev.step (fun k => ?_) r1, Ev.step (fun k => ?_) r2, r3⟩
        · simp only [mapjnl_Diff.j1]
          rfl
        · simp only [slipwayref06_Diff.j1]
          rfl
      by_cases hs : sb > sa
      · obtain ⟨r, r1, r2, r3⟩ := go ([] ++ [⟨3, 0, sb⟩]) (by simp)
        exact ⟨r, A (Ev.bind (covers_ev b v sb a u sa h2 h1) (Ev.iff_pos (decide_eq_true c) (Ev.iff_pos hs (Ev.iff_pos (by simp) r1)))), B (Ev.bind (rcovers_ev b v sb a u sa hnb h2 h1) (Ev.iff_pos (decide_eq_true c) (Ev.iff_pos hs (Ev.iff_pos (by simp) r2)))), r3⟩
      · obtain ⟨r, r1, r2, r3⟩ := go [] (by simp)
        exact ⟨r, A (Ev.bind (covers_ev b v sb a u sa h2 h1) (Ev.iff_pos (decide_eq_true c) (Ev.iff_neg hs r1))), B (Ev.bind (rcovers_ev b v sb a u sa hnb h2 h1) (Ev.iff_pos (decide_eq_true c) (Ev.iff_neg hs r2))), r3⟩
    · exact ⟨([], 1), A (Ev.bind (covers_ev b v sb a u sa h2 h1) (Ev.iff_neg (by simpa using c) (Ev.now _))), B (Ev.bind (rcovers_ev b v sb a u sa hnb h2 h1) (Ev.iff_neg (by simpa using c) (Ev.now _))), by simp⟩
set_option maxHeartbeats 2000000 in
theorem diff_ev (a : List Bool) (u : List Int) (sa : Int) (b : List Bool) (v : List Int) (sb : Int) (hna : a.length ≤ 140737488355328) (hnb : b.length ≤ 140737488355328) (h1 : u.length ≤ 140737488355328) (h2 : v.length ≤ 140737488355328) :
    ∃ r : List S55 × Int, Ev (fun k => mapjnl_Diff.f k a u sa b v sb) r ∧ Ev (fun k => slipwayref06_Diff.f k a u sa b v sb) r ∧ r.1.length ≤ 1000 := by
  unfold mapjnl_Diff.f slipwayref06_Diff.f
  by_cases c : chk a u sa = 0
  · obtain ⟨r, r1, r2, r3⟩ := diff_j0 a u sa b v sb hna hnb h1 h2 (chk b v sb != 0)
    exact ⟨r, Ev.bind (check_ev a u sa h1) (Ev.iff_pos c (Ev.bind (check_ev b v sb h2) r1)), Ev.bind (rcheck_ev a u sa h1) (Ev.iff_pos c (Ev.bind (rcheck_ev b v sb h2) r2)), r3⟩
  · obtain ⟨r, r1, r2, r3⟩ := diff_j0 a u sa b v sb hna hnb h1 h2 true
    exact ⟨r, Ev.bind (check_ev a u sa h1) (Ev.iff_neg c r1), Ev.bind (rcheck_ev a u sa h1) (Ev.iff_neg c r2), r3⟩
set_option maxHeartbeats 2000000 in
theorem samerec_refl (l : List S55) (hn : l.length ≤ 140737488355328) : Ev (fun k => slipwayref06_SameRecords.f k l l) true := by
  have from_ : ∀ (d i : Nat), i + d = l.length → Ev (fun k => slipwayref06_SameRecords.l0 k l l (i : Int)) true := by
    intro d
    induction d with
    | zero =>
      intro i hi
      refine Ev.step (f := fun _ => some true) (fun k => ?_) (Ev.now _)
      simp only [slipwayref06_SameRecords.l0]
      rw [if_neg (by omega)]
    | succ d ih =>
      intro i hi
      have hlt : i < l.length := by omega
      have n0 : (0 : Int) ≤ (i : Int) := by omega
      have n1 : (i : Int) < (l.length : Int) := by omega
      refine Ev.step (fun k => ?_) (ih (i + 1) (by omega))
      simp only [slipwayref06_SameRecords.l0]
      rw [if_pos n1, if_pos n0, if_pos n1, if_neg (by simp), suc64 i l.length hlt hn]
  unfold slipwayref06_SameRecords.f
  exact Ev.iff_pos rfl (from_ l.length 0 (by omega))
end Go.Proofs.Ytkhbmgclklmimaa.MapEv
end
