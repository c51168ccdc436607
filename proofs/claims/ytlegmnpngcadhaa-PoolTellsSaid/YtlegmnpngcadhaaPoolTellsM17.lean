/- Texts of the proof of PoolTells, part 17. -/
import Derived.Test.YtlegmnpngcadhaaPoolTellsM13
import Derived.Test.YtlegmnpngcadhaaPoolTellsM14
section
namespace Go.Proofs.Ytlegmnpngcadhaa.Pl
set_option linter.unusedVariables false
set_option linter.unusedSimpArgs false
open Go.RowKit Go.Proofs.Ytlegmnpngcadhaa.Print Go.Proofs.YtlegmnpngcadhaaW.PrintWords Go.Proofs.YtlegmnpngcadhaaW.PrintLast Go.Proofs.YtlegmnpngcadhaaW.PrintMore
theorem w64 {n : Int} (h0 : -9223372036854775808 ≤ n) (h1 : n ≤ 9223372036854775807) : wrap64 n = n := by unfold wrap64; omega
theorem rd_nat (l : List Int) (i : Nat) (h : i < l.length) : rd l (i : Int) = l[i] := by simp [rd, List.getD_eq_getElem?_getD, h]
theorem Ev.iff_pos {α : Type} {c : Prop} [Decidable c] {g f : Nat → Option α} {r : α} (h : c) (k : Ev g r) : Ev (fun n => if c then g n else f n) r := k.imp fun _ hk n hn => (if_pos h).trans (hk n hn)
theorem Ev.iff_neg {α : Type} {c : Prop} [Decidable c] {g f : Nat → Option α} {r : α} (h : ¬ c) (k : Ev f r) : Ev (fun n => if c then g n else f n) r := k.imp fun _ hk n hn => (if_neg h).trans (hk n hn)
theorem Ev.bindS {α β : Type} {a : α} {f : Nat → α → Option β} {r : β} {g : Nat → Option α} (h : ∀ n, g n = some a) (k : Ev (fun n => f n a) r) : Ev (fun n => (g n).bind (f n)) r := Ev.bind ⟨0, fun n _ => h n⟩ k
theorem suc64 (i n : Nat) (h : i < n) (hn : n ≤ 140737488355328) : wrap64 ((i : Int) + 1) = ((i + 1 : Nat) : Int) := by rw [w64 (by omega) (by omega)]; rfl
def kn (a : Int) : Prop := 1 ≤ a ∧ a ≤ 6
instance (a : Int) : Decidable (kn a) := by unfold kn; infer_instance
def us (a : Int) : Prop := 2 ≤ a ∧ a ≤ 5
instance (a : Int) : Decidable (us a) := by unfold us; infer_instance
def worn (a : Int) : Prop := 0 ≤ a ∧ a ≤ 16777215
instance (a : Int) : Decidable (worn a) := by unfold worn; infer_instance
def sized (n : Nat) : Prop := 16 ≤ n ∧ n ≤ 256
instance (n : Nat) : Decidable (sized n) := by unfold sized; infer_instance
theorem worn_f (a : Int) : pool_worn.f a = some (decide (worn a)) := by
  unfold pool_worn.f
  by_cases h : a ≥ 0
  · rw [if_pos h]; congr 1; exact decide_eq_decide.2 ⟨fun k => ⟨h, k⟩, fun k => k.2⟩
  · rw [if_neg h, decide_eq_false (fun k : worn a => h k.1)]
theorem blocks_f (n : Int) : pool_blocks.f n = some (decide (16 ≤ n ∧ n ≤ 256)) := by
  unfold pool_blocks.f
  by_cases h : n ≥ 16
  · rw [if_pos h]; congr 1; exact decide_eq_decide.2 ⟨fun k => ⟨h, k⟩, fun k => k.2⟩
  · rw [if_neg h, decide_eq_false (fun k => h k.1)]
set_option maxHeartbeats 2000000 in
theorem role_ev (a : Int) : Ev (fun k => pool_role.f k a) (decide (kn a), decide (us a)) := by
  have j : ∀ x : Bool, x = decide (us a) → Ev (fun k => pool_role.j0 k false false a x) (decide (kn a), decide (us a)) := fun x hx => by
    refine Ev.step (f := fun _ => if x = true then some (true, true) else if a = 1 then some (true, false) else if a = 6 then some (true, false) else some (false, false)) (fun k => by simp only [pool_role.j0]) ?_
    by_cases u : us a
    · have kk : kn a := ⟨by have := u.1; omega, by have := u.2; omega⟩
      rw [hx, decide_eq_true u, decide_eq_true kk]
      exact Ev.iff_pos rfl (Ev.now _)
    · rw [hx, decide_eq_false u]
      refine Ev.iff_neg (by decide) ?_
      unfold us at u
      by_cases h1 : a = 1
      · rw [decide_eq_true (show kn a by unfold kn; omega)]
        exact Ev.iff_pos h1 (Ev.now _)
      · refine Ev.iff_neg h1 ?_
        by_cases h6 : a = 6
        · rw [decide_eq_true (show kn a by unfold kn; omega)]
          exact Ev.iff_pos h6 (Ev.now _)
        · rw [decide_eq_false (show ¬ kn a by unfold kn; omega)]
          exact Ev.iff_neg h6 (Ev.now _)
  unfold pool_role.f
  by_cases h2 : a = 2
  · exact Ev.iff_pos h2 (j _ (by rw [h2]; decide))
  · refine Ev.iff_neg h2 ?_
    by_cases h3 : a = 3
    · exact Ev.iff_pos h3 (j _ (by rw [h3]; decide))
    · refine Ev.iff_neg h3 ?_
      by_cases h4 : a = 4
      · exact Ev.iff_pos h4 (j _ (by rw [h4]; decide))
      · refine Ev.iff_neg h4 (j _ ?_)
        by_cases h5 : a = 5
        · rw [h5]; decide
        · rw [decide_eq_false (show ¬ us a by unfold us; omega)]
          simp [h5]
structure Ok (r w : List Int) : Prop where
  n0 : 16 ≤ r.length
  n1 : r.length ≤ 256
  len : w.length = r.length
  ro : ∀ x ∈ r, kn x
  we : ∀ x ∈ w, worn x
instance (r w : List Int) : Decidable (Ok r w) := decidable_of_iff (16 ≤ r.length ∧ r.length ≤ 256 ∧ w.length = r.length ∧ (∀ x ∈ r, kn x) ∧ ∀ x ∈ w, worn x) ⟨fun ⟨a, b, c, d, e⟩ => ⟨a, b, c, d, e⟩, fun h => ⟨h.n0, h.n1, h.len, h.ro, h.we⟩⟩
def chk (r w : List Int) : Int := if Ok r w then 0 else 40
theorem chk_ok {r w : List Int} (h : Ok r w) : chk r w = 0 := if_pos h
theorem chk_no {r w : List Int} (h : ¬ Ok r w) : chk r w = 40 := if_neg h
theorem drop_all {P : Int → Prop} {l : List Int} {i : Nat} (h : i < l.length) : (∀ x ∈ l.drop i, P x) ↔ P l[i] ∧ ∀ x ∈ l.drop (i + 1), P x := by
  rw [List.drop_eq_getElem_cons h]
  exact List.forall_mem_cons
def rest (r w : List Int) (i : Nat) : Int := if (∀ x ∈ r.drop i, kn x) ∧ ∀ x ∈ w.drop i, worn x then 0 else 40
set_option maxHeartbeats 2000000 in
theorem rest_step {r w : List Int} {i : Nat} (h : i < r.length) (h2 : i < w.length) : rest r w i = if kn r[i] ∧ worn w[i] then rest r w (i + 1) else 40 := by
  unfold rest
  have e1 := drop_all (P := kn) h
  have e2 := drop_all (P := worn) h2
  by_cases a : kn r[i] ∧ worn w[i]
  · rw [if_pos a]
    by_cases b : (∀ x ∈ r.drop (i + 1), kn x) ∧ ∀ x ∈ w.drop (i + 1), worn x
    · rw [if_pos ⟨e1.2 ⟨a.1, b.1⟩, e2.2 ⟨a.2, b.2⟩⟩, if_pos b]
    · rw [if_neg (fun k => b ⟨(e1.1 k.1).2, (e2.1 k.2).2⟩), if_neg b]
  · rw [if_neg a, if_neg (fun k => a ⟨(e1.1 k.1).1, (e2.1 k.2).1⟩)]
set_option maxHeartbeats 2000000 in
theorem check_from (r w : List Int) (hl : w.length = r.length) (hn : r.length ≤ 256) (d : Nat) : ∀ i : Nat, i + d = r.length → Ev (fun k => pool_Check.l0 k r (r.length : Int) (i : Int) r w) (rest r w i) := by
  induction d with
  | zero =>
    intro i hi
    have e : rest r w i = 0 := by
      unfold rest
      rw [List.drop_of_length_le (by omega), List.drop_of_length_le (by omega), if_pos ⟨fun x hx => (by cases hx), fun x hx => (by cases hx)⟩]
    rw [e]
    refine Ev.step (f := fun _ => some 0) (fun k => ?_) (Ev.now _)
    simp only [pool_Check.l0]
    rw [if_neg (by omega)]
  | succ d ih =>
    intro i hi
    have h1 : i < r.length := by omega
    have h2 : i < w.length := by omega
    rw [rest_step h1 h2]
    refine Ev.step (f := fun k => (pool_role.f k r[i]).bind fun bt141 => (if bt141.1 = true then ((pool_worn.f w[i]).bind fun t144 => (if t144 = true then (pool_Check.l0 k r (r.length : Int) ((i + 1 : Nat) : Int) r w) else (some 40))) else (some 40))) (fun k => ?_) ?_
    · simp only [pool_Check.l0]
      rw [if_pos (by omega), if_pos (by omega), if_pos (by omega), rd_nat r i h1, if_pos (show (i : Int) < (w.length : Int) by omega), rd_nat w i h2, suc64 i 256 (by omega) (by omega)]
    · refine Ev.bind (role_ev _) ?_
      by_cases a : kn r[i]
      · refine Ev.iff_pos (decide_eq_true a) (Ev.bindS (fun _ => worn_f _) ?_)
        by_cases b : worn w[i]
        · rw [if_pos ⟨a, b⟩]
          exact Ev.iff_pos (decide_eq_true b) (ih (i + 1) (by omega))
        · rw [if_neg (fun k => b k.2)]
          exact Ev.iff_neg (by simpa using b) (Ev.now _)
      · rw [if_neg (fun k => a k.1)]
        exact Ev.iff_neg (by simpa using a) (Ev.now _)
theorem rest_chk {r w : List Int} (h0 : 16 ≤ r.length) (h1 : r.length ≤ 256) (hl : w.length = r.length) : rest r w 0 = chk r w := by
  unfold rest chk
  rw [List.drop_zero, List.drop_zero]
  by_cases c : (∀ x ∈ r, kn x) ∧ ∀ x ∈ w, worn x
  · rw [if_pos c, if_pos ⟨h0, h1, hl, c.1, c.2⟩]
  · rw [if_neg c, if_neg (fun k => c ⟨k.ro, k.we⟩)]
set_option maxHeartbeats 2000000 in
theorem check_ev (r w : List Int) : Ev (fun k => pool_Check.f k r w) (chk r w) := by
  unfold pool_Check.f
  refine Ev.bindS (fun _ => blocks_f _) ?_
  have bad : ¬ (16 ≤ r.length ∧ r.length ≤ 256 ∧ w.length = r.length) → Ev (fun k => pool_Check.j0 k true r w) (chk r w) := fun h => by
    rw [chk_no (fun k => h ⟨k.n0, k.n1, k.len⟩)]
    refine Ev.step (f := fun _ => some 40) (fun k => ?_) (Ev.now _)
    simp only [pool_Check.j0]
    rw [if_pos trivial]
  by_cases c : 16 ≤ (r.length : Int) ∧ (r.length : Int) ≤ 256
  · refine Ev.iff_pos (decide_eq_true c) ?_
    by_cases e : w.length = r.length
    · rw [show ((w.length : Int) != (r.length : Int)) = false by simp [e], ← rest_chk (by omega) (by omega) e]
      refine Ev.step (fun k => ?_) (check_from r w e (by omega) r.length 0 (by omega))
      simp only [pool_Check.j0]
      rw [if_neg (by decide)]
      rfl
    · rw [show ((w.length : Int) != (r.length : Int)) = true by simp; omega]
      exact bad (fun k => e k.2.2)
  · exact Ev.iff_neg (by simpa using c) (bad (fun k => c ⟨by omega, by omega⟩))
set_option maxHeartbeats 2000000 in
theorem rcheck_from (r w : List Int) (hl : w.length = r.length) (hn : r.length ≤ 256) (d : Nat) : ∀ i : Nat, i + d = r.length → Ev (fun k => slipwayref04_Check.l0 k (r.length : Int) (i : Int) r w) (rest r w i) := by
  induction d with
  | zero =>
    intro i hi
    have e : rest r w i = 0 := by
      unfold rest
      rw [List.drop_of_length_le (by omega), List.drop_of_length_le (by omega), if_pos ⟨fun x hx => (by cases hx), fun x hx => (by cases hx)⟩]
    rw [e]
    refine Ev.step (f := fun _ => some 0) (fun k => ?_) (Ev.now _)
    simp only [slipwayref04_Check.l0]
    rw [if_neg (by omega)]
  | succ d ih =>
    intro i hi
    have h1 : i < r.length := by omega
    have h2 : i < w.length := by omega
    rw [rest_step h1 h2]
    refine Ev.step (f := fun k => if r[i] < 1 then some 40 else if r[i] > 6 then some 40 else if w[i] < 0 then some 40 else if w[i] > 16777215 then some 40 else slipwayref04_Check.l0 k (r.length : Int) ((i + 1 : Nat) : Int) r w) (fun k => ?_) ?_
    · simp only [slipwayref04_Check.l0]
      rw [if_pos (by omega), if_pos (by omega), if_pos (by omega), rd_nat r i h1, if_pos (show (i : Int) < (w.length : Int) by omega), rd_nat w i h2, suc64 i 256 (by omega) (by omega)]
    · unfold kn worn
      by_cases a1 : r[i] < 1
      · rw [if_neg (by omega)]
        exact Ev.iff_pos a1 (Ev.now _)
      refine Ev.iff_neg a1 ?_
      by_cases a2 : r[i] > 6
      · rw [if_neg (by omega)]
        exact Ev.iff_pos a2 (Ev.now _)
      refine Ev.iff_neg a2 ?_
      by_cases a3 : w[i] < 0
      · rw [if_neg (by omega)]
        exact Ev.iff_pos a3 (Ev.now _)
      refine Ev.iff_neg a3 ?_
      by_cases a4 : w[i] > 16777215
      · rw [if_neg (by omega)]
        exact Ev.iff_pos a4 (Ev.now _)
      rw [if_pos (by omega)]
      exact Ev.iff_neg a4 (ih (i + 1) (by omega))
set_option maxHeartbeats 2000000 in
theorem rcheck_ev (r w : List Int) : Ev (fun k => slipwayref04_Check.f k r w) (chk r w) := by
  unfold slipwayref04_Check.f
  have bad : ¬ (16 ≤ r.length ∧ r.length ≤ 256 ∧ w.length = r.length) → Ev (fun k => slipwayref04_Check.j0 k (r.length : Int) true r w) (chk r w) := fun h => by
    rw [chk_no (fun k => h ⟨k.n0, k.n1, k.len⟩)]
    refine Ev.step (f := fun _ => some 40) (fun k => ?_) (Ev.now _)
    simp only [slipwayref04_Check.j0]
    rw [if_pos trivial]
  by_cases c1 : (r.length : Int) < 16
  · exact Ev.iff_pos c1 (bad (by omega))
  refine Ev.iff_neg c1 ?_
  by_cases c2 : (r.length : Int) > 256
  · exact Ev.iff_pos c2 (bad (by omega))
  refine Ev.iff_neg c2 ?_
  by_cases e : w.length = r.length
  · rw [show ((w.length : Int) != (r.length : Int)) = false by simp [e], ← rest_chk (by omega) (by omega) e]
    refine Ev.step (fun k => ?_) (rcheck_from r w e (by omega) r.length 0 (by omega))
    simp only [slipwayref04_Check.j0]
    rw [if_neg (by decide)]
    rfl
  · rw [show ((w.length : Int) != (r.length : Int)) = true by simp; omega]
    exact bad (fun k => e k.2.2)
theorem dec_cons {x y : Int} {s t : List Int} (h : x = y) : decide (x :: s = y :: t) = decide (s = t) := by simp [h]
theorem dec_ne {x y : Int} {s t : List Int} (h : ¬ x = y) : decide (x :: s = y :: t) = false := by simp [h]
set_option maxHeartbeats 2000000 in
theorem eqi_from (a b : List Int) (hlen : a.length = b.length) (hn : a.length ≤ 140737488355328) (d : Nat) : ∀ i : Nat, i + d = a.length → Ev (fun k => slices_Equal_int_int.l0 k a b (a.length : Int) (i : Int)) (decide (a.drop i = b.drop i)) := by
  induction d with
  | zero =>
    intro i hi
    rw [List.drop_of_length_le (by omega), List.drop_of_length_le (by omega)]
    refine Ev.step (f := fun _ => some true) (fun k => ?_) (Ev.now _)
    simp only [slices_Equal_int_int.l0]
    rw [if_neg (by omega)]
  | succ d ih =>
    intro i hi
    have h1 : i < a.length := by omega
    have h2 : i < b.length := by omega
    rw [List.drop_eq_getElem_cons h1, List.drop_eq_getElem_cons h2]
    refine Ev.step (f := fun k => if a[i] = b[i] then slices_Equal_int_int.l0 k a b (a.length : Int) ((i + 1 : Nat) : Int) else some false) (fun k => ?_) ?_
    · simp only [slices_Equal_int_int.l0]
      rw [if_pos (by omega), if_pos (by omega), if_pos (by omega), if_pos (by omega), rd_nat a i h1, rd_nat b i h2, suc64 i a.length h1 hn]
    · by_cases e : a[i] = b[i]
      · rw [dec_cons e]
        exact Ev.iff_pos e (ih (i + 1) (by omega))
      · rw [dec_ne e]
        exact Ev.iff_neg e (Ev.now _)
theorem eqi_ev (a b : List Int) (hn : a.length ≤ 140737488355328) : Ev (fun k => slices_Equal_int_int.f k a b) (decide (a = b)) := by
  unfold slices_Equal_int_int.f
  by_cases e : a.length = b.length
  · have := eqi_from a b e hn a.length 0 (by omega)
    rw [List.drop_zero, List.drop_zero] at this
    exact Ev.iff_pos (by omega) this
  · rw [decide_eq_false (fun k => e (by rw [k]))]
    exact Ev.iff_neg (by omega) (Ev.now _)
def idx (r : List Int) (a : Int) (i : Nat) : List Nat := (List.range i).filter fun j => r.getD j 0 == a
theorem idx_succ (r : List Int) (a : Int) (i : Nat) : idx r a (i + 1) = if r.getD i 0 = a then idx r a i ++ [i] else idx r a i := by
  unfold idx
  rw [List.range_succ, List.filter_append]
  by_cases h : r.getD i 0 = a
  · rw [if_pos h, List.filter_cons_of_pos (by simpa using h), List.filter_nil]
  · rw [if_neg h, List.filter_cons_of_neg (by simpa using h), List.filter_nil, List.append_nil]
theorem idx_len (r : List Int) (a : Int) (i : Nat) : (idx r a i).length ≤ i := by
  unfold idx
  exact Nat.le_trans (List.length_filter_le _ _) (by rw [List.length_range]; omega)
def ints (l : List Nat) : List Int := l.map fun (i : Nat) => (i : Int)
theorem ints_snoc (l : List Nat) (i : Nat) : ints (l ++ [i]) = ints l ++ [(i : Int)] := by simp [ints]
theorem ints_len (l : List Nat) : (ints l).length = l.length := by simp [ints]
set_option maxHeartbeats 2000000 in
theorem of_from (r : List Int) (a : Int) (hn : r.length ≤ 256) (d : Nat) : ∀ i : Nat, i + d = r.length → Ev (fun k => pool_of.l0 k a (ints (idx r a i)) r (r.length : Int) (i : Int)) (ints (idx r a r.length)) := by
  induction d with
  | zero =>
    intro i hi
    have e : i = r.length := by omega
    subst e
    refine Ev.step (f := fun _ => some (ints (idx r a r.length))) (fun k => ?_) (Ev.now _)
    simp only [pool_of.l0]
    rw [if_neg (by omega)]
  | succ d ih =>
    intro i hi
    have h1 : i < r.length := by omega
    have hl := idx_len r a i
    have nx := ih (i + 1) (by omega)
    have eg : r.getD i 0 = r[i] := by rw [List.getD_eq_getElem?_getD, List.getElem?_eq_getElem h1]; rfl
    rw [idx_succ, eg] at nx
    refine Ev.step (f := fun k => if r[i] = a then pool_of.l0 k a (ints (idx r a i) ++ [(i : Int)]) r (r.length : Int) ((i + 1 : Nat) : Int) else pool_of.l0 k a (ints (idx r a i)) r (r.length : Int) ((i + 1 : Nat) : Int)) (fun k => ?_) ?_
    · simp only [pool_of.l0]
      rw [if_pos (by omega), if_pos (by omega), if_pos (by omega), rd_nat r i h1, suc64 i 256 (by omega) (by omega), if_pos (show (ints (idx r a i)).length < 17592186044416 by rw [ints_len]; omega)]
    · by_cases e : r[i] = a
      · rw [if_pos e, ints_snoc] at nx
        exact Ev.iff_pos e nx
      · rw [if_neg e] at nx
        exact Ev.iff_neg e nx
def blk (r w : List Int) (a : Int) : List Nat := if Ok r w then idx r a r.length else []
theorem blk_ok {r w : List Int} (h : Ok r w) (a : Int) : blk r w a = idx r a r.length := if_pos h
theorem blk_no {r w : List Int} (h : ¬ Ok r w) (a : Int) : blk r w a = [] := if_neg h
theorem of_ev (r w : List Int) (a : Int) : Ev (fun k => pool_of.f k r w a) (ints (blk r w a)) := by
  unfold pool_of.f
  refine Ev.bind (check_ev r w) ?_
  by_cases h : Ok r w
  · rw [blk_ok h]
    exact Ev.iff_pos (chk_ok h) (of_from r a h.n1 r.length 0 (by omega))
  · rw [blk_no h, chk_no h]
    exact Ev.iff_neg (by decide) (Ev.now _)
theorem count_ev (r w : List Int) (a : Int) : Ev (fun k => pool_Count.f k r w a) ((blk r w a).length : Int) := by
  unfold pool_Count.f
  refine Ev.bind (of_ev r w a) ?_
  rw [ints_len]
  exact Ev.now _
set_option maxRecDepth 100000 in
theorem begun_ev : Ev (fun k => slipwaylaw04_begun.f k) true := Ev.of slipwaylaw04_begun.mono (k := 60) (by decide +kernel)
end Go.Proofs.Ytlegmnpngcadhaa.Pl
end
