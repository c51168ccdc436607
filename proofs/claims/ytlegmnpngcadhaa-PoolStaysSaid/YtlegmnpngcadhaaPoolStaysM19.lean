/- Texts of the proof of PoolStays, part 19. -/
import Derived.Test.YtlegmnpngcadhaaPoolStaysM14
import Derived.Test.YtlegmnpngcadhaaPoolStaysM15
section
namespace Go.Proofs.Ytlegmnpngcadhaa.Pl
set_option linter.unusedVariables false
set_option linter.unusedSimpArgs false
open Go.RowKit Go.Proofs.Ytlegmnpngcadhaa.Print Go.Proofs.YtlegmnpngcadhaaW.PrintWords Go.Proofs.YtlegmnpngcadhaaW.PrintLast Go.Proofs.YtlegmnpngcadhaaW.PrintMore
theorem w64 {n : Int} (h0 : -9223372036854775808 ≤ n) (h1 : n ≤ 9223372036854775807) : wrap64 n = n := by unfold wrap64; omega
theorem rd_nat (l : List Int) (i : Nat) (h : i < l.length) : rd l (i : Int) = l[i] := by simp [rd, List.getD_eq_getElem?_getD, h]
theorem Ev.iff_pos {α : Type} {c : Prop} [Decidable c] {g f : Nat → Option α} {r : α} (h : c) (k : Ev g r) : Ev (fun n => if c then g n else f n) r := k.imp fun _ hk n hn => (if_pos h).trans (hk n hn)
theorem Ev.iff_neg {α : Type} {c : Prop} [Decidable c] {g f : Nat → Option α} {r : α} (h : ¬ c) (k : Ev f r) : Ev (fun n => if c then g n else f n) r := k.imp fun _ hk n hn => (if_neg h).trans (hk n hn)
theorem Ev.bindS {α β : Type} {a : α} {f : Nat → α → Option β} {r : β} {g : Nat → Option α} (h : ∀ n, g n = some a) (k : Ev (fun n => f n a) r) : Ev (fun n => (g n).bind (f n)) r := Ev.bind ⟨0, fun n _ => h n⟩ k
theorem suc64 (i n : Nat) (h : i < n) (hn : n ≤ 140737488355328) : wrap64 ((i : Int) + 1) = ((i + 1 : Nat) : Int) := by rw [w64 (by omega) (by omega)]; rfl
def kn (a : Int) : Prop := 1 ≤ a ∧ a ≤ 6
instance (a : Int) : Decidable (kn a) := by unfold kn; infer_instance
def us (a : Int) : Prop := 2 ≤ a ∧ a ≤ 5
instance (a : Int) : Decidable (us a) := by unfold us; infer_instance
def worn (a : Int) : Prop := 0 ≤ a ∧ a ≤ 16777215
instance (a : Int) : Decidable (worn a) := by unfold worn; infer_instance
def sized (n : Nat) : Prop := 16 ≤ n ∧ n ≤ 256
instance (n : Nat) : Decidable (sized n) := by unfold sized; infer_instance
theorem worn_f (a : Int) : pool_worn.f a = some (decide (worn a)) := by
  unfold pool_worn.f
  by_cases h : a ≥ 0
  · rw [if_pos h]; congr 1; exact decide_eq_decide.2 ⟨fun k => ⟨h, k⟩, fun k => k.2⟩
  · rw [if_neg h, decide_eq_false (fun k : worn a => h k.1)]
theorem blocks_f (n : Int) : pool_blocks.f n = some (decide (16 ≤ n ∧ n ≤ 256)) := by
  unfold pool_blocks.f
  by_cases h : n ≥ 16
  · rw [if_pos h]; congr 1; exact decide_eq_decide.2 ⟨fun k => ⟨h, k⟩, fun k => k.2⟩
  · rw [if_neg h, decide_eq_false (fun k => h k.1)]
set_option maxHeartbeats 2000000 in
theorem role_ev (a : Int) : Ev (fun k => pool_role.f k a) (decide (kn a), decide (us a)) := by
  have j : ∀ x : Bool, x = decide (us a) → Ev (fun k => pool_role.j0 k false false a x) (decide (kn a), decide (us a)) := fun x hx => by
    refine Ev.step (f := fun _ => if x = true then some (true, true) else if a = 1 then some (true, false) else if a = 6 then some (true, false) else some (false, false)) (fun k => by simp only [pool_role.j0]) ?_
    by_cases u : us a
    · have kk : kn a := ⟨by have := u.1; omega, by have := u.2; omega⟩
      rw [hx, decide_eq_true u, decide_eq_true kk]
      exact Ev.iff_pos rfl (Ev.now _)
    · rw [hx, decide_eq_false u]
      refine Ev.iff_neg (by decide) ?_
      unfold us at u
      by_cases h1 : a = 1
      · rw [decide_eq_true (show kn a by unfold kn; omega)]
        exact Ev.iff_pos h1 (Ev.now _)
      · refine Ev.iff_neg h1 ?_
        by_cases h6 : a = 6
        · rw [decide_eq_true (show kn a by unfold kn; omega)]
          exact Ev.iff_pos h6 (Ev.now _)
        · rw [decide_eq_false (show ¬ kn a by unfold kn; omega)]
          exact Ev.iff_neg h6 (Ev.now _)
  unfold pool_role.f
  by_cases h2 : a = 2
  · exact Ev.iff_pos h2 (j _ (by rw [h2]; decide))
  · refine Ev.iff_neg h2 ?_
    by_cases h3 : a = 3
    · exact Ev.iff_pos h3 (j _ (by rw [h3]; decide))
    · refine Ev.iff_neg h3 ?_
      by_cases h4 : a = 4
      · exact Ev.iff_pos h4 (j _ (by rw [h4]; decide))
      · refine Ev.iff_neg h4 (j _ ?_)
        by_cases h5 : a = 5
        · rw [h5]; decide
        · rw [decide_eq_false (show ¬ us a by unfold us; omega)]
          simp [h5]
structure Ok (r w : List Int) : Prop where
  n0 : 16 ≤ r.length
  n1 : r.length ≤ 256
  len : w.length = r.length
  ro : ∀ x ∈ r, kn x
  we : ∀ x ∈ w, worn x
instance (r w : List Int) : Decidable (Ok r w) := decidable_of_iff (16 ≤ r.length ∧ r.length ≤ 256 ∧ w.length = r.length ∧ (∀ x ∈ r, kn x) ∧ ∀ x ∈ w, worn x) ⟨fun ⟨a, b, c, d, e⟩ => ⟨a, b, c, d, e⟩, fun h => ⟨h.n0, h.n1, h.len, h.ro, h.we⟩⟩
def chk (r w : List Int) : Int := if Ok r w then 0 else 40
theorem chk_ok {r w : List Int} (h : Ok r w) : chk r w = 0 := if_pos h
theorem chk_no {r w : List Int} (h : ¬ Ok r w) : chk r w = 40 := if_neg h
theorem drop_all {P : Int → Prop} {l : List Int} {i : Nat} (h : i < l.length) : (∀ x ∈ l.drop i, P x) ↔ P l[i] ∧ ∀ x ∈ l.drop (i + 1), P x := by
  rw [List.drop_eq_getElem_cons h]
  exact List.forall_mem_cons
def rest (r w : List Int) (i : Nat) : Int := if (∀ x ∈ r.drop i, kn x) ∧ ∀ x ∈ w.drop i, worn x then 0 else 40
set_option maxHeartbeats 2000000 in
theorem rest_step {r w : List Int} {i : Nat} (h : i < r.length) (h2 : i < w.length) : rest r w i = if kn r[i] ∧ worn w[i] then rest r w (i + 1) else 40 := by
  unfold rest
  have e1 := drop_all (P := kn) h
  have e2 := drop_all (P := worn) h2
  by_cases a : kn r[i] ∧ worn w[i]
  · rw [if_pos a]
    by_cases b : (∀ x ∈ r.drop (i + 1), kn x) ∧ ∀ x ∈ w.drop (i + 1), worn x
    · rw [if_pos ⟨e1.2 ⟨a.1, b.1⟩, e2.2 ⟨a.2, b.2⟩⟩, if_pos b]
    · rw [if_neg (fun k => b ⟨(e1.1 k.1).2, (e2.1 k.2).2⟩), if_neg b]
  · rw [if_neg a, if_neg (fun k => a ⟨(e1.1 k.1).1, (e2.1 k.2).1⟩)]
set_option maxHeartbeats 2000000 in
theorem check_from (r w : List Int) (hl : w.length = r.length) (hn : r.length ≤ 256) (d : Nat) : ∀ i : Nat, i + d = r.length → Ev (fun k => pool_Check.l0 k r (r.length : Int) (i : Int) r w) (rest r w i) := by
  induction d with
  | zero =>
    intro i hi
    have e : rest r w i = 0 := by
      unfold rest
      rw [List.drop_of_length_le (by omega), List.drop_of_length_le (by omega), if_pos ⟨fun x hx => (by cases hx), fun x hx => (by cases hx)⟩]
    rw [e]
    refine Ev.step (f := fun _ => some 0) (fun k => ?_) (Ev.now _)
    simp only [pool_Check.l0]
    rw [if_neg (by omega)]
  | succ d ih =>
    intro i hi
    have h1 : i < r.length := by omega
    have h2 : i < w.length := by omega
    rw [rest_step h1 h2]
    refine Ev.step (f := fun k => (pool_role.f k r[i]).bind fun bt141 => (if bt141.1 = true then ((pool_worn.f w[i]).bind fun t144 => (if t144 = true then (pool_Check.l0 k r (r.length : Int) ((i + 1 : Nat) : Int) r w) else (some 40))) else (some 40))) (fun k => ?_) ?_
    · simp only [pool_Check.l0]
      rw [if_pos (by omega), if_pos (by omega), if_pos (by omega), rd_nat r i h1, if_pos (show (i : Int) < (w.length : Int) by omega), rd_nat w i h2, suc64 i 256 (by omega) (by omega)]
    · refine Ev.bind (role_ev _) ?_
      by_cases a : kn r[i]
      · refine Ev.iff_pos (decide_eq_true a) (Ev.bindS (fun _ => worn_f _) ?_)
        by_cases b : worn w[i]
        · rw [if_pos ⟨a, b⟩]
          exact Ev.iff_pos (decide_eq_true b) (ih (i + 1) (by omega))
        · rw [if_neg (fun k => b k.2)]
          exact Ev.iff_neg (by simpa using b) (Ev.now _)
      · rw [if_neg (fun k => a k.1)]
        exact Ev.iff_neg (by simpa using a) (Ev.now _)
theorem rest_chk {r w : List Int} (h0 : 16 ≤ r.length) (h1 : r.length ≤ 256) (hl : w.length = r.length) : rest r w 0 = chk r w := by
  unfold rest chk
  rw [List.drop_zero, List.drop_zero]
  by_cases c : (∀ x ∈ r, kn x) ∧ ∀ x ∈ w, worn x
  · rw [if_pos c, if_pos ⟨h0, h1, hl, c.1, c.2⟩]
  · rw [if_neg c, if_neg (fun k => c ⟨k.ro, k.we⟩)]
set_option maxHeartbeats 2000000 in
theorem check_ev (r w : List Int) : Ev (fun k => pool_Check.f k r w) (chk r w) := by
  unfold pool_Check.f
  refine Ev.bindS (fun _ => blocks_f _) ?_
  have bad : ¬ (16 ≤ r.length ∧ r.length ≤ 256 ∧ w.length = r.length) → Ev (fun k => pool_Check.j0 k true r w) (chk r w) := fun h => by
    rw [chk_no (fun k => h ⟨k.n0, k.n1, k.len⟩)]
    refine Ev.step (f := fun _ => some 40) (fun k => ?_) (Ev.now _)
    simp only [pool_Check.j0]
    rw [if_pos trivial]
  by_cases c : 16 ≤ (r.length : Int) ∧ (r.length : Int) ≤ 256
  · refine Ev.iff_pos (decide_eq_true c) ?_
    by_cases e : w.length = r.length
    · rw [show ((w.length : Int) != (r.length : Int)) = false by simp [e], ← rest_chk (by omega) (by omega) e]
      refine Ev.step (fun k => ?_) (check_from r w e (by omega) r.length 0 (by omega))
      simp only [pool_Check.j0]
      rw [if_neg (by decide)]
      rfl
    · rw [show ((w.length : Int) != (r.length : Int)) = true by simp; omega]
      exact bad (fun k => e k.2.2)
  · exact Ev.iff_neg (by simpa using c) (bad (fun k => c ⟨by omega, by omega⟩))
theorem dec_cons {x y : Int} {s t : List Int} (h : x = y) : decide (x :: s = y :: t) = decide (s = t) := by simp [h]
theorem dec_ne {x y : Int} {s t : List Int} (h : ¬ x = y) : decide (x :: s = y :: t) = false := by simp [h]
set_option maxHeartbeats 2000000 in
theorem rsame_l1 (a b : List Int) (u v : List Int) (hlen : u.length = v.length) (hn : u.length ≤ 140737488355328) (d : Nat) : ∀ i : Nat, i + d = u.length → Ev (fun k => slipwayref04_Same.l1 k (i : Int) a u b v) (decide (u.drop i = v.drop i)) := by
  induction d with
  | zero =>
    intro i hi
    rw [List.drop_of_length_le (by omega), List.drop_of_length_le (by omega)]
    refine Ev.step (f := fun _ => some true) (fun k => ?_) (Ev.now _)
    simp only [slipwayref04_Same.l1]
    rw [if_neg (by omega)]
  | succ d ih =>
    intro i hi
    have h1 : i < u.length := by omega
    have h2 : i < v.length := by omega
    rw [List.drop_eq_getElem_cons h1, List.drop_eq_getElem_cons h2]
    refine Ev.step (f := fun k => if u[i] = v[i] then slipwayref04_Same.l1 k ((i + 1 : Nat) : Int) a u b v else some false) (fun k => ?_) ?_
    · simp only [slipwayref04_Same.l1]
      rw [if_pos (by omega), if_pos (by omega), if_pos (by omega), rd_nat u i h1, rd_nat v i h2, suc64 i u.length h1 hn]
    · by_cases e : u[i] = v[i]
      · rw [dec_cons e]
        exact Ev.iff_pos e (ih (i + 1) (by omega))
      · rw [dec_ne e]
        exact Ev.iff_neg e (Ev.now _)
set_option maxHeartbeats 2000000 in
theorem rsame_l0 (a b : List Int) (u v : List Int) (hlen : a.length = b.length) (hn : a.length ≤ 140737488355328) (hlen2 : u.length = v.length) (hn2 : u.length ≤ 140737488355328) (d : Nat) : ∀ i : Nat, i + d = a.length → Ev (fun k => slipwayref04_Same.l0 k (i : Int) a u b v) (decide (a.drop i = b.drop i ∧ u = v)) := by
  induction d with
  | zero =>
    intro i hi
    rw [List.drop_of_length_le (by omega), List.drop_of_length_le (by omega)]
    have := rsame_l1 a b u v hlen2 hn2 u.length 0 (by omega)
    rw [List.drop_zero, List.drop_zero] at this
    rw [show decide (([] : List Int) = [] ∧ u = v) = decide (u = v) by simp]
    refine Ev.step (fun k => ?_) this
    simp only [slipwayref04_Same.l0]
    rw [if_neg (by omega)]
    rfl
  | succ d ih =>
    intro i hi
    have h1 : i < a.length := by omega
    have h2 : i < b.length := by omega
    rw [List.drop_eq_getElem_cons h1, List.drop_eq_getElem_cons h2]
    refine Ev.step (f := fun k => if a[i] = b[i] then slipwayref04_Same.l0 k ((i + 1 : Nat) : Int) a u b v else some false) (fun k => ?_) ?_
    · simp only [slipwayref04_Same.l0]
      rw [if_pos (by omega), if_pos (by omega), if_pos (by omega), rd_nat a i h1, rd_nat b i h2, suc64 i a.length h1 hn]
    · by_cases e : a[i] = b[i]
      · rw [show decide (a[i] :: a.drop (i + 1) = b[i] :: b.drop (i + 1) ∧ u = v) = decide (a.drop (i + 1) = b.drop (i + 1) ∧ u = v) from decide_eq_decide.2 ⟨fun k => ⟨(List.cons.inj k.1).2, k.2⟩, fun k => ⟨by rw [e, k.1], k.2⟩⟩]
        exact Ev.iff_pos e (ih (i + 1) (by omega))
      · rw [decide_eq_false (fun k => e (List.cons.inj k.1).1)]
        exact Ev.iff_neg e (Ev.now _)
set_option maxHeartbeats 2000000 in
theorem rsame_ev (a u b v : List Int) (hn : a.length ≤ 140737488355328) (hn2 : u.length ≤ 140737488355328) : Ev (fun k => slipwayref04_Same.f k a u b v) (decide (a = b ∧ u = v)) := by
  unfold slipwayref04_Same.f
  have bad : ¬ (a = b ∧ u = v) → Ev (fun k => slipwayref04_Same.j0 k true a u b v) (decide (a = b ∧ u = v)) := fun h => by
    rw [decide_eq_false h]
    refine Ev.step (f := fun _ => some false) (fun k => ?_) (Ev.now _)
    simp only [slipwayref04_Same.j0]
    rw [if_pos trivial]
  by_cases e1 : a.length = b.length
  · refine Ev.iff_pos (by omega) ?_
    by_cases e2 : u.length = v.length
    · rw [show ((u.length : Int) != (v.length : Int)) = false by simp [e2]]
      have := rsame_l0 a b u v e1 hn e2 hn2 a.length 0 (by omega)
      rw [List.drop_zero, List.drop_zero] at this
      refine Ev.step (fun k => ?_) this
      simp only [slipwayref04_Same.j0]
      rw [if_neg (by decide)]
      rfl
    · rw [show ((u.length : Int) != (v.length : Int)) = true by simp; omega]
      exact bad (fun k => e2 (by rw [k.2]))
  · exact Ev.iff_neg (by omega) (bad (fun k => e1 (by rw [k.1])))
set_option maxHeartbeats 2000000 in
theorem eqi_from (a b : List Int) (hlen : a.length = b.length) (hn : a.length ≤ 140737488355328) (d : Nat) : ∀ i : Nat, i + d = a.length → Ev (fun k => slices_Equal_int_int.l0 k a b (a.length : Int) (i : Int)) (decide (a.drop i = b.drop i)) := by
  induction d with
  | zero =>
    intro i hi
    rw [List.drop_of_length_le (by omega), List.drop_of_length_le (by omega)]
    refine Ev.step (f := fun _ => some true) (fun k => ?_) (Ev.now _)
    simp only [slices_Equal_int_int.l0]
    rw [if_neg (by omega)]
  | succ d ih =>
    intro i hi
    have h1 : i < a.length := by omega
    have h2 : i < b.length := by omega
    rw [List.drop_eq_getElem_cons h1, List.drop_eq_getElem_cons h2]
    refine Ev.step (f := fun k => if a[i] = b[i] then slices_Equal_int_int.l0 k a b (a.length : Int) ((i + 1 : Nat) : Int) else some false) (fun k => ?_) ?_
    · simp only [slices_Equal_int_int.l0]
      rw [if_pos (by omega), if_pos (by omega), if_pos (by omega), if_pos (by omega), rd_nat a i h1, rd_nat b i h2, suc64 i a.length h1 hn]
    · by_cases e : a[i] = b[i]
      · rw [dec_cons e]
        exact Ev.iff_pos e (ih (i + 1) (by omega))
      · rw [dec_ne e]
        exact Ev.iff_neg e (Ev.now _)
theorem eqi_ev (a b : List Int) (hn : a.length ≤ 140737488355328) : Ev (fun k => slices_Equal_int_int.f k a b) (decide (a = b)) := by
  unfold slices_Equal_int_int.f
  by_cases e : a.length = b.length
  · have := eqi_from a b e hn a.length 0 (by omega)
    rw [List.drop_zero, List.drop_zero] at this
    exact Ev.iff_pos (by omega) this
  · rw [decide_eq_false (fun k => e (by rw [k]))]
    exact Ev.iff_neg (by omega) (Ev.now _)
set_option maxHeartbeats 2000000 in
theorem eql_from (a b : List Int) (hlen : a.length = b.length) (hn : a.length ≤ 140737488355328) (d : Nat) : ∀ i : Nat, i + d = a.length → Ev (fun k => slices_Equal_int64_int64.l0 k a b (a.length : Int) (i : Int)) (decide (a.drop i = b.drop i)) := by
  induction d with
  | zero =>
    intro i hi
    rw [List.drop_of_length_le (by omega), List.drop_of_length_le (by omega)]
    refine Ev.step (f := fun _ => some true) (fun k => ?_) (Ev.now _)
    simp only [slices_Equal_int64_int64.l0]
    rw [if_neg (by omega)]
  | succ d ih =>
    intro i hi
    have h1 : i < a.length := by omega
    have h2 : i < b.length := by omega
    rw [List.drop_eq_getElem_cons h1, List.drop_eq_getElem_cons h2]
    refine Ev.step (f := fun k => if a[i] = b[i] then slices_Equal_int64_int64.l0 k a b (a.length : Int) ((i + 1 : Nat) : Int) else some false) (fun k => ?_) ?_
    · simp only [slices_Equal_int64_int64.l0]
      rw [if_pos (by omega), if_pos (by omega), if_pos (by omega), if_pos (by omega), rd_nat a i h1, rd_nat b i h2, suc64 i a.length h1 hn]
    · by_cases e : a[i] = b[i]
      · rw [dec_cons e]
        exact Ev.iff_pos e (ih (i + 1) (by omega))
      · rw [dec_ne e]
        exact Ev.iff_neg e (Ev.now _)
theorem eql_ev (a b : List Int) (hn : a.length ≤ 140737488355328) : Ev (fun k => slices_Equal_int64_int64.f k a b) (decide (a = b)) := by
  unfold slices_Equal_int64_int64.f
  by_cases e : a.length = b.length
  · have := eql_from a b e hn a.length 0 (by omega)
    rw [List.drop_zero, List.drop_zero] at this
    exact Ev.iff_pos (by omega) this
  · rw [decide_eq_false (fun k => e (by rw [k]))]
    exact Ev.iff_neg (by omega) (Ev.now _)
set_option maxHeartbeats 2000000 in
theorem same_ev (a u b v : List Int) (hn : a.length ≤ 140737488355328) (hn2 : u.length ≤ 140737488355328) : Ev (fun k => pool_Same.f k a u b v) (decide (a = b ∧ u = v)) := by
  unfold pool_Same.f
  refine Ev.bind (eqi_ev a b hn) ?_
  by_cases e : a = b
  · refine Ev.iff_pos (decide_eq_true e) (Ev.bind (eql_ev u v hn2) ?_)
    rw [show decide (a = b ∧ u = v) = decide (u = v) by simp [e]]
    exact Ev.now _
  · rw [decide_eq_false (fun k : a = b ∧ u = v => e k.1)]
    exact Ev.iff_neg (by simp [e]) (Ev.now _)
def idx (r : List Int) (a : Int) (i : Nat) : List Nat := (List.range i).filter fun j => r.getD j 0 == a
def blk (r w : List Int) (a : Int) : List Nat := if Ok r w then idx r a r.length else []
set_option maxRecDepth 100000 in
theorem begun_ev : Ev (fun k => slipwaylaw04_begun.f k) true := Ev.of slipwaylaw04_begun.mono (k := 60) (by decide +kernel)
end Go.Proofs.Ytlegmnpngcadhaa.Pl
end
