/- Texts of the proof of MapOrder, part 23. -/
import Derived.Test.YtkhbmgclklmimaaMapOrderM22
import Derived.Test.YtkhbmgclklmimaaMapOrderM20
import Derived.Test.YtkhbmgclklmimaaMapOrderM21
section
namespace Go.Proofs.Ytkhbmgclklmimaa.MapEv
set_option linter.unusedVariables false
set_option linter.unusedSimpArgs false
open Go.RowKit Go.Proofs.Ytkhbmgclklmimaa.Print Go.Proofs.YtkhbmgclklmimaaW.PrintWords Go.Proofs.YtkhbmgclklmimaaW.PrintLast Go.Proofs.YtkhbmgclklmimaaW.PrintMore
set_option maxHeartbeats 2000000 in
theorem unworn_idx (l : List Int) (hn : l.length ≤ 140737488355328) (d : Nat) : ∀ i : Nat, i + d = l.length → ∃ r, Ev (fun k => slices_IndexFunc_int64_int64_57.l0 k l (l.length : Int) (i : Int)) r ∧ (0 ≤ r ↔ ∃ x ∈ l.drop i, ¬ worn x) := by
  induction d with
  | zero =>
    intro i hi
    refine ⟨-1, Ev.step (f := fun _ => some (-1)) (fun k => ?_) (Ev.now _), ?_⟩
    · simp only [slices_IndexFunc_int64_int64_57.l0]
      rw [if_neg (by omega)]
    · rw [List.drop_of_length_le (by omega)]
      simp
  | succ d ih =>
    intro i hi
    have hlt : i < l.length := by omega
    have hd : l.drop i = l[i] :: l.drop (i + 1) := List.drop_eq_getElem_cons hlt
    have hf : mapjnl_Check_1.f l[i] = some (!decide (worn l[i])) := by
      unfold mapjnl_Check_1.f
      rw [worn_f]
      rfl
    by_cases hw : worn l[i]
    · obtain ⟨r, hr, hR⟩ := ih (i + 1) (by omega)
      refine ⟨r, Ev.step (fun k => ?_) hr, ?_⟩
      · simp only [slices_IndexFunc_int64_int64_57.l0]
        rw [if_pos (by omega), if_pos (by omega), if_pos (by omega), rd_nat l i hlt, hf, decide_eq_true hw]
        simp only [Option.bind_some]
        rw [if_neg (by decide), suc64 i l.length hlt hn]
      · rw [hR, hd]
        constructor
        · rintro ⟨x, hx, hx'⟩
          exact ⟨x, List.mem_cons_of_mem _ hx, hx'⟩
        · rintro ⟨x, hx, hx'⟩
          rcases List.mem_cons.1 hx with rfl | hx
          · exact absurd hw hx'
          · exact ⟨x, hx, hx'⟩
    · refine ⟨(i : Int), Ev.step (f := fun _ => some (i : Int)) (fun k => ?_) (Ev.now _), ?_⟩
      · simp only [slices_IndexFunc_int64_int64_57.l0]
        rw [if_pos (by omega), if_pos (by omega), if_pos (by omega), rd_nat l i hlt, hf, decide_eq_false hw]
        simp only [Option.bind_some]
        rw [if_pos (by decide)]
      · rw [hd]
        exact ⟨fun _ => ⟨l[i], List.mem_cons_self, hw⟩, fun _ => by omega⟩
theorem unworn_ev (l : List Int) (hn : l.length ≤ 140737488355328) : Ev (fun k => slices_ContainsFunc_int64_int64_57.f k l) (decide (∃ x ∈ l, ¬ worn x)) := by
  obtain ⟨r, hr, hR⟩ := unworn_idx l hn l.length 0 (by omega)
  rw [List.drop_zero] at hR
  unfold slices_ContainsFunc_int64_int64_57.f slices_IndexFunc_int64_int64_57.f
  refine Ev.bind hr ?_
  have e : decide (r ≥ 0) = decide (∃ x ∈ l, ¬ worn x) := decide_eq_decide.2 hR
  rw [e]
  exact Ev.now _
set_option maxHeartbeats 2000000 in
theorem check_ev (b : List Bool) (w : List Int) (s : Int) (hn : w.length ≤ 140737488355328) : Ev (fun k => mapjnl_Check.f k b w s) (chk b w s) := by
  unfold mapjnl_Check.f
  refine Ev.bindS (fun _ => blocks_f _) ?_
  by_cases h0 : sized (b.length : Int)
  · refine Ev.iff_pos (decide_eq_true h0) ?_
    by_cases h1 : w.length = b.length
    · refine Ev.iff_pos (by omega) (Ev.bindS (fun _ => seq_f _) ?_)
      by_cases h2 : seqOK s
      · refine Ev.iff_pos (decide_eq_true h2) (Ev.bind (unworn_ev w hn) ?_)
        by_cases h3 : ∃ x ∈ w, ¬ worn x
        · rw [chk_no (fun h => by obtain ⟨x, hx, hw⟩ := h3; exact hw (h.2.2.2 x hx))]
          exact Ev.iff_pos (decide_eq_true h3) (Ev.now _)
        · rw [chk_ok ⟨h0, h1, h2, fun x hx => Decidable.byContradiction fun hw => h3 ⟨x, hx, hw⟩⟩]
          exact Ev.iff_neg (by simpa using h3) (Ev.now _)
      · rw [chk_no (fun h => h2 h.2.2.1)]
        exact Ev.iff_neg (by simpa using h2) (Ev.now _)
    · rw [chk_no (fun h => h1 h.2.1)]
      exact Ev.iff_neg (by omega) (Ev.now _)
  · rw [chk_no (fun h => h0 h.1)]
    exact Ev.iff_neg (by simpa using h0) (Ev.now _)
theorem clone_f (b : List Bool) (w : List Int) (s : Int) (hb : b.length ≤ 256) (hw : w.length ≤ 256) : mapjnl_clone.f b w s = some (b, w, s) := by
  unfold mapjnl_clone.f slices_Clone_bool_bool.f slices_Clone_int64_int64.f
  simp only [Option.bind_some, List.length_nil, Nat.zero_add, List.nil_append]
  rw [if_pos (by omega)]
  simp only [Option.bind_some]
  rw [if_pos (by omega)]
  rfl
def jb (a b : List Bool) : List Bool := List.zipWith (· || ·) a b
def jw (a b : List Int) : List Int := List.zipWith mx a b
theorem mix_len {α : Type} (J A : List α) (i : Nat) (h : J.length = A.length) (hi : i ≤ A.length) : (J.take i ++ A.drop i).length = A.length := by
  rw [List.length_append, List.length_take, List.length_drop]; omega
theorem mix_at {α : Type} (J A : List α) (i : Nat) (h : J.length = A.length) (hi : i < A.length) (h' : i < (J.take i ++ A.drop i).length) : (J.take i ++ A.drop i)[i] = A[i] := by
  rw [List.getElem_append_right (by rw [List.length_take]; omega)]
  simp only [List.length_take, List.getElem_drop]
  congr 1
  omega
theorem mix_set {α : Type} (J A : List α) (i : Nat) (h : J.length = A.length) (hi : i < A.length) (v : α) (hv : v = J[i]'(by omega)) : (J.take i ++ A.drop i).set i v = J.take (i + 1) ++ A.drop (i + 1) := by
  have hl : (J.take i).length = i := by rw [List.length_take]; omega
  rw [List.set_append_right _ _ (by omega), hl, Nat.sub_self, List.drop_eq_getElem_cons hi, List.set_cons_zero, List.take_succ_eq_append_getElem (by omega), hv, List.append_assoc]
  rfl
theorem jb_len (a b : List Bool) (h : a.length = b.length) : (jb a b).length = a.length := by simp [jb, h]
theorem jw_len (a b : List Int) (h : a.length = b.length) : (jw a b).length = a.length := by simp [jw, h]
set_option maxHeartbeats 2000000 in
theorem join_from (b1 b2 : List Bool) (w1 w2 : List Int) (s1 s2 : Int) (hb : b1.length = b2.length) (hw1 : w1.length = b1.length) (hw2 : w2.length = b2.length) (hn : b1.length ≤ 256) (d : Nat) : ∀ i : Nat, i + d = b1.length →
    Ev (fun k => mapjnl_Join.l0 k (b1.length : Int) (i : Int) b2 w2 s2 ((jb b1 b2).take i ++ b1.drop i) ((jw w1 w2).take i ++ w1.drop i) s1) (jb b1 b2, jw w1 w2, mx s1 s2, 0) := by
  have lb := jb_len b1 b2 hb
  have lw := jw_len w1 w2 (by omega)
  induction d with
  | zero =>
    intro i hi
    refine Ev.step (f := fun _ => some (jb b1 b2, jw w1 w2, mx s1 s2, 0)) (fun k => ?_) (Ev.now _)
    simp only [mapjnl_Join.l0]
    rw [if_neg (by omega), List.drop_of_length_le (by omega), List.drop_of_length_le (by omega), List.append_nil, List.append_nil, List.take_of_length_le (by omega), List.take_of_length_le (by omega)]
  | succ d ih =>
    intro i hi
    have h1 : i < b1.length := by omega
    have h2 : i < w1.length := by omega
    have m1 := mix_len (jb b1 b2) b1 i lb (by omega)
    have m2 := mix_len (jw w1 w2) w1 i lw (by omega)
    have h3 : i < b2.length := by omega
    have h4 : i < w2.length := by omega
    have l256 : b1.length ≤ 140737488355328 := by omega
    have n0 : (0 : Int) ≤ (i : Int) := by omega
    have n1 : (i : Int) < (b1.length : Int) := by omega
    have n2 : (i : Int) < (((jb b1 b2).take i ++ b1.drop i).length : Int) := by omega
    have n3 : (i : Int) < (((jw w1 w2).take i ++ w1.drop i).length : Int) := by omega
    have n4 : (i : Int) < (b2.length : Int) := by omega
    have n5 : (i : Int) < (w2.length : Int) := by omega
    have nx := ih (i + 1) (by omega)
    have hs := suc64 i b1.length h1 l256
    have g1 : rdOf false ((jb b1 b2).take i ++ b1.drop i) (i : Int) = b1[i] := by rw [rd_bool _ i (by rw [m1]; exact h1), mix_at _ _ i lb h1]
    have g2 : rd ((jw w1 w2).take i ++ w1.drop i) (i : Int) = w1[i] := by rw [rd_nat _ i (by rw [m2]; exact h2), mix_at _ _ i lw h2]
    have g3 : rd w2 (i : Int) = w2[i] := rd_nat _ i h4
    have g4 : rdOf false b2 (i : Int) = b2[i] := rd_bool _ i h3
    have sw : ((jw w1 w2).take i ++ w1.drop i).set i (mx w1[i] w2[i]) = (jw w1 w2).take (i + 1) ++ w1.drop (i + 1) := mix_set _ _ i lw h2 _ (by simp [jw])
    refine Ev.step (fun k => ?_) nx
    simp only [mapjnl_Join.l0]
    rw [if_pos n1, if_pos n0, if_pos n2, g1]
    by_cases hv : b1[i] = true
    · have sb : ((jb b1 b2).take i ++ b1.drop i).set i true = (jb b1 b2).take (i + 1) ++ b1.drop (i + 1) := mix_set _ _ i lb h1 _ (by simp [jb, hv])
      rw [if_pos hv, if_pos n3, if_pos n5, hs, g2, g3, Int.toNat_natCast, sb, sw]
    · have sb : ((jb b1 b2).take i ++ b1.drop i).set i b2[i] = (jb b1 b2).take (i + 1) ++ b1.drop (i + 1) := mix_set _ _ i lb h1 _ (by simp [jb, hv])
      rw [if_neg hv, if_pos n4, if_pos n3, if_pos n5, hs, g2, g3, g4, Int.toNat_natCast, sb, sw]
def jn (b1 : List Bool) (w1 : List Int) (s1 : Int) (b2 : List Bool) (w2 : List Int) (s2 : Int) : List Bool × List Int × Int × Int :=
  if okS b1 w1 s1 ∧ okS b2 w2 s2 then (if b1.length = b2.length then (jb b1 b2, jw w1 w2, mx s1 s2, 0) else ([], [], 0, 1)) else ([], [], 0, 60)
set_option maxHeartbeats 2000000 in
theorem both_j (b1 : List Bool) (w1 : List Int) (s1 : Int) (b2 : List Bool) (w2 : List Int) (s2 : Int) (flag : Bool) : Ev (fun k => mapjnl_both.j0 k flag b1 w1 s1 b2 w2 s2) (if flag = true then 60 else if b1.length = b2.length then 0 else 1) := by
  refine Ev.step (f := fun _ => some (if flag = true then 60 else if b1.length = b2.length then 0 else 1)) (fun k => ?_) (Ev.now _)
  simp only [mapjnl_both.j0]
  by_cases h : flag = true
  · rw [if_pos h, if_pos h]
  · rw [if_neg h, if_neg h]
    by_cases h2 : b1.length = b2.length
    · rw [if_pos (by omega), if_pos h2]
    · rw [if_neg (by omega), if_neg h2]
set_option maxHeartbeats 2000000 in
theorem both_ev (b1 : List Bool) (w1 : List Int) (s1 : Int) (b2 : List Bool) (w2 : List Int) (s2 : Int) (h1 : w1.length ≤ 140737488355328) (h2 : w2.length ≤ 140737488355328) :
    Ev (fun k => mapjnl_both.f k b1 w1 s1 b2 w2 s2) (jn b1 w1 s1 b2 w2 s2).2.2.2 := by
  unfold mapjnl_both.f
  refine Ev.bind (check_ev b1 w1 s1 h1) ?_
  by_cases c1 : okS b1 w1 s1
  · refine Ev.iff_pos (chk_ok c1) (Ev.bind (check_ev b2 w2 s2 h2) ?_)
    have := both_j b1 w1 s1 b2 w2 s2 (chk b2 w2 s2 != 0)
    by_cases c2 : okS b2 w2 s2
    · rw [chk_ok c2] at this ⊢
      have e : (jn b1 w1 s1 b2 w2 s2).2.2.2 = if b1.length = b2.length then 0 else 1 := by
        unfold jn; rw [if_pos ⟨c1, c2⟩]; split <;> rfl
      rw [e]
      simpa using this
    · rw [chk_no c2] at this ⊢
      have e : (jn b1 w1 s1 b2 w2 s2).2.2.2 = 60 := by
        unfold jn; rw [if_neg (fun h => c2 h.2)]
      rw [e]
      simpa using this
  · have e : (jn b1 w1 s1 b2 w2 s2).2.2.2 = 60 := by
      unfold jn; rw [if_neg (fun h => c1 h.1)]
    rw [e]
    exact Ev.iff_neg (by rw [chk_no c1]; decide) (by simpa using both_j b1 w1 s1 b2 w2 s2 true)
set_option maxHeartbeats 2000000 in
theorem join_ev (b1 : List Bool) (w1 : List Int) (s1 : Int) (b2 : List Bool) (w2 : List Int) (s2 : Int) (h1 : w1.length ≤ 140737488355328) (h2 : w2.length ≤ 140737488355328) :
    Ev (fun k => mapjnl_Join.f k b1 w1 s1 b2 w2 s2) (jn b1 w1 s1 b2 w2 s2) := by
  unfold mapjnl_Join.f
  refine Ev.bind (both_ev b1 w1 s1 b2 w2 s2 h1 h2) ?_
  by_cases c : okS b1 w1 s1 ∧ okS b2 w2 s2
  · have l1 := c.1.len
    have l2 := c.2.len
    by_cases hl : b1.length = b2.length
    · have e : jn b1 w1 s1 b2 w2 s2 = (jb b1 b2, jw w1 w2, mx s1 s2, 0) := by unfold jn; rw [if_pos c, if_pos hl]
      rw [e]
      refine Ev.iff_pos rfl (Ev.bindS (fun _ => clone_f b1 w1 s1 l1.1 l1.2.1) ?_)
      exact join_from b1 b2 w1 w2 s1 s2 hl (by omega) (by omega) l1.1 b1.length 0 (by omega)
    · have e : jn b1 w1 s1 b2 w2 s2 = ([], [], 0, 1) := by unfold jn; rw [if_pos c, if_neg hl]
      rw [e]
      exact Ev.iff_neg (by decide) (Ev.now _)
  · have e : jn b1 w1 s1 b2 w2 s2 = ([], [], 0, 60) := by unfold jn; rw [if_neg c]
    rw [e]
    exact Ev.iff_neg (by decide) (Ev.now _)
set_option maxHeartbeats 2000000 in
theorem eqb_from (a b : List Bool) (hlen : a.length = b.length) (hn : a.length ≤ 140737488355328) (d : Nat) : ∀ i : Nat, i + d = a.length → Ev (fun k => slices_Equal_bool_bool.l0 k a b (a.length : Int) (i : Int)) (decide (a.drop i = b.drop i)) := by
  induction d with
  | zero =>
    intro i hi
    rw [List.drop_of_length_le (by omega), List.drop_of_length_le (by omega)]
    refine Ev.step (f := fun _ => some true) (fun k => ?_) (by simpa using Ev.now true)
    simp only [slices_Equal_bool_bool.l0]
    rw [if_neg (by omega)]
  | succ d ih =>
    intro i hi0
    have hi : i < a.length := by omega
    have hb : i < b.length := by omega
    have ha' : a.drop i = a[i] :: a.drop (i + 1) := List.drop_eq_getElem_cons hi
    have hb' : b.drop i = b[i] :: b.drop (i + 1) := List.drop_eq_getElem_cons hb
    rw [ha', hb']
    by_cases he : a[i] = b[i]
    · rw [dec_cons he]
      refine Ev.step (fun k => ?_) (ih (i + 1) (by omega))
      simp only [slices_Equal_bool_bool.l0]
      rw [if_pos (by omega), if_pos (by omega), if_pos (by omega), if_pos (by omega), rd_bool a i hi, rd_bool b i hb, if_neg (by simp [he]), suc64 i a.length hi hn]
    · rw [dec_ne he]
      refine Ev.step (f := fun _ => some false) (fun k => ?_) (Ev.now _)
      simp only [slices_Equal_bool_bool.l0]
      rw [if_pos (by omega), if_pos (by omega), if_pos (by omega), if_pos (by omega), rd_bool a i hi, rd_bool b i hb, if_pos (by simpa using he)]
theorem eqb_ev (a b : List Bool) (hn : a.length ≤ 140737488355328) : Ev (fun k => slices_Equal_bool_bool.f k a b) (decide (a = b)) := by
  unfold slices_Equal_bool_bool.f
  by_cases h : a.length = b.length
  · have := eqb_from a b h hn a.length 0 (by omega)
    rw [List.drop_zero, List.drop_zero] at this
    exact Ev.iff_pos (by omega) this
  · have e : decide (a = b) = false := by simp; intro he; exact h (by rw [he])
    rw [e]
    exact Ev.iff_neg (by omega) (Ev.now _)
set_option maxHeartbeats 2000000 in
theorem eqi_from (a b : List Int) (hlen : a.length = b.length) (hn : a.length ≤ 140737488355328) (d : Nat) : ∀ i : Nat, i + d = a.length → Ev (fun k => slices_Equal_int64_int64.l0 k a b (a.length : Int) (i : Int)) (decide (a.drop i = b.drop i)) := by
  induction d with
  | zero =>
    intro i hi
    rw [List.drop_of_length_le (by omega), List.drop_of_length_le (by omega)]
    refine Ev.step (f := fun _ => some true) (fun k => ?_) (by simpa using Ev.now true)
    simp only [slices_Equal_int64_int64.l0]
    rw [if_neg (by omega)]
  | succ d ih =>
    intro i hi0
    have hi : i < a.length := by omega
    have hb : i < b.length := by omega
    have ha' : a.drop i = a[i] :: a.drop (i + 1) := List.drop_eq_getElem_cons hi
    have hb' : b.drop i = b[i] :: b.drop (i + 1) := List.drop_eq_getElem_cons hb
    rw [ha', hb']
    by_cases he : a[i] = b[i]
    · rw [dec_cons he]
      refine Ev.step (fun k => ?_) (ih (i + 1) (by omega))
      simp only [slices_Equal_int64_int64.l0]
      rw [if_pos (by omega), if_pos (by omega), if_pos (by omega), if_pos (by omega), rd_nat a i hi, rd_nat b i hb, if_pos he, suc64 i a.length hi hn]
    · rw [dec_ne he]
      refine Ev.step (f := fun _ => some false) (fun k => ?_) (Ev.now _)
      simp only [slices_Equal_int64_int64.l0]
      rw [if_pos (by omega), if_pos (by omega), if_pos (by omega), if_pos (by omega), rd_nat a i hi, rd_nat b i hb, if_neg he]
theorem eqi_ev (a b : List Int) (hn : a.length ≤ 140737488355328) : Ev (fun k => slices_Equal_int64_int64.f k a b) (decide (a = b)) := by
  unfold slices_Equal_int64_int64.f
  by_cases h : a.length = b.length
  · have := eqi_from a b h hn a.length 0 (by omega)
    rw [List.drop_zero, List.drop_zero] at this
    exact Ev.iff_pos (by omega) this
  · have e : decide (a = b) = false := by simp; intro he; exact h (by rw [he])
    rw [e]
    exact Ev.iff_neg (by omega) (Ev.now _)
set_option maxHeartbeats 2000000 in
theorem reqb_from (a b : List Bool) (hlen : a.length = b.length) (hn : a.length ≤ 140737488355328) (d : Nat) : ∀ i : Nat, i + d = a.length → Ev (fun k => slipwayref06_bools.l0 k a b (i : Int)) (decide (a.drop i = b.drop i)) := by
  induction d with
  | zero =>
    intro i hi
    rw [List.drop_of_length_le (by omega), List.drop_of_length_le (by omega)]
    refine Ev.step (f := fun _ => some true) (fun k => ?_) (by simpa using Ev.now true)
    simp only [slipwayref06_bools.l0]
    rw [if_neg (by omega)]
  | succ d ih =>
    intro i hi0
    have hi : i < a.length := by omega
    have hb : i < b.length := by omega
    have ha' : a.drop i = a[i] :: a.drop (i + 1) := List.drop_eq_getElem_cons hi
    have hb' : b.drop i = b[i] :: b.drop (i + 1) := List.drop_eq_getElem_cons hb
    rw [ha', hb']
    by_cases he : a[i] = b[i]
    · rw [dec_cons he]
      refine Ev.step (fun k => ?_) (ih (i + 1) (by omega))
      simp only [slipwayref06_bools.l0]
      rw [if_pos (by omega), if_pos (by omega), if_pos (by omega), rd_bool a i hi, rd_bool b i hb, if_neg (by simp [he]), suc64 i a.length hi hn]
    · rw [dec_ne he]
      refine Ev.step (f := fun _ => some false) (fun k => ?_) (Ev.now _)
      simp only [slipwayref06_bools.l0]
      rw [if_pos (by omega), if_pos (by omega), if_pos (by omega), rd_bool a i hi, rd_bool b i hb, if_pos (by simpa using he)]
theorem reqb_ev (a b : List Bool) (hn : a.length ≤ 140737488355328) : Ev (fun k => slipwayref06_bools.f k a b) (decide (a = b)) := by
  unfold slipwayref06_bools.f
  by_cases h : a.length = b.length
  · have := reqb_from a b h hn a.length 0 (by omega)
    rw [List.drop_zero, List.drop_zero] at this
    exact Ev.iff_pos (by omega) this
  · have e : decide (a = b) = false := by simp; intro he; exact h (by rw [he])
    rw [e]
    exact Ev.iff_neg (by omega) (Ev.now _)
set_option maxHeartbeats 2000000 in
theorem reqi_from (a b : List Int) (hlen : a.length = b.length) (hn : a.length ≤ 140737488355328) (d : Nat) : ∀ i : Nat, i + d = a.length → Ev (fun k => slipwayref06_nums.l0 k a b (i : Int)) (decide (a.drop i = b.drop i)) := by
  induction d with
  | zero =>
    intro i hi
    rw [List.drop_of_length_le (by omega), List.drop_of_length_le (by omega)]
    refine Ev.step (f := fun _ => some true) (fun k => ?_) (by simpa using Ev.now true)
    simp only [slipwayref06_nums.l0]
    rw [if_neg (by omega)]
  | succ d ih =>
    intro i hi0
    have hi : i < a.length := by omega
    have hb : i < b.length := by omega
    have ha' : a.drop i = a[i] :: a.drop (i + 1) := List.drop_eq_getElem_cons hi
    have hb' : b.drop i = b[i] :: b.drop (i + 1) := List.drop_eq_getElem_cons hb
    rw [ha', hb']
    by_cases he : a[i] = b[i]
    · rw [dec_cons he]
      refine Ev.step (fun k => ?_) (ih (i + 1) (by omega))
      simp only [slipwayref06_nums.l0]
      rw [if_pos (by omega), if_pos (by omega), if_pos (by omega), rd_nat a i hi, rd_nat b i hb, if_pos he, suc64 i a.length hi hn]
    · rw [dec_ne he]
      refine Ev.step (f := fun _ => some false) (fun k => ?_) (Ev.now _)
      simp only [slipwayref06_nums.l0]
      rw [if_pos (by omega), if_pos (by omega), if_pos (by omega), rd_nat a i hi, rd_nat b i hb, if_neg he]
theorem reqi_ev (a b : List Int) (hn : a.length ≤ 140737488355328) : Ev (fun k => slipwayref06_nums.f k a b) (decide (a = b)) := by
  unfold slipwayref06_nums.f
  by_cases h : a.length = b.length
  · have := reqi_from a b h hn a.length 0 (by omega)
    rw [List.drop_zero, List.drop_zero] at this
    exact Ev.iff_pos (by omega) this
  · have e : decide (a = b) = false := by simp; intro he; exact h (by rw [he])
    rw [e]
    exact Ev.iff_neg (by omega) (Ev.now _)
set_option maxHeartbeats 2000000 in
theorem same_ev (b1 : List Bool) (w1 : List Int) (s1 : Int) (b2 : List Bool) (w2 : List Int) (s2 : Int) (h1 : b1.length ≤ 140737488355328) (h2 : w1.length ≤ 140737488355328) :
    Ev (fun k => mapjnl_Same.f k b1 w1 s1 b2 w2 s2) (decide (b1 = b2 ∧ w1 = w2 ∧ s1 = s2)) := by
  unfold mapjnl_Same.f
  refine Ev.bind (eqb_ev b1 b2 h1) ?_
  by_cases c1 : b1 = b2
  · refine Ev.iff_pos (decide_eq_true c1) (Ev.bind (eqi_ev w1 w2 h2) ?_)
    by_cases c2 : w1 = w2
    · refine Ev.iff_pos (decide_eq_true c2) ?_
      have e : decide (b1 = b2 ∧ w1 = w2 ∧ s1 = s2) = (s1 == s2) := by
        by_cases c3 : s1 = s2
        · simp [c1, c2, c3]
        · simp [c3]
      rw [e]
      exact Ev.now _
    · have e : decide (b1 = b2 ∧ w1 = w2 ∧ s1 = s2) = false := by simp [c2]
      rw [e]
      exact Ev.iff_neg (by simpa using c2) (Ev.now _)
  · have e : decide (b1 = b2 ∧ w1 = w2 ∧ s1 = s2) = false := by simp [c1]
    rw [e]
    exact Ev.iff_neg (by simpa using c1) (Ev.now _)
set_option maxHeartbeats 2000000 in
theorem rsame_ev (b1 : List Bool) (w1 : List Int) (s1 : Int) (b2 : List Bool) (w2 : List Int) (s2 : Int) (h1 : b1.length ≤ 140737488355328) (h2 : w1.length ≤ 140737488355328) :
    Ev (fun k => slipwayref06_Same.f k b1 w1 s1 b2 w2 s2) (decide (b1 = b2 ∧ w1 = w2 ∧ s1 = s2)) := by
  unfold slipwayref06_Same.f
  refine Ev.bind (reqb_ev b1 b2 h1) ?_
  by_cases c1 : b1 = b2
  · refine Ev.iff_pos (decide_eq_true c1) (Ev.bind (reqi_ev w1 w2 h2) ?_)
    by_cases c2 : w1 = w2
    · refine Ev.iff_pos (decide_eq_true c2) ?_
      have e : decide (b1 = b2 ∧ w1 = w2 ∧ s1 = s2) = (s1 == s2) := by
        by_cases c3 : s1 = s2
        · simp [c1, c2, c3]
        · simp [c3]
      rw [e]
      exact Ev.now _
    · have e : decide (b1 = b2 ∧ w1 = w2 ∧ s1 = s2) = false := by simp [c2]
      rw [e]
      exact Ev.iff_neg (by simpa using c2) (Ev.now _)
  · have e : decide (b1 = b2 ∧ w1 = w2 ∧ s1 = s2) = false := by simp [c1]
    rw [e]
    exact Ev.iff_neg (by simpa using c1) (Ev.now _)
def cv (b1 : List Bool) (w1 : List Int) (s1 : Int) (b2 : List Bool) (w2 : List Int) (s2 : Int) : Prop :=
  (jn b1 w1 s1 b2 w2 s2).2.2.2 = 0 ∧ (jn b1 w1 s1 b2 w2 s2).1 = b1 ∧ (jn b1 w1 s1 b2 w2 s2).2.1 = w1 ∧ (jn b1 w1 s1 b2 w2 s2).2.2.1 = s1
instance (b1 : List Bool) (w1 : List Int) (s1 : Int) (b2 : List Bool) (w2 : List Int) (s2 : Int) : Decidable (cv b1 w1 s1 b2 w2 s2) := by unfold cv; infer_instance
theorem jn_len (b1 : List Bool) (w1 : List Int) (s1 : Int) (b2 : List Bool) (w2 : List Int) (s2 : Int) : (jn b1 w1 s1 b2 w2 s2).1.length ≤ 256 ∧ (jn b1 w1 s1 b2 w2 s2).2.1.length ≤ 256 := by
  unfold jn
  split
  · rename_i h
    have l1 := h.1.len
    have l2 := h.2.len
    split
    · rename_i hl
      have := jb_len b1 b2 hl
      have := jw_len w1 w2 (by omega)
      exact ⟨by simp only []; omega, by simp only []; omega⟩
    · simp
  · simp
set_option maxHeartbeats 2000000 in
theorem covers_ev (b1 : List Bool) (w1 : List Int) (s1 : Int) (b2 : List Bool) (w2 : List Int) (s2 : Int) (h1 : w1.length ≤ 140737488355328) (h2 : w2.length ≤ 140737488355328) :
    Ev (fun k => mapjnl_Covers.f k b1 w1 s1 b2 w2 s2) (decide (cv b1 w1 s1 b2 w2 s2)) := by
  unfold mapjnl_Covers.f
  have hl := jn_len b1 w1 s1 b2 w2 s2
  refine Ev.bind (join_ev b1 w1 s1 b2 w2 s2 h1 h2) ?_
  by_cases c : (jn b1 w1 s1 b2 w2 s2).2.2.2 = 0
  · refine Ev.iff_pos c (Ev.bind (same_ev _ _ _ b1 w1 s1 (by omega) (by omega)) ?_)
    have e : decide (cv b1 w1 s1 b2 w2 s2) = decide ((jn b1 w1 s1 b2 w2 s2).1 = b1 ∧ (jn b1 w1 s1 b2 w2 s2).2.1 = w1 ∧ (jn b1 w1 s1 b2 w2 s2).2.2.1 = s1) := by
      apply decide_eq_decide.2
      unfold cv
      exact ⟨fun h => h.2, fun h => ⟨c, h⟩⟩
    rw [e]
    exact Ev.now _
  · have e : decide (cv b1 w1 s1 b2 w2 s2) = false := decide_eq_false (fun h => c h.1)
    rw [e]
    exact Ev.iff_neg c (Ev.now _)
def nw (n : Int) : List Bool × List Int × Int × Int := if sized n then (List.replicate n.toNat false, List.replicate n.toNat 0, 0, 0) else ([], [], 0, 20)
theorem new_f (n : Int) : mapjnl_New.f n = some (nw n) := by
  unfold mapjnl_New.f nw
  rw [blocks_f]
  simp only [Option.bind_some]
  by_cases h : sized n
  · rw [if_pos (decide_eq_true h), if_pos h]
    unfold sized at h
    rw [if_pos (by omega), if_pos (by omega), if_pos (by omega)]
  · rw [if_neg (by simpa using h), if_neg h]
end Go.Proofs.Ytkhbmgclklmimaa.MapEv
end
