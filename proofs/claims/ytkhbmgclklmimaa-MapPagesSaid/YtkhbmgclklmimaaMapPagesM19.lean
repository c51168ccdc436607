/- Texts of the proof of MapPages, part 19. -/
import Derived.Test.YtkhbmgclklmimaaMapPagesM18
import Derived.Test.YtkhbmgclklmimaaMapPagesM14
import Derived.Test.YtkhbmgclklmimaaMapPagesM15
section
namespace Go.Proofs.Ytkhbmgclklmimaa.MapEv
set_option linter.unusedVariables false
set_option linter.unusedSimpArgs false
open Go.RowKit Go.Proofs.Ytkhbmgclklmimaa.Print Go.Proofs.YtkhbmgclklmimaaW.PrintWords Go.Proofs.YtkhbmgclklmimaaW.PrintLast Go.Proofs.YtkhbmgclklmimaaW.PrintMore
set_option maxHeartbeats 2000000 in
theorem unworn_idx (l : List Int) (hn : l.length ≤ 140737488355328) (d : Nat) : ∀ i : Nat, i + d = l.length → ∃ r, Ev (fun k => slices_IndexFunc_int64_int64_57.l0 k l (l.length : Int) (i : Int)) r ∧ (0 ≤ r ↔ ∃ x ∈ l.drop i, ¬ worn x) := by
  induction d with
  | zero =>
    intro i hi
    refine ⟨-1, Ev.step (f := fun _ => some (-1)) (fun k => ?_) (Ev.now _), ?_⟩
    · simp only [slices_IndexFunc_int64_int64_57.l0]
      rw [if_neg (by omega)]
    · rw [List.drop_of_length_le (by omega)]
      simp
  | succ d ih =>
    intro i hi
    have hlt : i < l.length := by omega
    have hd : l.drop i = l[i] :: l.drop (i + 1) := List.drop_eq_getElem_cons hlt
    have hf : mapjnl_Check_1.f l[i] = some (!decide (worn l[i])) := by
      unfold mapjnl_Check_1.f
      rw [worn_f]
      rfl
    by_cases hw : worn l[i]
    · obtain ⟨r, hr, hR⟩ := ih (i + 1) (by omega)
      refine ⟨r, Ev.step (fun k => ?_) hr, ?_⟩
      · simp only [slices_IndexFunc_int64_int64_57.l0]
        rw [if_pos (by omega), if_pos (by omega), if_pos (by omega), rd_nat l i hlt, hf, decide_eq_true hw]
        simp only [Option.bind_some]
        rw [if_neg (by decide), suc64 i l.length hlt hn]
      · rw [hR, hd]
        constructor
        · rintro ⟨x, hx, hx'⟩
          exact ⟨x, List.mem_cons_of_mem _ hx, hx'⟩
        · rintro ⟨x, hx, hx'⟩
          rcases List.mem_cons.1 hx with rfl | hx
          · exact absurd hw hx'
          · exact ⟨x, hx, hx'⟩
    · refine ⟨(i : Int), Ev.step (f := fun _ => some (i : Int)) (fun k => ?_) (Ev.now _), ?_⟩
      · simp only [slices_IndexFunc_int64_int64_57.l0]
        rw [if_pos (by omega), if_pos (by omega), if_pos (by omega), rd_nat l i hlt, hf, decide_eq_false hw]
        simp only [Option.bind_some]
        rw [if_pos (by decide)]
      · rw [hd]
        exact ⟨fun _ => ⟨l[i], List.mem_cons_self, hw⟩, fun _ => by omega⟩
theorem unworn_ev (l : List Int) (hn : l.length ≤ 140737488355328) : Ev (fun k => slices_ContainsFunc_int64_int64_57.f k l) (decide (∃ x ∈ l, ¬ worn x)) := by
  obtain ⟨r, hr, hR⟩ := unworn_idx l hn l.length 0 (by omega)
  rw [List.drop_zero] at hR
  unfold slices_ContainsFunc_int64_int64_57.f slices_IndexFunc_int64_int64_57.f
  refine Ev.bind hr ?_
  have e : decide (r ≥ 0) = decide (∃ x ∈ l, ¬ worn x) := decide_eq_decide.2 hR
  rw [e]
  exact Ev.now _
set_option maxHeartbeats 2000000 in
theorem check_ev (b : List Bool) (w : List Int) (s : Int) (hn : w.length ≤ 140737488355328) : Ev (fun k => mapjnl_Check.f k b w s) (chk b w s) := by
  unfold mapjnl_Check.f
  refine Ev.bindS (fun _ => blocks_f _) ?_
  by_cases h0 : sized (b.length : Int)
  · refine Ev.iff_pos (decide_eq_true h0) ?_
    by_cases h1 : w.length = b.length
    · refine Ev.iff_pos (by omega) (Ev.bindS (fun _ => seq_f _) ?_)
      by_cases h2 : seqOK s
      · refine Ev.iff_pos (decide_eq_true h2) (Ev.bind (unworn_ev w hn) ?_)
        by_cases h3 : ∃ x ∈ w, ¬ worn x
        · rw [chk_no (fun h => by obtain ⟨x, hx, hw⟩ := h3; exact hw (h.2.2.2 x hx))]
          exact Ev.iff_pos (decide_eq_true h3) (Ev.now _)
        · rw [chk_ok ⟨h0, h1, h2, fun x hx => Decidable.byContradiction fun hw => h3 ⟨x, hx, hw⟩⟩]
          exact Ev.iff_neg (by simpa using h3) (Ev.now _)
      · rw [chk_no (fun h => h2 h.2.2.1)]
        exact Ev.iff_neg (by simpa using h2) (Ev.now _)
    · rw [chk_no (fun h => h1 h.2.1)]
      exact Ev.iff_neg (by omega) (Ev.now _)
  · rw [chk_no (fun h => h0 h.1)]
    exact Ev.iff_neg (by simpa using h0) (Ev.now _)
set_option maxHeartbeats 2000000 in
theorem rcheck_from (b : List Bool) (w : List Int) (s : Int) (hn : w.length ≤ 140737488355328) (hok : sized (b.length : Int) ∧ w.length = b.length ∧ seqOK s) (d : Nat) : ∀ i : Nat, i + d = w.length → (∀ j, j < i → ∀ h : j < w.length, worn w[j]) →
    Ev (fun k => slipwayref06_Check.l0 k (i : Int) b w s) (chk b w s) := by
  induction d with
  | zero =>
    intro i hi hw
    have hall : okS b w s := ⟨hok.1, hok.2.1, hok.2.2, fun x hx => by obtain ⟨j, hj, rfl⟩ := List.getElem_of_mem hx; exact hw j (by omega) hj⟩
    rw [chk_ok hall]
    refine Ev.step (f := fun _ => some 0) (fun k => ?_) (Ev.now _)
    simp only [slipwayref06_Check.l0]
    rw [if_neg (by omega)]
  | succ d ih =>
    intro i hi hw
    have hlt : i < w.length := by omega
    by_cases h : worn w[i]
    · refine Ev.step (fun k => ?_) (ih (i + 1) (by omega) (fun j hj hjl => ?_))
      · have h' := h
        unfold worn at h'
        simp only [slipwayref06_Check.l0]
        rw [if_pos (by omega), if_pos (by omega), rd_nat w i hlt, if_neg (by omega), if_neg (by omega), suc64 i w.length hlt hn]
      · rcases Nat.lt_or_ge j i with h1 | h1
        · exact hw j h1 hjl
        · have : j = i := by omega
          subst this
          exact h
    · rw [chk_no (fun ho => h (ho.2.2.2 _ (List.getElem_mem hlt)))]
      refine Ev.step (f := fun _ => some 60) (fun k => ?_) (Ev.now _)
      simp only [slipwayref06_Check.l0]
      rw [if_pos (by omega), if_pos (by omega), rd_nat w i hlt]
      by_cases h0 : w[i] < 0
      · rw [if_pos h0]
      · rw [if_neg h0, if_pos (by unfold worn at h; omega)]
set_option maxHeartbeats 2000000 in
theorem rcheck_j (b : List Bool) (w : List Int) (s : Int) (hn : w.length ≤ 140737488355328) (flag : Bool) (hf : flag = decide (¬ (sized (b.length : Int) ∧ w.length = b.length ∧ seqOK s))) : Ev (fun k => slipwayref06_Check.j0 k flag b w s) (chk b w s) := by
  by_cases h : sized (b.length : Int) ∧ w.length = b.length ∧ seqOK s
  · have : flag = false := by rw [hf]; simpa using h
    subst this
    refine Ev.step (fun k => ?_) (rcheck_from b w s hn h w.length 0 (by omega) (fun j hj => by omega))
    simp only [slipwayref06_Check.j0]
    rw [if_neg (by decide)]
    rfl
  · have : flag = true := by rw [hf]; exact decide_eq_true h
    subst this
    rw [chk_no (fun ho => h ⟨ho.1, ho.2.1, ho.2.2.1⟩)]
    refine Ev.step (f := fun _ => some 60) (fun k => ?_) (Ev.now _)
    simp only [slipwayref06_Check.j0]
    rw [if_pos trivial]
set_option maxHeartbeats 2000000 in
theorem rcheck_ev (b : List Bool) (w : List Int) (s : Int) (hn : w.length ≤ 140737488355328) : Ev (fun k => slipwayref06_Check.f k b w s) (chk b w s) := by
  unfold slipwayref06_Check.f
  by_cases h0 : (b.length : Int) < 16
  · exact Ev.iff_pos h0 (rcheck_j b w s hn true (tt_of (fun h => by have := h.1; unfold sized at this; omega)))
  · refine Ev.iff_neg h0 ?_
    by_cases h1 : (b.length : Int) > 256
    · exact Ev.iff_pos h1 (rcheck_j b w s hn true (tt_of (fun h => by have := h.1; unfold sized at this; omega)))
    · refine Ev.iff_neg h1 ?_
      by_cases h2 : w.length = b.length
      · refine Ev.iff_pos (by omega) ?_
        by_cases h3 : s < 0
        · exact Ev.iff_pos h3 (rcheck_j b w s hn true (tt_of (fun h => by have := h.2.2; unfold seqOK at this; omega)))
        · refine Ev.iff_neg h3 (rcheck_j b w s hn _ ?_)
          apply decide_eq_decide.2
          unfold sized seqOK
          omega
      · exact Ev.iff_neg (by omega) (rcheck_j b w s hn true (tt_of (fun h => h2 h.2.1)))
def jb (a b : List Bool) : List Bool := List.zipWith (· || ·) a b
def jw (a b : List Int) : List Int := List.zipWith mx a b
def jn (b1 : List Bool) (w1 : List Int) (s1 : Int) (b2 : List Bool) (w2 : List Int) (s2 : Int) : List Bool × List Int × Int × Int :=
  if okS b1 w1 s1 ∧ okS b2 w2 s2 then (if b1.length = b2.length then (jb b1 b2, jw w1 w2, mx s1 s2, 0) else ([], [], 0, 1)) else ([], [], 0, 60)
set_option maxHeartbeats 2000000 in
theorem eqb_from (a b : List Bool) (hlen : a.length = b.length) (hn : a.length ≤ 140737488355328) (d : Nat) : ∀ i : Nat, i + d = a.length → Ev (fun k => slices_Equal_bool_bool.l0 k a b (a.length : Int) (i : Int)) (decide (a.drop i = b.drop i)) := by
  induction d with
  | zero =>
    intro i hi
    rw [List.drop_of_length_le (by omega), List.drop_of_length_le (by omega)]
    refine Ev.step (f := fun _ => some true) (fun k => ?_) (by simpa using Ev.now true)
    simp only [slices_Equal_bool_bool.l0]
    rw [if_neg (by omega)]
  | succ d ih =>
    intro i hi0
    have hi : i < a.length := by omega
    have hb : i < b.length := by omega
    have ha' : a.drop i = a[i] :: a.drop (i + 1) := List.drop_eq_getElem_cons hi
    have hb' : b.drop i = b[i] :: b.drop (i + 1) := List.drop_eq_getElem_cons hb
    rw [ha', hb']
    by_cases he : a[i] = b[i]
    · rw [dec_cons he]
      refine Ev.step (fun k => ?_) (ih (i + 1) (by omega))
      simp only [slices_Equal_bool_bool.l0]
      rw [if_pos (by omega), if_pos (by omega), if_pos (by omega), if_pos (by omega), rd_bool a i hi, rd_bool b i hb, if_neg (by simp [he]), suc64 i a.length hi hn]
    · rw [dec_ne he]
      refine Ev.step (f := fun _ => some false) (fun k => ?_) (Ev.now _)
      simp only [slices_Equal_bool_bool.l0]
      rw [if_pos (by omega), if_pos (by omega), if_pos (by omega), if_pos (by omega), rd_bool a i hi, rd_bool b i hb, if_pos (by simpa using he)]
theorem eqb_ev (a b : List Bool) (hn : a.length ≤ 140737488355328) : Ev (fun k => slices_Equal_bool_bool.f k a b) (decide (a = b)) := by
  unfold slices_Equal_bool_bool.f
  by_cases h : a.length = b.length
  · have := eqb_from a b h hn a.length 0 (by omega)
    rw [List.drop_zero, List.drop_zero] at this
    exact Ev.iff_pos (by omega) this
  · have e : decide (a = b) = false := by simp; intro he; exact h (by rw [he])
    rw [e]
    exact Ev.iff_neg (by omega) (Ev.now _)
set_option maxHeartbeats 2000000 in
theorem eqi_from (a b : List Int) (hlen : a.length = b.length) (hn : a.length ≤ 140737488355328) (d : Nat) : ∀ i : Nat, i + d = a.length → Ev (fun k => slices_Equal_int64_int64.l0 k a b (a.length : Int) (i : Int)) (decide (a.drop i = b.drop i)) := by
  induction d with
  | zero =>
    intro i hi
    rw [List.drop_of_length_le (by omega), List.drop_of_length_le (by omega)]
    refine Ev.step (f := fun _ => some true) (fun k => ?_) (by simpa using Ev.now true)
    simp only [slices_Equal_int64_int64.l0]
    rw [if_neg (by omega)]
  | succ d ih =>
    intro i hi0
    have hi : i < a.length := by omega
    have hb : i < b.length := by omega
    have ha' : a.drop i = a[i] :: a.drop (i + 1) := List.drop_eq_getElem_cons hi
    have hb' : b.drop i = b[i] :: b.drop (i + 1) := List.drop_eq_getElem_cons hb
    rw [ha', hb']
    by_cases he : a[i] = b[i]
    · rw [dec_cons he]
      refine Ev.step (fun k => ?_) (ih (i + 1) (by omega))
      simp only [slices_Equal_int64_int64.l0]
      rw [if_pos (by omega), if_pos (by omega), if_pos (by omega), if_pos (by omega), rd_nat a i hi, rd_nat b i hb, if_pos he, suc64 i a.length hi hn]
    · rw [dec_ne he]
      refine Ev.step (f := fun _ => some false) (fun k => ?_) (Ev.now _)
      simp only [slices_Equal_int64_int64.l0]
      rw [if_pos (by omega), if_pos (by omega), if_pos (by omega), if_pos (by omega), rd_nat a i hi, rd_nat b i hb, if_neg he]
theorem eqi_ev (a b : List Int) (hn : a.length ≤ 140737488355328) : Ev (fun k => slices_Equal_int64_int64.f k a b) (decide (a = b)) := by
  unfold slices_Equal_int64_int64.f
  by_cases h : a.length = b.length
  · have := eqi_from a b h hn a.length 0 (by omega)
    rw [List.drop_zero, List.drop_zero] at this
    exact Ev.iff_pos (by omega) this
  · have e : decide (a = b) = false := by simp; intro he; exact h (by rw [he])
    rw [e]
    exact Ev.iff_neg (by omega) (Ev.now _)
set_option maxHeartbeats 2000000 in
theorem reqb_from (a b : List Bool) (hlen : a.length = b.length) (hn : a.length ≤ 140737488355328) (d : Nat) : ∀ i : Nat, i + d = a.length → Ev (fun k => slipwayref06_bools.l0 k a b (i : Int)) (decide (a.drop i = b.drop i)) := by
  induction d with
  | zero =>
    intro i hi
    rw [List.drop_of_length_le (by omega), List.drop_of_length_le (by omega)]
    refine Ev.step (f := fun _ => some true) (fun k => ?_) (by simpa using Ev.now true)
    simp only [slipwayref06_bools.l0]
    rw [if_neg (by omega)]
  | succ d ih =>
    intro i hi0
    have hi : i < a.length := by omega
    have hb : i < b.length := by omega
    have ha' : a.drop i = a[i] :: a.drop (i + 1) := List.drop_eq_getElem_cons hi
    have hb' : b.drop i = b[i] :: b.drop (i + 1) := List.drop_eq_getElem_cons hb
    rw [ha', hb']
    by_cases he : a[i] = b[i]
    · rw [dec_cons he]
      refine Ev.step (fun k => ?_) (ih (i + 1) (by omega))
      simp only [slipwayref06_bools.l0]
      rw [if_pos (by omega), if_pos (by omega), if_pos (by omega), rd_bool a i hi, rd_bool b i hb, if_neg (by simp [he]), suc64 i a.length hi hn]
    · rw [dec_ne he]
      refine Ev.step (f := fun _ => some false) (fun k => ?_) (Ev.now _)
      simp only [slipwayref06_bools.l0]
      rw [if_pos (by omega), if_pos (by omega), if_pos (by omega), rd_bool a i hi, rd_bool b i hb, if_pos (by simpa using he)]
theorem reqb_ev (a b : List Bool) (hn : a.length ≤ 140737488355328) : Ev (fun k => slipwayref06_bools.f k a b) (decide (a = b)) := by
  unfold slipwayref06_bools.f
  by_cases h : a.length = b.length
  · have := reqb_from a b h hn a.length 0 (by omega)
    rw [List.drop_zero, List.drop_zero] at this
    exact Ev.iff_pos (by omega) this
  · have e : decide (a = b) = false := by simp; intro he; exact h (by rw [he])
    rw [e]
    exact Ev.iff_neg (by omega) (Ev.now _)
set_option maxHeartbeats 2000000 in
theorem reqi_from (a b : List Int) (hlen : a.length = b.length) (hn : a.length ≤ 140737488355328) (d : Nat) : ∀ i : Nat, i + d = a.length → Ev (fun k => slipwayref06_nums.l0 k a b (i : Int)) (decide (a.drop i = b.drop i)) := by
  induction d with
  | zero =>
    intro i hi
    rw [List.drop_of_length_le (by omega), List.drop_of_length_le (by omega)]
    refine Ev.step (f := fun _ => some true) (fun k => ?_) (by simpa using Ev.now true)
    simp only [slipwayref06_nums.l0]
    rw [if_neg (by omega)]
  | succ d ih =>
    intro i hi0
    have hi : i < a.length := by omega
    have hb : i < b.length := by omega
    have ha' : a.drop i = a[i] :: a.drop (i + 1) := List.drop_eq_getElem_cons hi
    have hb' : b.drop i = b[i] :: b.drop (i + 1) := List.drop_eq_getElem_cons hb
    rw [ha', hb']
    by_cases he : a[i] = b[i]
    · rw [dec_cons he]
      refine Ev.step (fun k => ?_) (ih (i + 1) (by omega))
      simp only [slipwayref06_nums.l0]
      rw [if_pos (by omega), if_pos (by omega), if_pos (by omega), rd_nat a i hi, rd_nat b i hb, if_pos he, suc64 i a.length hi hn]
    · rw [dec_ne he]
      refine Ev.step (f := fun _ => some false) (fun k => ?_) (Ev.now _)
      simp only [slipwayref06_nums.l0]
      rw [if_pos (by omega), if_pos (by omega), if_pos (by omega), rd_nat a i hi, rd_nat b i hb, if_neg he]
theorem reqi_ev (a b : List Int) (hn : a.length ≤ 140737488355328) : Ev (fun k => slipwayref06_nums.f k a b) (decide (a = b)) := by
  unfold slipwayref06_nums.f
  by_cases h : a.length = b.length
  · have := reqi_from a b h hn a.length 0 (by omega)
    rw [List.drop_zero, List.drop_zero] at this
    exact Ev.iff_pos (by omega) this
  · have e : decide (a = b) = false := by simp; intro he; exact h (by rw [he])
    rw [e]
    exact Ev.iff_neg (by omega) (Ev.now _)
def cv (b1 : List Bool) (w1 : List Int) (s1 : Int) (b2 : List Bool) (w2 : List Int) (s2 : Int) : Prop :=
  (jn b1 w1 s1 b2 w2 s2).2.2.2 = 0 ∧ (jn b1 w1 s1 b2 w2 s2).1 = b1 ∧ (jn b1 w1 s1 b2 w2 s2).2.1 = w1 ∧ (jn b1 w1 s1 b2 w2 s2).2.2.1 = s1
instance (b1 : List Bool) (w1 : List Int) (s1 : Int) (b2 : List Bool) (w2 : List Int) (s2 : Int) : Decidable (cv b1 w1 s1 b2 w2 s2) := by unfold cv; infer_instance
def nw (n : Int) : List Bool × List Int × Int × Int := if sized n then (List.replicate n.toNat false, List.replicate n.toNat 0, 0, 0) else ([], [], 0, 20)
end Go.Proofs.Ytkhbmgclklmimaa.MapEv
end
