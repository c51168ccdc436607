/- Texts of the proof of MapPages, part 22. -/
import Derived.Test.YtkhbmgclklmimaaMapPagesM21
import Derived.Test.YtkhbmgclklmimaaMapPagesM14
import Derived.Test.YtkhbmgclklmimaaMapPagesM15
import Derived.Test.YtkhbmgclklmimaaMapPagesM16
import Derived.Test.YtkhbmgclklmimaaMapPagesM17
section
namespace Go.Proofs.Ytkhbmgclklmimaa.MapEv
set_option linter.unusedVariables false
set_option linter.unusedSimpArgs false
open Go.RowKit Go.Proofs.Ytkhbmgclklmimaa.Print Go.Proofs.YtkhbmgclklmimaaW.PrintWords Go.Proofs.YtkhbmgclklmimaaW.PrintLast Go.Proofs.YtkhbmgclklmimaaW.PrintMore
set_option maxHeartbeats 2000000 in
theorem unrec2_idx (l : List S55) (hn : l.length ≤ 140737488355328) (d : Nat) : ∀ i : Nat, i + d = l.length → ∃ r, Ev (fun k => api_MapRecord_81_69.l0 k l (l.length : Int) (i : Int)) r ∧ (0 ≤ r ↔ ∃ x ∈ l.drop i, ¬ okR x.f0 x.f1 x.f2) := by
  induction d with
  | zero =>
    intro i hi
    refine ⟨-1, Ev.step (f := fun _ => some (-1)) (fun k => ?_) (Ev.now _), ?_⟩
    · simp only [api_MapRecord_81_69.l0]
      rw [if_neg (by omega)]
    · rw [List.drop_of_length_le (by omega)]
      simp
  | succ d ih =>
    intro i hi
    have hlt : i < l.length := by omega
    have n0 : (0 : Int) ≤ (i : Int) := by omega
    have n1 : (i : Int) < (l.length : Int) := by omega
    have hd : l.drop i = l[i] :: l.drop (i + 1) := List.drop_eq_getElem_cons hlt
    have A : ∀ {r}, Ev (fun k => (mapjnl_record.f k l[i].f0 l[i].f1 l[i].f2).bind fun t492 => (if (!t492) = true then (some (i : Int)) else (api_MapRecord_81_69.l0 k l (l.length : Int) ((i + 1 : Nat) : Int)))) r → Ev (fun k => api_MapRecord_81_69.l0 k l (l.length : Int) (i : Int)) r := fun {r} h => by
      refine Ev.step (fun k => ?_) h
      simp only [api_MapRecord_81_69.l0, mapjnl_Records_1.f]
      rw [if_pos n1, if_pos n0, if_pos n1, rdT l i hlt, suc64 i l.length hlt hn]
      cases mapjnl_record.f k l[i].f0 l[i].f1 l[i].f2 <;> rfl
    by_cases hw : okR l[i].f0 l[i].f1 l[i].f2
    · obtain ⟨r, hr, hR⟩ := ih (i + 1) (by omega)
      refine ⟨r, A (Ev.bind (rec_ev _ _ _) (Ev.iff_neg (by simpa using hw) hr)), ?_⟩
      rw [hR, hd]
      constructor
      · rintro ⟨x, hx, hx'⟩
        exact ⟨x, List.mem_cons_of_mem _ hx, hx'⟩
      · rintro ⟨x, hx, hx'⟩
        rcases List.mem_cons.1 hx with rfl | hx
        · exact absurd hw hx'
        · exact ⟨x, hx, hx'⟩
    · refine ⟨(i : Int), A (Ev.bind (rec_ev _ _ _) (Ev.iff_pos (by simpa using hw) (Ev.now _))), ?_⟩
      rw [hd]
      exact ⟨fun _ => ⟨l[i], List.mem_cons_self, hw⟩, fun _ => n0⟩
theorem unrec2_ev (l : List S55) (hn : l.length ≤ 140737488355328) : Ev (fun k => api_MapRecord_68_69.f k l) (decide (∃ x ∈ l, ¬ okR x.f0 x.f1 x.f2)) := by
  obtain ⟨r, hr, hR⟩ := unrec2_idx l hn l.length 0 (by omega)
  rw [List.drop_zero] at hR
  unfold api_MapRecord_68_69.f api_MapRecord_81_69.f
  refine Ev.bind hr ?_
  have e : decide (r ≥ 0) = decide (∃ x ∈ l, ¬ okR x.f0 x.f1 x.f2) := decide_eq_decide.2 hR
  rw [e]
  exact Ev.now _
set_option maxHeartbeats 2000000 in
theorem rcs_ev (g : Int) (l : List S55) (hr : l.length ≤ 140737488355328) : Ev (fun k => mapjnl_Records.f k g l) (rcs g l) := by
  unfold mapjnl_Records.f
  refine Ev.bindS (fun _ => gen_f g) ?_
  by_cases hg : seqOK g
  · refine Ev.iff_pos (decide_eq_true hg) ?_
    by_cases hl : l.length ≤ 24
    · refine Ev.iff_neg (by omega) (Ev.bind (unrec2_ev l hr) ?_)
      by_cases c : ∃ x ∈ l, ¬ okR x.f0 x.f1 x.f2
      · have e : rcs g l = (0, 0, 0, 0, [], [], [], 61) := by
          unfold rcs
          rw [if_pos hg, if_pos hl, if_neg (fun h => by obtain ⟨x, hx, hx'⟩ := c; exact hx' (h x hx))]
        rw [e]
        exact Ev.iff_pos (decide_eq_true c) (Ev.now _)
      · have e : rcs g l = (2, g, 0, 0, [], [], l, 0) := by
          unfold rcs
          rw [if_pos hg, if_pos hl, if_pos (fun x hx => Decidable.byContradiction fun h => c ⟨x, hx, h⟩)]
        rw [e]
        refine Ev.iff_neg (by simpa using c) (Ev.bindS (a := l) (fun _ => ?_) (Ev.now _))
        unfold api_MapRecord_36.f
        simp only [Option.bind_some, List.length_nil, Nat.zero_add, List.nil_append]
        rw [if_pos (by omega)]
    · have e : rcs g l = (0, 0, 0, 0, [], [], [], 3) := by unfold rcs; rw [if_pos hg, if_neg hl]
      rw [e]
      exact Ev.iff_pos (by omega) (Ev.now _)
  · have e : rcs g l = (0, 0, 0, 0, [], [], [], 1) := by unfold rcs; rw [if_neg hg]
    rw [e]
    exact Ev.iff_neg (by simpa using hg) (Ev.now _)
theorem rcs_len (g : Int) (l : List S55) : (rcs g l).2.2.2.2.1.length ≤ 256 ∧ (rcs g l).2.2.2.2.2.1.length ≤ 256 ∧ (rcs g l).2.2.2.2.2.2.1.length ≤ 256 := by
  unfold rcs
  split
  · split
    · split
      · refine ⟨by simp, by simp, by simp only []; omega⟩
      · simp
    · simp
  · simp
def prt (a : Int) : Int := if sized a then wrap64 (Int.tdiv (wrap64 (wrap64 (a + 64) - 1)) 64) else 0
theorem parts_f (a : Int) : mapjnl_Parts.f a = some (prt a) := by
  unfold mapjnl_Parts.f prt
  rw [blocks_f]
  simp only [Option.bind_some]
  by_cases h : sized a
  · rw [if_pos (decide_eq_true h), if_pos h]
  · rw [if_neg (by simpa using h), if_neg h]
theorem rparts_f (a : Int) : slipwayref06_Parts.f a = some (prt a) := by
  unfold slipwayref06_Parts.f prt
  by_cases h0 : a < 16
  · rw [if_pos h0, if_neg (show ¬ sized a by unfold sized; omega)]
  · rw [if_neg h0]
    by_cases h1 : a > 256
    · rw [if_pos h1, if_neg (show ¬ sized a by unfold sized; omega)]
    · rw [if_neg h1, if_pos (show sized a by unfold sized; omega)]
def prn (n : Nat) : Nat := (n + 63) / 64
theorem prt_nat {n : Nat} (h : sized (n : Int)) : prt (n : Int) = ((prn n : Nat) : Int) := by
  unfold prt prn
  rw [if_pos h]
  unfold sized at h
  rw [w64 (n := (n : Int) + 64) (by omega) (by omega), w64 (n := (n : Int) + 64 - 1) (by omega) (by omega), Int.tdiv_eq_ediv_of_nonneg (by omega), w64 (by omega) (by omega)]
  omega
def upto (i n : Nat) : Nat := min ((i + 1) * 64) n
def pgOf (b : List Bool) (w : List Int) (s g : Int) (i : Nat) : S42 := ⟨1, g, (i : Int), s, (b.take (upto i b.length)).drop (i * 64), (w.take (upto i b.length)).drop (i * 64), []⟩
theorem ck_from (i : Nat) (hi : i ≤ 4) : wrap64 ((i : Int) * 64) = ((i * 64 : Nat) : Int) := by rw [w64 (by omega) (by omega)]; omega
theorem ck_to (i n : Nat) (hi : i ≤ 4) (hn : n ≤ 256) : mn (wrap64 (wrap64 ((i : Int) + 1) * 64)) (n : Int) = ((upto i n : Nat) : Int) := by
  rw [w64 (n := (i : Int) + 1) (by omega) (by omega), w64 (by omega) (by omega)]
  unfold mn upto
  omega
theorem ck_to' (i n : Nat) (hi : i ≤ 4) (hn : n ≤ 256) : mn (wrap64 (((i * 64 : Nat) : Int) + 64)) (n : Int) = ((upto i n : Nat) : Int) := by
  rw [w64 (by omega) (by omega)]
  unfold mn upto
  omega
set_option maxHeartbeats 2000000 in
theorem ck_page (b : List Bool) (w : List Int) (s g : Int) (hb : sized (b.length : Int)) (hw : w.length = b.length) (d : Nat) : ∀ (i : Nat) (x : List S42), i + d = prn b.length → x.length = i → (∀ y ∈ x, y.f4.length ≤ 256 ∧ y.f5.length ≤ 256 ∧ y.f6.length ≤ 256) →
    ∃ r : List S42 × Int, Ev (fun k => mapjnl_Checkpoint.l0 k g x ((prn b.length : Nat) : Int) (i : Int) b w s) r ∧ Ev (fun k => slipwayref06_Checkpoint.l0 k g x (i : Int) b w s) r ∧ r.1.length ≤ 256 ∧ (∀ y ∈ r.1, y.f4.length ≤ 256 ∧ y.f5.length ≤ 256 ∧ y.f6.length ≤ 256) := by
  have hs := hb
  unfold sized at hs
  have hp4 : prn b.length ≤ 4 := by unfold prn; omega
  have hp := prt_nat hb
  induction d with
  | zero =>
    intro i x hi hx hy
    refine ⟨(x, 0), Ev.step (f := fun _ => some (x, 0)) (fun k => ?_) (Ev.now _), Ev.step (f := fun _ => some (x, 0)) (fun k => ?_) (Ev.now _), by simp only []; omega, hy⟩
    · simp only [mapjnl_Checkpoint.l0]
      rw [if_neg (by omega)]
    · simp only [slipwayref06_Checkpoint.l0]
      rw [rparts_f, hp]
      simp only [Option.bind_some]
      rw [if_neg (by omega)]
  | succ d ih =>
    intro i x hi hx hy
    have hi4 : i ≤ 4 := by omega
    have hn : b.length ≤ 256 := by omega
    have hlt : i < prn b.length := by omega
    have h64 : i * 64 < b.length := by unfold prn at hlt; omega
    have u1 : i * 64 ≤ upto i b.length := by unfold upto; omega
    have u2 : upto i b.length ≤ b.length := by unfold upto; omega
    have n0 : (0 : Int) ≤ ((i * 64 : Nat) : Int) := by omega
    have n1 : ((i : Nat) : Int) < ((prn b.length : Nat) : Int) := by omega
    have n2 : ((i * 64 : Nat) : Int) ≤ ((upto i b.length : Nat) : Int) := by omega
    have n3 : ((upto i b.length : Nat) : Int) ≤ (b.length : Int) := by omega
    have n4 : ((upto i b.length : Nat) : Int) ≤ (w.length : Int) := by omega
    have x1 : x.length < 1353245080339 := by omega
    have lb : ((b.take (upto i b.length)).drop (i * 64)).length ≤ 256 := by rw [List.length_drop, List.length_take]; omega
    have lw : ((w.take (upto i b.length)).drop (i * 64)).length ≤ 256 := by rw [List.length_drop, List.length_take]; omega
    have cb : slices_Clone_bool_bool.f ((b.take (upto i b.length)).drop (i * 64)) = some ((b.take (upto i b.length)).drop (i * 64)) := by
      unfold slices_Clone_bool_bool.f
      simp only [Option.bind_some, List.length_nil, Nat.zero_add, List.nil_append]
      rw [if_pos (by omega)]
    have cw : slices_Clone_int64_int64.f ((w.take (upto i b.length)).drop (i * 64)) = some ((w.take (upto i b.length)).drop (i * 64)) := by
      unfold slices_Clone_int64_int64.f
      simp only [Option.bind_some, List.length_nil, Nat.zero_add, List.nil_append]
      rw [if_pos (by omega)]
    have lb' : ([] : List Bool).length + ((b.take (upto i b.length)).drop (i * 64)).length < 140737488355328 := by simp only [List.length_nil]; omega
    have lw' : ([] : List Int).length + ((w.take (upto i b.length)).drop (i * 64)).length < 17592186044416 := by simp only [List.length_nil]; omega
    have hl4 : (4 : Nat) ≤ 140737488355328 := by omega
    obtain ⟨r, r1, r2, r3, r4⟩ := ih (i + 1) (x ++ [pgOf b w s g i]) (by omega) (by simp [hx]) (fun y hy' => by
      rcases List.mem_append.1 hy' with h | h
      · exact hy y h
      · have : y = pgOf b w s g i := by simpa using h
        subst this
        exact ⟨lb, lw, by simp [pgOf]⟩)
    refine ⟨r, Ev.step (fun k => ?_) r1, Ev.step (fun k => ?_) r2, r3, r4⟩
    · simp only [mapjnl_Checkpoint.l0]
      rw [if_pos n1, ck_from i hi4, if_pos n0, ck_to i b.length hi4 hn, if_pos n2, if_pos n3, Int.toNat_natCast, Int.toNat_natCast, cb]
      simp only [Option.bind_some]
      rw [if_pos n4, cw]
      simp only [Option.bind_some]
      rw [if_pos x1, suc64 i 4 (by omega) hl4]
      rfl
    · simp only [slipwayref06_Checkpoint.l0]
      rw [rparts_f, hp]
      simp only [Option.bind_some]
      rw [if_pos n1, ck_from i hi4, if_pos n0, ck_to' i b.length hi4 hn, if_pos n2, if_pos n3, Int.toNat_natCast, Int.toNat_natCast, if_pos lb', if_pos n4, if_pos lw', if_pos x1, suc64 i 4 (by omega) hl4, List.nil_append, List.nil_append]
      rfl
set_option maxHeartbeats 2000000 in
theorem checkpoint_ev (b : List Bool) (w : List Int) (s g : Int) (hw : w.length ≤ 140737488355328) :
    ∃ r : List S42 × Int, Ev (fun k => mapjnl_Checkpoint.f k b w s g) r ∧ Ev (fun k => slipwayref06_Checkpoint.f k b w s g) r ∧ r.1.length ≤ 256 ∧ (∀ y ∈ r.1, y.f4.length ≤ 256 ∧ y.f5.length ≤ 256 ∧ y.f6.length ≤ 256) := by
  unfold mapjnl_Checkpoint.f slipwayref06_Checkpoint.f
  by_cases c : okS b w s
  · have J : ∀ {q} (flag : Bool), flag = decide (¬ seqOK g) → (seqOK g → Ev (fun k => slipwayref06_Checkpoint.l0 k g [] 0 b w s) q) → (¬ seqOK g → q = ([], 1)) → Ev (fun k => slipwayref06_Checkpoint.j0 k g flag b w s) q := fun {q} flag hf h1 h2 => by
      by_cases hg : seqOK g
      · have : flag = false := by rw [hf]; simpa using hg
        subst this
        refine Ev.step (fun k => ?_) (h1 hg)
        simp only [slipwayref06_Checkpoint.j0]
        rw [if_neg (by decide)]
      · have : flag = true := by rw [hf]; exact decide_eq_true hg
        subst this
        rw [h2 hg]
        refine Ev.step (f := fun _ => some ([], 1)) (fun k => ?_) (Ev.now _)
        simp only [slipwayref06_Checkpoint.j0]
        rw [if_pos trivial]
    have F : ∀ {q}, (∀ flag : Bool, flag = decide (¬ seqOK g) → Ev (fun k => slipwayref06_Checkpoint.j0 k g flag b w s) q) → Ev (fun k => if g < 0 then (slipwayref06_Checkpoint.j0 k g true b w s) else (slipwayref06_Checkpoint.j0 k g (decide (g > 1152921504606846976)) b w s)) q := fun {q} h => by
      by_cases h0 : g < 0
      · exact Ev.iff_pos h0 (h true (tt_of (fun hg => by unfold seqOK at hg; omega)))
      · refine Ev.iff_neg h0 (h _ (decide_eq_decide.2 ?_))
        unfold seqOK
        omega
    by_cases hg : seqOK g
    · obtain ⟨r, r1, r2, r3, r4⟩ := ck_page b w s g c.1 c.2.1 (prn b.length) 0 [] (by omega) rfl (fun y hy => by cases hy)
      refine ⟨r, Ev.bind (check_ev b w s hw) (Ev.iff_pos (chk_ok c) (Ev.bindS (fun _ => gen_f g) (Ev.iff_pos (decide_eq_true hg) (Ev.bindS (fun _ => (parts_f _).trans (congrArg some (prt_nat c.1))) r1)))), Ev.bind (rcheck_ev b w s hw) (Ev.iff_pos (chk_ok c) (F (fun flag hf => J flag hf (fun _ => r2) (fun h => absurd hg h)))), r3, r4⟩
    · refine ⟨([], 1), Ev.bind (check_ev b w s hw) (Ev.iff_pos (chk_ok c) (Ev.bindS (fun _ => gen_f g) (Ev.iff_neg (by simpa using hg) (Ev.now _)))), Ev.bind (rcheck_ev b w s hw) (Ev.iff_pos (chk_ok c) (F (fun flag hf => J flag hf (fun h => absurd h hg) (fun _ => rfl)))), by simp, fun y hy => by cases hy⟩
  · have h60 : ¬ chk b w s = 0 := fun h => c (chk_zero h)
    exact ⟨([], chk b w s), Ev.bind (check_ev b w s hw) (Ev.iff_neg h60 (Ev.now _)), Ev.bind (rcheck_ev b w s hw) (Ev.iff_neg h60 (Ev.now _)), by simp, fun y hy => by cases hy⟩
set_option maxHeartbeats 2000000 in
theorem rec_both (a b : List S55) (hn : a.length ≤ 140737488355328) : ∃ r : Bool, Ev (fun k => api_MapRecord_70.f k a b) r ∧ Ev (fun k => slipwayref06_SameRecords.f k a b) r ∧ (a = b → r = true) := by
  unfold api_MapRecord_70.f slipwayref06_SameRecords.f
  by_cases h : a.length = b.length
  · have from_ : ∀ (d i : Nat), i + d = a.length → ∃ r : Bool, Ev (fun k => api_MapRecord_70.l0 k a b (a.length : Int) (i : Int)) r ∧ Ev (fun k => slipwayref06_SameRecords.l0 k a b (i : Int)) r ∧ (a = b → r = true) := by
      intro d
      induction d with
      | zero =>
        intro i hi
        refine ⟨true, Ev.step (f := fun _ => some true) (fun k => ?_) (Ev.now _), Ev.step (f := fun _ => some true) (fun k => ?_) (Ev.now _), fun _ => rfl⟩
        · simp only [api_MapRecord_70.l0]
          rw [if_neg (by omega)]
        · simp only [slipwayref06_SameRecords.l0]
          rw [if_neg (by omega)]
      | succ d ih =>
        intro i hi
        have hlt : i < a.length := by omega
        have n0 : (0 : Int) ≤ (i : Int) := by omega
        have n1 : (i : Int) < (a.length : Int) := by omega
        have n2 : (i : Int) < (b.length : Int) := by omega
        by_cases c : (!(((rd_T55 a (i : Int)).f0) == ((rd_T55 b (i : Int)).f0)) || (!(((rd_T55 a (i : Int)).f1) == ((rd_T55 b (i : Int)).f1)) || (!(((rd_T55 a (i : Int)).f2) == ((rd_T55 b (i : Int)).f2))))) = true
        · refine ⟨false, Ev.step (f := fun _ => some false) (fun k => ?_) (Ev.now _), Ev.step (f := fun _ => some false) (fun k => ?_) (Ev.now _), fun e => ?_⟩
          · simp only [api_MapRecord_70.l0]
            rw [if_pos n1, if_pos n0, if_pos n1, if_pos n2, if_pos c]
          · simp only [slipwayref06_SameRecords.l0]
            rw [if_pos n1, if_pos n0, if_pos n2, if_pos c]
          · subst e
            simp at c
        · obtain ⟨r, r1, r2, r3⟩ := ih (i + 1) (by omega)
          refine ⟨r, Ev.step (fun k => ?_) r1, Ev.step (fun k => ?_) r2, r3⟩
          · simp only [api_MapRecord_70.l0]
            rw [if_pos n1, if_pos n0, if_pos n1, if_pos n2, if_neg c, suc64 i a.length hlt hn]
          · simp only [slipwayref06_SameRecords.l0]
            rw [if_pos n1, if_pos n0, if_pos n2, if_neg c, suc64 i a.length hlt hn]
    obtain ⟨r, r1, r2, r3⟩ := from_ a.length 0 (by omega)
    exact ⟨r, Ev.iff_pos (by omega) r1, Ev.iff_pos (by omega) r2, r3⟩
  · exact ⟨false, Ev.iff_neg (by omega) (Ev.now _), Ev.iff_neg (by omega) (Ev.now _), fun e => absurd (by rw [e]) h⟩
set_option maxHeartbeats 2000000 in
theorem page_both (p0 p1 p2 p3 : Int) (p4 : List Bool) (p5 : List Int) (p6 : List S55) (q0 q1 q2 q3 : Int) (q4 : List Bool) (q5 : List Int) (q6 : List S55) (h4 : p4.length ≤ 140737488355328) (h5 : p5.length ≤ 140737488355328) (h6 : p6.length ≤ 140737488355328) :
    ∃ r : Bool, Ev (fun k => mapjnl_SamePage.f k p0 p1 p2 p3 p4 p5 p6 q0 q1 q2 q3 q4 q5 q6) r ∧ Ev (fun k => slipwayref06_SamePage.f k p0 p1 p2 p3 p4 p5 p6 q0 q1 q2 q3 q4 q5 q6) r ∧ (p0 = q0 ∧ p1 = q1 ∧ p2 = q2 ∧ p3 = q3 ∧ p4 = q4 ∧ p5 = q5 ∧ p6 = q6 → r = true) := by
  unfold mapjnl_SamePage.f slipwayref06_SamePage.f
  by_cases c0 : p0 = q0
  · by_cases c1 : p1 = q1
    · by_cases c2 : p2 = q2
      · by_cases c3 : p3 = q3
        · by_cases c4 : p4 = q4
          · by_cases c5 : p5 = q5
            · obtain ⟨r, r1, r2, r3⟩ := rec_both p6 q6 h6
              exact ⟨r, Ev.iff_pos c0 (Ev.iff_pos c1 (Ev.iff_pos c2 (Ev.iff_pos c3 (Ev.bind (eqb_ev p4 q4 h4) (Ev.iff_pos (decide_eq_true c4) (Ev.bind (eqi_ev p5 q5 h5) (Ev.iff_pos (decide_eq_true c5) (Ev.bind r1 (Ev.now _))))))))),
                Ev.iff_pos c0 (Ev.iff_pos c1 (Ev.iff_pos c2 (Ev.iff_pos c3 (Ev.bind (reqb_ev p4 q4 h4) (Ev.iff_pos (decide_eq_true c4) (Ev.bind (reqi_ev p5 q5 h5) (Ev.iff_pos (decide_eq_true c5) (Ev.bind r2 (Ev.now _))))))))), fun h => r3 h.2.2.2.2.2.2⟩
            · exact ⟨false, Ev.iff_pos c0 (Ev.iff_pos c1 (Ev.iff_pos c2 (Ev.iff_pos c3 (Ev.bind (eqb_ev p4 q4 h4) (Ev.iff_pos (decide_eq_true c4) (Ev.bind (eqi_ev p5 q5 h5) (Ev.iff_neg (by simpa using c5) (Ev.now _)))))))),
                Ev.iff_pos c0 (Ev.iff_pos c1 (Ev.iff_pos c2 (Ev.iff_pos c3 (Ev.bind (reqb_ev p4 q4 h4) (Ev.iff_pos (decide_eq_true c4) (Ev.bind (reqi_ev p5 q5 h5) (Ev.iff_neg (by simpa using c5) (Ev.now _)))))))), fun h => absurd h.2.2.2.2.2.1 c5⟩
          · exact ⟨false, Ev.iff_pos c0 (Ev.iff_pos c1 (Ev.iff_pos c2 (Ev.iff_pos c3 (Ev.bind (eqb_ev p4 q4 h4) (Ev.iff_neg (by simpa using c4) (Ev.now _)))))),
              Ev.iff_pos c0 (Ev.iff_pos c1 (Ev.iff_pos c2 (Ev.iff_pos c3 (Ev.bind (reqb_ev p4 q4 h4) (Ev.iff_neg (by simpa using c4) (Ev.now _)))))), fun h => absurd h.2.2.2.2.1 c4⟩
        · exact ⟨false, Ev.iff_pos c0 (Ev.iff_pos c1 (Ev.iff_pos c2 (Ev.iff_neg c3 (Ev.now _)))), Ev.iff_pos c0 (Ev.iff_pos c1 (Ev.iff_pos c2 (Ev.iff_neg c3 (Ev.now _)))), fun h => absurd h.2.2.2.1 c3⟩
      · exact ⟨false, Ev.iff_pos c0 (Ev.iff_pos c1 (Ev.iff_neg c2 (Ev.now _))), Ev.iff_pos c0 (Ev.iff_pos c1 (Ev.iff_neg c2 (Ev.now _))), fun h => absurd h.2.2.1 c2⟩
    · exact ⟨false, Ev.iff_pos c0 (Ev.iff_neg c1 (Ev.now _)), Ev.iff_pos c0 (Ev.iff_neg c1 (Ev.now _)), fun h => absurd h.2.1 c1⟩
  · exact ⟨false, Ev.iff_neg c0 (Ev.now _), Ev.iff_neg c0 (Ev.now _), fun h => absurd h.1 c0⟩
set_option maxHeartbeats 2000000 in
theorem pages_refl (l : List S42) (hn : l.length ≤ 256) (hl : ∀ y ∈ l, y.f4.length ≤ 256 ∧ y.f5.length ≤ 256 ∧ y.f6.length ≤ 256) : Ev (fun k => slipwayref06_SamePages.f k l l) true := by
  have from_ : ∀ (d i : Nat), i + d = l.length → Ev (fun k => slipwayref06_SamePages.l0 k l l (i : Int)) true := by
    intro d
    induction d with
    | zero =>
      intro i hi
      refine Ev.step (f := fun _ => some true) (fun k => ?_) (Ev.now _)
      simp only [slipwayref06_SamePages.l0]
      rw [if_neg (by omega)]
    | succ d ih =>
      intro i hi
      have hlt : i < l.length := by omega
      have n0 : (0 : Int) ≤ (i : Int) := by omega
      have n1 : (i : Int) < (l.length : Int) := by omega
      have hl2 : l.length ≤ 140737488355328 := by omega
      obtain ⟨y4, y5, y6⟩ := hl _ (List.getElem_mem hlt)
      generalize hP : l[i] = P at y4 y5 y6
      have hg : rd_T42 l (i : Int) = P := by rw [← hP]; simp [rd_T42, List.getD_eq_getElem?_getD, hlt]
      obtain ⟨r, _, r2, r3⟩ := page_both P.f0 P.f1 P.f2 P.f3 P.f4 P.f5 P.f6 P.f0 P.f1 P.f2 P.f3 P.f4 P.f5 P.f6 (by omega) (by omega) (by omega)
      have := r3 ⟨rfl, rfl, rfl, rfl, rfl, rfl, rfl⟩
      subst this
      refine Ev.step (f := fun k => (slipwayref06_SamePage.f k P.f0 P.f1 P.f2 P.f3 P.f4 P.f5 P.f6 P.f0 P.f1 P.f2 P.f3 P.f4 P.f5 P.f6).bind fun t515 => (if t515 = true then (slipwayref06_SamePages.l0 k l l ((i + 1 : Nat) : Int)) else (some false))) (fun k => ?_) (Ev.bind r2 (Ev.iff_pos rfl (ih (i + 1) (by omega))))
      simp only [slipwayref06_SamePages.l0]
      rw [if_pos n1, if_pos n0, if_pos n1, hg, suc64 i l.length hlt hl2]
  unfold slipwayref06_SamePages.f
  exact Ev.iff_pos rfl (from_ l.length 0 (by omega))
end Go.Proofs.Ytkhbmgclklmimaa.MapEv
end
