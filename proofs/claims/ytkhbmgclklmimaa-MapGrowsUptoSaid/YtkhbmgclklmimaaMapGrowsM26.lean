/- Texts of the proof of MapGrows, part 26. -/
import Derived.Test.YtkhbmgclklmimaaMapGrowsM25
import Derived.Test.YtkhbmgclklmimaaMapGrowsM17
import Derived.Test.YtkhbmgclklmimaaMapGrowsM18
section
namespace Go.Proofs.Ytkhbmgclklmimaa.MapEv
set_option linter.unusedVariables false
set_option linter.unusedSimpArgs false
open Go.RowKit Go.Proofs.Ytkhbmgclklmimaa.Print Go.Proofs.YtkhbmgclklmimaaW.PrintWords Go.Proofs.YtkhbmgclklmimaaW.PrintLast Go.Proofs.YtkhbmgclklmimaaW.PrintMore
def okL (n : Nat) (l : List S55) : Prop := ∀ x ∈ l, okR x.f0 x.f1 x.f2 ∧ x.f1 < (n : Int)
instance (n : Nat) (l : List S55) : Decidable (okL n l) := by unfold okL; infer_instance
def up (st : S3) : St := (st.1, st.2.1, st.2.2, 0)
set_option maxHeartbeats 2000000 in
theorem app_good (l : List S55) (hn : l.length ≤ 140737488355328) (b0 : List Bool) (w0 : List Int) (s0 : Int) (d : Nat) : ∀ (i : Nat) (b : List Bool) (w : List Int) (s : Int), i + d = l.length → b.length = b0.length → w.length = b0.length → okL b0.length (l.drop i) →
    Ev (fun k => mapjnl_Apply.l0 k l (l.length : Int) (i : Int) b0 w0 s0 b w s) (up ((l.drop i).foldl ap (b, w, s))) := by
  induction d with
  | zero =>
    intro i b w s hi hb hw ho
    rw [List.drop_of_length_le (by omega)]
    refine Ev.step (f := fun _ => some (b, w, s, 0)) (fun k => ?_) (Ev.now _)
    simp only [mapjnl_Apply.l0]
    rw [if_neg (by omega)]
  | succ d ih =>
    intro i b w s hi hb hw ho
    have hlt : i < l.length := by omega
    have n1 : (i : Int) < (l.length : Int) := by omega
    have n0 : (0 : Int) ≤ (i : Int) := by omega
    have hd : l.drop i = l[i] :: l.drop (i + 1) := List.drop_eq_getElem_cons hlt
    rw [hd] at ho ⊢
    obtain ⟨hr, hy⟩ := ho _ (List.mem_cons_self ..)
    have ln := lrn_len b w s l[i].f0 l[i].f1 l[i].f2
    have cc : ¬ l[i].f1 ≥ (b0.length : Int) := by omega
    have lf := learn_f (b := b) (w := w) (s := s) hr (show l[i].f1 < (b.length : Int) by rw [hb]; exact hy) (hw.trans hb.symm)
    have r1 := ih (i + 1) (lrn b w s l[i].f0 l[i].f1 l[i].f2).1 (lrn b w s l[i].f0 l[i].f1 l[i].f2).2.1 (lrn b w s l[i].f0 l[i].f1 l[i].f2).2.2 (by omega) (ln.1.trans hb) (ln.2.trans hw) (fun x hx => ho x (List.mem_cons_of_mem _ hx))
    refine Ev.step (f := fun k => (mapjnl_record.f k l[i].f0 l[i].f1 l[i].f2).bind fun t243 => (if t243 = true then (if l[i].f1 ≥ (b0.length : Int) then (some (([] : List Bool), ([] : List Int), (0 : Int), (61 : Int))) else ((mapjnl_learn.f b w s l[i].f0 l[i].f1 l[i].f2).bind fun bt244 => (mapjnl_Apply.l0 k l (l.length : Int) ((i + 1 : Nat) : Int) b0 w0 s0 bt244.1 bt244.2.1 bt244.2.2))) else (some (([] : List Bool), ([] : List Int), 0, 61)))) (fun k => ?_) (Ev.bind (rec_ev _ _ _) (Ev.iff_pos (decide_eq_true hr) (Ev.iff_neg cc (Ev.bindS (fun _ => lf) r1))))
    simp only [mapjnl_Apply.l0]
    rw [if_pos n1, if_pos n0, if_pos n1, rdT l i hlt, suc64 i l.length hlt hn]
set_option maxHeartbeats 2000000 in
theorem app_bad (l : List S55) (hn : l.length ≤ 140737488355328) (b0 : List Bool) (w0 : List Int) (s0 : Int) (d : Nat) : ∀ (i : Nat) (b : List Bool) (w : List Int) (s : Int), i + d = l.length → b.length = b0.length → w.length = b0.length → ¬ okL b0.length (l.drop i) →
    Ev (fun k => mapjnl_Apply.l0 k l (l.length : Int) (i : Int) b0 w0 s0 b w s) (([] : List Bool), ([] : List Int), (0 : Int), (61 : Int)) := by
  induction d with
  | zero =>
    intro i b w s hi hb hw ho
    rw [List.drop_of_length_le (by omega)] at ho
    exact absurd (fun x hx => by cases hx) ho
  | succ d ih =>
    intro i b w s hi hb hw ho
    have hlt : i < l.length := by omega
    have n1 : (i : Int) < (l.length : Int) := by omega
    have n0 : (0 : Int) ≤ (i : Int) := by omega
    have hd : l.drop i = l[i] :: l.drop (i + 1) := List.drop_eq_getElem_cons hlt
    rw [hd] at ho
    have ln := lrn_len b w s l[i].f0 l[i].f1 l[i].f2
    refine Ev.step (f := fun k => (mapjnl_record.f k l[i].f0 l[i].f1 l[i].f2).bind fun t243 => (if t243 = true then (if l[i].f1 ≥ (b0.length : Int) then (some (([] : List Bool), ([] : List Int), (0 : Int), (61 : Int))) else ((mapjnl_learn.f b w s l[i].f0 l[i].f1 l[i].f2).bind fun bt244 => (mapjnl_Apply.l0 k l (l.length : Int) ((i + 1 : Nat) : Int) b0 w0 s0 bt244.1 bt244.2.1 bt244.2.2))) else (some (([] : List Bool), ([] : List Int), 0, 61)))) (fun k => ?_) ?_
    · simp only [mapjnl_Apply.l0]
      rw [if_pos n1, if_pos n0, if_pos n1, rdT l i hlt, suc64 i l.length hlt hn]
    · refine Ev.bind (rec_ev _ _ _) ?_
      by_cases hr : okR l[i].f0 l[i].f1 l[i].f2
      · refine Ev.iff_pos (decide_eq_true hr) ?_
        by_cases hy : l[i].f1 ≥ (b0.length : Int)
        · exact Ev.iff_pos hy (Ev.now _)
        · refine Ev.iff_neg hy (Ev.bindS (fun _ => learn_f hr (by omega) (hw.trans hb.symm)) (ih (i + 1) _ _ _ (by omega) (ln.1.trans hb) (ln.2.trans hw) (fun h => ho (fun x hx => ?_))))
          rcases List.mem_cons.1 hx with rfl | hx
          · exact ⟨hr, by omega⟩
          · exact h x hx
      · exact Ev.iff_neg (by simpa using hr) (Ev.now _)
def apl (b : List Bool) (w : List Int) (s : Int) (l : List S55) : St := if okS b w s then (if okL b.length l then up (l.foldl ap (b, w, s)) else ([], [], 0, 61)) else ([], [], 0, 60)
set_option maxHeartbeats 2000000 in
theorem apply_val (b : List Bool) (w : List Int) (s : Int) (l : List S55) (hw : w.length ≤ 140737488355328) (hn : l.length ≤ 140737488355328) : Ev (fun k => mapjnl_Apply.f k b w s l) (apl b w s l) := by
  unfold mapjnl_Apply.f apl
  by_cases c : okS b w s
  · have hl := c.len
    rw [if_pos c]
    refine Ev.bind (check_ev b w s hw) (Ev.iff_pos (chk_ok c) (Ev.bindS (fun _ => clone_f b w s hl.1 hl.2.1) ?_))
    by_cases ho : okL b.length l
    · rw [if_pos ho]
      have := app_good l hn b w s l.length 0 b w s (by omega) rfl hl.2.2 (by rw [List.drop_zero]; exact ho)
      rw [List.drop_zero] at this
      exact this
    · rw [if_neg ho]
      exact app_bad l hn b w s l.length 0 b w s (by omega) rfl hl.2.2 (by rw [List.drop_zero]; exact ho)
  · rw [if_neg c]
    have h60 : chk b w s = 60 := chk_no c
    refine Ev.bind (check_ev b w s hw) ?_
    rw [h60]
    exact Ev.iff_neg (by decide) (Ev.now _)
def okPg (P : S42) : Prop := okP P.f0 P.f1 P.f2 P.f3 P.f4 P.f5 P.f6
instance (P : S42) : Decidable (okPg P) := by unfold okPg; infer_instance
def marks (n p : Nat) (pb : List Bool) (pw : List Int) : Nat → Nat → List S55
  | 0, _ => []
  | d + 1, i => if p * 64 + i < n then (if pb.getD i false = true then [⟨1, ((p * 64 + i : Nat) : Int), 0⟩] else []) ++ ⟨2, ((p * 64 + i : Nat) : Int), pw.getD i 0⟩ :: marks n p pb pw d (i + 1) else marks n p pb pw d (i + 1)
def ops (n : Nat) (P : S42) : List S55 := if okPg P then ⟨3, 0, P.f3⟩ :: (marks n P.f2.toNat P.f4 P.f5 P.f4.length 0 ++ P.f6.filter (fun r => decide (r.f1 < (n : Int)))) else []
def zero (n : Nat) : S3 := (List.replicate n false, List.replicate n 0, 0)
theorem worn_mx {a z : Int} (ha : worn a) (hz : worn z) : worn (mx a z) := by unfold worn mx at *; omega
theorem seq_mx {a z : Int} (ha : seqOK a) (hz : seqOK z) : seqOK (mx a z) := by unfold seqOK mx at *; omega
theorem rd_worn {w : List Int} (h : ∀ x ∈ w, worn x) (y : Int) : worn (rd w y) := by
  unfold rd
  rw [List.getD_eq_getElem?_getD]
  by_cases hl : y.toNat < w.length
  · rw [List.getElem?_eq_getElem hl]
    exact h _ (List.getElem_mem hl)
  · rw [List.getElem?_eq_none (by omega)]
    unfold worn
    exact ⟨Int.le_refl _, by decide⟩
def okO (r : S55) : Prop := (r.f0 = 2 → worn r.f2) ∧ (r.f0 ≠ 1 → r.f0 ≠ 2 → seqOK r.f2)
set_option maxHeartbeats 2000000 in
theorem ap_ok {st : S3} (h : okS st.1 st.2.1 st.2.2) {r : S55} (hr : okO r) : okS (ap st r).1 (ap st r).2.1 (ap st r).2.2 := by
  obtain ⟨h1, h2, h3, h4⟩ := h
  have ln := ap_len st r
  refine ⟨by rw [ln.1]; exact h1, by rw [ln.1, ln.2]; exact h2, ?_, ?_⟩
  · unfold ap lrn
    by_cases a1 : r.f0 = 1
    · simp only [if_pos a1]; exact h3
    · by_cases a2 : r.f0 = 2
      · simp only [if_neg a1, if_pos a2]; exact h3
      · simp only [if_neg a1, if_neg a2]; exact seq_mx h3 (hr.2 a1 a2)
  · unfold ap lrn
    by_cases a1 : r.f0 = 1
    · simp only [if_pos a1]; exact h4
    · by_cases a2 : r.f0 = 2
      · simp only [if_neg a1, if_pos a2]
        intro x hx
        rcases List.mem_or_eq_of_mem_set hx with hx | rfl
        · exact h4 x hx
        · exact worn_mx (rd_worn h4 _) (hr.1 a2)
      · simp only [if_neg a1, if_neg a2]; exact h4
theorem fold_ok : ∀ (l : List S55) (st : S3), okS st.1 st.2.1 st.2.2 → (∀ r ∈ l, okO r) → okS (l.foldl ap st).1 (l.foldl ap st).2.1 (l.foldl ap st).2.2
  | [], _, h, _ => h
  | r :: l, st, h, hr => by
    rw [List.foldl_cons]
    exact fold_ok l (ap st r) (ap_ok h (hr r (List.mem_cons_self ..))) (fun x hx => hr x (List.mem_cons_of_mem _ hx))
theorem okO_of {r : S55} (h : okR r.f0 r.f1 r.f2) : okO r := by
  refine ⟨fun h2 => ?_, fun n1 n2 => ?_⟩
  · rcases h with ⟨h, _⟩ | ⟨_, _, h⟩ | ⟨h, _⟩
    · omega
    · exact h
    · omega
  · rcases h with ⟨h, _⟩ | ⟨h, _⟩ | ⟨_, _, h⟩
    · omega
    · omega
    · exact h
end Go.Proofs.Ytkhbmgclklmimaa.MapEv
end
