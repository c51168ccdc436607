/- Texts of the proof of MapOrder, part 28. -/
import Derived.Test.YtkhbmgclklmimaaMapOrderM27
import Derived.Test.YtkhbmgclklmimaaMapOrderM20
import Derived.Test.YtkhbmgclklmimaaMapOrderM21
section
namespace Go.Proofs.Ytkhbmgclklmimaa.MapEv
set_option linter.unusedVariables false
set_option linter.unusedSimpArgs false
open Go.RowKit Go.Proofs.Ytkhbmgclklmimaa.Print Go.Proofs.YtkhbmgclklmimaaW.PrintWords Go.Proofs.YtkhbmgclklmimaaW.PrintLast Go.Proofs.YtkhbmgclklmimaaW.PrintMore
def okL (n : Nat) (l : List S55) : Prop := ∀ x ∈ l, okR x.f0 x.f1 x.f2 ∧ x.f1 < (n : Int)
instance (n : Nat) (l : List S55) : Decidable (okL n l) := by unfold okL; infer_instance
def up (st : S3) : St := (st.1, st.2.1, st.2.2, 0)
def okPg (P : S42) : Prop := okP P.f0 P.f1 P.f2 P.f3 P.f4 P.f5 P.f6
instance (P : S42) : Decidable (okPg P) := by unfold okPg; infer_instance
def marks (n p : Nat) (pb : List Bool) (pw : List Int) : Nat → Nat → List S55
  | 0, _ => []
  | d + 1, i => if p * 64 + i < n then (if pb.getD i false = true then [⟨1, ((p * 64 + i : Nat) : Int), 0⟩] else []) ++ ⟨2, ((p * 64 + i : Nat) : Int), pw.getD i 0⟩ :: marks n p pb pw d (i + 1) else marks n p pb pw d (i + 1)
set_option maxHeartbeats 2000000 in
theorem kb_fold (p : Nat) (pb : List Bool) (pw : List Int) (s : Int) : ∀ (d i : Nat) (b : List Bool) (w : List Int),
    (marks b.length p pb pw d i).foldl ap (b, w, s) = ((kb p pb pw d i b w).1, (kb p pb pw d i b w).2, s)
  | 0, _, _, _ => rfl
  | d + 1, i, b, w => by
    unfold marks kb
    by_cases c : p * 64 + i < b.length
    · rw [if_pos c, if_pos c, List.foldl_append, List.foldl_cons]
      have key : ap ((if pb.getD i false = true then [(⟨1, ((p * 64 + i : Nat) : Int), 0⟩ : S55)] else []).foldl ap (b, w, s)) ⟨2, ((p * 64 + i : Nat) : Int), pw.getD i 0⟩ = (b.set (p * 64 + i) (b.getD (p * 64 + i) false || pb.getD i false), w.set (p * 64 + i) (mx (w.getD (p * 64 + i) 0) (pw.getD i 0)), s) := by
        cases hpb : pb.getD i false with
        | true =>
          rw [if_pos rfl, Bool.or_true]
          simp only [List.foldl_cons, List.foldl_nil, ap, lrn, if_true, if_neg (show ¬ (2 : Int) = 1 by decide), Int.toNat_natCast, rd]
        | false =>
          rw [if_neg (by decide), Bool.or_false]
          have e : b.set (p * 64 + i) (b.getD (p * 64 + i) false) = b := by
            rw [List.getD_eq_getElem?_getD, List.getElem?_eq_getElem c, Option.getD_some, List.set_getElem_self]
          rw [e]
          simp only [List.foldl_nil, ap, lrn, if_true, if_neg (show ¬ (2 : Int) = 1 by decide), Int.toNat_natCast, rd]
      rw [key]
      have := kb_fold p pb pw s d (i + 1) (b.set (p * 64 + i) (b.getD (p * 64 + i) false || pb.getD i false)) (w.set (p * 64 + i) (mx (w.getD (p * 64 + i) 0) (pw.getD i 0)))
      rw [List.length_set] at this
      exact this
    · rw [if_neg c, if_neg c]
      exact kb_fold p pb pw s d (i + 1) b w
set_option maxHeartbeats 2000000 in
theorem kr_fold : ∀ (l : List S55) (b : List Bool) (w : List Int) (s : Int), (l.filter (fun r => decide (r.f1 < (b.length : Int)))).foldl ap (b, w, s) = kr l b w s
  | [], _, _, _ => rfl
  | r :: rs, b, w, s => by
    unfold kr
    by_cases c : r.f1 < (b.length : Int)
    · rw [List.filter_cons_of_pos (by simpa using c), if_pos c, List.foldl_cons]
      have := kr_fold rs (lrn b w s r.f0 r.f1 r.f2).1 (lrn b w s r.f0 r.f1 r.f2).2.1 (lrn b w s r.f0 r.f1 r.f2).2.2
      rw [(lrn_len b w s r.f0 r.f1 r.f2).1] at this
      exact this
    · rw [List.filter_cons_of_neg (by simpa using c), if_neg c]
      exact kr_fold rs b w s
def ops (n : Nat) (P : S42) : List S55 := if okPg P then ⟨3, 0, P.f3⟩ :: (marks n P.f2.toNat P.f4 P.f5 P.f4.length 0 ++ P.f6.filter (fun r => decide (r.f1 < (n : Int)))) else []
def gstep (g : Int) (P : S42) : Int := if okPg P then mx g P.f1 else g
theorem gstep_comm (g : Int) (P Q : S42) : gstep (gstep g P) Q = gstep (gstep g Q) P := by
  unfold gstep
  by_cases a : okPg P <;> by_cases b : okPg Q <;> simp only [if_pos, if_neg, a, b, if_true, if_false]
  exact mx_comm3 _ _ _
theorem gstep_idem (g : Int) (P : S42) : gstep (gstep g P) P = gstep g P := by
  unfold gstep
  by_cases a : okPg P <;> simp only [a, if_true, if_false]
  exact mx_idem _ _
theorem gstep_le (g : Int) (P : S42) : g ≤ gstep g P := by
  unfold gstep
  split
  · exact le_mx _ _
  · exact Int.le_refl _
theorem gens_le (l : List S42) : ∀ g : Int, g ≤ l.foldl gstep g := by
  induction l with
  | nil => intro g; exact Int.le_refl _
  | cons P l ih => intro g; rw [List.foldl_cons]; exact Int.le_trans (gstep_le g P) (ih _)
def upR (st : S3) (g : Int) : Rp := (st.1, st.2.1, st.2.2, g, 0)
set_option maxHeartbeats 2000000 in
theorem rep_val (l : List S42) (hn : l.length ≤ 140737488355328) (hl : ∀ x ∈ l, x.f5.length ≤ 140737488355328 ∧ x.f6.length ≤ 140737488355328) (x0 : Int) (d : Nat) : ∀ (i : Nat) (most : Int) (b : List Bool) (w : List Int) (s : Int), i + d = l.length → (b.length : Int) = x0 → w.length = b.length → b.length ≤ 256 →
    Ev (fun k => mapjnl_Replay.l0 k x0 most l (l.length : Int) (i : Int) b w s) (upR (((l.drop i).flatMap (ops b.length)).foldl ap (b, w, s)) ((l.drop i).foldl gstep most)) := by
  induction d with
  | zero =>
    intro i most b w s hi hb hw h256
    rw [List.drop_of_length_le (by omega)]
    refine Ev.step (f := fun _ => some (b, w, s, most, 0)) (fun k => ?_) (Ev.now _)
    simp only [mapjnl_Replay.l0]
    rw [if_neg (by omega)]
  | succ d ih =>
    intro i most b w s hi hb hw h256
    have hlt : i < l.length := by omega
    have n0 : (0 : Int) ≤ (i : Int) := by omega
    have n1 : (i : Int) < (l.length : Int) := by omega
    obtain ⟨hf5, hf6⟩ := hl _ (List.getElem_mem hlt)
    have hd : l.drop i = l[i] :: l.drop (i + 1) := List.drop_eq_getElem_cons hlt
    rw [hd, List.flatMap_cons, List.foldl_append, List.foldl_cons]
    generalize hP : l[i] = P at hf5 hf6
    have hg : rd_T42 l (i : Int) = P := (rdP l i hlt).trans hP
    have A : ∀ {r}, Ev (fun k => (mapjnl_fits.f k P.f0 P.f1 P.f2 P.f3 P.f4 P.f5 P.f6).bind fun t599 => (if t599 = true then (mapjnl_Replay.l1 k x0 (mx most P.f1) l (l.length : Int) (i : Int) (P.f4.length : Int) 0 b w (mx s P.f3) P.f0 P.f1 P.f2 P.f3 P.f4 P.f5 P.f6) else (mapjnl_Replay.l0 k x0 most l (l.length : Int) ((i + 1 : Nat) : Int) b w s))) r → Ev (fun k => mapjnl_Replay.l0 k x0 most l (l.length : Int) (i : Int) b w s) r := fun {r} h => by
      refine Ev.step (fun k => ?_) h
      simp only [mapjnl_Replay.l0]
      rw [if_pos n1, if_pos n0, if_pos n1, hg, suc64 i l.length hlt hn]
    by_cases c : okPg P
    · have c' : okP P.f0 P.f1 P.f2 P.f3 P.f4 P.f5 P.f6 := c
      obtain ⟨⟨p, hp, hp3⟩, h64, hpl, hr, hok⟩ := c'.parts
      have kl := kb_len p P.f4 P.f5 P.f4.length 0 b w
      have rl := kr_len P.f6 (kb p P.f4 P.f5 P.f4.length 0 b w).1 (kb p P.f4 P.f5 P.f4.length 0 b w).2 (mx s P.f3)
      have eg : gstep most P = mx most P.f1 := if_pos c
      have eo : (ops b.length P).foldl ap (b, w, s) = kr P.f6 (kb p P.f4 P.f5 P.f4.length 0 b w).1 (kb p P.f4 P.f5 P.f4.length 0 b w).2 (mx s P.f3) := by
        unfold ops
        rw [if_pos c, List.foldl_cons, List.foldl_append]
        have e3 : ap (b, w, s) ⟨3, 0, P.f3⟩ = (b, w, mx s P.f3) := by
          simp only [ap, lrn, if_neg (show ¬ (3 : Int) = 1 by decide), if_neg (show ¬ (3 : Int) = 2 by decide)]
        rw [e3, hp, Int.toNat_natCast, kb_fold]
        have := kr_fold P.f6 (kb p P.f4 P.f5 P.f4.length 0 b w).1 (kb p P.f4 P.f5 P.f4.length 0 b w).2 (mx s P.f3)
        rw [kl.1] at this
        exact this
      rw [eg, eo]
      have r1 := ih (i + 1) (mx most P.f1) (kr P.f6 (kb p P.f4 P.f5 P.f4.length 0 b w).1 (kb p P.f4 P.f5 P.f4.length 0 b w).2 (mx s P.f3)).1 (kr P.f6 (kb p P.f4 P.f5 P.f4.length 0 b w).1 (kb p P.f4 P.f5 P.f4.length 0 b w).2 (mx s P.f3)).2.1 (kr P.f6 (kb p P.f4 P.f5 P.f4.length 0 b w).1 (kb p P.f4 P.f5 P.f4.length 0 b w).2 (mx s P.f3)).2.2 (by omega) (by rw [rl.1, kl.1]; exact hb) (by rw [rl.1, rl.2, kl.1, kl.2]; exact hw) (by rw [rl.1, kl.1]; exact h256)
      rw [rl.1, kl.1] at r1
      refine A (Ev.bind (fits_ev _ _ _ _ _ _ _ hf5 hf6) (Ev.iff_pos (decide_eq_true c) ?_))
      rw [hp]
      refine rp_l1 x0 (mx most P.f1) l (l.length : Int) (i : Int) P.f0 P.f1 P.f3 p hp3 P.f4 P.f5 P.f6 hpl h64 (mx s P.f3) P.f4.length 0 b w (by omega) hb hw ?_
      refine rp_l2 x0 (mx most P.f1) l (l.length : Int) (i : Int) P.f6 hr hok P.f6.length 0 _ _ (mx s P.f3) (by omega) (by rw [kl.1]; exact hb) (by rw [kl.1, kl.2]; exact hw) ?_
      rw [List.drop_zero, suc64 i l.length hlt hn]
      exact r1
    · have eg : gstep most P = most := if_neg c
      have eo : ops b.length P = [] := if_neg c
      rw [eg, eo, List.foldl_nil]
      exact A (Ev.bind (fits_ev _ _ _ _ _ _ _ hf5 hf6) (Ev.iff_neg (by simpa [okPg] using c) (ih (i + 1) most b w s (by omega) hb hw h256)))
def zero (n : Nat) : S3 := (List.replicate n false, List.replicate n 0, 0)
def rpl (n : Int) (l : List S42) : Rp := if sized n then upR ((l.flatMap (ops n.toNat)).foldl ap (zero n.toNat)) (l.foldl gstep 0) else ([], [], 0, 0, 20)
set_option maxHeartbeats 2000000 in
theorem replay_val (n : Int) (l : List S42) (hn : l.length ≤ 140737488355328) (hl : ∀ x ∈ l, x.f5.length ≤ 140737488355328 ∧ x.f6.length ≤ 140737488355328) : Ev (fun k => mapjnl_Replay.f k n l) (rpl n l) := by
  unfold mapjnl_Replay.f rpl
  by_cases h : sized n
  · have e : nw n = (List.replicate n.toNat false, List.replicate n.toNat 0, 0, 0) := if_pos h
    have h' := h
    unfold sized at h'
    rw [if_pos h]
    have r1 := rep_val l hn hl n l.length 0 0 (List.replicate n.toNat false) (List.replicate n.toNat 0) 0 (by omega) (by rw [List.length_replicate]; omega) (by rw [List.length_replicate, List.length_replicate]) (by rw [List.length_replicate]; omega)
    rw [List.drop_zero, List.length_replicate] at r1
    exact Ev.bindS (fun _ => (new_f n).trans (congrArg some e)) (Ev.iff_pos rfl r1)
  · have e : nw n = ([], [], 0, 20) := if_neg h
    rw [if_neg h]
    exact Ev.bindS (fun _ => (new_f n).trans (congrArg some e)) (Ev.iff_neg (by decide) (Ev.now _))
theorem worn_mx {a z : Int} (ha : worn a) (hz : worn z) : worn (mx a z) := by unfold worn mx at *; omega
theorem seq_mx {a z : Int} (ha : seqOK a) (hz : seqOK z) : seqOK (mx a z) := by unfold seqOK mx at *; omega
theorem rd_worn {w : List Int} (h : ∀ x ∈ w, worn x) (y : Int) : worn (rd w y) := by
  unfold rd
  rw [List.getD_eq_getElem?_getD]
  by_cases hl : y.toNat < w.length
  · rw [List.getElem?_eq_getElem hl]
    exact h _ (List.getElem_mem hl)
  · rw [List.getElem?_eq_none (by omega)]
    unfold worn
    exact ⟨Int.le_refl _, by decide⟩
def okO (r : S55) : Prop := (r.f0 = 2 → worn r.f2) ∧ (r.f0 ≠ 1 → r.f0 ≠ 2 → seqOK r.f2)
set_option maxHeartbeats 2000000 in
theorem ap_ok {st : S3} (h : okS st.1 st.2.1 st.2.2) {r : S55} (hr : okO r) : okS (ap st r).1 (ap st r).2.1 (ap st r).2.2 := by
  obtain ⟨h1, h2, h3, h4⟩ := h
  have ln := ap_len st r
  refine ⟨by rw [ln.1]; exact h1, by rw [ln.1, ln.2]; exact h2, ?_, ?_⟩
  · unfold ap lrn
    by_cases a1 : r.f0 = 1
    · simp only [if_pos a1]; exact h3
    · by_cases a2 : r.f0 = 2
      · simp only [if_neg a1, if_pos a2]; exact h3
      · simp only [if_neg a1, if_neg a2]; exact seq_mx h3 (hr.2 a1 a2)
  · unfold ap lrn
    by_cases a1 : r.f0 = 1
    · simp only [if_pos a1]; exact h4
    · by_cases a2 : r.f0 = 2
      · simp only [if_neg a1, if_pos a2]
        intro x hx
        rcases List.mem_or_eq_of_mem_set hx with hx | rfl
        · exact h4 x hx
        · exact worn_mx (rd_worn h4 _) (hr.1 a2)
      · simp only [if_neg a1, if_neg a2]; exact h4
theorem fold_ok : ∀ (l : List S55) (st : S3), okS st.1 st.2.1 st.2.2 → (∀ r ∈ l, okO r) → okS (l.foldl ap st).1 (l.foldl ap st).2.1 (l.foldl ap st).2.2
  | [], _, h, _ => h
  | r :: l, st, h, hr => by
    rw [List.foldl_cons]
    exact fold_ok l (ap st r) (ap_ok h (hr r (List.mem_cons_self ..))) (fun x hx => hr x (List.mem_cons_of_mem _ hx))
theorem okO_of {r : S55} (h : okR r.f0 r.f1 r.f2) : okO r := by
  refine ⟨fun h2 => ?_, fun n1 n2 => ?_⟩
  · rcases h with ⟨h, _⟩ | ⟨_, _, h⟩ | ⟨h, _⟩
    · omega
    · exact h
    · omega
  · rcases h with ⟨h, _⟩ | ⟨h, _⟩ | ⟨_, _, h⟩
    · omega
    · omega
    · exact h
set_option maxHeartbeats 2000000 in
theorem marks_ok (n p : Nat) (pb : List Bool) (pw : List Int) (h : ∀ x ∈ pw, worn x) : ∀ (d i : Nat), ∀ r ∈ marks n p pb pw d i, okO r
  | 0, _, r, hr => by simp [marks] at hr
  | d + 1, i, r, hr => by
    unfold marks at hr
    split at hr
    · rcases List.mem_append.1 hr with hr | hr
      · split at hr
        · rw [List.mem_singleton.1 hr]
          exact ⟨fun h => by simp at h, fun h => absurd rfl h⟩
        · cases hr
      · rcases List.mem_cons.1 hr with rfl | hr
        · refine ⟨fun _ => ?_, fun _ h => absurd rfl h⟩
          have := rd_worn h (i : Int)
          rwa [rd, Int.toNat_natCast] at this
        · exact marks_ok n p pb pw h d (i + 1) r hr
    · exact marks_ok n p pb pw h d (i + 1) r hr
set_option maxHeartbeats 2000000 in
theorem ops_ok (n : Nat) (P : S42) : ∀ r ∈ ops n P, okO r := by
  intro r hr
  unfold ops at hr
  split at hr
  · rename_i c
    have c' : okP P.f0 P.f1 P.f2 P.f3 P.f4 P.f5 P.f6 := c
    have hs : seqOK P.f3 ∧ (∀ x ∈ P.f5, worn x) ∧ ∀ x ∈ P.f6, okR x.f0 x.f1 x.f2 := by
      rcases c' with ⟨_, _, _, _, _, h5, h6, h7⟩ | ⟨_, _, _, h3, _, h5, _, h7⟩
      · refine ⟨h5, h7, fun x hx => ?_⟩
        rw [List.length_eq_zero_iff.1 h6] at hx
        cases hx
      · refine ⟨by rw [h3]; unfold seqOK; decide, fun x hx => ?_, h7⟩
        rw [List.length_eq_zero_iff.1 h5] at hx
        cases hx
    rcases List.mem_cons.1 hr with rfl | hr
    · exact ⟨fun h => by simp at h, fun _ _ => hs.1⟩
    · rcases List.mem_append.1 hr with hr | hr
      · exact marks_ok n _ _ _ hs.2.1 _ _ r hr
      · exact okO_of (hs.2.2 r (List.mem_filter.1 hr).1)
  · cases hr
theorem zero_ok {n : Int} (h : sized n) : okS (zero n.toNat).1 (zero n.toNat).2.1 (zero n.toNat).2.2 := by
  have h' := h
  unfold sized at h'
  unfold zero
  refine ⟨by simp only [List.length_replicate]; unfold sized; omega, by simp, by show 0 ≤ (0 : Int) ∧ (0 : Int) ≤ 1152921504606846976; omega, fun x hx => ?_⟩
  rw [List.eq_of_mem_replicate hx]
  unfold worn
  decide
end Go.Proofs.Ytkhbmgclklmimaa.MapEv
end
