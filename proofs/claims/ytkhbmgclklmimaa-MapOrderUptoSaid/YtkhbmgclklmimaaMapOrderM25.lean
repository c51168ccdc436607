/- Texts of the proof of MapOrder, part 25. -/
import Derived.Test.YtkhbmgclklmimaaMapOrderM24
import Derived.Test.YtkhbmgclklmimaaMapOrderM20
import Derived.Test.YtkhbmgclklmimaaMapOrderM21
section
namespace Go.Proofs.Ytkhbmgclklmimaa.MapEv
set_option linter.unusedVariables false
set_option linter.unusedSimpArgs false
open Go.RowKit Go.Proofs.Ytkhbmgclklmimaa.Print Go.Proofs.YtkhbmgclklmimaaW.PrintWords Go.Proofs.YtkhbmgclklmimaaW.PrintLast Go.Proofs.YtkhbmgclklmimaaW.PrintMore
theorem gen_f (a : Int) : mapjnl_gen.f a = some (decide (seqOK a)) := by
  unfold mapjnl_gen.f seqOK
  by_cases h : a ≥ 0
  · rw [if_pos h]; congr 1; simp [h]
  · rw [if_neg h]; congr 1; simp [h]
set_option maxHeartbeats 2000000 in
theorem unfit_idx (l : List Int) (hn : l.length ≤ 140737488355328) (d : Nat) : ∀ i : Nat, i + d = l.length → ∃ r, Ev (fun k => slices_IndexFunc_int64_int64_82.l0 k l (l.length : Int) (i : Int)) r ∧ (0 ≤ r ↔ ∃ x ∈ l.drop i, ¬ worn x) := by
  induction d with
  | zero =>
    intro i hi
    refine ⟨-1, Ev.step (f := fun _ => some (-1)) (fun k => ?_) (Ev.now _), ?_⟩
    · simp only [slices_IndexFunc_int64_int64_82.l0]
      rw [if_neg (by omega)]
    · rw [List.drop_of_length_le (by omega)]
      simp
  | succ d ih =>
    intro i hi
    have hlt : i < l.length := by omega
    have hd : l.drop i = l[i] :: l.drop (i + 1) := List.drop_eq_getElem_cons hlt
    have hf : mapjnl_fits_1.f l[i] = some (!decide (worn l[i])) := by
      unfold mapjnl_fits_1.f
      rw [worn_f]
      rfl
    by_cases hw : worn l[i]
    · obtain ⟨r, hr, hR⟩ := ih (i + 1) (by omega)
      refine ⟨r, Ev.step (fun k => ?_) hr, ?_⟩
      · simp only [slices_IndexFunc_int64_int64_82.l0]
        rw [if_pos (by omega), if_pos (by omega), if_pos (by omega), rd_nat l i hlt, hf, decide_eq_true hw]
        simp only [Option.bind_some]
        rw [if_neg (by decide), suc64 i l.length hlt hn]
      · rw [hR, hd]
        constructor
        · rintro ⟨x, hx, hx'⟩
          exact ⟨x, List.mem_cons_of_mem _ hx, hx'⟩
        · rintro ⟨x, hx, hx'⟩
          rcases List.mem_cons.1 hx with rfl | hx
          · exact absurd hw hx'
          · exact ⟨x, hx, hx'⟩
    · refine ⟨(i : Int), Ev.step (f := fun _ => some (i : Int)) (fun k => ?_) (Ev.now _), ?_⟩
      · simp only [slices_IndexFunc_int64_int64_82.l0]
        rw [if_pos (by omega), if_pos (by omega), if_pos (by omega), rd_nat l i hlt, hf, decide_eq_false hw]
        simp only [Option.bind_some]
        rw [if_pos (by decide)]
      · rw [hd]
        exact ⟨fun _ => ⟨l[i], List.mem_cons_self, hw⟩, fun _ => by omega⟩
theorem unfit_ev (l : List Int) (hn : l.length ≤ 140737488355328) : Ev (fun k => slices_ContainsFunc_int64_int64_82.f k l) (decide (∃ x ∈ l, ¬ worn x)) := by
  obtain ⟨r, hr, hR⟩ := unfit_idx l hn l.length 0 (by omega)
  rw [List.drop_zero] at hR
  unfold slices_ContainsFunc_int64_int64_82.f slices_IndexFunc_int64_int64_82.f
  refine Ev.bind hr ?_
  have e : decide (r ≥ 0) = decide (∃ x ∈ l, ¬ worn x) := decide_eq_decide.2 hR
  rw [e]
  exact Ev.now _
set_option maxHeartbeats 2000000 in
theorem unrec_idx (l : List S55) (hn : l.length ≤ 140737488355328) (d : Nat) : ∀ i : Nat, i + d = l.length → ∃ r, Ev (fun k => api_MapRecord_81_83.l0 k l (l.length : Int) (i : Int)) r ∧ (0 ≤ r ↔ ∃ x ∈ l.drop i, ¬ okR x.f0 x.f1 x.f2) := by
  induction d with
  | zero =>
    intro i hi
    refine ⟨-1, Ev.step (f := fun _ => some (-1)) (fun k => ?_) (Ev.now _), ?_⟩
    · simp only [api_MapRecord_81_83.l0]
      rw [if_neg (by omega)]
    · rw [List.drop_of_length_le (by omega)]
      simp
  | succ d ih =>
    intro i hi
    have hlt : i < l.length := by omega
    have n0 : (0 : Int) ≤ (i : Int) := by omega
    have n1 : (i : Int) < (l.length : Int) := by omega
    have hd : l.drop i = l[i] :: l.drop (i + 1) := List.drop_eq_getElem_cons hlt
    have A : ∀ {r}, Ev (fun k => (mapjnl_record.f k l[i].f0 l[i].f1 l[i].f2).bind fun t492 => (if (!t492) = true then (some (i : Int)) else (api_MapRecord_81_83.l0 k l (l.length : Int) ((i + 1 : Nat) : Int)))) r → Ev (fun k => api_MapRecord_81_83.l0 k l (l.length : Int) (i : Int)) r := fun {r} h => by
      refine Ev.step (fun k => ?_) h
      simp only [api_MapRecord_81_83.l0, mapjnl_fits_2.f]
      rw [if_pos n1, if_pos n0, if_pos n1, rdT l i hlt, suc64 i l.length hlt hn]
      cases mapjnl_record.f k l[i].f0 l[i].f1 l[i].f2 <;> rfl
    by_cases hw : okR l[i].f0 l[i].f1 l[i].f2
    · obtain ⟨r, hr, hR⟩ := ih (i + 1) (by omega)
      refine ⟨r, A (Ev.bind (rec_ev _ _ _) (Ev.iff_neg (by simpa using hw) hr)), ?_⟩
      rw [hR, hd]
      constructor
      · rintro ⟨x, hx, hx'⟩
        exact ⟨x, List.mem_cons_of_mem _ hx, hx'⟩
      · rintro ⟨x, hx, hx'⟩
        rcases List.mem_cons.1 hx with rfl | hx
        · exact absurd hw hx'
        · exact ⟨x, hx, hx'⟩
    · refine ⟨(i : Int), A (Ev.bind (rec_ev _ _ _) (Ev.iff_pos (by simpa using hw) (Ev.now _))), ?_⟩
      rw [hd]
      exact ⟨fun _ => ⟨l[i], List.mem_cons_self, hw⟩, fun _ => n0⟩
theorem unrec_ev (l : List S55) (hn : l.length ≤ 140737488355328) : Ev (fun k => api_MapRecord_68_83.f k l) (decide (∃ x ∈ l, ¬ okR x.f0 x.f1 x.f2)) := by
  obtain ⟨r, hr, hR⟩ := unrec_idx l hn l.length 0 (by omega)
  rw [List.drop_zero] at hR
  unfold api_MapRecord_68_83.f api_MapRecord_81_83.f
  refine Ev.bind hr ?_
  have e : decide (r ≥ 0) = decide (∃ x ∈ l, ¬ okR x.f0 x.f1 x.f2) := decide_eq_decide.2 hR
  rw [e]
  exact Ev.now _
def okP (kind gen part seq : Int) (bad : List Bool) (wear : List Int) (recs : List S55) : Prop :=
  (kind = 1 ∧ seqOK gen ∧ (0 ≤ part ∧ part ≤ 3) ∧ (1 ≤ bad.length ∧ bad.length ≤ 64) ∧ wear.length = bad.length ∧ seqOK seq ∧ recs.length = 0 ∧ ∀ x ∈ wear, worn x) ∨
  (kind = 2 ∧ seqOK gen ∧ part = 0 ∧ seq = 0 ∧ bad.length = 0 ∧ wear.length = 0 ∧ recs.length ≤ 24 ∧ ∀ x ∈ recs, okR x.f0 x.f1 x.f2)
instance (kind gen part seq : Int) (bad : List Bool) (wear : List Int) (recs : List S55) : Decidable (okP kind gen part seq bad wear recs) := by unfold okP; infer_instance
set_option maxHeartbeats 2000000 in
theorem fits_ev (kind gen part seq : Int) (bad : List Bool) (wear : List Int) (recs : List S55) (hw : wear.length ≤ 140737488355328) (hr : recs.length ≤ 140737488355328) :
    Ev (fun k => mapjnl_fits.f k kind gen part seq bad wear recs) (decide (okP kind gen part seq bad wear recs)) := by
  have no : ¬ okP kind gen part seq bad wear recs → ∀ {g : Nat → Option Bool}, Ev g false → Ev g (decide (okP kind gen part seq bad wear recs)) := fun h g hg => by rw [decide_eq_false h]; exact hg
  unfold mapjnl_fits.f
  by_cases k1 : kind = 1
  · have two : ∀ {X : Prop}, okP kind gen part seq bad wear recs → (seqOK gen ∧ (0 ≤ part ∧ part ≤ 3) ∧ (1 ≤ bad.length ∧ bad.length ≤ 64) ∧ wear.length = bad.length ∧ seqOK seq ∧ recs.length = 0 ∧ (∀ x ∈ wear, worn x) → X) → X := fun {X} h f => by
      rcases h with h | h
      · exact f h.2
      · exfalso; omega
    refine Ev.iff_pos k1 (Ev.bindS (fun _ => gen_f gen) ?_)
    by_cases c1 : seqOK gen
    · refine Ev.iff_pos (decide_eq_true c1) ?_
      by_cases c2 : part ≥ 0
      · refine Ev.iff_pos c2 ?_
        by_cases c3 : part ≤ 3
        · refine Ev.iff_pos c3 ?_
          by_cases c4 : (bad.length : Int) ≥ 1
          · refine Ev.iff_pos c4 ?_
            by_cases c5 : (bad.length : Int) ≤ 64
            · refine Ev.iff_pos c5 ?_
              by_cases c6 : wear.length = bad.length
              · refine Ev.iff_pos (by omega) (Ev.bindS (fun _ => seq_f seq) ?_)
                by_cases c7 : seqOK seq
                · refine Ev.iff_pos (decide_eq_true c7) ?_
                  by_cases c8 : recs.length = 0
                  · refine Ev.iff_pos (by omega) (Ev.bind (unfit_ev wear hw) ?_)
                    have e : (!decide (∃ x ∈ wear, ¬ worn x)) = decide (okP kind gen part seq bad wear recs) := by
                      by_cases c9 : ∃ x ∈ wear, ¬ worn x
                      · have : ¬ okP kind gen part seq bad wear recs := fun h => two h (fun h => by obtain ⟨x, hx, hx'⟩ := c9; exact hx' (h.2.2.2.2.2.2 x hx))
                        rw [decide_eq_true c9, decide_eq_false this]
                        rfl
                      · have : okP kind gen part seq bad wear recs := .inl ⟨k1, c1, ⟨c2, c3⟩, ⟨by omega, by omega⟩, c6, c7, c8, fun x hx => Decidable.byContradiction fun h => c9 ⟨x, hx, h⟩⟩
                        rw [decide_eq_false c9, decide_eq_true this]
                        rfl
                    rw [e]
                    exact Ev.now _
                  · exact no (fun h => two h (fun h => c8 h.2.2.2.2.2.1)) (Ev.iff_neg (by omega) (Ev.now _))
                · exact no (fun h => two h (fun h => c7 h.2.2.2.2.1)) (Ev.iff_neg (by simpa using c7) (Ev.now _))
              · exact no (fun h => two h (fun h => c6 h.2.2.2.1)) (Ev.iff_neg (by omega) (Ev.now _))
            · exact no (fun h => two h (fun h => by omega)) (Ev.iff_neg c5 (Ev.now _))
          · exact no (fun h => two h (fun h => by omega)) (Ev.iff_neg c4 (Ev.now _))
        · exact no (fun h => two h (fun h => by omega)) (Ev.iff_neg c3 (Ev.now _))
      · exact no (fun h => two h (fun h => by omega)) (Ev.iff_neg c2 (Ev.now _))
    · exact no (fun h => two h (fun h => c1 h.1)) (Ev.iff_neg (by simpa using c1) (Ev.now _))
  · refine Ev.iff_neg k1 ?_
    by_cases k2 : kind = 2
    · have two : ∀ {X : Prop}, okP kind gen part seq bad wear recs → (seqOK gen ∧ part = 0 ∧ seq = 0 ∧ bad.length = 0 ∧ wear.length = 0 ∧ recs.length ≤ 24 ∧ (∀ x ∈ recs, okR x.f0 x.f1 x.f2) → X) → X := fun {X} h f => by
        rcases h with h | h
        · exfalso; omega
        · exact f h.2
      refine Ev.iff_pos k2 (Ev.bindS (fun _ => gen_f gen) ?_)
      by_cases c1 : seqOK gen
      · refine Ev.iff_pos (decide_eq_true c1) ?_
        by_cases c2 : part = 0
        · refine Ev.iff_pos c2 ?_
          by_cases c3 : seq = 0
          · refine Ev.iff_pos c3 ?_
            by_cases c4 : bad.length = 0
            · refine Ev.iff_pos (by omega) ?_
              by_cases c5 : wear.length = 0
              · refine Ev.iff_pos (by omega) ?_
                by_cases c6 : recs.length ≤ 24
                · refine Ev.iff_pos (by omega) (Ev.bind (unrec_ev recs hr) ?_)
                  have e : (!decide (∃ x ∈ recs, ¬ okR x.f0 x.f1 x.f2)) = decide (okP kind gen part seq bad wear recs) := by
                    by_cases c9 : ∃ x ∈ recs, ¬ okR x.f0 x.f1 x.f2
                    · have : ¬ okP kind gen part seq bad wear recs := fun h => two h (fun h => by obtain ⟨x, hx, hx'⟩ := c9; exact hx' (h.2.2.2.2.2.2 x hx))
                      rw [decide_eq_true c9, decide_eq_false this]
                      rfl
                    · have : okP kind gen part seq bad wear recs := .inr ⟨k2, c1, c2, c3, c4, c5, c6, fun x hx => Decidable.byContradiction fun h => c9 ⟨x, hx, h⟩⟩
                      rw [decide_eq_false c9, decide_eq_true this]
                      rfl
                  rw [e]
                  exact Ev.now _
                · exact no (fun h => two h (fun h => c6 h.2.2.2.2.2.1)) (Ev.iff_neg (by omega) (Ev.now _))
              · exact no (fun h => two h (fun h => c5 h.2.2.2.2.1)) (Ev.iff_neg (by omega) (Ev.now _))
            · exact no (fun h => two h (fun h => c4 h.2.2.2.1)) (Ev.iff_neg (by omega) (Ev.now _))
          · exact no (fun h => two h (fun h => c3 h.2.2.1)) (Ev.iff_neg c3 (Ev.now _))
        · exact no (fun h => two h (fun h => c2 h.2.1)) (Ev.iff_neg c2 (Ev.now _))
      · exact no (fun h => two h (fun h => c1 h.1)) (Ev.iff_neg (by simpa using c1) (Ev.now _))
    · exact no (fun h => by rcases h with h | h <;> omega) (Ev.iff_neg k2 (Ev.now _))
end Go.Proofs.Ytkhbmgclklmimaa.MapEv
end
