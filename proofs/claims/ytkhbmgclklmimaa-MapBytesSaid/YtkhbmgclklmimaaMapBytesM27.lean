/- Texts of the proof of MapBytes, part 27. -/
import Derived.Test.YtkhbmgclklmimaaMapBytesM26
import Derived.Test.YtkhbmgclklmimaaMapBytesM15
import Derived.Test.YtkhbmgclklmimaaMapBytesM16
import Derived.Test.YtkhbmgclklmimaaMapBytesM19
import Derived.Test.YtkhbmgclklmimaaMapBytesM17
section
namespace Go.Proofs.Ytkhbmgclklmimaa.MapEv
set_option linter.unusedVariables false
set_option linter.unusedSimpArgs false
open Go.RowKit Go.Proofs.Ytkhbmgclklmimaa.Print Go.Proofs.YtkhbmgclklmimaaW.PrintWords Go.Proofs.YtkhbmgclklmimaaW.PrintLast Go.Proofs.YtkhbmgclklmimaaW.PrintMore
theorem gen_f (a : Int) : mapjnl_gen.f a = some (decide (seqOK a)) := by
  unfold mapjnl_gen.f seqOK
  by_cases h : a ≥ 0
  · rw [if_pos h]; congr 1; simp [h]
  · rw [if_neg h]; congr 1; simp [h]
set_option maxHeartbeats 2000000 in
theorem unfit_idx (l : List Int) (hn : l.length ≤ 140737488355328) (d : Nat) : ∀ i : Nat, i + d = l.length → ∃ r, Ev (fun k => slices_IndexFunc_int64_int64_82.l0 k l (l.length : Int) (i : Int)) r ∧ (0 ≤ r ↔ ∃ x ∈ l.drop i, ¬ worn x) := by
  induction d with
  | zero =>
    intro i hi
    refine ⟨-1, Ev.step (f := fun _ => some (-1)) (fun k => ?_) (Ev.now _), ?_⟩
    · simp only [slices_IndexFunc_int64_int64_82.l0]
      rw [if_neg (by omega)]
    · rw [List.drop_of_length_le (by omega)]
      simp
  | succ d ih =>
    intro i hi
    have hlt : i < l.length := by omega
    have hd : l.drop i = l[i] :: l.drop (i + 1) := List.drop_eq_getElem_cons hlt
    have hf : mapjnl_fits_1.f l[i] = some (!decide (worn l[i])) := by
      unfold mapjnl_fits_1.f
      rw [worn_f]
      rfl
    by_cases hw : worn l[i]
    · obtain ⟨r, hr, hR⟩ := ih (i + 1) (by omega)
      refine ⟨r, Ev.step (fun k => ?_) hr, ?_⟩
      · simp only [slices_IndexFunc_int64_int64_82.l0]
        rw [if_pos (by omega), if_pos (by omega), if_pos (by omega), rd_nat l i hlt, hf, decide_eq_true hw]
        simp only [Option.bind_some]
        rw [if_neg (by decide), suc64 i l.length hlt hn]
      · rw [hR, hd]
        constructor
        · rintro ⟨x, hx, hx'⟩
          exact ⟨x, List.mem_cons_of_mem _ hx, hx'⟩
        · rintro ⟨x, hx, hx'⟩
          rcases List.mem_cons.1 hx with rfl | hx
          · exact absurd hw hx'
          · exact ⟨x, hx, hx'⟩
    · refine ⟨(i : Int), Ev.step (f := fun _ => some (i : Int)) (fun k => ?_) (Ev.now _), ?_⟩
      · simp only [slices_IndexFunc_int64_int64_82.l0]
        rw [if_pos (by omega), if_pos (by omega), if_pos (by omega), rd_nat l i hlt, hf, decide_eq_false hw]
        simp only [Option.bind_some]
        rw [if_pos (by decide)]
      · rw [hd]
        exact ⟨fun _ => ⟨l[i], List.mem_cons_self, hw⟩, fun _ => by omega⟩
theorem unfit_ev (l : List Int) (hn : l.length ≤ 140737488355328) : Ev (fun k => slices_ContainsFunc_int64_int64_82.f k l) (decide (∃ x ∈ l, ¬ worn x)) := by
  obtain ⟨r, hr, hR⟩ := unfit_idx l hn l.length 0 (by omega)
  rw [List.drop_zero] at hR
  unfold slices_ContainsFunc_int64_int64_82.f slices_IndexFunc_int64_int64_82.f
  refine Ev.bind hr ?_
  have e : decide (r ≥ 0) = decide (∃ x ∈ l, ¬ worn x) := decide_eq_decide.2 hR
  rw [e]
  exact Ev.now _
set_option maxHeartbeats 2000000 in
theorem unrec_idx (l : List S55) (hn : l.length ≤ 140737488355328) (d : Nat) : ∀ i : Nat, i + d = l.length → ∃ r, Ev (fun k => api_MapRecord_81_83.l0 k l (l.length : Int) (i : Int)) r ∧ (0 ≤ r ↔ ∃ x ∈ l.drop i, ¬ okR x.f0 x.f1 x.f2) := by
  induction d with
  | zero =>
    intro i hi
    refine ⟨-1, Ev.step (f := fun _ => some (-1)) (fun k => ?_) (Ev.now _), ?_⟩
    · simp only [api_MapRecord_81_83.l0]
      rw [if_neg (by omega)]
    · rw [List.drop_of_length_le (by omega)]
      simp
  | succ d ih =>
    intro i hi
    have hlt : i < l.length := by omega
    have n0 : (0 : Int) ≤ (i : Int) := by omega
    have n1 : (i : Int) < (l.length : Int) := by omega
    have hd : l.drop i = l[i] :: l.drop (i + 1) := List.drop_eq_getElem_cons hlt
    have A : ∀ {r}, Ev (fun k => (mapjnl_record.f k l[i].f0 l[i].f1 l[i].f2).bind fun t492 => (if (!t492) = true then (some (i : Int)) else (api_MapRecord_81_83.l0 k l (l.length : Int) ((i + 1 : Nat) : Int)))) r → Ev (fun k => api_MapRecord_81_83.l0 k l (l.length : Int) (i : Int)) r := fun {r} h => by
      refine Ev.step (fun k => ?_) h
      simp only [api_MapRecord_81_83.l0, mapjnl_fits_2.f]
      rw [if_pos n1, if_pos n0, if_pos n1, rdT l i hlt, suc64 i l.length hlt hn]
      cases mapjnl_record.f k l[i].f0 l[i].f1 l[i].f2 <;> rfl
    by_cases hw : okR l[i].f0 l[i].f1 l[i].f2
    · obtain ⟨r, hr, hR⟩ := ih (i + 1) (by omega)
      refine ⟨r, A (Ev.bind (rec_ev _ _ _) (Ev.iff_neg (by simpa using hw) hr)), ?_⟩
      rw [hR, hd]
      constructor
      · rintro ⟨x, hx, hx'⟩
        exact ⟨x, List.mem_cons_of_mem _ hx, hx'⟩
      · rintro ⟨x, hx, hx'⟩
        rcases List.mem_cons.1 hx with rfl | hx
        · exact absurd hw hx'
        · exact ⟨x, hx, hx'⟩
    · refine ⟨(i : Int), A (Ev.bind (rec_ev _ _ _) (Ev.iff_pos (by simpa using hw) (Ev.now _))), ?_⟩
      rw [hd]
      exact ⟨fun _ => ⟨l[i], List.mem_cons_self, hw⟩, fun _ => n0⟩
theorem unrec_ev (l : List S55) (hn : l.length ≤ 140737488355328) : Ev (fun k => api_MapRecord_68_83.f k l) (decide (∃ x ∈ l, ¬ okR x.f0 x.f1 x.f2)) := by
  obtain ⟨r, hr, hR⟩ := unrec_idx l hn l.length 0 (by omega)
  rw [List.drop_zero] at hR
  unfold api_MapRecord_68_83.f api_MapRecord_81_83.f
  refine Ev.bind hr ?_
  have e : decide (r ≥ 0) = decide (∃ x ∈ l, ¬ okR x.f0 x.f1 x.f2) := decide_eq_decide.2 hR
  rw [e]
  exact Ev.now _
def okP (kind gen part seq : Int) (bad : List Bool) (wear : List Int) (recs : List S55) : Prop :=
  (kind = 1 ∧ seqOK gen ∧ (0 ≤ part ∧ part ≤ 3) ∧ (1 ≤ bad.length ∧ bad.length ≤ 64) ∧ wear.length = bad.length ∧ seqOK seq ∧ recs.length = 0 ∧ ∀ x ∈ wear, worn x) ∨
  (kind = 2 ∧ seqOK gen ∧ part = 0 ∧ seq = 0 ∧ bad.length = 0 ∧ wear.length = 0 ∧ recs.length ≤ 24 ∧ ∀ x ∈ recs, okR x.f0 x.f1 x.f2)
instance (kind gen part seq : Int) (bad : List Bool) (wear : List Int) (recs : List S55) : Decidable (okP kind gen part seq bad wear recs) := by unfold okP; infer_instance
set_option maxHeartbeats 2000000 in
theorem fits_ev (kind gen part seq : Int) (bad : List Bool) (wear : List Int) (recs : List S55) (hw : wear.length ≤ 140737488355328) (hr : recs.length ≤ 140737488355328) :
    Ev (fun k => mapjnl_fits.f k kind gen part seq bad wear recs) (decide (okP kind gen part seq bad wear recs)) := by
  have no : ¬ okP kind gen part seq bad wear recs → ∀ {g : Nat → Option Bool}, Ev g false → Ev g (decide (okP kind gen part seq bad wear recs)) := fun h g hg => by rw [decide_eq_false h]; exact hg
  unfold mapjnl_fits.f
  by_cases k1 : kind = 1
  · have two : ∀ {X : Prop}, okP kind gen part seq bad wear recs → (seqOK gen ∧ (0 ≤ part ∧ part ≤ 3) ∧ (1 ≤ bad.length ∧ bad.length ≤ 64) ∧ wear.length = bad.length ∧ seqOK seq ∧ recs.length = 0 ∧ (∀ x ∈ wear, worn x) → X) → X := fun {X} h f => by
      rcases h with h | h
      · exact f h.2
      · exfalso; omega
    refine Ev.iff_pos k1 (Ev.bindS (fun _ => gen_f gen) ?_)
    by_cases c1 : seqOK gen
    · refine Ev.iff_pos (decide_eq_true c1) ?_
      by_cases c2 : part ≥ 0
      · refine Ev.iff_pos c2 ?_
        by_cases c3 : part ≤ 3
        · refine Ev.iff_pos c3 ?_
          by_cases c4 : (bad.length : Int) ≥ 1
          · refine Ev.iff_pos c4 ?_
            by_cases c5 : (bad.length : Int) ≤ 64
            · refine Ev.iff_pos c5 ?_
              by_cases c6 : wear.length = bad.length
              · refine Ev.iff_pos (by omega) (Ev.bindS (fun _ => seq_f seq) ?_)
                by_cases c7 : seqOK seq
                · refine Ev.iff_pos (decide_eq_true c7) ?_
                  by_cases c8 : recs.length = 0
                  · refine Ev.iff_pos (by omega) (Ev.bind (unfit_ev wear hw) ?_)
                    have e : (!decide (∃ x ∈ wear, ¬ worn x)) = decide (okP kind gen part seq bad wear recs) := by
                      by_cases c9 : ∃ x ∈ wear, ¬ worn x
                      · have : ¬ okP kind gen part seq bad wear recs := fun h => two h (fun h => by obtain ⟨x, hx, hx'⟩ := c9; exact hx' (h.2.2.2.2.2.2 x hx))
                        rw [decide_eq_true c9, decide_eq_false this]
                        rfl
                      · have : okP kind gen part seq bad wear recs := .inl ⟨k1, c1, ⟨c2, c3⟩, ⟨by omega, by omega⟩, c6, c7, c8, fun x hx => Decidable.byContradiction fun h => c9 ⟨x, hx, h⟩⟩
                        rw [decide_eq_false c9, decide_eq_true this]
                        rfl
                    rw [e]
                    exact Ev.now _
                  · exact no (fun h => two h (fun h => c8 h.2.2.2.2.2.1)) (Ev.iff_neg (by omega) (Ev.now _))
                · exact no (fun h => two h (fun h => c7 h.2.2.2.2.1)) (Ev.iff_neg (by simpa using c7) (Ev.now _))
              · exact no (fun h => two h (fun h => c6 h.2.2.2.1)) (Ev.iff_neg (by omega) (Ev.now _))
            · exact no (fun h => two h (fun h => by omega)) (Ev.iff_neg c5 (Ev.now _))
          · exact no (fun h => two h (fun h => by omega)) (Ev.iff_neg c4 (Ev.now _))
        · exact no (fun h => two h (fun h => by omega)) (Ev.iff_neg c3 (Ev.now _))
      · exact no (fun h => two h (fun h => by omega)) (Ev.iff_neg c2 (Ev.now _))
    · exact no (fun h => two h (fun h => c1 h.1)) (Ev.iff_neg (by simpa using c1) (Ev.now _))
  · refine Ev.iff_neg k1 ?_
    by_cases k2 : kind = 2
    · have two : ∀ {X : Prop}, okP kind gen part seq bad wear recs → (seqOK gen ∧ part = 0 ∧ seq = 0 ∧ bad.length = 0 ∧ wear.length = 0 ∧ recs.length ≤ 24 ∧ (∀ x ∈ recs, okR x.f0 x.f1 x.f2) → X) → X := fun {X} h f => by
        rcases h with h | h
        · exfalso; omega
        · exact f h.2
      refine Ev.iff_pos k2 (Ev.bindS (fun _ => gen_f gen) ?_)
      by_cases c1 : seqOK gen
      · refine Ev.iff_pos (decide_eq_true c1) ?_
        by_cases c2 : part = 0
        · refine Ev.iff_pos c2 ?_
          by_cases c3 : seq = 0
          · refine Ev.iff_pos c3 ?_
            by_cases c4 : bad.length = 0
            · refine Ev.iff_pos (by omega) ?_
              by_cases c5 : wear.length = 0
              · refine Ev.iff_pos (by omega) ?_
                by_cases c6 : recs.length ≤ 24
                · refine Ev.iff_pos (by omega) (Ev.bind (unrec_ev recs hr) ?_)
                  have e : (!decide (∃ x ∈ recs, ¬ okR x.f0 x.f1 x.f2)) = decide (okP kind gen part seq bad wear recs) := by
                    by_cases c9 : ∃ x ∈ recs, ¬ okR x.f0 x.f1 x.f2
                    · have : ¬ okP kind gen part seq bad wear recs := fun h => two h (fun h => by obtain ⟨x, hx, hx'⟩ := c9; exact hx' (h.2.2.2.2.2.2 x hx))
                      rw [decide_eq_true c9, decide_eq_false this]
                      rfl
                    · have : okP kind gen part seq bad wear recs := .inr ⟨k2, c1, c2, c3, c4, c5, c6, fun x hx => Decidable.byContradiction fun h => c9 ⟨x, hx, h⟩⟩
                      rw [decide_eq_false c9, decide_eq_true this]
                      rfl
                  rw [e]
                  exact Ev.now _
                · exact no (fun h => two h (fun h => c6 h.2.2.2.2.2.1)) (Ev.iff_neg (by omega) (Ev.now _))
              · exact no (fun h => two h (fun h => c5 h.2.2.2.2.1)) (Ev.iff_neg (by omega) (Ev.now _))
            · exact no (fun h => two h (fun h => c4 h.2.2.2.1)) (Ev.iff_neg (by omega) (Ev.now _))
          · exact no (fun h => two h (fun h => c3 h.2.2.1)) (Ev.iff_neg c3 (Ev.now _))
        · exact no (fun h => two h (fun h => c2 h.2.1)) (Ev.iff_neg c2 (Ev.now _))
      · exact no (fun h => two h (fun h => c1 h.1)) (Ev.iff_neg (by simpa using c1) (Ev.now _))
    · exact no (fun h => by rcases h with h | h <;> omega) (Ev.iff_neg k2 (Ev.now _))
abbrev Pg := Int × Int × Int × Int × List Bool × List Int × List S55 × Int
def rcs (g : Int) (l : List S55) : Pg :=
  if seqOK g then (if l.length ≤ 24 then (if ∀ x ∈ l, okR x.f0 x.f1 x.f2 then (2, g, 0, 0, [], [], l, 0) else (0, 0, 0, 0, [], [], [], 61)) else (0, 0, 0, 0, [], [], [], 3)) else (0, 0, 0, 0, [], [], [], 1)
set_option maxHeartbeats 2000000 in
theorem rrcs_from (g : Int) (l : List S55) (hg : seqOK g) (hl : l.length ≤ 24) (d : Nat) : ∀ i : Nat, i + d = l.length → (∀ j, j < i → ∀ h : j < l.length, okR l[j].f0 l[j].f1 l[j].f2) → Ev (fun k => slipwayref06_Records.l0 k g l (i : Int)) (rcs g l) := by
  induction d with
  | zero =>
    intro i hi hw
    have hall : ∀ x ∈ l, okR x.f0 x.f1 x.f2 := fun x hx => by obtain ⟨j, hj, rfl⟩ := List.getElem_of_mem hx; exact hw j (by omega) hj
    have e : rcs g l = (2, g, 0, 0, [], [], l, 0) := by unfold rcs; rw [if_pos hg, if_pos hl, if_pos hall]
    rw [e]
    refine Ev.step (f := fun _ => some (2, g, 0, 0, [], [], l, 0)) (fun k => ?_) (Ev.now _)
    simp only [slipwayref06_Records.l0]
    rw [if_neg (by omega), if_pos (by simp; omega), List.nil_append]
  | succ d ih =>
    intro i hi hw
    have hlt : i < l.length := by omega
    have n0 : (0 : Int) ≤ (i : Int) := by omega
    have n1 : (i : Int) < (l.length : Int) := by omega
    have A : ∀ {r}, Ev (fun k => (slipwayref06_may.f k l[i].f0 l[i].f1 l[i].f2).bind fun t504 => (if t504 = true then (slipwayref06_Records.l0 k g l ((i + 1 : Nat) : Int)) else (some (0, 0, 0, 0, ([] : List Bool), ([] : List Int), ([] : List (S55)), (61 : Int))))) r → Ev (fun k => slipwayref06_Records.l0 k g l (i : Int)) r := fun {r} h => by
      refine Ev.step (fun k => ?_) h
      simp only [slipwayref06_Records.l0]
      rw [if_pos n1, if_pos n0, rdT l i hlt, suc64 i l.length hlt (by omega)]
    by_cases h : okR l[i].f0 l[i].f1 l[i].f2
    · refine A (Ev.bind (may_ev _ _ _) (Ev.iff_pos (decide_eq_true h) (ih (i + 1) (by omega) (fun j hj hjl => ?_))))
      rcases Nat.lt_or_ge j i with h1 | h1
      · exact hw j h1 hjl
      · have : j = i := by omega
        subst this
        exact h
    · have e : rcs g l = (0, 0, 0, 0, [], [], [], 61) := by unfold rcs; rw [if_pos hg, if_pos hl, if_neg (fun ha => h (ha _ (List.getElem_mem hlt)))]
      rw [e]
      exact A (Ev.bind (may_ev _ _ _) (Ev.iff_neg (by simpa using h) (Ev.now _)))
set_option maxHeartbeats 2000000 in
theorem rrcs_j (g : Int) (l : List S55) (flag : Bool) (hf : flag = decide (¬ seqOK g)) : Ev (fun k => slipwayref06_Records.j0 k g l flag) (rcs g l) := by
  by_cases hg : seqOK g
  · have : flag = false := by rw [hf]; simpa using hg
    subst this
    by_cases hl : l.length ≤ 24
    · refine Ev.step (fun k => ?_) (rrcs_from g l hg hl l.length 0 (by omega) (fun j hj => by omega))
      simp only [slipwayref06_Records.j0]
      rw [if_neg (by decide), if_neg (by omega)]
      rfl
    · have e : rcs g l = (0, 0, 0, 0, [], [], [], 3) := by unfold rcs; rw [if_pos hg, if_neg hl]
      rw [e]
      refine Ev.step (f := fun _ => some (0, 0, 0, 0, [], [], [], 3)) (fun k => ?_) (Ev.now _)
      simp only [slipwayref06_Records.j0]
      rw [if_neg (by decide), if_pos (by omega)]
  · have : flag = true := by rw [hf]; exact decide_eq_true hg
    subst this
    have e : rcs g l = (0, 0, 0, 0, [], [], [], 1) := by unfold rcs; rw [if_neg hg]
    rw [e]
    refine Ev.step (f := fun _ => some (0, 0, 0, 0, [], [], [], 1)) (fun k => ?_) (Ev.now _)
    simp only [slipwayref06_Records.j0]
    rw [if_pos trivial]
theorem rrcs_ev (g : Int) (l : List S55) : Ev (fun k => slipwayref06_Records.f k g l) (rcs g l) := by
  unfold slipwayref06_Records.f
  by_cases h : g < 0
  · exact Ev.iff_pos h (rrcs_j g l true (tt_of (fun hg => by unfold seqOK at hg; omega)))
  · refine Ev.iff_neg h (rrcs_j g l _ (decide_eq_decide.2 ?_))
    unfold seqOK
    omega
set_option maxHeartbeats 2000000 in
theorem rpage_from (kind gen part seq : Int) (bad : List Bool) (wear : List Int) (recs : List S55) (hn : wear.length ≤ 140737488355328) (d : Nat) : ∀ i : Nat, i + d = wear.length → (∀ j, j < i → ∀ h : j < wear.length, worn wear[j]) →
    Ev (fun k => slipwayref06_page.l0 k (i : Int) kind gen part seq bad wear recs) (decide (∀ x ∈ wear, worn x)) := by
  induction d with
  | zero =>
    intro i hi hw
    have hall : ∀ x ∈ wear, worn x := fun x hx => by obtain ⟨j, hj, rfl⟩ := List.getElem_of_mem hx; exact hw j (by omega) hj
    rw [decide_eq_true hall]
    refine Ev.step (f := fun _ => some true) (fun k => ?_) (Ev.now _)
    simp only [slipwayref06_page.l0]
    rw [if_neg (by omega)]
  | succ d ih =>
    intro i hi hw
    have hlt : i < wear.length := by omega
    have n0 : (0 : Int) ≤ (i : Int) := by omega
    have n1 : (i : Int) < (wear.length : Int) := by omega
    by_cases h : worn wear[i]
    · have h' := h
      unfold worn at h'
      refine Ev.step (fun k => ?_) (ih (i + 1) (by omega) (fun j hj hjl => ?_))
      · simp only [slipwayref06_page.l0]
        rw [if_pos n1, if_pos n0, rd_nat wear i hlt, if_neg (by omega), if_neg (by omega), suc64 i wear.length hlt hn]
      · rcases Nat.lt_or_ge j i with h1 | h1
        · exact hw j h1 hjl
        · have : j = i := by omega
          subst this
          exact h
    · rw [decide_eq_false (fun ha => h (ha _ (List.getElem_mem hlt)))]
      refine Ev.step (f := fun _ => some false) (fun k => ?_) (Ev.now _)
      simp only [slipwayref06_page.l0]
      rw [if_pos n1, if_pos n0, rd_nat wear i hlt]
      by_cases h0 : wear[i] < 0
      · rw [if_pos h0]
      · rw [if_neg h0, if_pos (by unfold worn at h; omega)]
set_option maxHeartbeats 2000000 in
theorem rpage_j1 (kind gen part seq : Int) (bad : List Bool) (wear : List Int) (recs : List S55) (hn : wear.length ≤ 140737488355328) (flag : Bool) :
    Ev (fun k => slipwayref06_page.j1 k flag kind gen part seq bad wear recs) (!flag && decide (∀ x ∈ wear, worn x)) := by
  cases flag with
  | true =>
    refine Ev.step (f := fun _ => some false) (fun k => ?_) (Ev.now _)
    simp only [slipwayref06_page.j1]
    rw [if_pos trivial]
  | false =>
    have := rpage_from kind gen part seq bad wear recs hn wear.length 0 (by omega) (fun j hj => by omega)
    refine Ev.step (fun k => ?_) (by simpa using this)
    simp only [slipwayref06_page.j1]
    rw [if_neg (by decide)]
set_option maxHeartbeats 2000000 in
theorem rpage_j0 (kind gen part seq : Int) (bad : List Bool) (wear : List Int) (recs : List S55) (hn : wear.length ≤ 140737488355328) (flag : Bool) (hf : flag = decide (¬ seqOK gen)) :
    Ev (fun k => slipwayref06_page.j0 k flag kind gen part seq bad wear recs) (decide (okP kind gen part seq bad wear recs)) := by
  have no : ¬ okP kind gen part seq bad wear recs → ∀ {g : Nat → Option Bool}, Ev g false → Ev g (decide (okP kind gen part seq bad wear recs)) := fun h g hg => by rw [decide_eq_false h]; exact hg
  by_cases c1 : seqOK gen
  · have : flag = false := by rw [hf]; simpa using c1
    subst this
    by_cases k2 : kind = 2
    · have two : ∀ {X : Prop}, okP kind gen part seq bad wear recs → (seqOK gen ∧ part = 0 ∧ seq = 0 ∧ bad.length = 0 ∧ wear.length = 0 ∧ recs.length ≤ 24 ∧ (∀ x ∈ recs, okR x.f0 x.f1 x.f2) → X) → X := fun {X} h f => by
        rcases h with h | h
        · exfalso; omega
        · exact f h.2
      refine Ev.step (f := fun k => ((slipwayref06_Records.f k gen recs).bind fun bt620 => (if bt620.2.2.2.2.2.2.2 = 0 then (if part = 0 then (if seq = 0 then (if (bad.length : Int) = 0 then (some ((wear.length : Int) == 0)) else (some false)) else (some false)) else (some false)) else (some false)))) (fun k => ?_) ?_
      · simp only [slipwayref06_page.j0]
        rw [if_neg (by decide), if_pos k2]
      · refine Ev.bind (rrcs_ev gen recs) ?_
        by_cases c6 : recs.length ≤ 24 ∧ ∀ x ∈ recs, okR x.f0 x.f1 x.f2
        · have e : rcs gen recs = (2, gen, 0, 0, [], [], recs, 0) := by unfold rcs; rw [if_pos c1, if_pos c6.1, if_pos c6.2]
          rw [e]
          refine Ev.iff_pos rfl ?_
          by_cases c2 : part = 0
          · refine Ev.iff_pos c2 ?_
            by_cases c3 : seq = 0
            · refine Ev.iff_pos c3 ?_
              by_cases c4 : bad.length = 0
              · refine Ev.iff_pos (by omega) ?_
                have e2 : ((wear.length : Int) == 0) = decide (okP kind gen part seq bad wear recs) := by
                  by_cases c5 : wear.length = 0
                  · rw [decide_eq_true (show okP kind gen part seq bad wear recs from .inr ⟨k2, c1, c2, c3, c4, c5, c6.1, c6.2⟩)]
                    simp [c5]
                  · rw [decide_eq_false (fun h => two h (fun h => c5 h.2.2.2.2.1))]
                    simp only [beq_eq_false_iff_ne]
                    omega
                rw [e2]
                exact Ev.now _
              · exact no (fun h => two h (fun h => c4 h.2.2.2.1)) (Ev.iff_neg (by omega) (Ev.now _))
            · exact no (fun h => two h (fun h => c3 h.2.2.1)) (Ev.iff_neg c3 (Ev.now _))
          · exact no (fun h => two h (fun h => c2 h.2.1)) (Ev.iff_neg c2 (Ev.now _))
        · refine no (fun h => two h (fun h => c6 h.2.2.2.2.2)) (Ev.iff_neg ?_ (Ev.now _))
          unfold rcs
          rw [if_pos c1]
          by_cases h1 : recs.length ≤ 24
          · rw [if_pos h1, if_neg (fun h => c6 ⟨h1, h⟩)]
            decide
          · rw [if_neg h1]
            decide
    · by_cases k1 : kind = 1
      · have two : ∀ {X : Prop}, okP kind gen part seq bad wear recs → (seqOK gen ∧ (0 ≤ part ∧ part ≤ 3) ∧ (1 ≤ bad.length ∧ bad.length ≤ 64) ∧ wear.length = bad.length ∧ seqOK seq ∧ recs.length = 0 ∧ (∀ x ∈ wear, worn x) → X) → X := fun {X} h f => by
          rcases h with h | h
          · exact f h.2
          · exfalso; omega
        have J : ∀ flag, Ev (fun k => slipwayref06_page.j1 k flag kind gen part seq bad wear recs) (!flag && decide (∀ x ∈ wear, worn x)) := fun flag => rpage_j1 kind gen part seq bad wear recs hn flag
        have JT : Ev (fun k => slipwayref06_page.j1 k true kind gen part seq bad wear recs) false := J true
        refine Ev.step (f := fun k => if part < 0 then (slipwayref06_page.j1 k true kind gen part seq bad wear recs) else (if part > 3 then (slipwayref06_page.j1 k true kind gen part seq bad wear recs) else (if seq < 0 then (slipwayref06_page.j1 k true kind gen part seq bad wear recs) else (if seq > 1152921504606846976 then (slipwayref06_page.j1 k true kind gen part seq bad wear recs) else (if (recs.length : Int) > 0 then (slipwayref06_page.j1 k true kind gen part seq bad wear recs) else (if (bad.length : Int) < 1 then (slipwayref06_page.j1 k true kind gen part seq bad wear recs) else (if (bad.length : Int) > 64 then (slipwayref06_page.j1 k true kind gen part seq bad wear recs) else (slipwayref06_page.j1 k ((wear.length : Int) != (bad.length : Int)) kind gen part seq bad wear recs)))))))) (fun k => ?_) ?_
        · simp only [slipwayref06_page.j0]
          rw [if_neg (by decide), if_neg k2, if_pos k1]
        · by_cases a1 : part < 0
          · exact no (fun h => two h (fun h => by omega)) (Ev.iff_pos a1 JT)
          refine Ev.iff_neg a1 ?_
          by_cases a2 : part > 3
          · exact no (fun h => two h (fun h => by omega)) (Ev.iff_pos a2 JT)
          refine Ev.iff_neg a2 ?_
          by_cases a3 : seq < 0
          · exact no (fun h => two h (fun h => by have := h.2.2.2.2.1; unfold seqOK at this; omega)) (Ev.iff_pos a3 JT)
          refine Ev.iff_neg a3 ?_
          by_cases a4 : seq > 1152921504606846976
          · exact no (fun h => two h (fun h => by have := h.2.2.2.2.1; unfold seqOK at this; omega)) (Ev.iff_pos a4 JT)
          refine Ev.iff_neg a4 ?_
          by_cases a5 : (recs.length : Int) > 0
          · exact no (fun h => two h (fun h => by omega)) (Ev.iff_pos a5 JT)
          refine Ev.iff_neg a5 ?_
          by_cases a6 : (bad.length : Int) < 1
          · exact no (fun h => two h (fun h => by omega)) (Ev.iff_pos a6 JT)
          refine Ev.iff_neg a6 ?_
          by_cases a7 : (bad.length : Int) > 64
          · exact no (fun h => two h (fun h => by omega)) (Ev.iff_pos a7 JT)
          refine Ev.iff_neg a7 ?_
          have := J ((wear.length : Int) != (bad.length : Int))
          have e : (!((wear.length : Int) != (bad.length : Int)) && decide (∀ x ∈ wear, worn x)) = decide (okP kind gen part seq bad wear recs) := by
            by_cases c6 : wear.length = bad.length
            · have e1 : (!((wear.length : Int) != (bad.length : Int))) = true := by simp [c6]
              rw [e1, Bool.true_and]
              by_cases c9 : ∀ x ∈ wear, worn x
              · rw [decide_eq_true c9, decide_eq_true (show okP kind gen part seq bad wear recs from .inl ⟨k1, c1, ⟨by omega, by omega⟩, ⟨by omega, by omega⟩, c6, ⟨by omega, by omega⟩, by omega, c9⟩)]
              · rw [decide_eq_false c9, decide_eq_false (fun h => two h (fun h => c9 h.2.2.2.2.2.2))]
            · have e1 : (!((wear.length : Int) != (bad.length : Int))) = false := by simp; omega
              rw [e1, Bool.false_and, decide_eq_false (fun h => two h (fun h => c6 h.2.2.2.1))]
          rw [← e]
          exact this
      · refine no (fun h => by rcases h with h | h <;> omega) (Ev.step (f := fun k => slipwayref06_page.j1 k true kind gen part seq bad wear recs) (fun k => ?_) (rpage_j1 kind gen part seq bad wear recs hn true))
        simp only [slipwayref06_page.j0]
        rw [if_neg (by decide), if_neg k2, if_neg k1]
  · have : flag = true := by rw [hf]; exact decide_eq_true c1
    subst this
    refine no (fun h => by rcases h with h | h <;> exact c1 h.2.1) (Ev.step (f := fun _ => some false) (fun k => ?_) (Ev.now _))
    simp only [slipwayref06_page.j0]
    rw [if_pos trivial]
set_option maxHeartbeats 2000000 in
theorem rpage_ev (kind gen part seq : Int) (bad : List Bool) (wear : List Int) (recs : List S55) (hn : wear.length ≤ 140737488355328) :
    Ev (fun k => slipwayref06_page.f k kind gen part seq bad wear recs) (decide (okP kind gen part seq bad wear recs)) := by
  unfold slipwayref06_page.f
  by_cases h : gen < 0
  · exact Ev.iff_pos h (rpage_j0 kind gen part seq bad wear recs hn true (tt_of (fun hg => by unfold seqOK at hg; omega)))
  · refine Ev.iff_neg h (rpage_j0 kind gen part seq bad wear recs hn _ (decide_eq_decide.2 ?_))
    unfold seqOK
    omega
end Go.Proofs.Ytkhbmgclklmimaa.MapEv
end
