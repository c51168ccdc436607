/- Texts of the proof of PoolStays, part 20. -/
import Derived.Test.YtlegmnpngcadhaaPoolStaysM19
import Derived.Test.YtlegmnpngcadhaaPoolStaysM14
import Derived.Test.YtlegmnpngcadhaaPoolStaysM15
import Derived.Test.YtlegmnpngcadhaaPoolStaysM16
import Derived.Test.YtlegmnpngcadhaaPoolStaysM18
section
namespace Go.Proofs.Ytlegmnpngcadhaa.Pure
set_option linter.unusedVariables false
set_option linter.unusedSimpArgs false
open Go.RowKit Go.Proofs.Ytlegmnpngcadhaa.Print Go.Proofs.Ytlegmnpngcadhaa.Pl Go.Proofs.YtlegmnpngcadhaaW.PrintWords Go.Proofs.YtlegmnpngcadhaaW.PrintLast Go.Proofs.YtlegmnpngcadhaaW.PrintMore
abbrev T3 := List Int × List Int × Int
def Gd (r : List Int) (q : List Int × List Int) : Prop := Ok q.1 q.2 ∧ q.1.length = r.length ∧ ∀ i, i < r.length → r.getD i 0 = 6 → q.1.getD i 0 = 6
def Fine (r : List Int) (x : T3) : Prop := x.2.2 = 0 → Gd r (x.1, x.2.1)
theorem fine_bad (r : List Int) (e : Int) (h : e ≠ 0) : Fine r ([], [], e) := fun k => absurd k h
theorem clone_f {r w : List Int} (h : Ok r w) : pool_Clone.f r w = some (r, w) := by
  have h1 := h.n1
  have h2 := h.len
  unfold pool_Clone.f slices_Clone_int_int.f slices_Clone_int64_int64.f
  simp only [Option.bind_some, List.length_nil, List.nil_append, Nat.zero_add]
  rw [if_pos (by omega), if_pos (by omega)]
  rfl
theorem rclone_f {r w : List Int} (h : Ok r w) : slipwayref04_Clone.f r w = some (r, w) := by
  have h1 := h.n1
  have h2 := h.len
  unfold slipwayref04_Clone.f
  simp only [List.length_nil, List.nil_append, Nat.zero_add]
  rw [if_pos (by omega), if_pos (by omega)]
theorem mem_set {l : List Int} {i : Nat} {v x : Int} (h : x ∈ l.set i v) : x = v ∨ x ∈ l := by
  rcases List.mem_or_eq_of_mem_set h with h | h
  · exact .inr h
  · exact .inl h
theorem getD_set {l : List Int} {i j : Nat} {v : Int} (h : i < l.length) : (l.set i v).getD j 0 = if j = i then v else l.getD j 0 := by
  rw [List.getD_eq_getElem?_getD, List.getD_eq_getElem?_getD]
  by_cases e : j = i
  · subst e
    rw [if_pos rfl, List.getElem?_set_self h]
    rfl
  · rw [if_neg e, List.getElem?_set_ne (Ne.symm e)]
set_option maxHeartbeats 2000000 in
theorem turned_any {r w : List Int} (h : Ok r w) {x : Nat} (hx : x < r.length) {a d : Int} (ka : kn a) (hd : d = 0 ∨ d = 1) (h6 : r.getD x 0 = 6 → a = 6) : ∃ q, pool_turned.f r w (x : Int) a d = some q ∧ Gd r q := by
  have hw : x < w.length := by rw [h.len]; exact hx
  have hv : worn (rd w (x : Int)) := by rw [rd_nat w x hw]; exact h.we _ (List.getElem_mem hw)
  have hv' := hv
  unfold worn at hv'
  unfold pool_turned.f
  rw [clone_f h]
  simp only [Option.bind_some]
  rw [if_pos (by omega), if_pos (by omega), if_pos (by omega), w64 (by omega) (by omega), Int.toNat_natCast]
  refine ⟨_, rfl, ⟨by rw [List.length_set]; exact h.n0, by rw [List.length_set]; exact h.n1, by rw [List.length_set, List.length_set]; exact h.len, fun y hy => ?_, fun y hy => ?_⟩, by rw [List.length_set], fun i hi h6i => ?_⟩
  · rcases mem_set hy with rfl | hy
    · exact ka
    · exact h.ro y hy
  · rcases mem_set hy with rfl | hy
    · unfold mn worn
      split <;> omega
    · exact h.we y hy
  · show (r.set x a).getD i 0 = 6
    rw [getD_set hx]
    by_cases e : i = x
    · rw [if_pos e]
      subst e
      exact h6 h6i
    · rw [if_neg e]
      exact h6i
theorem asks_out {r w : List Int} (h : Ok r w) {a : Int} (ha : ¬ (0 ≤ a ∧ a < (r.length : Int))) : Ev (fun k => pool_asks.f k r w a) 22 := by
  unfold pool_asks.f
  refine Ev.bind (check_ev r w) ?_
  rw [chk_ok h]
  refine Ev.iff_pos rfl ?_
  by_cases h0 : a < 0
  · exact Ev.iff_pos h0 (Ev.now _)
  · exact Ev.iff_neg h0 (Ev.iff_pos (by omega) (Ev.now _))
theorem asks_in {r w : List Int} (h : Ok r w) {x : Nat} (hx : x < r.length) : Ev (fun k => pool_asks.f k r w (x : Int)) 0 := by
  unfold pool_asks.f
  refine Ev.bind (check_ev r w) ?_
  rw [chk_ok h]
  exact Ev.iff_pos rfl (Ev.iff_neg (by omega) (Ev.iff_neg (by omega) (Ev.now _)))
theorem nat_of {a : Int} {n : Nat} (h : 0 ≤ a ∧ a < (n : Int)) : ∃ x : Nat, a = (x : Int) ∧ x < n := ⟨a.toNat, by omega, by omega⟩
theorem rd_gD {r : List Int} {x : Nat} (hx : x < r.length) : rd r (x : Int) = r.getD x 0 := by unfold rd; rw [Int.toNat_natCast]
set_option maxHeartbeats 2000000 in
theorem take_any {r w : List Int} (h : Ok r w) (a b : Int) : ∃ x : T3, Ev (fun k => pool_Take.f k r w a b) x ∧ Fine r x := by
  unfold pool_Take.f
  by_cases ha : 0 ≤ a ∧ a < (r.length : Int)
  rotate_left
  · exact ⟨_, Ev.bind (asks_out h ha) (Ev.iff_neg (by decide) (Ev.now _)), fine_bad r 22 (by decide)⟩
  obtain ⟨x, rfl, hx⟩ := nat_of ha
  by_cases hu : us b
  rotate_left
  · exact ⟨_, Ev.bind (asks_in h hx) (Ev.iff_pos rfl (Ev.bind (role_ev b) (Ev.iff_neg (by simpa using hu) (Ev.now _)))), fine_bad r 41 (by decide)⟩
  by_cases h1 : rd r (x : Int) = 1
  rotate_left
  · exact ⟨_, Ev.bind (asks_in h hx) (Ev.iff_pos rfl (Ev.bind (role_ev b) (Ev.iff_pos (by simpa using hu) (Ev.iff_pos ha.1 (Ev.iff_pos ha.2 (Ev.iff_neg h1 (Ev.now _))))))), fine_bad r 41 (by decide)⟩
  obtain ⟨q, hq, hg⟩ := turned_any h hx (a := b) (d := 0) (by unfold us at hu; unfold kn; omega) (.inl rfl) (fun h6 => by rw [rd_gD hx, h6] at h1; exact absurd h1 (by decide))
  exact ⟨(q.1, q.2, 0), Ev.bind (asks_in h hx) (Ev.iff_pos rfl (Ev.bind (role_ev b) (Ev.iff_pos (by simpa using hu) (Ev.iff_pos ha.1 (Ev.iff_pos ha.2 (Ev.iff_pos h1 (Ev.bindS (fun _ => hq) (Ev.now _)))))))), fun _ => hg⟩
set_option maxHeartbeats 2000000 in
theorem give_any {r w : List Int} (h : Ok r w) (a : Int) : ∃ x : T3, Ev (fun k => pool_Give.f k r w a) x ∧ Fine r x := by
  unfold pool_Give.f
  by_cases ha : 0 ≤ a ∧ a < (r.length : Int)
  rotate_left
  · exact ⟨_, Ev.bind (asks_out h ha) (Ev.iff_neg (by decide) (Ev.now _)), fine_bad r 22 (by decide)⟩
  obtain ⟨x, rfl, hx⟩ := nat_of ha
  by_cases hu : us (rd r (x : Int))
  rotate_left
  · exact ⟨_, Ev.bind (asks_in h hx) (Ev.iff_pos rfl (Ev.iff_pos ha.1 (Ev.iff_pos ha.2 (Ev.bind (role_ev _) (Ev.iff_neg (by simpa using hu) (Ev.now _)))))), fine_bad r 41 (by decide)⟩
  obtain ⟨q, hq, hg⟩ := turned_any h hx (a := 1) (d := 1) (by unfold kn; omega) (.inr rfl) (fun h6 => by rw [rd_gD hx, h6] at hu; unfold us at hu; omega)
  exact ⟨(q.1, q.2, 0), Ev.bind (asks_in h hx) (Ev.iff_pos rfl (Ev.iff_pos ha.1 (Ev.iff_pos ha.2 (Ev.bind (role_ev _) (Ev.iff_pos (by simpa using hu) (Ev.bindS (fun _ => hq) (Ev.now _))))))), fun _ => hg⟩
set_option maxHeartbeats 2000000 in
theorem erased_any {r w : List Int} (h : Ok r w) (a : Int) : ∃ x : T3, Ev (fun k => pool_Erased.f k r w a) x ∧ Fine r x := by
  unfold pool_Erased.f
  by_cases ha : 0 ≤ a ∧ a < (r.length : Int)
  rotate_left
  · exact ⟨_, Ev.bind (asks_out h ha) (Ev.iff_neg (by decide) (Ev.now _)), fine_bad r 22 (by decide)⟩
  obtain ⟨x, rfl, hx⟩ := nat_of ha
  by_cases h6 : rd r (x : Int) = 6
  · exact ⟨_, Ev.bind (asks_in h hx) (Ev.iff_pos rfl (Ev.iff_pos ha.1 (Ev.iff_pos ha.2 (Ev.iff_pos h6 (Ev.now _))))), fine_bad r 41 (by decide)⟩
  obtain ⟨q, hq, hg⟩ := turned_any h hx (a := rd r (x : Int)) (d := 1) (by rw [rd_nat r x hx]; exact h.ro _ (List.getElem_mem hx)) (.inr rfl) (fun k => by rw [rd_gD hx]; exact k)
  exact ⟨(q.1, q.2, 0), Ev.bind (asks_in h hx) (Ev.iff_pos rfl (Ev.iff_pos ha.1 (Ev.iff_pos ha.2 (Ev.iff_neg h6 (Ev.bindS (fun _ => hq) (Ev.now _)))))), fun _ => hg⟩
set_option maxHeartbeats 2000000 in
theorem retire_any {r w : List Int} (h : Ok r w) (a : Int) : ∃ x : T3, Ev (fun k => pool_Retire.f k r w a) x ∧ Fine r x := by
  unfold pool_Retire.f
  by_cases ha : 0 ≤ a ∧ a < (r.length : Int)
  rotate_left
  · exact ⟨_, Ev.bind (asks_out h ha) (Ev.iff_neg (by decide) (Ev.now _)), fine_bad r 22 (by decide)⟩
  obtain ⟨x, rfl, hx⟩ := nat_of ha
  by_cases h6 : rd r (x : Int) = 6
  · exact ⟨_, Ev.bind (asks_in h hx) (Ev.iff_pos rfl (Ev.iff_pos ha.1 (Ev.iff_pos ha.2 (Ev.iff_pos h6 (Ev.now _))))), fine_bad r 41 (by decide)⟩
  obtain ⟨q, hq, hg⟩ := turned_any h hx (a := 6) (d := 0) (by unfold kn; omega) (.inl rfl) (fun _ => rfl)
  exact ⟨(q.1, q.2, 0), Ev.bind (asks_in h hx) (Ev.iff_pos rfl (Ev.iff_pos ha.1 (Ev.iff_pos ha.2 (Ev.iff_neg h6 (Ev.bindS (fun _ => hq) (Ev.now _)))))), fun _ => hg⟩
set_option maxHeartbeats 2000000 in
theorem unw_idx (l : List Int) (hn : l.length ≤ 140737488355328) (d : Nat) : ∀ i : Nat, i + d = l.length → ∃ r, Ev (fun k => slices_IndexFunc_int64_int64_48.l0 k l (l.length : Int) (i : Int)) r ∧ (0 ≤ r ↔ ∃ x ∈ l.drop i, ¬ worn x) := by
  induction d with
  | zero =>
    intro i hi
    refine ⟨-1, Ev.step (f := fun _ => some (-1)) (fun k => ?_) (Ev.now _), ?_⟩
    · simp only [slices_IndexFunc_int64_int64_48.l0]
      rw [if_neg (by omega)]
    · rw [List.drop_of_length_le (by omega)]
      simp
  | succ d ih =>
    intro i hi
    have hlt : i < l.length := by omega
    have hd : l.drop i = l[i] :: l.drop (i + 1) := List.drop_eq_getElem_cons hlt
    have hf : pool_Wears_1.f l[i] = some (!decide (worn l[i])) := by
      unfold pool_Wears_1.f
      rw [worn_f]
      rfl
    by_cases hw : worn l[i]
    · obtain ⟨r, hr, hR⟩ := ih (i + 1) (by omega)
      refine ⟨r, Ev.step (fun k => ?_) hr, ?_⟩
      · simp only [slices_IndexFunc_int64_int64_48.l0]
        rw [if_pos (by omega), if_pos (by omega), if_pos (by omega), rd_nat l i hlt, hf, decide_eq_true hw]
        simp only [Option.bind_some]
        rw [if_neg (by decide), suc64 i l.length hlt hn]
      · rw [hR, hd]
        constructor
        · rintro ⟨x, hx, hx'⟩
          exact ⟨x, List.mem_cons_of_mem _ hx, hx'⟩
        · rintro ⟨x, hx, hx'⟩
          rcases List.mem_cons.1 hx with rfl | hx
          · exact absurd hw hx'
          · exact ⟨x, hx, hx'⟩
    · refine ⟨(i : Int), Ev.step (f := fun _ => some (i : Int)) (fun k => ?_) (Ev.now _), ?_⟩
      · simp only [slices_IndexFunc_int64_int64_48.l0]
        rw [if_pos (by omega), if_pos (by omega), if_pos (by omega), rd_nat l i hlt, hf, decide_eq_false hw]
        simp only [Option.bind_some]
        rw [if_pos (by decide)]
      · rw [hd]
        exact ⟨fun _ => ⟨l[i], List.mem_cons_self, hw⟩, fun _ => by omega⟩
theorem unw_ev (l : List Int) (hn : l.length ≤ 140737488355328) : Ev (fun k => slices_ContainsFunc_int64_int64_48.f k l) (decide (∃ x ∈ l, ¬ worn x)) := by
  obtain ⟨r, hr, hR⟩ := unw_idx l hn l.length 0 (by omega)
  rw [List.drop_zero] at hR
  unfold slices_ContainsFunc_int64_int64_48.f slices_IndexFunc_int64_int64_48.f
  refine Ev.bind hr ?_
  have e : decide (r ≥ 0) = decide (∃ x ∈ l, ¬ worn x) := decide_eq_decide.2 hR
  rw [e]
  exact Ev.now _
set_option maxHeartbeats 2000000 in
theorem wears_from {r : List Int} (l : List Int) (hl : l.length = r.length) (hn : l.length ≤ 256) (hw : ∀ x ∈ l, worn x) (d : Nat) : ∀ (i : Nat) (w : List Int), i + d = l.length → Ok r w → ∃ v, Ev (fun k => pool_Wears.l0 k l (l.length : Int) (i : Int) r w) (r, v, 0) ∧ Ok r v := by
  induction d with
  | zero =>
    intro i w hi ok
    refine ⟨w, Ev.step (f := fun _ => some (r, w, 0)) (fun k => ?_) (Ev.now _), ok⟩
    simp only [pool_Wears.l0]
    rw [if_neg (by omega)]
  | succ d ih =>
    intro i w hi ok
    have hlt : i < l.length := by omega
    have hwl : i < w.length := by have := ok.len; omega
    have o2 : Ok r (w.set i (mx (rd w (i : Int)) (rd l (i : Int)))) := ⟨ok.n0, ok.n1, by rw [List.length_set]; exact ok.len, ok.ro, fun y hy => by
      rcases mem_set hy with rfl | hy
      · have a1 := ok.we _ (List.getElem_mem hwl)
        have a2 := hw _ (List.getElem_mem hlt)
        rw [rd_nat w i hwl, rd_nat l i hlt]
        unfold mx worn at *
        split <;> omega
      · exact ok.we y hy⟩
    obtain ⟨v, hv, hok⟩ := ih (i + 1) _ (by omega) o2
    refine ⟨v, Ev.step (fun k => ?_) hv, hok⟩
    simp only [pool_Wears.l0]
    rw [if_pos (by omega), if_pos (by omega), if_pos (by omega), if_pos (by omega), suc64 i l.length hlt (by omega), Int.toNat_natCast]
set_option maxHeartbeats 2000000 in
theorem wears_any {r w : List Int} (h : Ok r w) (l : List Int) (hn : l.length ≤ 140737488355328) : ∃ x : T3, Ev (fun k => pool_Wears.f k r w l) x ∧ Fine r x := by
  have ck := check_ev r w
  rw [chk_ok h] at ck
  have h1 := h.n1
  have h2 := h.len
  unfold pool_Wears.f
  have bad : Ev (fun k => pool_Wears.j0 k l true r w) (([] : List Int), ([] : List Int), (1 : Int)) := Ev.step (f := fun _ => some ([], [], 1)) (fun k => by simp only [pool_Wears.j0]; rfl) (Ev.now _)
  by_cases hl : (l.length : Int) = (w.length : Int)
  rotate_left
  · exact ⟨_, Ev.bind ck (Ev.iff_pos rfl (Ev.iff_neg hl bad)), fine_bad r 1 (by decide)⟩
  by_cases hw : ∃ x ∈ l, ¬ worn x
  · have u := unw_ev l hn
    rw [decide_eq_true hw] at u
    exact ⟨_, Ev.bind ck (Ev.iff_pos rfl (Ev.iff_pos hl (Ev.bind u bad))), fine_bad r 1 (by decide)⟩
  · have u := unw_ev l hn
    rw [decide_eq_false hw] at u
    obtain ⟨v, hv, ok⟩ := wears_from l (by omega) (by omega) (fun x hx => Classical.byContradiction fun c => hw ⟨x, hx, c⟩) l.length 0 w (by omega) h
    refine ⟨(r, v, 0), Ev.bind ck (Ev.iff_pos rfl (Ev.iff_pos hl (Ev.bind u (Ev.step (fun k => by simp only [pool_Wears.j0]; rfl) (Ev.iff_neg (by decide) (Ev.bindS (fun _ => clone_f h) hv)))))), fun _ => ⟨ok, rfl, fun _ _ k => k⟩⟩
theorem chkAll_ev : ∀ l : List (List Int × List Int), (∀ x ∈ l, Ok x.1 x.2) → Ev (fun k => chkAll k l) true
  | [], _ => Ev.now _
  | x :: t, h => by
    have ck := check_ev x.1 x.2
    rw [chk_ok (h x List.mem_cons_self)] at ck
    exact Ev.bind ck (Ev.iff_pos rfl (chkAll_ev t (fun y hy => h y (List.mem_cons_of_mem _ hy))))
set_option maxHeartbeats 2000000 in
theorem PoolStays : slipwaylaw04_PoolStays.Pure := by
  intro r w a b l hr hw _ _ hl
  refine Ev.rounds ?_
  have ln : l.length ≤ 140737488355328 := by have := hl.2.1; omega
  unfold slipwaylaw04_PoolStays.f
  refine Ev.bind begun_ev (Ev.iff_pos rfl (Ev.bind (check_ev r w) ?_))
  by_cases h : Ok r w
  rotate_left
  · rw [chk_no h]
    exact Ev.iff_neg (by decide) (Ev.now _)
  rw [chk_ok h]
  obtain ⟨x1, e1, f1⟩ := take_any h a b
  obtain ⟨x2, e2, f2⟩ := give_any h a
  obtain ⟨x3, e3, f3⟩ := erased_any h a
  obtain ⟨x4, e4, f4⟩ := retire_any h a
  obtain ⟨x5, e5, f5⟩ := wears_any h l ln
  have g : ∀ x ∈ (r, w) :: ps_keep [x1, x2, x3, x4, x5], Gd r x := by
    intro x hx
    rcases List.mem_cons.1 hx with rfl | hx
    · exact ⟨h, rfl, fun _ _ k => k⟩
    · unfold ps_keep at hx
      obtain ⟨y, hy, rfl⟩ := List.mem_map.1 hx
      obtain ⟨hy1, hy2⟩ := List.mem_filter.1 hy
      have h0 : y.2.2 = 0 := by simpa using hy2
      have hf : Fine r y := by
        simp only [List.mem_cons, List.not_mem_nil, or_false] at hy1
        rcases hy1 with rfl | rfl | rfl | rfl | rfl
        · exact f1
        · exact f2
        · exact f3
        · exact f4
        · exact f5
      exact hf h0
  have n1 := h.n1
  have n0 := h.n0
  have nl := h.len
  refine Ev.iff_pos rfl (Ev.bindS (fun _ => rclone_f h) (Ev.iff_pos rfl (Ev.bind e1 (Ev.bind e2 (Ev.bind e3 (Ev.bind e4 (Ev.bind e5 (Ev.bindS (fun _ => clone_f h) (Ev.iff_pos rfl (Ev.bind (chkAll_ev _ (fun x hx => (g x hx).1)) (Ev.iff_pos rfl ?_)))))))))))
  refine Ev.iff_pos ⟨fun x hx => (g x hx).2, by omega, n1⟩ (Ev.bind (rsame_ev r w r w (by omega) (by omega)) (Ev.iff_pos (by simp) (Ev.bind (same_ev r w r w (by omega) (by omega)) (Ev.iff_pos (by simp) (Ev.now _)))))
end Go.Proofs.Ytlegmnpngcadhaa.Pure
end
