/- Texts of the proof of PoolFair, part 19. -/
import Derived.Test.YtlegmnpngcadhaaPoolFairM16
import Derived.Test.YtlegmnpngcadhaaPoolFairM18
import Derived.Test.YtlegmnpngcadhaaPoolFairM13
import Derived.Test.YtlegmnpngcadhaaPoolFairM14
section
namespace Go.Proofs.Ytlegmnpngcadhaa.Pure
set_option linter.unusedVariables false
set_option linter.unusedSimpArgs false
open Go.RowKit Go.Proofs.Ytlegmnpngcadhaa.Print Go.Proofs.Ytlegmnpngcadhaa.Pl Go.Proofs.YtlegmnpngcadhaaW.PrintWords Go.Proofs.YtlegmnpngcadhaaW.PrintLast Go.Proofs.YtlegmnpngcadhaaW.PrintMore
set_option maxHeartbeats 2000000 in
theorem turned_f (r w : List Int) (x : Nat) (a d : Int) (hr : x < r.length) (hw : x < w.length) (hr2 : r.length ≤ 256) (hw2 : w.length ≤ 256) (h0 : 0 ≤ rd w (x : Int) + d) (h1 : rd w (x : Int) + d ≤ 16777215) : pool_turned.f r w (x : Int) a d = some (r.set x a, w.set x (rd w (x : Int) + d)) := by
  unfold pool_turned.f pool_Clone.f slices_Clone_int_int.f slices_Clone_int64_int64.f
  simp only [Option.bind_some, List.length_nil, List.nil_append, Nat.zero_add]
  rw [if_pos (by omega), if_pos (by omega)]
  simp only [Option.bind_some]
  rw [if_pos (by omega), if_pos (by omega), if_pos (by omega), w64 (by omega) (by omega), Int.toNat_natCast]
  unfold mn
  rw [if_neg (by omega)]
theorem asks_ev {r w : List Int} (h : Ok r w) {x : Nat} (hx : x < r.length) : Ev (fun k => pool_asks.f k r w (x : Int)) 0 := by
  unfold pool_asks.f
  refine Ev.bind (check_ev r w) ?_
  rw [chk_ok h]
  exact Ev.iff_pos rfl (Ev.iff_neg (by omega) (Ev.iff_neg (by omega) (Ev.now _)))
theorem u16_suc (t : Nat) (h : t < 700) : IntKind.u16.wrap ((t : Int) + 1) = ((t + 1 : Nat) : Int) := by
  have : ((t : Int) + 1) % 65536 = (t : Int) + 1 := by omega
  first
    | (simp [IntKind.wrap, IntKind.signed, IntKind.bits, this])
    | (show ((t : Int) + 1) % 65536 = _; omega)
theorem rd_mem {w : List Int} {x : Nat} (h : x < w.length) : rd w (x : Int) ∈ w := by rw [rd_nat w x h]; exact List.getElem_mem h
theorem set_self {w : List Int} {x : Nat} (h : x < w.length) : w.set x (rd w (x : Int)) = w := by
  rw [rd_nat w x h]; exact List.set_getElem_self h
theorem rd_set {w : List Int} {x j : Nat} {a : Int} (h : x < w.length) : rd (w.set x a) (j : Int) = if j = x then a else rd w (j : Int) := by
  unfold rd
  rw [Int.toNat_natCast, List.getD_eq_getElem?_getD, List.getD_eq_getElem?_getD]
  by_cases e : j = x
  · subst e
    rw [if_pos rfl, List.getElem?_set_self h]; rfl
  · rw [if_neg e, List.getElem?_set_ne (Ne.symm e)]
theorem ok_of {r w : List Int} (h16 : 16 ≤ r.length) (h256 : r.length ≤ 256) (hl : w.length = r.length) (hr : ∀ x ∈ r, kn x) {t : Int} (ht : t ≤ 700) (hw : ∀ x ∈ w, 0 ≤ x ∧ x ≤ t) : Ok r w :=
  ⟨h16, h256, hl, hr, fun x hx => ⟨(hw x hx).1, by have := (hw x hx).2; omega⟩⟩
set_option maxHeartbeats 2000000 in
theorem fair_loop (r : List Int) (h16 : 16 ≤ r.length) (h256 : r.length ≤ 256) (hr : ∀ x ∈ r, kn x) (T : Nat) (hT : T < 700) (d : Nat) : ∀ (t : Nat) (w : List Int), t + d = T → w.length = r.length → (∀ x ∈ w, 0 ≤ x ∧ x ≤ (t : Int)) → (∀ i j : Nat, r.getD i 0 = 1 → r.getD j 0 ≠ 6 → j < r.length → rd w (j : Int) ≤ rd w (i : Int) + 1) → (∀ j : Nat, j < r.length → r.getD j 0 ≠ 6 → r.getD j 0 = 1) →
    Ev (fun k => slipwaylaw04_PoolFair.l0 k (T : Int) (t : Int) r w) true := by
  induction d with
  | zero =>
    intro t w ht hl hw hf h1
    have ok := ok_of h16 h256 hl hr (t := (t : Int)) (by omega) hw
    obtain ⟨p, p1, p2⟩ := spread_ev ok
    refine Ev.step (f := fun k => (pool_Spread.f k r w).bind fun bt330 => (some (decide ((wrap64 (bt330.2 - bt330.1)) ≤ 1)))) (fun k => ?_) (Ev.bind p1 ?_)
    · simp only [slipwaylaw04_PoolFair.l0]
      rw [if_neg (by omega)]
    · rw [show decide (wrap64 (p.2 - p.1) ≤ 1) = true from ?_]
      · exact Ev.now _
      refine decide_eq_true ?_
      rcases p2 with ⟨_, rfl⟩ | ⟨⟨i, gi, ei⟩, _, ⟨j, gj, ej⟩, _⟩
      · rw [w64 (by decide) (by decide)]; decide
      · have k1 := hf i j (h1 i gi.1 gi.2) gj.2 gj.1
        have k2 := hw _ (rd_mem (w := w) (x := i) (by have := gi.1; omega))
        have k3 := hw _ (rd_mem (w := w) (x := j) (by have := gj.1; omega))
        rw [ei, ej, w64 (by omega) (by omega)]
        omega
  | succ d ih =>
    intro t w ht hl hw hf h1
    have ok := ok_of h16 h256 hl hr (t := (t : Int)) (by omega) hw
    have C := choose_ev r w
    have hb := blk_ok ok 1
    by_cases c : top false w (blk r w 1) ≥ 0
    · have L := top_least w (blk r w 1)
      obtain ⟨x, hx, ex⟩ : ∃ x ∈ blk r w 1, top false w (blk r w 1) = ((x : Nat) : Int) := by
        rcases top_mem false w (blk r w 1) with e | e
        · omega
        · exact e
      rw [decide_eq_true c, ex, show mx (x : Int) 0 = (x : Int) by unfold mx; rw [if_neg (by omega)]] at C
      rw [ex] at L
      rw [hb] at hx L
      obtain ⟨xl, x1⟩ := mem_idx.1 hx
      have xw : x < w.length := by omega
      have xr : rd r (x : Int) = 1 := by unfold rd; rw [Int.toNat_natCast]; exact x1
      have wx := hw _ (rd_mem xw)
      have ok4 : Ok (r.set x 4) w := ⟨by rw [List.length_set]; exact h16, by rw [List.length_set]; exact h256, by rw [List.length_set]; exact hl, fun y hy => by
        rcases List.mem_or_eq_of_mem_set hy with hy | rfl
        · exact hr y hy
        · unfold kn; omega, ok.we⟩
      have B : Ev (fun k => pool_Take.f k r w (x : Int) 4) (r.set x 4, w, 0) := by
        unfold pool_Take.f
        refine Ev.bind (asks_ev ok xl) (Ev.iff_pos rfl (Ev.bind (role_ev 4) (Ev.iff_pos (by decide) (Ev.iff_pos (by omega) (Ev.iff_pos (by omega) (Ev.iff_pos xr (Ev.bindS (a := (r.set x 4, w)) (fun n => ?_) (Ev.now _))))))))
        rw [turned_f r w x 4 0 xl xw h256 (by omega) (by omega) (by omega), Int.add_zero, set_self xw]
      have D : Ev (fun k => pool_Give.f k (r.set x 4) w (x : Int)) (r, w.set x (rd w (x : Int) + 1), 0) := by
        unfold pool_Give.f
        refine Ev.bind (asks_ev ok4 (by rw [List.length_set]; exact xl)) (Ev.iff_pos rfl (Ev.iff_pos (by omega) (Ev.iff_pos (by rw [List.length_set]; omega) ?_)))
        rw [rd_set xl, if_pos rfl]
        refine Ev.bind (role_ev 4) (Ev.iff_pos (by decide) (Ev.bindS (a := (r, w.set x (rd w (x : Int) + 1))) (fun n => ?_) (Ev.now _)))
        rw [turned_f (r.set x 4) w x 1 1 (by rw [List.length_set]; exact xl) xw (by rw [List.length_set]; exact h256) (by omega) (by omega) (by omega), List.set_set, ← xr, set_self xl]
      have nx := ih (t + 1) (w.set x (rd w (x : Int) + 1)) (by omega) (by rw [List.length_set]; exact hl) (fun y hy => by
        rcases List.mem_or_eq_of_mem_set hy with hy | rfl
        · have := hw y hy; omega
        · omega) (fun i j hi hj hjl => by
        have Lj : rd w (x : Int) ≤ rd w (j : Int) := L j (mem_idx.2 ⟨hjl, h1 j hjl hj⟩)
        have F := hf i j hi hj hjl
        have Li : rd w (x : Int) ≤ rd w (i : Int) := by
          by_cases il : i < r.length
          · exact L i (mem_idx.2 ⟨il, hi⟩)
          · rw [List.getD_eq_getElem?_getD, List.getElem?_eq_none (by omega)] at hi
            exact absurd hi (by decide)
        rw [rd_set xw, rd_set xw]
        by_cases e1 : j = x
        · rw [if_pos e1]
          by_cases e2 : i = x
          · rw [if_pos e2]; omega
          · rw [if_neg e2]; omega
        · rw [if_neg e1]
          by_cases e2 : i = x
          · subst e2
            rw [if_pos rfl]; omega
          · rw [if_neg e2]; exact F) h1
      refine Ev.step (f := fun k => (pool_Choose.f k r w).bind fun bt332 => (if bt332.2 = true then ((pool_Take.f k r w bt332.1 4).bind fun bt335 => (if bt335.2.2 = 0 then ((pool_Give.f k bt335.1 bt335.2.1 bt332.1).bind fun bt343 => (if bt343.2.2 = 0 then (slipwaylaw04_PoolFair.l0 k (T : Int) ((t + 1 : Nat) : Int) bt343.1 bt343.2.1) else (none))) else (none))) else ((pool_Count.f k r w 1).bind fun t334 => (some (t334 == 0))))) (fun k => ?_) (Ev.bind C (Ev.iff_pos rfl (Ev.bind B (Ev.iff_pos rfl (Ev.bind D (Ev.iff_pos rfl nx))))))
      simp only [slipwaylaw04_PoolFair.l0]
      rw [if_pos (by omega), u16_suc t (by omega)]
    · rw [decide_eq_false c] at C
      have e0 := top_none (show top false w (blk r w 1) < 0 by omega)
      have K := count_ev r w 1
      rw [e0] at K
      refine Ev.step (f := fun k => (pool_Choose.f k r w).bind fun bt332 => (if bt332.2 = true then ((pool_Take.f k r w bt332.1 4).bind fun bt335 => (if bt335.2.2 = 0 then ((pool_Give.f k bt335.1 bt335.2.1 bt332.1).bind fun bt343 => (if bt343.2.2 = 0 then (slipwaylaw04_PoolFair.l0 k (T : Int) ((t + 1 : Nat) : Int) bt343.1 bt343.2.1) else (none))) else (none))) else ((pool_Count.f k r w 1).bind fun t334 => (some (t334 == 0))))) (fun k => ?_) (Ev.bind C (Ev.iff_neg (by simp) (Ev.bind K (Ev.now _))))
      simp only [slipwaylaw04_PoolFair.l0]
      rw [if_pos (by omega), u16_suc t (by omega)]
set_option maxHeartbeats 2000000 in
theorem PoolFair : slipwaylaw04_PoolFair.Pure := by
  intro n bad a _ _ hm _ ha
  have nb : bad.length ≤ 140737488355328 := by omega
  refine Ev.rounds (r := true) ?_
  obtain ⟨q, q1, _, q3, q4⟩ := new_ev n bad nb
  unfold slipwaylaw04_PoolFair.f
  refine Ev.bind q1 (Ev.bind begun_ev (Ev.iff_pos rfl ?_))
  obtain ⟨r, w, e⟩ := q
  by_cases c : e = 0
  · subst c
    obtain ⟨f1, f2, f3⟩ := q3
    obtain ⟨g1, g2, g3⟩ := f3 rfl
    obtain ⟨n0, n1⟩ := q4 rfl
    simp only [] at g1 g2 g3 f1 f2 ⊢
    obtain ⟨T, eT, hT⟩ : ∃ T : Nat, Int.tmod a 700 = (T : Int) ∧ T < 700 := by
      have h0 : 0 ≤ a ∧ a ≤ 65535 := by
        have := ha
        simp [Lit.wf, IntKind.min, IntKind.max, IntKind.signed, IntKind.bits] at this
        first | omega | (revert this; intro h; exact ⟨by omega, by omega⟩)
      refine ⟨a.toNat % 700, ?_, Nat.mod_lt _ (by decide)⟩
      rw [Int.tmod_eq_emod_of_nonneg h0.1]
      omega
    refine Ev.step (f := fun k => slipwaylaw04_PoolFair.l0 k (T : Int) 0 r w) (fun k => ?_) ?_
    · simp only [slipwaylaw04_PoolFair.j0]
      rw [if_neg (by decide), eT]
    have W0 : ∀ x ∈ w, x = 0 := fun x hx => by rw [g3] at hx; exact List.eq_of_mem_replicate hx
    have R0 : ∀ j : Nat, rd w (j : Int) = 0 := fun j => by
      by_cases hj : j < w.length
      · exact W0 _ (rd_mem hj)
      · unfold rd; rw [Int.toNat_natCast, List.getD_eq_getElem?_getD, List.getElem?_eq_none (by omega)]; rfl
    refine fair_loop r (by omega) (by omega) (fun x hx => by rcases g2 x hx with rfl | rfl <;> (unfold kn; omega)) T hT T 0 w (by omega) (by rw [g3, List.length_replicate]; exact g1.symm) (fun x hx => by rw [W0 x hx]; omega) (fun i j _ _ _ => by rw [R0 i, R0 j]; omega) (fun j hj h6 => ?_)
    rw [List.getD_eq_getElem?_getD, List.getElem?_eq_getElem hj] at h6 ⊢
    rcases g2 _ (List.getElem_mem hj) with e | e
    · exact e
    · exact absurd e h6
  · refine Ev.step (f := fun k => (slipwaylaw04_begun.f k).bind fun t329 => (some t329)) (fun k => ?_) (Ev.bind begun_ev (Ev.now _))
    simp only [slipwaylaw04_PoolFair.j0]
    rw [if_pos (by simpa using c)]
end Go.Proofs.Ytlegmnpngcadhaa.Pure
end
