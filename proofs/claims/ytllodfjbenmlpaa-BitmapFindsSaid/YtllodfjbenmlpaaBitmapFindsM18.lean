/- Texts of the proof of BitmapFinds, part 18. -/
import Derived.Test.YtllodfjbenmlpaaBitmapFindsM16
import Derived.Test.YtllodfjbenmlpaaBitmapFindsM17
import Derived.Test.YtllodfjbenmlpaaBitmapFindsM13
section
namespace Go.Proofs.Ytllodfjbenmlpaa.Pure
set_option linter.unusedVariables false
set_option linter.unusedSimpArgs false
open Go.RowKit Go.Proofs.Ytllodfjbenmlpaa.Print Go.Proofs.Ytllodfjbenmlpaa.Bm Go.Proofs.YtllodfjbenmlpaaW.PrintWords Go.Proofs.YtllodfjbenmlpaaW.PrintLast Go.Proofs.YtllodfjbenmlpaaW.PrintMore
def mxl (q : List (Nat × Nat)) : Int := q.foldl (fun s x => mx s (x.2 : Int)) 0
theorem mxl_snoc (q : List (Nat × Nat)) (x : Nat × Nat) : mxl (q ++ [x]) = mx (mxl q) (x.2 : Int) := by simp [mxl]
set_option maxHeartbeats 2000000 in
theorem mxl_key : ∀ r : List (Nat × Nat), 0 ≤ mxl r.reverse ∧ (∀ x ∈ r.reverse, (x.2 : Int) ≤ mxl r.reverse) ∧ (mxl r.reverse = 0 ∨ ∃ x ∈ r.reverse, mxl r.reverse = (x.2 : Int)) := by
  intro r
  induction r with
  | nil => exact ⟨Int.le_refl _, fun x hx => by simp at hx, .inl rfl⟩
  | cons y r ih =>
    rw [List.reverse_cons]
    generalize r.reverse = p at ih ⊢
    obtain ⟨h0, h1, h2⟩ := ih
    rw [mxl_snoc]
    have e : mx (mxl p) (y.2 : Int) = if mxl p < (y.2 : Int) then (y.2 : Int) else mxl p := by
      unfold mx
      split <;> first | rfl | (split <;> omega)
    rw [e]
    by_cases c : mxl p < (y.2 : Int)
    · rw [if_pos c]
      refine ⟨by omega, fun x hx => ?_, .inr ⟨y, List.mem_append_right _ (List.mem_singleton.2 rfl), rfl⟩⟩
      rcases List.mem_append.1 hx with hx | hx
      · have := h1 x hx
        omega
      · rw [List.mem_singleton.1 hx]
        exact Int.le_refl _
    · rw [if_neg c]
      refine ⟨h0, fun x hx => ?_, h2.imp_right (fun ⟨x, hx, e⟩ => ⟨x, List.mem_append_left _ hx, e⟩)⟩
      rcases List.mem_append.1 hx with hx | hx
      · exact h1 x hx
      · rw [List.mem_singleton.1 hx]
        omega
theorem mxl_facts (q : List (Nat × Nat)) : 0 ≤ mxl q ∧ (∀ x ∈ q, (x.2 : Int) ≤ mxl q) ∧ (mxl q = 0 ∨ ∃ x ∈ q, mxl q = (x.2 : Int)) := by
  have := mxl_key q.reverse
  rwa [List.reverse_reverse] at this
theorem rd36 (q : List (Nat × Nat)) (i : Nat) (h : i < q.length) : rd_T36 (q.map s36) (i : Int) = s36 q[i] := by simp [rd_T36, List.getD_eq_getElem?_getD, h]
set_option maxHeartbeats 2000000 in
theorem finds_loop (q : List (Nat × Nat)) (want kk : Int) (hlen : q.length ≤ 2048) (d : Nat) : ∀ i : Nat, i + d = q.length → Ev (fun k => slipwaylaw12_BitmapFinds.l0 k want kk (mxl (q.take i)) (q.map s36) (q.length : Int) (i : Int)) (kk == mn (mxl q) want) := by
  have hl : ((q.map s36).length : Int) = (q.length : Int) := by simp
  induction d with
  | zero =>
    intro i hi
    have e : i = q.length := by omega
    subst e
    rw [List.take_length]
    refine Ev.step (f := fun _ => some (kk == mn (mxl q) want)) (fun k => ?_) (Ev.now _)
    simp only [slipwaylaw12_BitmapFinds.l0]
    rw [if_neg (by omega)]
  | succ d ih =>
    intro i hi
    have hi2 : i < q.length := by omega
    have e1 := suc64 i 4096 (by omega) (by omega)
    have hrd := rd36 q i hi2
    have nx := ih (i + 1) (by omega)
    rw [List.take_add_one, List.getElem?_eq_getElem hi2, Option.toList_some, mxl_snoc] at nx
    refine Ev.step (fun k => ?_) nx
    simp only [slipwaylaw12_BitmapFinds.l0]
    rw [if_pos (by omega), if_pos (by omega), if_pos (by rw [hl]; omega), hrd, e1]
    rfl
set_option maxHeartbeats 2000000 in
theorem BitmapFinds : slipwaylaw12_BitmapFinds.Pure := by
  intro l n goal want _ _ hwl _ _ _
  have hb := by_wf hwl
  refine Ev.rounds ?_
  have skip : Ev (fun k => slipwaylaw12_BitmapFinds.j0 k l n goal want true) true := by
    refine Ev.step (f := fun k => (slipwaylaw12_begun.f k).bind fun t179 => (some t179)) (fun k => ?_) (Ev.bind begun_ev (Ev.now _))
    simp only [slipwaylaw12_BitmapFinds.j0]
    rw [if_pos trivial]
  unfold slipwaylaw12_BitmapFinds.f
  refine Ev.bind begun_ev (Ev.iff_pos rfl (Ev.bind (check_ev hb n) ?_))
  by_cases ho : Ok l n
  · rw [chk_ok ho]
    refine Ev.iff_pos rfl ?_
    by_cases hw : want < 1
    · rw [decide_eq_true hw]; exact skip
    · rw [decide_eq_false hw]
      have hf := fnd_fits (rns l n) (from_ l n goal) want (by omega)
      have hr := run_ev hb n goal want
      rw [if_neg hw] at hr
      generalize fnd (rns l n) (from_ l n goal) want = r at hf hr
      have h0 := ho.n0
      have h1 := ho.n1
      have inv := pcs_inv l n.toNat
      have hq : rns l n = pcs l n.toNat := rns_ok ho
      have small := mxl_facts (rns l n)
      obtain ⟨m0, m1, m2⟩ := small
      -- what is found lies in the bitmap, and its bits are 0
      have key : 0 ≤ r.2 ∧ r.2 ≤ want ∧ r.2 = mn (mxl (rns l n)) want ∧ 0 ≤ r.1 ∧ r.1 ≤ n ∧ r.2 ≤ n - r.1 ∧ All l r.1.toNat 0 r.2.toNat false := by
        rcases hf with ⟨e, x, hx, h2, h3⟩ | ⟨h2, h3, h4⟩
        · have hxm := m1 x hx
          rw [hq] at hx
          obtain ⟨g1, g2, g3⟩ := inv.mem x hx
          refine ⟨by omega, by omega, ?_, by omega, by omega, by omega, fun j _ hj => g3 _ (by omega) (by omega)⟩
          unfold mn
          split <;> omega
        · have hm : mxl (rns l n) = r.2 := by
            rcases h4 with e | ⟨x, hx, e⟩
            · rcases m2 with e2 | ⟨y, hy, e2⟩
              · rw [e2, e]
              · have a1 := h3 y hy
                have a2 := (inv.mem y (by rw [← hq]; exact hy)).1
                rw [e] at a1
                simp only [] at a1
                omega
            · have a1 := m1 x hx
              rcases m2 with e2 | ⟨y, hy, e2⟩
              · rw [e] at h3 ⊢
                simp only [] at h3 ⊢
                have := (inv.mem x (by rw [← hq]; exact hx)).1
                omega
              · have := h3 y hy
                rw [e] at this ⊢
                simp only [] at this ⊢
                omega
          rcases h4 with e | ⟨x, hx, e⟩
          · rw [e] at hm ⊢
            simp only [] at hm ⊢
            refine ⟨by omega, by omega, ?_, by omega, by omega, by omega, fun j _ hj => by simp at hj⟩
            rw [hm]
            unfold mn
            split <;> omega
          · have hxw := h2 x hx
            have hx' := hx
            rw [hq] at hx'
            obtain ⟨g1, g2, g3⟩ := inv.mem x hx'
            rw [e] at hm ⊢
            simp only [] at hm ⊢
            refine ⟨by omega, by omega, ?_, by omega, by omega, by omega, fun j _ hj => g3 _ (by simp) (by simp at hj ⊢; omega)⟩
            rw [hm]
            unfold mn
            split <;> omega
      obtain ⟨k0, k1, k2, k3, k4, k5, k6⟩ := key
      have hset : trn l n r.1 r.2 false = (flips l r.1.toNat r.2.toNat, 0) := by
        unfold trn
        rw [if_pos ho, if_pos ⟨k3, k0, k4, k5⟩, if_pos k6]
      refine Ev.step (f := fun k => (bitmap_Run.f k l n goal want).bind fun bt180 => (if bt180.2 > want then (slipwaylaw12_BitmapFinds.j1 k l n want bt180.1 bt180.2 true) else (slipwaylaw12_BitmapFinds.j1 k l n want bt180.1 bt180.2 (decide (bt180.2 < 0))))) (fun k => ?_) (Ev.bind hr (Ev.iff_neg (by omega) ?_))
      · simp only [slipwaylaw12_BitmapFinds.j0]
        rw [if_neg (by decide)]
      rw [decide_eq_false (show ¬ r.2 < 0 by omega)]
      have hs := set_ev hb n r.1 r.2
      rw [hset] at hs
      refine Ev.step (f := fun k => (bitmap_Set.f k l n r.1 r.2).bind fun bt182 => (if bt182.2 = 0 then ((slipwaylaw12_told.f k l n 9999).bind fun t186 => (slipwaylaw12_BitmapFinds.l0 k want r.2 0 t186 (t186.length : Int) 0)) else (none))) (fun k => ?_) (Ev.bind hs (Ev.iff_pos rfl (Ev.bind (told_ev hb n 9999) ?_)))
      · simp only [slipwaylaw12_BitmapFinds.j1]
        rw [if_neg (by decide)]
      have hlen := @rns_len l n
      rw [List.take_of_length_le (by show _ ≤ 9999; omega), show (((rns l n).map s36).length : Int) = ((rns l n).length : Int) by simp]
      have := finds_loop (rns l n) want r.2 hlen (rns l n).length 0 (by omega)
      rw [show true = (r.2 == mn (mxl (rns l n)) want) by rw [← k2]; simp]
      exact this
  · rw [chk_no ho]
    exact Ev.iff_neg (by decide) skip
end Go.Proofs.Ytllodfjbenmlpaa.Pure
end
