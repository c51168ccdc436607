/- Texts of the proof of BitmapBack, part 18. -/
import Derived.Test.YtllodfjbenmlpaaBitmapBackM16
import Derived.Test.YtllodfjbenmlpaaBitmapBackM17
import Derived.Test.YtllodfjbenmlpaaBitmapBackM13
section
namespace Go.Proofs.Ytllodfjbenmlpaa.Pure
set_option linter.unusedVariables false
set_option linter.unusedSimpArgs false
open Go.RowKit Go.Proofs.Ytllodfjbenmlpaa.Print Go.Proofs.Ytllodfjbenmlpaa.Bm Go.Proofs.YtllodfjbenmlpaaW.PrintWords Go.Proofs.YtllodfjbenmlpaaW.PrintLast Go.Proofs.YtllodfjbenmlpaaW.PrintMore
theorem rd36b (q : List (Nat × Nat)) (i : Nat) (h : i < q.length) : rd_T36 (q.map s36) (i : Int) = s36 q[i] := by simp [rd_T36, List.getD_eq_getElem?_getD, h]
theorem back {l : List Int} (hb : By l) {n f m : Int} {w : Bool} (h : (trn l n f m w).2 = 0) : Ok l n ∧ 0 ≤ m ∧ m ≤ n ∧ Ok (trn l n f m w).1 n ∧ By (trn l n f m w).1 ∧ trn (trn l n f m w).1 n f m (!w) = (l, 0) ∧ (w = false → zc (trn l n f m w).1 n.toNat + m.toNat = zc l n.toNat) := by
  unfold trn at h ⊢
  by_cases ho : Ok l n
  · rw [if_pos ho] at h ⊢
    by_cases hr : 0 ≤ f ∧ 0 ≤ m ∧ f ≤ n ∧ m ≤ n - f
    · rw [if_pos hr] at h ⊢
      by_cases ha : All l f.toNat 0 m.toNat w
      · rw [if_pos ha]
        simp only []
        have hl := ho.len
        have h0 := ho.n0
        have h1 := ho.n1
        obtain ⟨r0, r1, r2, r3⟩ := hr
        obtain ⟨F, rfl⟩ := Int.eq_ofNat_of_zero_le r0
        obtain ⟨M, rfl⟩ := Int.eq_ofNat_of_zero_le r1
        obtain ⟨N, rfl⟩ := Int.eq_ofNat_of_zero_le h0
        simp only [Int.toNat_natCast] at ha ⊢
        have hfm : F + M ≤ 8 * l.length := by omega
        have hbx := flips_By hb F M
        have hlx : (flips l F M).length = 256 := by rw [flips_len, hl]
        have hox : Ok (flips l F M) (N : Int) := ⟨h0, h1, hlx, fun j hj1 hj2 => by
          rw [Int.toNat_natCast] at hj1
          have := ho.on j (by rw [Int.toNat_natCast]; exact hj1) hj2
          rw [bt_flips hb F M j hfm, this, decide_eq_false (by omega)]
          rfl⟩
        have hax : All (flips l F M) F 0 M (!w) := fun j _ hj => by
          rw [bt_flips hb F M _ hfm, ha j (by omega) hj, decide_eq_true (by omega)]
          cases w <;> rfl
        have hback : flips (flips l F M) F M = l := by
          refine ext_bits (flips_By hbx F M) hb (by rw [flips_len, flips_len]) (fun j _ => ?_)
          rw [bt_flips hbx F M j (by rw [hlx]; omega), bt_flips hb F M j hfm]
          cases bt l j <;> cases decide (F ≤ j ∧ j < F + M) <;> rfl
        refine ⟨ho, by omega, by omega, hox, hbx, ?_, fun hw => ?_⟩
        · rw [if_pos hox, if_pos ⟨by omega, by omega, by omega, by omega⟩, if_pos hax, hback]
        · subst hw
          have cnt_ : ∀ q : Nat, zc (flips l F M) q + (min q (F + M) - F) = zc l q := by
            intro q
            induction q with
            | zero => simp [zc]
            | succ q ih =>
              rw [zc, zc, bt_flips hb F M q hfm]
              by_cases c : F ≤ q ∧ q < F + M
              · have hz : bt l q = false := by
                  have := ha (q - F) (by omega) (by omega)
                  rwa [show F + (q - F) = q by omega] at this
                rw [decide_eq_true c, hz]
                simp only [bne_self_eq_false, Bool.false_bne, if_true]
                simp
                omega
              · rw [decide_eq_false c]
                simp only [Bool.bne_false]
                omega
          have := cnt_ N
          omega
      · rw [if_neg ha] at h
        exact absurd h (by decide)
    · rw [if_neg hr] at h
      exact absurd h (by decide)
  · rw [if_neg ho] at h
    exact absurd h (by decide)
def pre (q : List (Nat × Nat)) : Nat := sm q
set_option maxHeartbeats 2000000 in
theorem back_loop {l : List Int} (hb : By l) (n : Int) (d : Nat) : ∀ i : Nat, i + d = (rns l n).length → Ev (fun k => slipwaylaw12_BitmapBack.l0 k l n ((sm ((rns l n).take i) : Nat) : Int) ((rns l n).map s36) ((rns l n).length : Int) (i : Int)) true := by
  have hl : (((rns l n).map s36).length : Int) = ((rns l n).length : Int) := by simp
  have hlen := @rns_len l n
  have hc := cnt_le l n
  induction d with
  | zero =>
    intro i hi
    have e : i = (rns l n).length := by omega
    subst e
    rw [List.take_length]
    refine Ev.step (f := fun k => (bitmap_Count.f k l n).bind fun t251 => (some (((sm (rns l n) : Nat) : Int) == t251))) (fun k => ?_) (Ev.bind (count_ev hb n) ?_)
    · simp only [slipwaylaw12_BitmapBack.l0]
      rw [if_neg (by omega)]
    · rw [show (((sm (rns l n) : Nat) : Int) == ((cnt l n : Nat) : Int)) = true by unfold cnt; simp]
      exact Ev.now _
  | succ d ih =>
    intro i hi
    have hi2 : i < (rns l n).length := by omega
    have e1 := suc64 i 4096 (by omega) (by omega)
    have hrd := rd36b (rns l n) i hi2
    have nx := ih (i + 1) (by omega)
    have hle : sm ((rns l n).take (i + 1)) ≤ cnt l n := by
      have e2 : sm (rns l n) = sm ((rns l n).take (i + 1)) + sm ((rns l n).drop (i + 1)) := by
        unfold sm
        rw [← List.sum_append, ← List.map_append, List.take_append_drop]
      unfold cnt
      omega
    have ht : (rns l n).take (i + 1) = (rns l n).take i ++ [(rns l n)[i]] := by rw [List.take_add_one, List.getElem?_eq_getElem hi2, Option.toList_some]
    rw [ht, sm_snoc] at nx hle
    refine Ev.step (fun k => ?_) nx
    simp only [slipwaylaw12_BitmapBack.l0]
    rw [if_pos (by omega), if_pos (by omega), if_pos (by rw [hl]; omega), hrd, e1]
    rw [show (s36 (rns l n)[i]).f1 = (((rns l n)[i].2 : Nat) : Int) from rfl, w64 (by omega) (by omega)]
    rfl
set_option maxHeartbeats 2000000 in
theorem BitmapBack : slipwaylaw12_BitmapBack.Pure := by
  intro l n f m _ _ hwl _ _ hwm
  have hb := by_wf hwl
  refine Ev.rounds ?_
  have J1 : Ev (fun k => slipwaylaw12_BitmapBack.j1 k l n) true := by
    refine Ev.step (f := fun k => (slipwaylaw12_told.f k l n 9999).bind fun t246 => slipwaylaw12_BitmapBack.l0 k l n 0 t246 (t246.length : Int) 0) (fun k => by simp only [slipwaylaw12_BitmapBack.j1]) (Ev.bind (told_ev hb n 9999) ?_)
    have hlen := @rns_len l n
    rw [List.take_of_length_le (by show _ ≤ 9999; omega), show (((rns l n).map s36).length : Int) = ((rns l n).length : Int) by simp]
    exact back_loop hb n (rns l n).length 0 (by omega)
  have J0 : Ev (fun k => slipwaylaw12_BitmapBack.j0 k l n f m) true := by
    refine Ev.step (f := fun k => (bitmap_Clear.f k l n f m).bind fun bt237 => (if bt237.2 = 0 then ((bitmap_Set.f k bt237.1 n f m).bind fun bt241 => (if bt241.2 = 0 then ((bytes_Equal.f bt241.1 l).bind fun t245 => (if t245 = true then (slipwaylaw12_BitmapBack.j1 k l n) else (none))) else (none))) else (slipwaylaw12_BitmapBack.j1 k l n))) (fun k => by simp only [slipwaylaw12_BitmapBack.j0]) (Ev.bind (clear_ev hb n f m) ?_)
    by_cases h : (trn l n f m true).2 = 0
    · obtain ⟨ho, _, _, hox, hbx, hbk, _⟩ := back hb h
      refine Ev.iff_pos h ?_
      have hs := set_ev hbx n f m
      rw [show (false : Bool) = !true from rfl, hbk] at hs
      exact Ev.bind hs (Ev.iff_pos rfl (Ev.bindS (fun _ => eq_self _) (Ev.iff_pos rfl J1)))
    · exact Ev.iff_neg h J1
  unfold slipwaylaw12_BitmapBack.f
  refine Ev.bind begun_ev (Ev.iff_pos rfl (Ev.bind (set_ev hb n f m) ?_))
  by_cases h : (trn l n f m false).2 = 0
  · obtain ⟨ho, hm0, hmn, hox, hbx, hbk, hz⟩ := back hb h
    refine Ev.iff_pos h ?_
    have hs := clear_ev hbx n f m
    rw [show (true : Bool) = !false from rfl, hbk] at hs
    refine Ev.bind hs (Ev.iff_pos rfl (Ev.bindS (fun _ => eq_self _) (Ev.iff_pos rfl (Ev.bind (check_ev hbx n) (Ev.iff_pos (chk_ok hox) (Ev.bind (count_ev hbx n) (Ev.bind (count_ev hb n) (Ev.iff_pos ?_ J0))))))))
    have h1 := cnt_ok hox
    have h2 := cnt_ok ho
    have h3 := hz rfl
    have h4 := cnt_le l n
    rw [w64 (by omega) (by omega)]
    omega
  · exact Ev.iff_neg h J0
end Go.Proofs.Ytllodfjbenmlpaa.Pure
end
