/- The pure statements of the seal laws on values as bits. -/
import Derived.Test.YtbgfoibfjgmfhaaUnpackEv
import Derived.Test.YtbgfoibfjgmfhaaPrint18
import Derived.Test.YtbgfoibfjgmfhaaPrint2
import Derived.Test.YtbgfoibfjgmfhaaPrint20
import Derived.Test.YtbgfoibfjgmfhaaPrint21
import Derived.Test.YtbgfoibfjgmfhaaPrint6
import Derived.Test.YtbgfoibfjgmfhaaPrint7
namespace Go.Proofs.Ytbgfoibfjgmfhaa.Pure
set_option linter.unusedVariables false
set_option linter.unusedSimpArgs false
open Go.RowKit Go.Proofs.Ytbgfoibfjgmfhaa.Print Go.Proofs.Ytbgfoibfjgmfhaa.SMath Go.Proofs.Ytbgfoibfjgmfhaa.SealEv Go.Proofs.Ytbgfoibfjgmfhaa.PackMath Go.Proofs.Ytbgfoibfjgmfhaa.PackEv Go.Proofs.YtbgfoibfjgmfhaaW.PrintWords Go.Proofs.YtbgfoibfjgmfhaaW.PrintLast Go.Proofs.YtbgfoibfjgmfhaaW.PrintMore

theorem live_ev : Ev (fun k => slipwaylaw01_live.f k) true := Ev.of slipwaylaw01_live.mono (k := 60) (by decide +kernel)
theorem equal64_from (a b : List Int) (hlen : a.length = b.length) (hn : a.length ≤ 140737488355328) (d : Nat) : ∀ (i : Nat), i + d = a.length → a.take i = b.take i →
    Ev (fun k => slices_Equal_uint64_uint64.l0 k a b (a.length : Int) (i : Int)) (decide (a = b)) := by
  induction d with
  | zero =>
    intro i hi h
    have hab : a = b := by rw [List.take_of_length_le (by omega), List.take_of_length_le (by omega)] at h; exact h
    refine Ev.step (f := fun _ => some true) (fun k => ?_) (by simp only [hab, decide_true]; exact Ev.now _)
    simp only [slices_Equal_uint64_uint64.l0]
    rw [if_neg (by omega)]
  | succ d ih =>
    intro i hi h
    have h1 : i < a.length := by omega
    have h2 : i < b.length := by omega
    have hs := suc64 i a.length h1 hn
    by_cases he : a[i] = b[i]
    · refine Ev.step (f := fun k => slices_Equal_uint64_uint64.l0 k a b (a.length : Int) ((i + 1 : Nat) : Int)) (fun k => ?_) (ih (i + 1) (by omega) (by rw [List.take_succ_eq_append_getElem h1, List.take_succ_eq_append_getElem h2, h, he]))
      simp only [slices_Equal_uint64_uint64.l0]
      rw [if_pos (by omega), if_pos (by omega), if_pos (by omega), if_pos (by omega), rd_nat a i h1, rd_nat b i h2, if_pos he, hs]
    · have hab : ¬ a = b := fun e => he (by subst e; rfl)
      refine Ev.step (f := fun _ => some false) (fun k => ?_) (by simp only [hab, decide_false]; exact Ev.now _)
      simp only [slices_Equal_uint64_uint64.l0]
      rw [if_pos (by omega), if_pos (by omega), if_pos (by omega), if_pos (by omega), rd_nat a i h1, rd_nat b i h2, if_neg he]
theorem equal64 (a b : List Int) (hn : a.length ≤ 140737488355328) : Ev (fun k => slices_Equal_uint64_uint64.f k a b) (decide (a = b)) := by
  unfold slices_Equal_uint64_uint64.f
  by_cases h : a.length = b.length
  · exact Ev.iff_pos (by omega) (equal64_from a b h hn a.length 0 (by omega) rfl)
  · have hab : ¬ a = b := fun e => h (by rw [e])
    simp only [hab, decide_false]
    exact Ev.iff_neg (by omega) (Ev.now _)
theorem wid_unique {ws : List Int} {r q : Int × Int} (h : WidR ws r) (k : WidR ws q) : r = q := by
  by_cases hw : wok ws
  · rw [h.1 hw, k.1 hw]
  · rw [h.2 hw, k.2 hw]
theorem unp_len {ws b : List Int} {r : List Int × Int} (h : UnpR ws b r) : r.1.length ≤ 64 := by
  by_cases h1 : wok ws
  · by_cases h2 : b.length = (tot (wn ws) + 7) / 8
    · by_cases h3 : late ws b
      · rw [h.2.2.1 h1 h2 h3]; simp
      · rw [h.2.2.2 h1 h2 h3, uvals_len]; exact h1.1
    · rw [h.2.1 h1 h2]; simp
  · rw [h.1 h1]; simp

theorem tot_find : ∀ (ws : List Nat) (j : Nat), j < tot ws → ∃ i t, ∃ h : i < ws.length, t < ws[i] ∧ j = tot (ws.take i) + t
  | [], j, h => by simp [tot] at h
  | w :: ws, j, h => by
    rw [tot_cons] at h
    by_cases hj : j < w
    · exact ⟨0, j, by simp, hj, by simp [tot]⟩
    · obtain ⟨i, t, hi, ht, e⟩ := tot_find ws (j - w) (by omega)
      refine ⟨i + 1, t, by simpa using hi, by simpa using ht, ?_⟩
      rw [List.take_succ_cons, tot_cons]
      omega
theorem fits_of {ws vs : List Int} {r : List Int × Int} (h : PackR ws vs r) (h0 : r.2 = 0) : fits ws vs ∧ PackOK ws vs r.1 := by
  by_cases hf : fits ws vs
  · exact ⟨hf, (h.1 hf).2⟩
  · rw [h.2 hf] at h0
    exact absurd h0 (by decide)
theorem back_one {ws vs x : List Int} (hv : U64s vs) (hf : fits ws vs) (hx : PackOK ws vs x) {r : List Int × Int} (h : UnpR ws x r) : r = (vs, 0) := by
  have hl : ¬ late ws x := by
    rintro ⟨j, h1, h2, h3⟩
    rw [hx.2.2 j, pb_out _ _ _ h1] at h3
    cases h3
  rw [h.2.2.2 hf.1 hx.2.1 hl]
  congr 1
  apply List.ext_getElem
  · rw [uvals_len, hf.2.1]
  · intro i h1 h2
    have hi : i < ws.length := by rw [uvals_len] at h1; exact h1
    have e : (uvals ws x ws.length)[i] = uval ws x i := by simp [uvals]
    have hiw : i < (wn ws).length := by rw [wn_len]; exact hi
    rw [e, uval_at ws x i hi, fg_of_bits (gb x) ws[i].toNat (tot ((wn ws).take i)) vs[i].toNat (hf.2.2 i hi h2) ?_]
    · have := (u64s_at hv i h2).1
      omega
    · intro t ht
      rw [hx.2.2, pb_at (wn ws) vs i hiw h2 t (by rw [wn_at ws i hi]; exact ht), wn_at ws i hi]
      rfl
theorem uvals_fit {ws b : List Int} (hw : wok ws) : U64s (uvals ws b ws.length) ∧ fits ws (uvals ws b ws.length) := by
  have hat : ∀ i (h : i < ws.length) (h' : i < (uvals ws b ws.length).length), (uvals ws b ws.length)[i] = (fg (gb b) (tot ((wn ws).take i)) ws[i].toNat 0 : Nat) := fun i h h' => by
    rw [← uval_at ws b i h]
    simp [uvals]
  have hlt : ∀ i (h : i < ws.length), fg (gb b) (tot ((wn ws).take i)) ws[i].toNat 0 < 2 ^ ws[i].toNat := fun i h => fg_lt _ _ _
  refine ⟨fun v hv => ?_, hw, uvals_len _ _ _, fun i h h' => ?_⟩
  · obtain ⟨i, hi, rfl⟩ := List.getElem_of_mem hv
    have hi' : i < ws.length := by rw [uvals_len] at hi; exact hi
    rw [hat i hi' hi]
    have h1 := hlt i hi'
    have h2 := (hw.2 _ (List.getElem_mem hi')).2
    have h3 : 2 ^ ws[i].toNat ≤ 2 ^ 64 := Nat.pow_le_pow_right (by decide) (by omega)
    have h4 : (2 : Nat) ^ 64 = 18446744073709551616 := rfl
    unfold U64
    omega
  · rw [hat i h h', Int.toNat_natCast]
    exact hlt i h
theorem back_two {ws b : List Int} (hw : wok ws) (hb : Bytes b) (hn : b.length = (tot (wn ws) + 7) / 8) (hl : ¬ late ws b) {r : List Int × Int} (h : PackR ws (uvals ws b ws.length) r) : r = (b, 0) := by
  obtain ⟨hu, hf⟩ := uvals_fit (b := b) hw
  obtain ⟨h0, hx⟩ := h.1 hf
  have e : r.1 = b := by
    refine bytes_ext hx.1 hb (hx.2.1.trans hn.symm) (fun j hj => ?_)
    rw [hx.2.2 j]
    by_cases ht : j < tot (wn ws)
    · obtain ⟨i, t, hi, htw, rfl⟩ := tot_find (wn ws) j ht
      have hi' : i < ws.length := by rw [wn_len] at hi; exact hi
      have h2 : i < (uvals ws b ws.length).length := by rw [uvals_len]; exact hi'
      have e1 : (uvals ws b ws.length)[i] = uval ws b i := by simp [uvals]
      have htw' : t < ws[i].toNat := by rw [wn_at ws i hi'] at htw; exact htw
      rw [pb_at (wn ws) _ i hi h2 t htw, e1, uval_at ws b i hi', wn_at ws i hi', vb, Int.toNat_natCast, fg_bit _ _ _ _ htw']
    · rw [pb_out _ _ _ (by omega)]
      have : ¬ gb b j = true := fun hg => hl ⟨j, by omega, by rw [hx.2.1] at hj; rw [hn]; exact hj, hg⟩
      simpa using this
  exact Prod.ext e h0
theorem fields_rest (ws b : List Int) (hb : Bytes b) : Ev (fun k => slipwaylaw01_SealFields.j0 k ws b) true := by
  obtain ⟨u, hu, uR⟩ := seal_unpack_ev ws b hb
  refine Ev.step (f := fun k => (seal_Unpack.f k ws b).bind fun x => if x.2 = 0 then (seal_Pack.f k ws x.1).bind fun y => if y.2 = 0 then (bytes_Equal.f y.1 b).bind fun t => some t else some false else some true) (fun k => ?_) (Ev.bind hu ?_)
  · simp only [slipwaylaw01_SealFields.j0]
  · by_cases h0 : u.2 = 0
    · refine Ev.iff_pos h0 ?_
      have hw : wok ws := by
        refine Classical.byContradiction fun h => ?_
        rw [uR.1 h] at h0
        exact absurd h0 (by decide)
      have hn : b.length = (tot (wn ws) + 7) / 8 := by
        refine Classical.byContradiction fun h => ?_
        rw [uR.2.1 hw h] at h0
        exact absurd h0 (by decide)
      have hl : ¬ late ws b := fun h => by
        rw [uR.2.2.1 hw hn h] at h0
        exact absurd h0 (by decide)
      rw [uR.2.2.2 hw hn hl]
      obtain ⟨r, hr, rR⟩ := seal_pack_ev ws (uvals ws b ws.length) (uvals_fit (b := b) hw).1
      rw [back_two hw hb hn hl rR] at hr
      refine Ev.bind hr (Ev.iff_pos rfl ?_)
      rw [bytes_equal hb hb, decide_eq_true rfl]
      exact Ev.now _
    · exact Ev.iff_neg h0 (Ev.now _)

theorem SealFields : slipwaylaw01_SealFields.Pure := by
  intro l0 l1 l2 h1 h2 h3 h4 h5 h6 h7 h8 h9
  have hv := u64s_of_wf h6
  have hb := bytes_of_wf h9
  refine Ev.rounds (g := fun k => slipwaylaw01_SealFields.f k l0 l1 l2) ?_
  obtain ⟨r, hr, rR⟩ := seal_pack_ev l0 l1 hv
  unfold slipwaylaw01_SealFields.f
  refine Ev.bind live_ev (Ev.iff_pos rfl (Ev.bind hr ?_))
  by_cases h0 : r.2 = 0
  · obtain ⟨hf, hx⟩ := fits_of rR h0
    obtain ⟨u, hu, uR⟩ := seal_unpack_ev l0 r.1 hx.1
    rw [back_one hv hf hx uR] at hu
    refine Ev.iff_pos h0 (Ev.bind hu (Ev.iff_pos rfl (Ev.bind (equal64 l1 l1 (by have := hf.2.1; have := hf.1.1; omega)) ?_)))
    rw [decide_eq_true rfl]
    exact Ev.iff_pos rfl (fields_rest l0 l2 hb)
  · exact Ev.iff_neg h0 (fields_rest l0 l2 hb)
end Go.Proofs.Ytbgfoibfjgmfhaa.Pure
