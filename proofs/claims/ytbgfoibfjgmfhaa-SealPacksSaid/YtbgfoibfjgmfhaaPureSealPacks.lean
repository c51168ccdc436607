/- The pure statements of the seal laws on values as bits. -/
import Derived.Test.YtbgfoibfjgmfhaaUnpackEv
import Derived.Test.YtbgfoibfjgmfhaaPrint20
import Derived.Test.YtbgfoibfjgmfhaaPrint7
namespace Go.Proofs.Ytbgfoibfjgmfhaa.Pure
set_option linter.unusedVariables false
set_option linter.unusedSimpArgs false
open Go.RowKit Go.Proofs.Ytbgfoibfjgmfhaa.Print Go.Proofs.Ytbgfoibfjgmfhaa.SMath Go.Proofs.Ytbgfoibfjgmfhaa.SealEv Go.Proofs.Ytbgfoibfjgmfhaa.PackMath Go.Proofs.Ytbgfoibfjgmfhaa.PackEv Go.Proofs.YtbgfoibfjgmfhaaW.PrintWords Go.Proofs.YtbgfoibfjgmfhaaW.PrintLast Go.Proofs.YtbgfoibfjgmfhaaW.PrintMore

theorem live_ev : Ev (fun k => slipwaylaw01_live.f k) true := Ev.of slipwaylaw01_live.mono (k := 60) (by decide +kernel)
theorem equal64_from (a b : List Int) (hlen : a.length = b.length) (hn : a.length ≤ 140737488355328) (d : Nat) : ∀ (i : Nat), i + d = a.length → a.take i = b.take i →
    Ev (fun k => slices_Equal_uint64_uint64.l0 k a b (a.length : Int) (i : Int)) (decide (a = b)) := by
  induction d with
  | zero =>
    intro i hi h
    have hab : a = b := by rw [List.take_of_length_le (by omega), List.take_of_length_le (by omega)] at h; exact h
    refine Ev.step (f := fun _ => some true) (fun k => ?_) (by simp only [hab, decide_true]; exact Ev.now _)
    simp only [slices_Equal_uint64_uint64.l0]
    rw [if_neg (by omega)]
  | succ d ih =>
    intro i hi h
    have h1 : i < a.length := by omega
    have h2 : i < b.length := by omega
    have hs := suc64 i a.length h1 hn
    by_cases he : a[i] = b[i]
    · refine Ev.step (f := fun k => slices_Equal_uint64_uint64.l0 k a b (a.length : Int) ((i + 1 : Nat) : Int)) (fun k => ?_) (ih (i + 1) (by omega) (by rw [List.take_succ_eq_append_getElem h1, List.take_succ_eq_append_getElem h2, h, he]))
      simp only [slices_Equal_uint64_uint64.l0]
      rw [if_pos (by omega), if_pos (by omega), if_pos (by omega), if_pos (by omega), rd_nat a i h1, rd_nat b i h2, if_pos he, hs]
    · have hab : ¬ a = b := fun e => he (by subst e; rfl)
      refine Ev.step (f := fun _ => some false) (fun k => ?_) (by simp only [hab, decide_false]; exact Ev.now _)
      simp only [slices_Equal_uint64_uint64.l0]
      rw [if_pos (by omega), if_pos (by omega), if_pos (by omega), if_pos (by omega), rd_nat a i h1, rd_nat b i h2, if_neg he]
theorem equal64 (a b : List Int) (hn : a.length ≤ 140737488355328) : Ev (fun k => slices_Equal_uint64_uint64.f k a b) (decide (a = b)) := by
  unfold slices_Equal_uint64_uint64.f
  by_cases h : a.length = b.length
  · exact Ev.iff_pos (by omega) (equal64_from a b h hn a.length 0 (by omega) rfl)
  · have hab : ¬ a = b := fun e => h (by rw [e])
    simp only [hab, decide_false]
    exact Ev.iff_neg (by omega) (Ev.now _)
theorem wid_unique {ws : List Int} {r q : Int × Int} (h : WidR ws r) (k : WidR ws q) : r = q := by
  by_cases hw : wok ws
  · rw [h.1 hw, k.1 hw]
  · rw [h.2 hw, k.2 hw]
theorem unp_len {ws b : List Int} {r : List Int × Int} (h : UnpR ws b r) : r.1.length ≤ 64 := by
  by_cases h1 : wok ws
  · by_cases h2 : b.length = (tot (wn ws) + 7) / 8
    · by_cases h3 : late ws b
      · rw [h.2.2.1 h1 h2 h3]; simp
      · rw [h.2.2.2 h1 h2 h3, uvals_len]; exact h1.1
    · rw [h.2.1 h1 h2]; simp
  · rw [h.1 h1]; simp

theorem SealPacks : slipwaylaw01_SealPacks.Pure := by
  intro l0 l1 l2 h1 h2 h3 h4 h5 h6 h7 h8 h9
  have hv := u64s_of_wf h6
  have hb := bytes_of_wf h9
  refine Ev.rounds (g := fun k => slipwaylaw01_SealPacks.f k l0 l1 l2) ?_
  obtain ⟨q, hq, qR⟩ := seal_width_ev l0
  obtain ⟨q', hq', qR'⟩ := ref_width_ev l0
  obtain ⟨r, hr, rR⟩ := seal_pack_ev l0 l1 hv
  obtain ⟨r', hr', rR'⟩ := ref_pack_ev l0 l1 hv
  obtain ⟨u, hu, uR⟩ := seal_unpack_ev l0 l2 hb
  obtain ⟨u', hu', uR'⟩ := ref_unpack_ev l0 l2 hb
  obtain rfl := wid_unique qR qR'
  obtain rfl := rR.unique rR'
  obtain rfl := uR.unique uR'
  unfold slipwaylaw01_SealPacks.f
  refine Ev.bind live_ev (Ev.iff_pos rfl (Ev.bind hq (Ev.bind hq' (Ev.bind hr (Ev.bind hr' (Ev.bind hu (Ev.bind hu' (Ev.iff_pos rfl (Ev.iff_pos rfl ?_)))))))))
  rw [bytes_equal rR.bytes rR.bytes, decide_eq_true rfl]
  simp only [Option.bind_some]
  refine Ev.iff_pos (by trivial) (Ev.iff_pos (by trivial) (Ev.bind (equal64 u.1 u.1 (by have := unp_len uR; omega)) ?_))
  rw [decide_eq_true rfl]
  refine Ev.iff_pos rfl ?_
  rw [beq_self_eq_true]
  exact Ev.now _
end Go.Proofs.Ytbgfoibfjgmfhaa.Pure
