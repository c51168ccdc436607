/- Texts of the proof of BitmapTells, part 23. -/
import Derived.Test.YtllodfjbenmlpaaBitmapTellsM20
import Derived.Test.YtllodfjbenmlpaaBitmapTellsM22
import Derived.Test.YtllodfjbenmlpaaBitmapTellsM17
section
namespace Go.Proofs.Ytllodfjbenmlpaa.Pure
set_option linter.unusedVariables false
set_option linter.unusedSimpArgs false
open Go.RowKit Go.Proofs.Ytllodfjbenmlpaa.Print Go.Proofs.Ytllodfjbenmlpaa.Bm Go.Proofs.YtllodfjbenmlpaaW.PrintWords Go.Proofs.YtllodfjbenmlpaaW.PrintLast Go.Proofs.YtllodfjbenmlpaaW.PrintMore
set_option maxHeartbeats 2000000 in
theorem BitmapTells : slipwaylaw12_BitmapTells.Pure := by
  intro l n goal want most _ _ hwl _ _ _ hm
  have hb := by_wf hwl
  have hm' := wf_u8 hm
  obtain ⟨m0, m1⟩ := hm'
  refine Ev.rounds ?_
  have hlen := @rns_len l n
  have hl : (((rns l n).map s36).length : Int) = ((rns l n).length : Int) := by simp
  have wm : wrap64 most = most := w64 (by omega) (by omega)
  have m2 : 0 ≤ mn ((rns l n).length : Int) most ∧ mn ((rns l n).length : Int) most ≤ ((rns l n).length : Int) := by unfold mn; split <;> omega
  have m3 : (mn ((rns l n).length : Int) most).toNat = min (rns l n).length most.toNat := by unfold mn; split <;> omega
  unfold slipwaylaw12_BitmapTells.f
  refine Ev.bind (rruns_ev hb n) (Ev.bind (run_ev hb n goal want) (Ev.bind (rrun_ev hb n goal want) (Ev.bind begun_ev (Ev.iff_pos rfl (Ev.bind (count_ev hb n) (Ev.bind (rcount_ev hb n) (Ev.iff_pos rfl (Ev.bind (told_ev hb n 9999) ?_))))))))
  rw [List.take_of_length_le (by show _ ≤ 9999; omega)]
  refine Ev.bind (same36 _ (by rw [List.length_map]; omega)) (Ev.iff_pos rfl ?_)
  rw [wm, hl]
  refine Ev.bind (told_ev hb n most) (Ev.iff_pos m2.1 (Ev.iff_pos m2.2 ?_))
  have e : ((rns l n).map s36).take (mn ((rns l n).length : Int) most).toNat = ((rns l n).take most.toNat).map s36 := by
    rw [m3, ← List.map_take]
    congr 1
    exact List.take_eq_take_iff.2 (by omega)
  rw [e]
  refine Ev.bind (same36 _ (by rw [List.length_map, List.length_take]; omega)) (Ev.iff_pos rfl (Ev.iff_pos rfl ?_))
  generalize (if want < 1 then ((0 : Int), (0 : Int)) else fnd (rns l n) (from_ l n goal) want) = r
  rw [show (r.2 == r.2) = true by simp]
  exact Ev.now _
end Go.Proofs.Ytllodfjbenmlpaa.Pure
end
