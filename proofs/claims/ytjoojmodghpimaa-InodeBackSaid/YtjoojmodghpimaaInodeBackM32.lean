/- Texts of the proof of InodeBack, part 32. -/
import Derived.Test.YtjoojmodghpimaaInodeBackM31
import Derived.Test.YtjoojmodghpimaaInodeBackM17
import Derived.Test.YtjoojmodghpimaaInodeBackM20
import Derived.Test.YtjoojmodghpimaaInodeBackM21
section
namespace Go.Proofs.Ytjoojmodghpimaa.Pure
set_option linter.unusedVariables false
set_option linter.unusedSimpArgs false
open Go.RowKit Go.Proofs.Ytjoojmodghpimaa.Print Go.Proofs.Ytjoojmodghpimaa.SMath Go.Proofs.Ytjoojmodghpimaa.SealEv Go.Proofs.Ytjoojmodghpimaa.InoEv Go.Proofs.Ytjoojmodghpimaa.PackEv Go.Proofs.YtjoojmodghpimaaW.PrintWords Go.Proofs.YtjoojmodghpimaaW.PrintLast Go.Proofs.YtjoojmodghpimaaW.PrintMore
theorem live_enc : Ev (fun k => inode_Encode.f k 1 1 5 0 0 0 [(⟨0, 1, 30⟩ : S51)]) ([1, 0, 1, 0, 0, 0, 0, 1, 0, 0, 0, 0, 0, 0, 0, 5, 0, 0, 0, 0, 0, 0, 0, 0, 0, 0, 0, 0, 1, 0, 0, 0, 30] ++ List.replicate 31 0, 0) :=
  Ev.of (inode_Encode.mono _ _ _ _ _ _ _) (k := 400) (by decide +kernel)
theorem live_ev : Ev (fun k => slipwaylaw14_live.f k) true := by
  unfold slipwaylaw14_live.f
  refine Ev.bind live_enc (Ev.iff_pos rfl (Ev.iff_pos (by decide) (Ev.iff_pos (by decide) (Ev.bindS (fun _ => bytes_equal ?_ ?_) ?_))))
  · unfold Bytes Byte; decide
  · unfold Bytes Byte; decide
  · exact Ev.now _
theorem zeros_ev : Ev (fun k => inode_Decode.f k (List.replicate 64 0)) (0, 0, 0, 0, 0, 0, [], 0) :=
  dec_enc (Ev.of (inode_Encode.mono _ _ _ _ _ _ _) (k := 400) (by decide +kernel))
set_option maxHeartbeats 2000000 in
theorem tail_ev {f : Nat → Option Bool} (h : ∀ k, f k = (if 64 ≤ 281474976710656 then ((inode_Decode.f k (List.replicate 64 0)).bind fun bt201 => (if bt201.2.2.2.2.2.2.2 = 0 then ((slipwayref14_Same.f k bt201.1 bt201.2.1 bt201.2.2.1 bt201.2.2.2.1 bt201.2.2.2.2.1 bt201.2.2.2.2.2.1 bt201.2.2.2.2.2.2.1 0 0 0 0 0 0 ([] : List (S51))).bind fun t212 => (some t212)) else (none))) else (none))) : Ev f true := by
  obtain rfl := funext h
  exact Ev.iff_pos (by decide) (Ev.bind zeros_ev (Ev.iff_pos rfl (Ev.bind (same_self 0 0 0 0 0 0 [] (by decide)) (Ev.now _))))
theorem back_j1 : Ev (fun k => slipwaylaw14_InodeBack.j1 k false) true := by
  refine Ev.step (fun k => ?_) (tail_ev (fun k => rfl))
  simp only [slipwaylaw14_InodeBack.j1]
  rw [if_neg (by decide)]
theorem back_j0 (x : List Int) (hx : Bytes x) (hn : x.length ≤ 140737488355328) : Ev (fun k => slipwaylaw14_InodeBack.j0 k x) true := by
  obtain ⟨r, hr, rR, _⟩ := dec_ev x hx hn
  refine Ev.step (fun k => by simp only [slipwaylaw14_InodeBack.j0]; rfl) (Ev.bind hr ?_)
  by_cases h : r.2.2.2.2.2.2.2 = 0
  · refine Ev.iff_pos h (Ev.bind (rR h) (Ev.iff_pos rfl (Ev.bindS (fun _ => bytes_equal hx hx) ?_)))
    rw [decide_eq_true rfl]
    exact back_j1
  · exact Ev.iff_neg h (tail_ev (fun k => rfl))
set_option maxHeartbeats 2000000 in
theorem InodeBack : slipwaylaw14_InodeBack.Pure := by
  intro a0 a1 a2 a3 a4 a5 l x _ _ _ _ _ _ hl hx
  refine Ev.rounds ?_
  have hx8 : Bytes x := bytes_of_wf hx.2.2
  have hxn : x.length ≤ 140737488355328 := by have := hx.2.1; omega
  have hln : l.length ≤ 140737488355328 := by have := hl.2.1; omega
  have J0 := back_j0 x hx8 hxn
  obtain ⟨r, hr, rR, _⟩ := enc_ev a0 a1 a2 a3 a4 a5 l
  unfold slipwaylaw14_InodeBack.f
  refine Ev.bind live_ev (Ev.iff_pos rfl (Ev.bind hr ?_))
  by_cases h : r.2 = 0
  · have e : r = (r.1, 0) := by rw [← h]
    have hD := dec_enc (x := r.1) (e ▸ hr)
    exact Ev.iff_pos h (Ev.bind hD (Ev.iff_pos rfl (Ev.bind (same_self a0 a1 a2 a3 a4 a5 l hln) (Ev.iff_pos rfl J0))))
  · exact Ev.iff_neg h J0
end Go.Proofs.Ytjoojmodghpimaa.Pure
end
