/- Texts of the proof of PageBack, part 36. -/
import Derived.Test.YtdohpjjggjehfaaPageBackM35
import Derived.Test.YtdohpjjggjehfaaPageBackM22
section
namespace Go.Proofs.Ytdohpjjggjehfaa.Pure
set_option linter.unusedVariables false
set_option linter.unusedSimpArgs false
open Go.RowKit Go.Proofs.Ytdohpjjggjehfaa.Print Go.Proofs.Ytdohpjjggjehfaa.SMath Go.Proofs.Ytdohpjjggjehfaa.SealEv Go.Proofs.Ytdohpjjggjehfaa.PgEv Go.Proofs.YtdohpjjggjehfaaW.PrintWords Go.Proofs.YtdohpjjggjehfaaW.PrintLast Go.Proofs.YtdohpjjggjehfaaW.PrintMore
set_option maxHeartbeats 2000000 in
theorem back_j (p : List Int) (hb : Bytes p) (hl : p.length = 288) : Ev (fun k => slipwaylaw03_PageBack.j k p) true := by
  unfold slipwaylaw03_PageBack.j
  refine Ev.bind (dec_ev p hb hl) ?_
  by_cases h0 : (dec p).2.2.2.2.2 = 0
  rotate_left
  · exact Ev.iff_neg h0 (Ev.now _)
  refine Ev.iff_pos h0 ?_
  obtain ⟨x, hh, hP, h22, ed, ep⟩ := dec_back hb hl h0
  have hd : Bytes (dec p).2.2.2.2.1 := by rw [ed]; exact bytes_take (bytes_drop hb _) _
  have h256 : (dec p).2.2.2.2.1.length ≤ 256 := by rw [ed, List.length_take]; omega
  obtain ⟨y, hy, hE⟩ := enc_ev (dec p).1 (dec p).2.1 (dec p).2.2.1 (dec p).2.2.2.1 (dec p).2.2.2.2.1 hd (by omega)
  obtain ⟨hQ, y22⟩ := hy hh
  have := hP.unique hQ
  subst this
  rw [if_pos hh, if_pos h256] at hE
  have e : page (dec p).2.2.2.2.1 x = p := by rw [ed, List.drop_zero]; exact ep
  rw [e] at hE
  exact Ev.bind hE (Ev.iff_pos rfl (Ev.now _))
set_option maxHeartbeats 2000000 in
theorem PageBack : slipwaylaw03_PageBack.Pure := by
  intro a b c d l p _ _ _ _ hl hp
  refine Ev.rounds ?_
  have hl8 : Bytes l := bytes_of_wf hl.2.2
  have hln : l.length < 140737488355328 := by have := hl.2.1; omega
  have hpb : Bytes p := bytes_of_wf hp.2
  have J := back_j p hpb hp.1
  obtain ⟨x, hx, hE⟩ := enc_ev a b c d l hl8 (by omega)
  unfold slipwaylaw03_PageBack.f
  refine Ev.bind live_ev (Ev.iff_pos rfl (Ev.iff_pos hp.1 (Ev.bind hE ?_)))
  by_cases hh : HOK a b c d
  rotate_left
  · rw [if_neg hh]
    exact Ev.iff_pos pz_len (Ev.iff_neg (by decide) J)
  rw [if_pos hh]
  by_cases h256 : l.length ≤ 256
  rotate_left
  · rw [if_neg h256]
    exact Ev.iff_pos pz_len (Ev.iff_neg (by decide) J)
  rw [if_pos h256]
  obtain ⟨hP, h22⟩ := hx hh
  have h288 := page_len h256 h22
  have hD := dec_ev _ (page_bytes hl8 hP.1) h288
  rw [dec_page hh hl8 h256 hP h22] at hD
  have hpad : Bytes (pad l) := bytes_append hl8 (rep_bytes _)
  refine Ev.iff_pos h288 (Ev.iff_pos rfl (Ev.bind hD (Ev.iff_pos rfl (Ev.bindS (fun _ => clone_bytes l hln) (Ev.iff_pos rfl (Ev.iff_pos h256 (Ev.bindS (fun _ => bytes_equal hpad hpad) ?_)))))))
  exact Ev.iff_pos (decide_eq_true (show pad l = _ from rfl)) J
end Go.Proofs.Ytdohpjjggjehfaa.Pure
end
