/- Texts of the proof of PageTorn, part 35. -/
import Derived.Test.YtdohpjjggjehfaaPageTornM34
import Derived.Test.YtdohpjjggjehfaaPageTornM20
import Derived.Test.YtdohpjjggjehfaaPageTornM22
import Derived.Test.YtdohpjjggjehfaaPageTornM13
import Derived.Test.YtdohpjjggjehfaaPageTornM21
import Derived.Test.YtdohpjjggjehfaaPageTornM15
section
namespace Go.Proofs.Ytdohpjjggjehfaa.Pure
set_option linter.unusedVariables false
set_option linter.unusedSimpArgs false
open Go.RowKit Go.Proofs.Ytdohpjjggjehfaa.Print Go.Proofs.Ytdohpjjggjehfaa.SMath Go.Proofs.Ytdohpjjggjehfaa.SealEv Go.Proofs.Ytdohpjjggjehfaa.PgEv Go.Proofs.YtdohpjjggjehfaaW.PrintWords Go.Proofs.YtdohpjjggjehfaaW.PrintLast Go.Proofs.YtdohpjjggjehfaaW.PrintMore
set_option maxHeartbeats 2000000 in
theorem tear_ev (p m : List Int) (hb : Bytes p) (hl : p.length = 288) : Ev (fun k => page_Tear.f k p m) (masked p m) := by
  unfold page_Tear.f
  have hcat := concat2 ((p.drop 0).take 256) ((p.drop 256).take 32) (by rw [List.length_take, List.length_take]; omega)
  rw [two_parts, show p.take (256 + 32) = p from List.take_of_length_le (by omega)] at hcat
  refine Ev.iff_pos hl (Ev.bind hcat ?_)
  exact Ev.iff_pos hl (Ev.bind (seal_mask p m (by omega)) (Ev.iff_pos (by rw [masked_len, hl]) (Ev.now _)))
theorem state_bad {y : List Int} (h0 : ¬ state y = 0) : state y = 10 ∨ state y = 11 := by
  unfold state at h0 ⊢
  split
  · exact .inl rfl
  · rename_i hc
    split
    · exact .inr rfl
    · rename_i hd
      split
      · rename_i he
        rw [if_neg hc, if_neg hd, if_pos he] at h0
        exact absurd rfl h0
      · exact .inr rfl
theorem dec_bad {y : List Int} (h0 : ¬ state y = 0) : (dec y).2.2.2.2.2 = state y := by
  unfold dec
  rw [if_neg h0]
  rfl
set_option maxHeartbeats 2000000 in
theorem PageTorn : slipwaylaw03_PageTorn.Pure := by
  intro a b c d l m _ _ _ _ hl hm
  refine Ev.rounds ?_
  have hl8 : Bytes l := bytes_of_wf hl.2.2
  have hm8 : Bytes m := bytes_of_wf hm.2.2
  have hln : l.length < 140737488355328 := by have := hl.2.1; omega
  obtain ⟨x, hx, hE⟩ := enc_ev a b c d l hl8 (by omega)
  unfold slipwaylaw03_PageTorn.f
  refine Ev.bind live_ev (Ev.iff_pos rfl (Ev.bind hE ?_))
  by_cases hh : HOK a b c d
  rotate_left
  · rw [if_neg hh]
    exact Ev.iff_pos pz_len (Ev.iff_neg (by decide) (Ev.now _))
  rw [if_pos hh]
  by_cases h256 : l.length ≤ 256
  rotate_left
  · rw [if_neg h256]
    exact Ev.iff_pos pz_len (Ev.iff_neg (by decide) (Ev.now _))
  rw [if_pos h256]
  obtain ⟨hP, h22⟩ := hx hh
  have h288 := page_len h256 h22
  have hB := page_bytes hl8 hP.1 (d := l)
  have hbl := body_len h256 h22
  have hbb := body_bytes hl8 hP.1 (d := l)
  have hyB := masked_bytes hB hm8
  have hyc := masked_cov hB hm8
  have hyl := masked_len (page l x) m
  rw [h288] at hyl
  refine Ev.iff_pos h288 (Ev.iff_pos rfl (Ev.bind (tear_ev _ m hB h288) ?_))
  generalize masked (page l x) m = y at hyB hyc hyl ⊢
  refine Ev.iff_pos hyl ?_
  by_cases hy : y = page l x
  · exact Ev.iff_pos hy (Ev.now _)
  refine Ev.iff_neg hy ?_
  have h0 : ¬ state y = 0 := by
    intro h0
    obtain ⟨a4, a5, a6⟩ := state_ok h0
    have hyd : y = y.take (y.length - 4) ++ nb (zeros (y.take (y.length - 4))) := by rw [← a6, List.take_append_drop]
    have hyt : (y.take (y.length - 4)).length = (body l x).length := by rw [List.length_take, hbl]; omega
    rw [hyd] at hyc
    have := sealed_cov (bytes_take hyB _) hbb hyt (by omega) hyc
    apply hy
    rw [hyd, this]
    rfl
  refine Ev.bind (state_ev y hyB hyl) ?_
  by_cases hf : y = List.replicate 288 255
  · rw [if_pos hf]
    exact Ev.iff_pos rfl (Ev.now _)
  rw [if_neg hf, dec_bad h0]
  rcases state_bad h0 with h | h
  · rw [h]
    exact Ev.iff_pos rfl (Ev.now _)
  · rw [h]
    exact Ev.iff_neg (by decide) (Ev.now _)
end Go.Proofs.Ytdohpjjggjehfaa.Pure
end
