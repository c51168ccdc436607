/- Texts of the proof of LayoutBack, part 16. -/
import Derived.Test.YtbdnmdmfnopihaaLayoutBackM8
import Derived.Test.YtbdnmdmfnopihaaLayoutBackM15
import Derived.Test.YtbdnmdmfnopihaaLayoutBackM1
import Derived.Test.YtbdnmdmfnopihaaLayoutBackM2
import Derived.Test.YtbdnmdmfnopihaaLayoutBackM3
section
namespace Go.Proofs.Ytbdnmdmfnopihaa.Pure
set_option linter.unusedVariables false
set_option linter.unusedSimpArgs false
open Go.RowKit Go.Proofs.Ytbdnmdmfnopihaa.Print Go.Proofs.Ytbdnmdmfnopihaa.SMath Go.Proofs.Ytbdnmdmfnopihaa.SealEv Go.Proofs.Ytbdnmdmfnopihaa.DescEv Go.Proofs.Ytbdnmdmfnopihaa.ShapeEv Go.Proofs.Ytbdnmdmfnopihaa.SuperEv Go.Proofs.Ytbdnmdmfnopihaa.PackEv Go.Proofs.YtbdnmdmfnopihaaW.PrintWords Go.Proofs.YtbdnmdmfnopihaaW.PrintLast Go.Proofs.YtbdnmdmfnopihaaW.PrintMore
theorem live_ev : Ev (fun k => slipwaylaw11_live.f k) true := Ev.of slipwaylaw11_live.mono (k := 60) (by decide +kernel)
set_option maxHeartbeats 2000000 in
theorem decR_ok {b : List Int} {n : Int} (h : (decR b n).2 = 0) : (0 ≤ n ∧ n ≤ 16) ∧ decR b n = (descs b n.toNat, 0) ∧ fin (descs b n.toNat) = b := by
  unfold decR at h ⊢
  by_cases h0 : n < 0 ∨ n > 16
  · rw [if_pos h0] at h; exact absurd h (by decide)
  · rw [if_neg h0] at h ⊢
    by_cases h1 : b.length ≠ 256
    · rw [if_pos h1] at h; exact absurd h (by decide)
    · rw [if_neg h1] at h ⊢
      by_cases h2 : fin (descs b n.toNat) = b
      · rw [if_pos h2]
        exact ⟨by omega, rfl, h2⟩
      · rw [if_neg h2] at h; exact absurd h (by decide)
theorem encR_ok {l : List S57} (h : (encR l).2 = 0) : (l.length ≤ 16 ∧ ∀ d ∈ l, DOK d) ∧ encR l = (fin l, 0) := by
  unfold encR at h ⊢
  by_cases h0 : l.length ≤ 16 ∧ ∀ d ∈ l, DOK d
  · exact ⟨h0, if_pos h0⟩
  · rw [if_neg h0] at h; exact absurd h (by decide)
set_option maxHeartbeats 2000000 in
theorem back_j2 (l : List S57) (x : List Int) (hx : Bytes x) : Ev (fun k => slipwaylaw11_LayoutBack.j2 k l x) true := by
  refine Ev.step (f := fun k => (layout_DecodeDescs.f k x (l.length : Int)).bind fun bt599 => (if bt599.2 = 0 then ((layout_EncodeDescs.f k bt599.1).bind fun bt603 => (if bt603.2 = 0 then ((bytes_Equal.f bt603.1 x).bind fun t607 => (if t607 = true then (some true) else (none))) else (none))) else (some true))) (fun k => ?_) ?_
  · simp only [slipwaylaw11_LayoutBack.j2]
  · refine Ev.bind (dec_ev x hx (l.length : Int)) ?_
    by_cases h : (decR x (l.length : Int)).2 = 0
    · obtain ⟨h1, h2, h3⟩ := decR_ok h
      rw [h2]
      refine Ev.iff_pos rfl (Ev.bind (enc_ev _) ?_)
      have e : encR (descs x (l.length : Int).toNat) = (fin (descs x (l.length : Int).toNat), 0) := by rw [encR, if_pos ⟨by rw [descs_len]; omega, descs_ok hx _⟩]
      rw [e]
      refine Ev.iff_pos rfl (Ev.bindS (fun _ => bytes_equal (fin_bytes _) hx) ?_)
      exact Ev.iff_pos (decide_eq_true h3) (Ev.now _)
    · exact Ev.iff_neg h (Ev.now _)
set_option maxHeartbeats 2000000 in
theorem back_j1 (l : List S57) (x : List Int) (hx : Bytes x) (hn : x.length ≤ 140737488355328) : Ev (fun k => slipwaylaw11_LayoutBack.j1 k l x) true := by
  obtain ⟨r, hr, rD⟩ := decs_ev x hx hn
  refine Ev.step (f := fun k => (layout_DecodeSuper.f k x).bind fun bt587 => (if bt587.2.2.2.2.2 = 0 then ((layout_EncodeSuper.f k bt587.1 bt587.2.1 bt587.2.2.1 bt587.2.2.2.1 bt587.2.2.2.2.1).bind fun bt594 => (if bt594.2 = 0 then ((bytes_Equal.f bt594.1 x).bind fun t598 => (if t598 = true then (slipwaylaw11_LayoutBack.j2 k l x) else (none))) else (none))) else (slipwaylaw11_LayoutBack.j2 k l x))) (fun k => ?_) ?_
  · simp only [slipwaylaw11_LayoutBack.j1]
  · refine Ev.bind hr ?_
    by_cases h : r.2.2.2.2.2 = 0
    · obtain ⟨hl, hE⟩ := rD.1 h
      obtain ⟨q, hq, qR⟩ := encs_ev r.1 r.2.1 r.2.2.1 r.2.2.2.1 r.2.2.2.2.1
      have e : (x, (0 : Int)) = q := hE.unique qR rfl
      subst e
      refine Ev.iff_pos h (Ev.bind hq (Ev.iff_pos rfl (Ev.bindS (fun _ => bytes_equal hx hx) (Ev.iff_pos (by simp) (back_j2 l x hx)))))
    · exact Ev.iff_neg h (back_j2 l x hx)
set_option maxHeartbeats 2000000 in
theorem back_j0 (l : List S57) (x : List Int) (hx : Bytes x) (hn : x.length ≤ 140737488355328) (hl : l.length ≤ 140737488355328) : Ev (fun k => slipwaylaw11_LayoutBack.j0 k l x) true := by
  refine Ev.step (f := fun k => (layout_EncodeDescs.f k l).bind fun bt578 => (if bt578.2 = 0 then ((layout_DecodeDescs.f k bt578.1 (l.length : Int)).bind fun bt582 => (if bt582.2 = 0 then ((api_Desc.f k bt582.1 l).bind fun t586 => (if t586 = true then (if (bt578.1.length : Int) = 256 then (slipwaylaw11_LayoutBack.j1 k l x) else (none)) else (none))) else (none))) else (slipwaylaw11_LayoutBack.j1 k l x))) (fun k => ?_) ?_
  · simp only [slipwaylaw11_LayoutBack.j0]
  · refine Ev.bind (enc_ev l) ?_
    by_cases h : (encR l).2 = 0
    · obtain ⟨⟨h1, h2⟩, h3⟩ := encR_ok h
      rw [h3]
      refine Ev.iff_pos rfl (Ev.bind (dec_ev (fin l) (fin_bytes l) (l.length : Int)) ?_)
      have e : decR (fin l) (l.length : Int) = (l, 0) := by
        rw [decR, if_neg (by omega), if_neg (by rw [fin_len h1]; decide), Int.toNat_natCast, descs_fin h2, if_pos rfl]
      rw [e]
      refine Ev.iff_pos rfl (Ev.bind (desc_equal l hl) (Ev.iff_pos rfl (Ev.iff_pos (by rw [fin_len h1]; rfl) (back_j1 l x hx hn))))
    · exact Ev.iff_neg h (back_j1 l x hx hn)
set_option maxHeartbeats 2000000 in
theorem LayoutBack : slipwaylaw11_LayoutBack.Pure := by
  intro b j o c m l x hb hj ho hm hl hx
  refine Ev.rounds ?_
  have hx8 : Bytes x := bytes_of_wf hx.2.2
  have hxn : x.length ≤ 140737488355328 := by have := hx.2.1; omega
  have hln : l.length ≤ 140737488355328 := by have := hl.2.1; omega
  have J0 := back_j0 l x hx8 hxn hln
  obtain ⟨r, hr, rR⟩ := encs_ev b j o c m
  unfold slipwaylaw11_LayoutBack.f
  refine Ev.bind live_ev (Ev.iff_pos rfl (Ev.bind hr ?_))
  by_cases h : r.2 = 0
  · obtain ⟨q, hq, qD⟩ := decs_ev r.1 rR.bytes.1 (by have := rR.bytes.2; omega)
    have er : r = (r.1, 0) := by rw [← h]
    have hE : EncR b j o c m (r.1, 0) := er ▸ rR
    have e := qD.2.1 b j o c m hE
    subst e
    refine Ev.iff_pos h (Ev.bind hq (Ev.iff_pos rfl (Ev.iff_neg (by simp) (Ev.iff_pos ?_ J0))))
    have := (qD.1 rfl).1
    rw [this]
    rfl
  · exact Ev.iff_neg h J0
end Go.Proofs.Ytbdnmdmfnopihaa.Pure
end
