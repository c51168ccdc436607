/- Texts of the proof of PageReads, part 35. -/
import Derived.Test.YtdohpjjggjehfaaPageReadsM34
import Derived.Test.YtdohpjjggjehfaaPageReadsM20
import Derived.Test.YtdohpjjggjehfaaPageReadsM22
section
namespace Go.Proofs.Ytdohpjjggjehfaa.PgEv
set_option linter.unusedVariables false
set_option linter.unusedSimpArgs false
open Go.RowKit Go.Proofs.Ytdohpjjggjehfaa.Print Go.Proofs.Ytdohpjjggjehfaa.SMath Go.Proofs.Ytdohpjjggjehfaa.SealEv Go.Proofs.Ytdohpjjggjehfaa.PackMath Go.Proofs.Ytdohpjjggjehfaa.PackEv Go.Proofs.YtdohpjjggjehfaaW.PrintWords Go.Proofs.YtdohpjjggjehfaaW.PrintLast Go.Proofs.YtdohpjjggjehfaaW.PrintMore
def nz (l : List Int) : Bool := !decide (∀ x ∈ l, x = 0)
theorem cont_ev (l : List Int) (hn : l.length ≤ 140737488355328) : Ev (fun k => slices_ContainsFunc_byte_byte_39.f k l) (nz l) := by
  obtain ⟨r, hr, hP⟩ := idx_from l hn l.length 0 (by omega) (fun j hj => by omega)
  unfold slices_ContainsFunc_byte_byte_39.f slices_IndexFunc_byte_byte_39.f
  refine Ev.bind hr (Ev.fix (fun _ => ?_))
  congr 1
  unfold nz
  rw [← decide_not]
  apply decide_eq_decide.mpr
  rw [← hP]
  omega
abbrev H6 := Int × Int × Int × Int × List Int × Int
def bad (e : Int) : H6 := (0, 0, 0, 0, [], e)
def lv (p : List Int) : List Int := uvals ws ((p.drop 256).take 22) 5
def dec (p : List Int) : H6 :=
  if state p = 0 then
  if rd (lv p) 1 = 0 then if rd (lv p) 3 > 1152921504606846976 then bad 30 else if rd (lv p) 4 > 1152921504606846976 then bad 30 else
  if nz ((p.drop 278).take 6) = true then bad 30 else
  if HOK (wrap64 (rd (lv p) 0)) (wrap64 (rd (lv p) 2)) (wrap64 (rd (lv p) 3)) (wrap64 (rd (lv p) 4)) then (wrap64 (rd (lv p) 0), wrap64 (rd (lv p) 2), wrap64 (rd (lv p) 3), wrap64 (rd (lv p) 4), (p.drop 0).take 256, 0) else bad 30
  else bad 30
  else bad (state p)
theorem not_late {b : List Int} (hl : b.length = 22) : ¬ late ws b := by
  rintro ⟨j, h1, h2, h3⟩
  rw [ws_tot] at h1
  omega
theorem unp_ev (b : List Int) (hb : Bytes b) (hl : b.length = 22) : Ev (fun k => seal_Unpack.f k ws b) (uvals ws b 5, 0) := by
  obtain ⟨r, hr, rR⟩ := seal_unpack_ev ws b hb
  have := rR.2.2.2 ws_ok (by rw [hl, ws_tot]) (not_late hl)
  rw [this] at hr
  exact hr
set_option maxHeartbeats 2000000 in
theorem dec_ev (p : List Int) (hb : Bytes p) (hl : p.length = 288) : Ev (fun k => page_Decode.f k p) (dec p) := by
  unfold page_Decode.f
  refine Ev.iff_pos hl ?_
  have hcat := concat2 ((p.drop 0).take 256) ((p.drop 256).take 32) (by rw [List.length_take, List.length_take]; omega)
  rw [two_parts, show p.take (256 + 32) = p from List.take_of_length_le (by omega)] at hcat
  refine Ev.bind hcat (Ev.bind (seal_state hb (by omega)) ?_)
  unfold dec
  refine Ev.ite (fun _ => ?_) (fun _ => Ev.now _)
  have hu := unp_ev ((p.drop 256).take 22) (bytes_take (bytes_drop hb _) _) (by rw [List.length_take, List.length_drop]; omega)
  refine Ev.bind hu (Ev.iff_pos rfl (Ev.iff_pos (uvals_len _ _ _) ?_))
  refine Ev.ite (fun _ => ?_) (fun _ => Ev.now _)
  refine Ev.ite (fun _ => Ev.now _) (fun _ => Ev.ite (fun _ => Ev.now _) (fun _ => ?_))
  refine Ev.bind (cont_ev _ (by rw [List.length_take]; omega)) (Ev.ite (fun _ => Ev.now _) (fun _ => ?_))
  refine Ev.bind (chk_ev _ _ _ _) ?_
  by_cases hh : HOK (wrap64 (rd (lv p) 0)) (wrap64 (rd (lv p) 2)) (wrap64 (rd (lv p) 3)) (wrap64 (rd (lv p) 4))
  · rw [if_pos hh]
    have hh' : HOK (wrap64 (rd (uvals ws (List.take 22 (List.drop 256 p)) 5) 0)) (wrap64 (rd (uvals ws (List.take 22 (List.drop 256 p)) 5) 2)) (wrap64 (rd (uvals ws (List.take 22 (List.drop 256 p)) 5) 3)) (wrap64 (rd (uvals ws (List.take 22 (List.drop 256 p)) 5) 4)) := hh
    rw [if_pos hh']
    exact Ev.iff_pos rfl (Ev.bindS (fun _ => clone_all _ (by rw [List.length_take]; omega)) (Ev.now _))
  · rw [if_neg hh]
    have hh' : ¬ HOK (wrap64 (rd (uvals ws (List.take 22 (List.drop 256 p)) 5) 0)) (wrap64 (rd (uvals ws (List.take 22 (List.drop 256 p)) 5) 2)) (wrap64 (rd (uvals ws (List.take 22 (List.drop 256 p)) 5) 3)) (wrap64 (rd (uvals ws (List.take 22 (List.drop 256 p)) 5) 4)) := hh
    rw [if_neg hh']
    exact Ev.iff_neg (by decide) (Ev.now _)
theorem page_state {l x : List Int} (hl : Bytes l) (h256 : l.length ≤ 256) (hx : Bytes x) (h22 : x.length = 22) : state (page l x) = 0 := by
  have h284 := body_len h256 h22
  have h288 := page_len h256 h22
  have hz : 0 < zeros (body l x) := by
    unfold body
    rw [zeros_append, zeros_append]
    have h1 := zeros_range (pad l)
    have h2 := zeros_range x
    have h3 : zeros (List.replicate 6 0) = 48 := by decide
    omega
  have hz2 : 0 < zeros (page l x) := by
    unfold page
    rw [zeros_append]
    have := zeros_range (nb (zeros (body l x)))
    omega
  unfold state
  rw [if_neg (by omega), if_neg (by omega), h288]
  have e1 : (page l x).take 284 = body l x := by unfold page; exact List.take_left' h284
  have e2 : (page l x).drop 284 = nb (zeros (body l x)) := by unfold page; exact List.drop_left' h284
  show (if (page l x).drop 284 = nb (zeros ((page l x).take 284)) then (0 : Int) else 11) = 0
  rw [e1, e2, if_pos rfl]
theorem page_head {l x : List Int} (h256 : l.length ≤ 256) (h22 : x.length = 22) : ((page l x).drop 256).take 22 = x := by
  unfold page body
  rw [List.append_assoc, List.drop_left' (pad_len h256), List.append_assoc, List.take_left' h22]
theorem page_rest {l x : List Int} (h256 : l.length ≤ 256) (h22 : x.length = 22) : ((page l x).drop 278).take 6 = List.replicate 6 0 := by
  unfold page body
  rw [List.append_assoc, show (278 : Nat) = 256 + 22 from rfl, ← List.drop_drop, List.drop_left' (pad_len h256), List.append_assoc, List.drop_left' h22, List.take_left' (by simp)]
theorem page_data {l x : List Int} (h256 : l.length ≤ 256) : ((page l x).drop 0).take 256 = pad l := by
  unfold page body
  rw [List.drop_zero, List.append_assoc, List.take_left' (pad_len h256)]
set_option maxHeartbeats 2000000 in
theorem dec_page {a b c d : Int} {l x : List Int} (hh : HOK a b c d) (hl : Bytes l) (h256 : l.length ≤ 256) (hP : PackOK ws (hv a b c d) x) (h22 : x.length = 22) : dec (page l x) = (a, b, c, d, pad l, 0) := by
  have hs := page_state hl h256 hP.1 h22
  have hlv : lv (page l x) = hv a b c d := by
    unfold lv
    rw [page_head h256 h22]
    obtain ⟨r, hr, rR⟩ := seal_unpack_ev ws x hP.1
    have e1 := rR.2.2.2 ws_ok (by rw [h22, ws_tot]) (not_late h22)
    have e2 := back_one (hv_u64 hh) (hv_fit hh) hP rR
    rw [e1] at e2
    injection e2
  unfold dec
  rw [if_pos hs, hlv, page_rest h256 h22, page_data h256]
  have z0 : rd (hv a b c d) 0 = a := rfl
  have z1 : rd (hv a b c d) 1 = 0 := rfl
  have z2 : rd (hv a b c d) 2 = b := rfl
  have z3 : rd (hv a b c d) 3 = c := rfl
  have z4 : rd (hv a b c d) 4 = d := rfl
  have hq := hh
  unfold HOK at hq
  rw [z0, z1, z2, z3, z4, if_pos rfl, if_neg (by omega), if_neg (by omega), if_neg (by decide), w64 (n := a) (by omega) (by omega), w64 (n := b) (by omega) (by omega), w64 (n := c) (by omega) (by omega), w64 (n := d) (by omega) (by omega), if_pos hh]
theorem state_ev (p : List Int) (hb : Bytes p) (hl : p.length = 288) : Ev (fun k => page_State.f k p) (if p = List.replicate 288 255 then 10 else (dec p).2.2.2.2.2) := by
  unfold page_State.f
  refine Ev.iff_pos hl (Ev.ite (fun _ => Ev.now _) (fun _ => Ev.bind (dec_ev p hb hl) (Ev.now _)))
theorem ff_bytes : Bytes (List.replicate 288 255) := fun x hx => by rw [List.eq_of_mem_replicate hx]; unfold Byte; omega
set_option maxHeartbeats 2000000 in
theorem live_ev : Ev (fun k => slipwaylaw03_live.f k) true := by
  have hh : HOK 2 5 9 9 := by unfold HOK; decide
  have h97 : Bytes [97] := by unfold Bytes Byte; decide
  obtain ⟨x, hx, hE⟩ := enc_ev 2 5 9 9 [97] h97 (by decide)
  obtain ⟨hP, h22⟩ := hx hh
  rw [if_pos hh, if_pos (by decide)] at hE
  have h288 := page_len (d := [97]) (x := x) (by decide) h22
  have hpb := page_bytes h97 hP.1
  -- the header's first bytes
  have e14 : x.take 14 = [2, 0, 0, 0, 0, 5, 0, 0, 0, 0, 0, 0, 0, 9] := by
    have hy : Ev (fun k => seal_Pack.f k ws (hv 2 5 9 9)) ([2, 0, 0, 0, 0, 5, 0, 0, 0, 0, 0, 0, 0, 9, 0, 0, 0, 0, 0, 0, 0, 9], 0) := Ev.of (fun k => seal_Pack.mono _ _ k) (k := 400) (by decide +kernel)
    obtain ⟨r, hr, rR⟩ := seal_pack_ev ws (hv 2 5 9 9) (hv_u64 hh)
    have e := Ev.same hr hy
    have hq := (rR.1 (hv_fit hh)).2
    have := hP.unique hq
    rw [this, e]
    rfl
  have hd0 : rd (page [97] x) ((0 : Nat) : Int) = 97 := rfl
  have e256 : ((page [97] x).drop 256).take 14 = x.take 14 := by
    have h := congrArg (List.take 14) (page_head (l := [97]) (x := x) (by decide) h22)
    rw [List.take_take, Nat.min_eq_left (by decide)] at h
    exact h
  have hne : page [97] x ≠ List.replicate 288 255 := by
    intro h
    rw [h, rd_nat _ 0 (by rw [List.length_replicate]; decide), List.getElem_replicate] at hd0
    exact absurd hd0 (by decide)
  unfold slipwaylaw03_live.f
  refine Ev.bind hE (Ev.iff_pos h288 (Ev.iff_pos rfl ?_))
  refine Ev.bindS (a := true) (fun _ => by rw [e256, e14, bytes_equal (by unfold Bytes Byte; decide) (by unfold Bytes Byte; decide)]; rfl) (Ev.iff_pos rfl (Ev.iff_pos hd0 ?_))
  have h1 := state_ev _ hpb h288
  rw [if_neg hne, dec_page hh h97 (by decide) hP h22] at h1
  have h2 := state_ev _ ff_bytes List.length_replicate
  rw [if_pos rfl] at h2
  exact Ev.bind h1 (Ev.iff_pos rfl (Ev.bind h2 (Ev.iff_pos rfl (Ev.now _))))
end Go.Proofs.Ytdohpjjggjehfaa.PgEv
end
