/- Texts of the proof of LayoutSupers, part 35. -/
import Derived.Test.YtbdnmdmfnopihaaLayoutSupersM26
import Derived.Test.YtbdnmdmfnopihaaLayoutSupersM33
import Derived.Test.YtbdnmdmfnopihaaLayoutSupersM34
import Derived.Test.YtbdnmdmfnopihaaLayoutSupersM17
import Derived.Test.YtbdnmdmfnopihaaLayoutSupersM18
import Derived.Test.YtbdnmdmfnopihaaLayoutSupersM19
import Derived.Test.YtbdnmdmfnopihaaLayoutSupersM21
section
namespace Go.Proofs.Ytbdnmdmfnopihaa.SuperEv
set_option linter.unusedVariables false
set_option linter.unusedSimpArgs false
open Go.RowKit Go.Proofs.Ytbdnmdmfnopihaa.Print Go.Proofs.Ytbdnmdmfnopihaa.SMath Go.Proofs.Ytbdnmdmfnopihaa.SealEv Go.Proofs.Ytbdnmdmfnopihaa.ShapeEv Go.Proofs.Ytbdnmdmfnopihaa.PackMath Go.Proofs.Ytbdnmdmfnopihaa.PackEv Go.Proofs.YtbdnmdmfnopihaaW.PrintWords Go.Proofs.YtbdnmdmfnopihaaW.PrintLast Go.Proofs.YtbdnmdmfnopihaaW.PrintMore
theorem pad_more (p : List Int) (d : Nat) : p ++ List.replicate (d + 1) (0 : Int) = (p ++ [0]) ++ List.replicate d 0 := by simp [List.replicate_succ]
set_option maxHeartbeats 2000000 in
theorem renc_l0 (d : Nat) : ∀ (p : List Int), p.length + d = 252 → Bytes p → Ev (fun k => slipwayref11_EncodeSuper.l0 k p) (p ++ List.replicate d 0 ++ nb (zeros (p ++ List.replicate d 0)), 0) := by
  induction d with
  | zero =>
    intro p hl hp
    refine Ev.step (f := fun k => (slipwayref01_Seal.f k p).bind fun bt508 => (some (bt508.1, bt508.2))) (fun k => ?_) ?_
    · simp only [slipwayref11_EncodeSuper.l0]
      rw [if_neg (by omega)]
    · refine Ev.bind (ref_seal hp (by omega)) ?_
      have e : sealed p = (p ++ nb (zeros p), 0) := by unfold sealed; rw [if_neg (by omega)]
      rw [e]
      simp only [List.replicate_zero, List.append_nil]
      exact Ev.now _
  | succ d ih =>
    intro p hl hp
    rw [pad_more]
    refine Ev.step (fun k => ?_) (ih (p ++ [0]) (by rw [List.length_append]; simp; omega) (pad_bytes hp 1))
    simp only [slipwayref11_EncodeSuper.l0]
    rw [if_pos (by omega), if_pos (by omega)]
set_option maxHeartbeats 2000000 in
theorem renc_j1 {b j o m : Int} {c : Bool} (h : valid b j o m) (x : Int) (hx : x = if c then 1 else 0) : ∃ p, PackOK wds (vals b j o c m) p ∧ Ev (fun k => slipwayref11_EncodeSuper.j1 k x b j o c m) (whole p, 0) := by
  obtain ⟨r, hr, rR⟩ := ref_pack_ev wds (vals b j o c m) (vals_u64 c h)
  obtain ⟨r2, rP⟩ := rR.1 (vals_fit c h)
  have hu := vals_u64 c h
  have ub : IntKind.u64.wrap b = b := by have := hu b (by simp [vals]); unfold U64 at this; exact u64_id this.1 this.2
  have uj : IntKind.u64.wrap j = j := by have := hu j (by simp [vals]); unfold U64 at this; exact u64_id this.1 this.2
  have uo : IntKind.u64.wrap o = o := by have := hu o (by simp [vals]); unfold U64 at this; exact u64_id this.1 this.2
  have um : IntKind.u64.wrap m = m := by have := hu m (by simp [vals]); unfold U64 at this; exact u64_id this.1 this.2
  have hlen : r.1.length = 23 := by rw [rP.2.1, wds_tot]
  refine ⟨r.1, rP, ?_⟩
  refine Ev.step (f := fun k => (slipwayref11_superWidths.f).bind fun t495 => ((slipwayref01_Pack.f k t495 (([1397508432, IntKind.u64.wrap b, IntKind.u64.wrap j, x, IntKind.u64.wrap o, IntKind.u64.wrap m] : List Int))).bind fun bt501 => (slipwayref11_EncodeSuper.l0 k bt501.1))) (fun k => ?_) ?_
  · simp only [slipwayref11_EncodeSuper.j1]
  · refine Ev.bindS (a := wds) (fun _ => rfl) ?_
    rw [ub, uj, uo, um, hx]
    exact Ev.bind hr (renc_l0 229 r.1 (by omega) rP.1)
set_option maxHeartbeats 2000000 in
theorem rencs_j0 {b j o m : Int} {c : Bool} (flag : Bool) (hc : chk b j = 0) (hf : flag = decide (¬ ((0 ≤ o ∧ o ≤ 16 * grps b j) ∧ (0 ≤ m ∧ m ≤ 1152921504606846976)))) : ∃ r, Ev (fun k => slipwayref11_EncodeSuper.j0 k flag b j o c m) r ∧ EncR b j o c m r := by
  by_cases hv : (0 ≤ o ∧ o ≤ 16 * grps b j) ∧ (0 ≤ m ∧ m ≤ 1152921504606846976)
  · have : flag = false := by simp [hf, hv]
    subst this
    have hval : valid b j o m := ⟨hc, hv⟩
    cases c with
    | true =>
      obtain ⟨p, hp, he⟩ := renc_j1 (c := true) hval 1 rfl
      refine ⟨_, Ev.step (fun k => ?_) he, fun _ => ⟨p, hp, rfl⟩, fun h => absurd hval h⟩
      simp only [slipwayref11_EncodeSuper.j0]
      rw [if_neg (by decide), if_pos trivial]
    | false =>
      obtain ⟨p, hp, he⟩ := renc_j1 (c := false) hval 0 rfl
      refine ⟨_, Ev.step (fun k => ?_) he, fun _ => ⟨p, hp, rfl⟩, fun h => absurd hval h⟩
      simp only [slipwayref11_EncodeSuper.j0]
      rw [if_neg (by decide), if_neg (by decide)]
  · have : flag = true := by simp only [hf, hv]; rfl
    subst this
    refine ⟨([], 1), Ev.step (f := fun _ => some ([], 1)) (fun k => ?_) (Ev.now _), fun h => absurd h.2 hv, fun _ => by rw [if_pos hc]⟩
    simp only [slipwayref11_EncodeSuper.j0]
    rw [if_pos trivial]
set_option maxHeartbeats 2000000 in
theorem rencs_ev (b j o : Int) (c : Bool) (m : Int) : ∃ r, Ev (fun k => slipwayref11_EncodeSuper.f k b j o c m) r ∧ EncR b j o c m r := by
  unfold slipwayref11_EncodeSuper.f
  by_cases hc : chk b j = 0
  · have go : ∀ flag : Bool, flag = decide (¬ ((0 ≤ o ∧ o ≤ 16 * grps b j) ∧ (0 ≤ m ∧ m ≤ 1152921504606846976))) → ∃ r, Ev (fun k => slipwayref11_EncodeSuper.j0 k flag b j o c m) r ∧ EncR b j o c m r := fun flag hf => rencs_j0 flag hc hf
    by_cases h0 : o < 0
    · obtain ⟨r, hr, rR⟩ := go true (by simp; omega)
      exact ⟨r, Ev.bind (rcheck_ev b j) (Ev.iff_pos hc (Ev.iff_pos h0 hr)), rR⟩
    · by_cases h1 : o > 16 * grps b j
      · obtain ⟨r, hr, rR⟩ := go true (by simp; omega)
        exact ⟨r, Ev.bind (rcheck_ev b j) (Ev.iff_pos hc (Ev.iff_neg h0 (Ev.bind (rinodes_ev b j) (Ev.iff_pos h1 hr)))), rR⟩
      · by_cases h2 : m < 0
        · obtain ⟨r, hr, rR⟩ := go true (by simp; omega)
          exact ⟨r, Ev.bind (rcheck_ev b j) (Ev.iff_pos hc (Ev.iff_neg h0 (Ev.bind (rinodes_ev b j) (Ev.iff_neg h1 (Ev.iff_pos h2 hr))))), rR⟩
        · obtain ⟨r, hr, rR⟩ := go (decide (m > 1152921504606846976)) (by
            by_cases h3 : m > 1152921504606846976
            · simp [h3] <;> omega
            · simp [h3] <;> omega)
          exact ⟨r, Ev.bind (rcheck_ev b j) (Ev.iff_pos hc (Ev.iff_neg h0 (Ev.bind (rinodes_ev b j) (Ev.iff_neg h1 (Ev.iff_neg h2 hr))))), rR⟩
  · exact ⟨([], chk b j), Ev.bind (rcheck_ev b j) (Ev.iff_neg hc (Ev.now _)), fun h => absurd h.1 hc, fun _ => by rw [if_neg hc]⟩
set_option maxHeartbeats 2000000 in
theorem state_whole {p : List Int} (hp : Bytes p) (hl : p.length = 23) : opened (whole p) = (p ++ List.replicate 229 0, 0) := by
  have hz : (p ++ List.replicate 229 (0 : Int)).length = 252 := by rw [List.length_append, List.length_replicate, hl]
  have hw : (whole p).length = 256 := whole_len hl
  have ht : (whole p).take ((whole p).length - 4) = p ++ List.replicate 229 0 := by
    rw [hw]
    unfold whole
    rw [List.take_append_of_le_length (by omega), List.take_of_length_le (by omega)]
  have hd : (whole p).drop ((whole p).length - 4) = nb (zeros (p ++ List.replicate 229 0)) := by
    rw [hw]
    unfold whole
    rw [List.drop_append_of_le_length (by omega), List.drop_of_length_le (by omega), List.nil_append]
  have hs : state (whole p) = 0 := by
    unfold state
    have hne : ¬ (0 < (whole p).length ∧ zeros (whole p) = 0) := by
      rintro ⟨_, h0⟩
      have := (zeros_zero (whole_bytes hp)).1 h0 0 (by unfold whole; exact List.mem_append_left _ (List.mem_append_right _ (List.mem_replicate.2 ⟨by decide, rfl⟩)))
      exact absurd this (by decide)
    rw [if_neg hne, if_neg (by omega), ht, hd, if_pos rfl]
  unfold opened
  rw [if_pos hs, ht]
theorem str_eq {a b : List Int} (ha : Bytes a) (hb : Bytes b) : (strOfNums a).toList = (strOfNums b).toList ↔ a = b := by
  rw [Lib.strOfNums_toList, Lib.strOfNums_toList]
  constructor
  · intro h
    exact map_inj ha hb h
  · rintro rfl
    rfl
set_option maxHeartbeats 2000000 in
theorem rdec_j0 (x y u : List Int) (hx : Bytes x) (hy : y.length = 252) (hu6 : u.length = 6) (hu : Ev (fun k => slipwayref01_Unpack.f k wds (y.take 23)) (u, 0)) :
    ∃ r, Ev (fun k => slipwayref11_DecodeSuper.j0 k x y false) r ∧
      (r = (0, 0, 0, false, 0, 111) ∨ (r.2.2.2.2.2 = 0 ∧ EncR r.1 r.2.1 r.2.2.1 r.2.2.2.1 r.2.2.2.2.1 (x, 0))) ∧
      (¬ rd u 5 > 1152921504606846976 → EncR (wrap64 (rd u 1)) (wrap64 (rd u 2)) (wrap64 (rd u 4)) ((rd u 3) == 1) (wrap64 (rd u 5)) (x, 0) → r = (wrap64 (rd u 1), wrap64 (rd u 2), wrap64 (rd u 4), (rd u 3) == 1, wrap64 (rd u 5), 0)) := by
  have st : ∀ {r}, Ev (fun k => (if (rd u 5) > 1152921504606846976 then (some (0, 0, 0, false, 0, 111)) else (if 1 < (u.length : Int) then (if 2 < (u.length : Int) then (if 3 < (u.length : Int) then (if 4 < (u.length : Int) then ((slipwayref11_EncodeSuper.f k (wrap64 (rd u 1)) (wrap64 (rd u 2)) (wrap64 (rd u 4)) ((rd u 3) == 1) (wrap64 (rd u 5))).bind fun bt586 => (if bt586.2 = 0 then (if (strOfNums bt586.1).toList = (strOfNums x).toList then (some (wrap64 (rd u 1), wrap64 (rd u 2), wrap64 (rd u 4), ((rd u 3) == 1), wrap64 (rd u 5), 0)) else (some (0, 0, 0, false, 0, 111))) else (some (0, 0, 0, false, 0, 111)))) else (none)) else (none)) else (none)) else (none)))) r → Ev (fun k => slipwayref11_DecodeSuper.j0 k x y false) r := fun {r} h => by
    refine Ev.step (f := fun k => ((slipwayref11_superWidths.f).bind fun t568 => (if 23 ≤ (y.length : Int) then ((slipwayref01_Unpack.f k t568 (y.take 23)).bind fun bt575 => (if 5 < (bt575.1.length : Int) then (if (rd bt575.1 5) > 1152921504606846976 then (some (0, 0, 0, false, 0, 111)) else (if 1 < (bt575.1.length : Int) then (if 2 < (bt575.1.length : Int) then (if 3 < (bt575.1.length : Int) then (if 4 < (bt575.1.length : Int) then ((slipwayref11_EncodeSuper.f k (wrap64 (rd bt575.1 1)) (wrap64 (rd bt575.1 2)) (wrap64 (rd bt575.1 4)) ((rd bt575.1 3) == 1) (wrap64 (rd bt575.1 5))).bind fun bt586 => (if bt586.2 = 0 then (if (strOfNums bt586.1).toList = (strOfNums x).toList then (some (wrap64 (rd bt575.1 1), wrap64 (rd bt575.1 2), wrap64 (rd bt575.1 4), ((rd bt575.1 3) == 1), wrap64 (rd bt575.1 5), 0)) else (some (0, 0, 0, false, 0, 111))) else (some (0, 0, 0, false, 0, 111)))) else (none)) else (none)) else (none)) else (none))) else (none))) else (none)))) (fun k => ?_) ?_
    · simp only [slipwayref11_DecodeSuper.j0]
      rw [if_neg (by decide)]
    · exact Ev.bindS (a := wds) (fun _ => rfl) (Ev.iff_pos (by omega) (Ev.bind hu (Ev.iff_pos (by rw [hu6]; decide) h)))
  by_cases h5 : rd u 5 > 1152921504606846976
  · exact ⟨_, st (Ev.iff_pos h5 (Ev.now _)), .inl rfl, fun h => absurd h5 h⟩
  · obtain ⟨q, hq, qR⟩ := rencs_ev (wrap64 (rd u 1)) (wrap64 (rd u 2)) (wrap64 (rd u 4)) ((rd u 3) == 1) (wrap64 (rd u 5))
    have st2 : ∀ {r}, Ev (fun k => (if q.2 = 0 then (if (strOfNums q.1).toList = (strOfNums x).toList then (some (wrap64 (rd u 1), wrap64 (rd u 2), wrap64 (rd u 4), ((rd u 3) == 1), wrap64 (rd u 5), (0 : Int))) else (some (0, 0, 0, false, 0, 111))) else (some (0, 0, 0, false, 0, 111)))) r → Ev (fun k => slipwayref11_DecodeSuper.j0 k x y false) r := fun {r} h =>
      st (Ev.iff_neg h5 (Ev.iff_pos (by rw [hu6]; decide) (Ev.iff_pos (by rw [hu6]; decide) (Ev.iff_pos (by rw [hu6]; decide) (Ev.iff_pos (by rw [hu6]; decide) (Ev.bind hq h))))))
    by_cases hq2 : q.2 = 0
    · by_cases he : q.1 = x
      · have hqx : q = (x, 0) := by rw [← he, ← hq2]
        exact ⟨_, st2 (Ev.iff_pos hq2 (Ev.iff_pos ((str_eq qR.bytes.1 hx).2 he) (Ev.now _))), .inr ⟨rfl, hqx ▸ qR⟩, fun _ _ => rfl⟩
      · refine ⟨_, st2 (Ev.iff_pos hq2 (Ev.iff_neg (fun h => he ((str_eq qR.bytes.1 hx).1 h)) (Ev.now _))), .inl rfl, fun _ h => ?_⟩
        exact absurd (by rw [← h.eq qR]) he
    · refine ⟨_, st2 (Ev.iff_neg hq2 (Ev.now _)), .inl rfl, fun _ h => ?_⟩
      exact absurd (by rw [← h.eq qR]) hq2
set_option maxHeartbeats 2000000 in
theorem rdecs_ev (x : List Int) (hx : Bytes x) (hn : x.length ≤ 140737488355328) : ∃ r, Ev (fun k => slipwayref11_DecodeSuper.f k x) r ∧ DecR x r := by
  have len256 : ∀ {b j o c m}, EncR b j o c m (x, 0) → x.length = 256 := fun he => by
    obtain ⟨p, hp, rfl, _⟩ := he.inj
    exact whole_len (by rw [hp.2.1, wds_tot])
  have opn : ∀ {b j o c m}, EncR b j o c m (x, 0) → ∃ p, PackOK wds (vals b j o c m) p ∧ opened x = (p ++ List.replicate 229 0, 0) ∧ valid b j o m := fun he => by
    obtain ⟨p, hp, rfl, hv⟩ := he.inj
    exact ⟨p, hp, state_whole hp.1 (by rw [hp.2.1, wds_tot]), hv⟩
  have badj : ∀ y, Ev (fun k => slipwayref11_DecodeSuper.j0 k x y true) (0, 0, 0, false, 0, 111) := fun y => by
    refine Ev.step (f := fun _ => some (0, 0, 0, false, 0, 111)) (fun k => ?_) (Ev.now _)
    simp only [slipwayref11_DecodeSuper.j0]
    rw [if_pos trivial]
  have isBad : (∀ b j o c m, ¬ EncR b j o c m (x, 0)) → DecR x (0, 0, 0, false, 0, 111) := fun h => ⟨fun e => absurd e (by decide), fun b j o c m he => absurd he (h b j o c m), .inl rfl⟩
  unfold slipwayref11_DecodeSuper.f
  by_cases hs : (opened x).2 = 0
  · by_cases hl : (opened x).1.length = 252
    · have hob : Bytes (opened x).1 := by
        unfold opened
        split
        · exact bytes_take hx _
        · intro z hz; cases hz
      obtain ⟨u, hu, uR⟩ := ref_unpack_ev wds ((opened x).1.take 23) (bytes_take hob 23)
      have hlen23 : ((opened x).1.take 23).length = 23 := by rw [List.length_take]; omega
      have hnl : ¬ late wds ((opened x).1.take 23) := by
        rintro ⟨t, h1, h2, _⟩
        rw [wds_tot] at h1
        omega
      have hue := uR.2.2.2 wds_ok (by rw [hlen23, wds_tot]) hnl
      have hu6 : u.1.length = 6 := by rw [hue]; exact uvals_len _ _ _
      have hu0 : u = (u.1, 0) := by rw [hue]
      rw [hu0] at hu
      obtain ⟨r, hr, r1, r2⟩ := rdec_j0 x (opened x).1 u.1 hx hl hu6 hu
      refine ⟨r, Ev.bind (ref_open hx hn) (Ev.iff_pos hs (by rw [hl]; exact hr)), ?_, fun b j o c m he => ?_, ?_⟩
      · intro h
        rcases r1 with rfl | ⟨_, hE⟩
        · exact absurd h (by decide)
        · exact ⟨len256 hE, hE⟩
      · obtain ⟨p, hp, ho, hv⟩ := opn he
        have hp23 : p.length = 23 := by rw [hp.2.1, wds_tot]
        have hpt : ((opened x).1.take 23) = p := by rw [ho, List.take_append_of_le_length (by omega), List.take_of_length_le (by omega)]
        rw [hpt] at uR
        have e := back_one (vals_u64 c hv) (vals_fit c hv) hp uR
        obtain ⟨v1, v2, v3⟩ := hv
        have hbd := chk_ok v1
        have hgr := grps_range b j
        unfold bounds at hbd
        obtain ⟨_, q1, q2, q3, q4, q5⟩ := rd6 b j o c m
        rw [e] at r2
        simp only [q1, q2, q3, q4, q5] at r2
        have hc : ((if c = true then (1 : Int) else 0) == 1) = c := by cases c <;> rfl
        rw [w64 (n := b) (by omega) (by omega), w64 (n := j) (by omega) (by omega), w64 (n := o) (by omega) (by omega), w64 (n := m) (by omega) (by omega), hc] at r2
        exact r2 (by omega) he
      · exact r1.elim .inl (fun h => .inr h.1)
    · refine ⟨_, Ev.bind (ref_open hx hn) (Ev.iff_pos hs ?_), isBad fun b j o c m he => ?_⟩
      · have : (((opened x).1.length : Int) != 252) = true := by simp; omega
        rw [this]
        exact badj _
      · obtain ⟨p, hp, ho, hv⟩ := opn he
        apply hl
        rw [ho, List.length_append, List.length_replicate, hp.2.1, wds_tot]
  · refine ⟨_, Ev.bind (ref_open hx hn) (Ev.iff_neg hs (badj _)), isBad fun b j o c m he => ?_⟩
    obtain ⟨p, hp, ho, hv⟩ := opn he
    exact hs (by rw [ho])
end Go.Proofs.Ytbdnmdmfnopihaa.SuperEv
end
