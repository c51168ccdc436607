/- Texts of the proof of LayoutSupers, part 33. -/
import Derived.Test.YtbdnmdmfnopihaaLayoutSupersM25
import Derived.Test.YtbdnmdmfnopihaaLayoutSupersM31
import Derived.Test.YtbdnmdmfnopihaaLayoutSupersM32
import Derived.Test.YtbdnmdmfnopihaaLayoutSupersM17
import Derived.Test.YtbdnmdmfnopihaaLayoutSupersM18
import Derived.Test.YtbdnmdmfnopihaaLayoutSupersM19
import Derived.Test.YtbdnmdmfnopihaaLayoutSupersM20
section
namespace Go.Proofs.Ytbdnmdmfnopihaa.SuperEv
set_option linter.unusedVariables false
set_option linter.unusedSimpArgs false
open Go.RowKit Go.Proofs.Ytbdnmdmfnopihaa.Print Go.Proofs.Ytbdnmdmfnopihaa.SMath Go.Proofs.Ytbdnmdmfnopihaa.SealEv Go.Proofs.Ytbdnmdmfnopihaa.ShapeEv Go.Proofs.Ytbdnmdmfnopihaa.PackMath Go.Proofs.Ytbdnmdmfnopihaa.PackEv Go.Proofs.YtbdnmdmfnopihaaW.PrintWords Go.Proofs.YtbdnmdmfnopihaaW.PrintLast Go.Proofs.YtbdnmdmfnopihaaW.PrintMore
def wds : List Int := [32, 32, 16, 8, 32, 64]
theorem wds_ok : wok wds := ⟨by decide, by unfold wds good; decide⟩
theorem wds_tot : tot (wn wds) = 184 := by decide
def vals (b j o : Int) (c : Bool) (m : Int) : List Int := [1397508432, b, j, if c then 1 else 0, o, m]
def valid (b j o m : Int) : Prop := chk b j = 0 ∧ (0 ≤ o ∧ o ≤ 16 * grps b j) ∧ (0 ≤ m ∧ m ≤ 1152921504606846976)
theorem vals_u64 {b j o m : Int} (c : Bool) (h : valid b j o m) : U64s (vals b j o c m) := by
  obtain ⟨h1, h2, h3⟩ := h
  have hb := chk_ok h1
  have hg := grps_range b j
  unfold bounds at hb
  intro v hv
  simp only [vals, List.mem_cons, List.not_mem_nil, or_false] at hv
  unfold U64
  rcases hv with rfl | rfl | rfl | rfl | rfl | rfl
  · decide
  · omega
  · omega
  · cases c <;> decide
  · omega
  · omega
set_option maxHeartbeats 2000000 in
theorem vals_fit {b j o m : Int} (c : Bool) (h : valid b j o m) : fits wds (vals b j o c m) := by
  obtain ⟨h1, h2, h3⟩ := h
  have hb := chk_ok h1
  have hg := grps_range b j
  unfold bounds at hb
  refine ⟨wds_ok, rfl, fun i hi hi' => ?_⟩
  have hi6 : i < 6 := hi
  have : i = 0 ∨ i = 1 ∨ i = 2 ∨ i = 3 ∨ i = 4 ∨ i = 5 := by omega
  rcases this with rfl | rfl | rfl | rfl | rfl | rfl
  · show (1397508432 : Int).toNat < 2 ^ 32
    decide
  · show b.toNat < 2 ^ 32
    have : (2 : Nat) ^ 32 = 4294967296 := rfl
    omega
  · show j.toNat < 2 ^ 16
    have : (2 : Nat) ^ 16 = 65536 := rfl
    omega
  · show (if c then (1 : Int) else 0).toNat < 2 ^ 8
    cases c <;> decide
  · show o.toNat < 2 ^ 32
    have : (2 : Nat) ^ 32 = 4294967296 := rfl
    omega
  · show m.toNat < 2 ^ 64
    have : (2 : Nat) ^ 64 = 18446744073709551616 := rfl
    omega
def whole (p : List Int) : List Int := p ++ List.replicate 229 0 ++ nb (zeros (p ++ List.replicate 229 0))
def EncR (b j o : Int) (c : Bool) (m : Int) (r : List Int × Int) : Prop :=
  (valid b j o m → ∃ p, PackOK wds (vals b j o c m) p ∧ r = (whole p, 0)) ∧ (¬ valid b j o m → r = ([], if chk b j = 0 then 1 else chk b j))
theorem EncR.no {b j o m : Int} {c : Bool} {r : List Int × Int} (h : EncR b j o c m r) (hv : ¬ valid b j o m) : r.2 ≠ 0 ∧ r.1 = [] := by
  rw [h.2 hv]
  refine ⟨?_, rfl⟩
  by_cases hc : chk b j = 0
  · simp [hc]
  · simp [hc]
theorem pad_bytes {p : List Int} (h : Bytes p) (n : Nat) : Bytes (p ++ List.replicate n 0) :=
  bytes_append h (fun x hx => by rw [List.eq_of_mem_replicate hx]; exact ⟨by omega, by omega⟩)
set_option maxHeartbeats 2000000 in
theorem enc_j1 {b j o m : Int} {c : Bool} (h : valid b j o m) (x : Int) (hx : x = if c then 1 else 0) : ∃ p, PackOK wds (vals b j o c m) p ∧ Ev (fun k => layout_EncodeSuper.j1 k x b j o c m) (whole p, 0) := by
  obtain ⟨r, hr, rR⟩ := seal_pack_ev wds (vals b j o c m) (vals_u64 c h)
  obtain ⟨r2, rP⟩ := rR.1 (vals_fit c h)
  have hu := vals_u64 c h
  have ub : IntKind.u64.wrap b = b := by have := hu b (by simp [vals]); unfold U64 at this; exact u64_id this.1 this.2
  have uj : IntKind.u64.wrap j = j := by have := hu j (by simp [vals]); unfold U64 at this; exact u64_id this.1 this.2
  have uo : IntKind.u64.wrap o = o := by have := hu o (by simp [vals]); unfold U64 at this; exact u64_id this.1 this.2
  have um : IntKind.u64.wrap m = m := by have := hu m (by simp [vals]); unfold U64 at this; exact u64_id this.1 this.2
  have hlen : r.1.length = 23 := by rw [rP.2.1, wds_tot]
  refine ⟨r.1, rP, ?_⟩
  refine Ev.step (f := fun k => (layout_superWidths.f).bind fun t419 => ((seal_Pack.f k t419 (([1397508432, IntKind.u64.wrap b, IntKind.u64.wrap j, x, IntKind.u64.wrap o, IntKind.u64.wrap m] : List Int))).bind fun bt425 => (if bt425.2 = 0 then (if 0 ≤ (wrap64 (252 - (bt425.1.length : Int))) then (if bt425.1.length + (wrap64 (252 - (bt425.1.length : Int)) : Int).toNat < 140737488355328 then ((seal_Seal.f k (bt425.1 ++ List.replicate (wrap64 (252 - (bt425.1.length : Int)) : Int).toNat 0)).bind fun bt432 => (some (bt432.1, bt432.2))) else (none)) else (none)) else (some (([] : List Int), bt425.2))))) (fun k => ?_) ?_
  · simp only [layout_EncodeSuper.j1]
  · refine Ev.bindS (a := wds) (fun _ => rfl) ?_
    rw [ub, uj, uo, um, hx]
    refine Ev.bind hr (Ev.iff_pos r2 ?_)
    have e : wrap64 (252 - (r.1.length : Int)) = 229 := by rw [hlen]; exact w64 (by omega) (by omega)
    rw [e]
    refine Ev.iff_pos (by omega) (Ev.iff_pos (by rw [hlen]; decide) ?_)
    have hbz : Bytes (r.1 ++ List.replicate (229 : Int).toNat 0) := pad_bytes rP.1 _
    have hz : (r.1 ++ List.replicate (229 : Int).toNat (0 : Int)).length = 252 := by rw [List.length_append, List.length_replicate, hlen]; rfl
    refine Ev.bind (seal_seal hbz (by rw [hz]; omega)) ?_
    have e2 : sealed (r.1 ++ List.replicate (229 : Int).toNat 0) = (whole r.1, 0) := by
      unfold sealed
      rw [if_neg (by rw [hz]; decide)]
      rfl
    rw [e2]
    exact Ev.now _
set_option maxHeartbeats 2000000 in
theorem encs_j0 {b j o m : Int} {c : Bool} (flag : Bool) (hc : chk b j = 0) (hf : flag = decide (¬ ((0 ≤ o ∧ o ≤ 16 * grps b j) ∧ (0 ≤ m ∧ m ≤ 1152921504606846976)))) : ∃ r, Ev (fun k => layout_EncodeSuper.j0 k flag b j o c m) r ∧ EncR b j o c m r := by
  by_cases hv : (0 ≤ o ∧ o ≤ 16 * grps b j) ∧ (0 ≤ m ∧ m ≤ 1152921504606846976)
  · have : flag = false := by simp [hf, hv]
    subst this
    have hval : valid b j o m := ⟨hc, hv⟩
    cases c with
    | true =>
      obtain ⟨p, hp, he⟩ := enc_j1 (c := true) hval 1 rfl
      refine ⟨_, Ev.step (fun k => ?_) he, fun _ => ⟨p, hp, rfl⟩, fun h => absurd hval h⟩
      simp only [layout_EncodeSuper.j0]
      rw [if_neg (by decide), if_pos trivial]
    | false =>
      obtain ⟨p, hp, he⟩ := enc_j1 (c := false) hval 0 rfl
      refine ⟨_, Ev.step (fun k => ?_) he, fun _ => ⟨p, hp, rfl⟩, fun h => absurd hval h⟩
      simp only [layout_EncodeSuper.j0]
      rw [if_neg (by decide), if_neg (by decide)]
  · have : flag = true := by simp only [hf, hv]; rfl
    subst this
    refine ⟨([], 1), Ev.step (f := fun _ => some ([], 1)) (fun k => ?_) (Ev.now _), fun h => absurd h.2 hv, fun _ => by rw [if_pos hc]⟩
    simp only [layout_EncodeSuper.j0]
    rw [if_pos trivial]
set_option maxHeartbeats 2000000 in
theorem encs_ev (b j o : Int) (c : Bool) (m : Int) : ∃ r, Ev (fun k => layout_EncodeSuper.f k b j o c m) r ∧ EncR b j o c m r := by
  unfold layout_EncodeSuper.f
  by_cases hc : chk b j = 0
  · have go : ∀ flag : Bool, flag = decide (¬ ((0 ≤ o ∧ o ≤ 16 * grps b j) ∧ (0 ≤ m ∧ m ≤ 1152921504606846976))) → ∃ r, Ev (fun k => layout_EncodeSuper.j0 k flag b j o c m) r ∧ EncR b j o c m r := fun flag hf => encs_j0 flag hc hf
    by_cases h0 : o < 0
    · obtain ⟨r, hr, rR⟩ := go true (by simp; omega)
      exact ⟨r, Ev.bind (check_ev b j) (Ev.iff_pos hc (Ev.iff_pos h0 hr)), rR⟩
    · by_cases h1 : o > 16 * grps b j
      · obtain ⟨r, hr, rR⟩ := go true (by simp; omega)
        exact ⟨r, Ev.bind (check_ev b j) (Ev.iff_pos hc (Ev.iff_neg h0 (Ev.bind (inodes_ev b j) (Ev.iff_pos h1 hr)))), rR⟩
      · by_cases h2 : m < 0
        · obtain ⟨r, hr, rR⟩ := go true (by simp; omega)
          exact ⟨r, Ev.bind (check_ev b j) (Ev.iff_pos hc (Ev.iff_neg h0 (Ev.bind (inodes_ev b j) (Ev.iff_neg h1 (Ev.iff_pos h2 hr))))), rR⟩
        · obtain ⟨r, hr, rR⟩ := go (decide (m > 1152921504606846976)) (by
            by_cases h3 : m > 1152921504606846976
            · simp [h3] <;> omega
            · simp [h3] <;> omega)
          exact ⟨r, Ev.bind (check_ev b j) (Ev.iff_pos hc (Ev.iff_neg h0 (Ev.bind (inodes_ev b j) (Ev.iff_neg h1 (Ev.iff_neg h2 hr))))), rR⟩
  · exact ⟨([], chk b j), Ev.bind (check_ev b j) (Ev.iff_neg hc (Ev.now _)), fun h => absurd h.1 hc, fun _ => by rw [if_neg hc]⟩
theorem EncR.unique {b j o : Int} {c : Bool} {m : Int} {r q : List Int × Int} (h : EncR b j o c m r) (k : EncR b j o c m q) (h0 : r.2 = 0) : r = q := by
  by_cases hv : valid b j o m
  · obtain ⟨p, hp, rfl⟩ := h.1 hv
    obtain ⟨p', hp', rfl⟩ := k.1 hv
    rw [hp.unique hp']
  · exact absurd h0 (h.no hv).1
theorem EncR.eq {b j o : Int} {c : Bool} {m : Int} {r q : List Int × Int} (h : EncR b j o c m r) (k : EncR b j o c m q) : r = q := by
  by_cases hv : valid b j o m
  · obtain ⟨p, hp, rfl⟩ := h.1 hv
    obtain ⟨p', hp', rfl⟩ := k.1 hv
    rw [hp.unique hp']
  · rw [h.2 hv, k.2 hv]
theorem nb_len (n : Int) : (nb n).length = 4 := rfl
theorem whole_len {p : List Int} (h : p.length = 23) : (whole p).length = 256 := by
  unfold whole
  simp only [List.length_append, List.length_replicate, nb_len, h]
theorem whole_take {p : List Int} (h : p.length = 23) : (whole p).take 23 = p := by
  unfold whole
  rw [List.append_assoc, List.take_append_of_le_length (by omega), List.take_of_length_le (by omega)]
theorem whole_bytes {p : List Int} (h : Bytes p) : Bytes (whole p) := bytes_append (pad_bytes h _) (nb_bytes _)
theorem EncR.bytes {b j o : Int} {c : Bool} {m : Int} {r : List Int × Int} (h : EncR b j o c m r) : Bytes r.1 ∧ r.1.length ≤ 256 := by
  by_cases hv : valid b j o m
  · obtain ⟨p, hp, rfl⟩ := h.1 hv
    exact ⟨whole_bytes hp.1, by rw [whole_len (by rw [hp.2.1, wds_tot])]; omega⟩
  · rw [(h.no hv).2]
    exact ⟨fun x hx => (by cases hx), by simp⟩
def DecR (x : List Int) (r : Int × Int × Int × Bool × Int × Int) : Prop :=
  (r.2.2.2.2.2 = 0 → x.length = 256 ∧ EncR r.1 r.2.1 r.2.2.1 r.2.2.2.1 r.2.2.2.2.1 (x, 0)) ∧
  (∀ b j o c m, EncR b j o c m (x, 0) → r = (b, j, o, c, m, 0)) ∧ (r = (0, 0, 0, false, 0, 111) ∨ r.2.2.2.2.2 = 0)
theorem DecR.eq {x : List Int} {r q : Int × Int × Int × Bool × Int × Int} (h : DecR x r) (k : DecR x q) : r = q := by
  rcases h.2.2 with h1 | h1
  · rcases k.2.2 with k1 | k1
    · rw [h1, k1]
    · have e := h.2.1 _ _ _ _ _ (k.1 k1).2
      rw [e, ← k1]
  · have e := k.2.1 _ _ _ _ _ (h.1 h1).2
    rw [e, ← h1]
theorem EncR.inj {b j o : Int} {c : Bool} {m : Int} {x : List Int} (h : EncR b j o c m (x, 0)) : ∃ p, PackOK wds (vals b j o c m) p ∧ x = whole p ∧ valid b j o m := by
  by_cases hv : valid b j o m
  · obtain ⟨p, hp, e⟩ := h.1 hv
    exact ⟨p, hp, by injection e, hv⟩
  · exact absurd rfl (h.no hv).1
set_option maxHeartbeats 2000000 in
theorem dec_j0 (x l : List Int) (hx : x.length ≤ 140737488355328) (hl : l.length = 6) (flag : Bool) :
    ∃ r, Ev (fun k => layout_DecodeSuper.j0 k x l flag) r ∧
      (r = (0, 0, 0, false, 0, 111) ∨ (flag = false ∧ r = (wrap64 (rd l 1), wrap64 (rd l 2), wrap64 (rd l 4), (rd l 3) == 1, wrap64 (rd l 5), 0) ∧ EncR (wrap64 (rd l 1)) (wrap64 (rd l 2)) (wrap64 (rd l 4)) ((rd l 3) == 1) (wrap64 (rd l 5)) (x, 0))) ∧
      (flag = false → EncR (wrap64 (rd l 1)) (wrap64 (rd l 2)) (wrap64 (rd l 4)) ((rd l 3) == 1) (wrap64 (rd l 5)) (x, 0) → r = (wrap64 (rd l 1), wrap64 (rd l 2), wrap64 (rd l 4), (rd l 3) == 1, wrap64 (rd l 5), 0)) := by
  cases flag with
  | true =>
    refine ⟨(0, 0, 0, false, 0, 111), Ev.step (f := fun _ => some (0, 0, 0, false, 0, 111)) (fun k => ?_) (Ev.now _), .inl rfl, fun h => by cases h⟩
    simp only [layout_DecodeSuper.j0]
    rw [if_pos trivial]
  | false =>
    obtain ⟨q, hq, qR⟩ := encs_ev (wrap64 (rd l 1)) (wrap64 (rd l 2)) (wrap64 (rd l 4)) ((rd l 3) == 1) (wrap64 (rd l 5))
    have st : ∀ k, layout_DecodeSuper.j0 (k + 1) x l false = (layout_EncodeSuper.f k (wrap64 (rd l 1)) (wrap64 (rd l 2)) (wrap64 (rd l 4)) ((rd l 3) == 1) (wrap64 (rd l 5))).bind fun bt503 => (if bt503.2 = 0 then ((slices_Equal_byte_byte.f k bt503.1 x).bind fun t507 => (if t507 = true then (some (wrap64 (rd l 1), wrap64 (rd l 2), wrap64 (rd l 4), ((rd l 3) == 1), wrap64 (rd l 5), 0)) else (some (0, 0, 0, false, 0, 111)))) else (some (0, 0, 0, false, 0, 111))) := fun k => by
      simp only [layout_DecodeSuper.j0]
      rw [if_neg (by decide), if_pos (by rw [hl]; decide), if_pos (by rw [hl]; decide), if_pos (by rw [hl]; decide), if_pos (by rw [hl]; decide), if_pos (by rw [hl]; decide)]
    by_cases hq2 : q.2 = 0
    · by_cases he : q.1 = x
      · have hqx : q = (x, 0) := by rw [← he, ← hq2]
        refine ⟨_, Ev.step st (Ev.bind hq (Ev.iff_pos hq2 (Ev.bind (slices_equal q.1 x (by have := qR.bytes.2; omega)) (Ev.iff_pos (by simp [he]) (Ev.now _))))), .inr ⟨rfl, rfl, hqx ▸ qR⟩, fun _ _ => rfl⟩
      · refine ⟨_, Ev.step st (Ev.bind hq (Ev.iff_pos hq2 (Ev.bind (slices_equal q.1 x (by have := qR.bytes.2; omega)) (Ev.iff_neg (by simp [he]) (Ev.now _))))), .inl rfl, fun _ h => ?_⟩
        exact absurd (by rw [← h.unique qR rfl]) he
    · refine ⟨_, Ev.step st (Ev.bind hq (Ev.iff_neg hq2 (Ev.now _))), .inl rfl, fun _ h => ?_⟩
      exact absurd (by rw [← h.unique qR rfl]) hq2
theorem rd6 (b j o : Int) (c : Bool) (m : Int) : rd (vals b j o c m) 0 = 1397508432 ∧ rd (vals b j o c m) 1 = b ∧ rd (vals b j o c m) 2 = j ∧ rd (vals b j o c m) 3 = (if c then 1 else 0) ∧ rd (vals b j o c m) 4 = o ∧ rd (vals b j o c m) 5 = m := ⟨rfl, rfl, rfl, rfl, rfl, rfl⟩
set_option maxHeartbeats 2000000 in
theorem decs_ev (x : List Int) (hx : Bytes x) (hn : x.length ≤ 140737488355328) : ∃ r, Ev (fun k => layout_DecodeSuper.f k x) r ∧ DecR x r := by
  obtain ⟨w, hw, wR⟩ := seal_width_ev wds
  have hw1 : w = (23, 0) := by rw [wR.1 wds_ok, wds_tot]; rfl
  subst hw1
  have noEnc : x.length ≠ 256 → ∀ b j o c m, ¬ EncR b j o c m (x, 0) := fun h b j o c m he => by
    obtain ⟨p, hp, rfl, _⟩ := he.inj
    exact h (whole_len (by rw [hp.2.1, wds_tot]))
  by_cases hl : x.length = 256
  · have hb23 : Bytes (x.take 23) := bytes_take hx 23
    have hlen23 : (x.take 23).length = 23 := by rw [List.length_take]; omega
    obtain ⟨u, hu, uR⟩ := seal_unpack_ev wds (x.take 23) hb23
    -- what is packed in x
    have back : ∀ b j o c m, EncR b j o c m (x, 0) → u = (vals b j o c m, 0) ∧ valid b j o m := fun b j o c m he => by
      obtain ⟨p, hp, rfl, hv⟩ := he.inj
      rw [whole_take (by rw [hp.2.1, wds_tot])] at uR
      exact ⟨back_one (vals_u64 c hv) (vals_fit c hv) hp uR, hv⟩
    have pre : ∀ {r : Int × Int × Int × Bool × Int × Int}, Ev (fun k => (if u.2 = 0 then (if 0 < (u.1.length : Int) then (if (rd u.1 0) = 1397508432 then (if 3 < (u.1.length : Int) then (if (rd u.1 3) > 1 then (layout_DecodeSuper.j0 k x u.1 true) else (if 5 < (u.1.length : Int) then (layout_DecodeSuper.j0 k x u.1 (decide ((rd u.1 5) > 1152921504606846976))) else (none))) else (none)) else (layout_DecodeSuper.j0 k x u.1 true)) else (none)) else (layout_DecodeSuper.j0 k x u.1 true))) r → Ev (fun k => layout_DecodeSuper.f k x) r := fun h => by
      unfold layout_DecodeSuper.f
      refine Ev.bindS (a := wds) (fun _ => rfl) (Ev.bind hw (Ev.iff_pos (by rw [hl]; decide) (Ev.bindS (a := wds) (fun _ => rfl) (Ev.iff_pos (by decide) (Ev.iff_pos (by rw [hl]; decide) (Ev.bind hu h))))))
    by_cases hu2 : u.2 = 0
    · have hu6 : u.1.length = 6 := by
        by_cases hlate : late wds (x.take 23)
        · rw [uR.2.2.1 wds_ok (by rw [hlen23, wds_tot]) hlate] at hu2; exact absurd hu2 (by decide)
        · rw [uR.2.2.2 wds_ok (by rw [hlen23, wds_tot]) hlate]; exact uvals_len _ _ _
      by_cases hm : rd u.1 0 = 1397508432
      · by_cases h3 : rd u.1 3 > 1
        · obtain ⟨r, hr, r1, _⟩ := dec_j0 x u.1 hn hu6 true
          have hre : r = (0, 0, 0, false, 0, 111) := r1.elim id (fun h => by cases h.1)
          subst hre
          refine ⟨_, pre (Ev.iff_pos hu2 (Ev.iff_pos (by rw [hu6]; decide) (Ev.iff_pos hm (Ev.iff_pos (by rw [hu6]; decide) (Ev.iff_pos h3 hr))))), fun h => absurd h (by decide), fun b j o c m he => ?_, .inl rfl⟩
          obtain ⟨e, _⟩ := back b j o c m he
          rw [e, (rd6 b j o c m).2.2.2.1] at h3
          cases c <;> exact absurd h3 (by decide)
        · obtain ⟨r, hr, r1, r2⟩ := dec_j0 x u.1 hn hu6 (decide ((rd u.1 5) > 1152921504606846976))
          refine ⟨r, pre (Ev.iff_pos hu2 (Ev.iff_pos (by rw [hu6]; decide) (Ev.iff_pos hm (Ev.iff_pos (by rw [hu6]; decide) (Ev.iff_neg h3 (Ev.iff_pos (by rw [hu6]; decide) hr)))))), fun h => ?_, fun b j o c m he => ?_, r1.elim .inl (fun h => .inr (by rw [h.2.1]))⟩
          · rcases r1 with rfl | ⟨_, rfl, hE⟩
            · exact absurd h (by decide)
            · exact ⟨hl, hE⟩
          · obtain ⟨e, hv⟩ := back b j o c m he
            obtain ⟨v1, v2, v3⟩ := hv
            have hbd := chk_ok v1
            have hgr := grps_range b j
            unfold bounds at hbd
            obtain ⟨_, q1, q2, q3, q4, q5⟩ := rd6 b j o c m
            rw [e] at r2
            simp only [q1, q2, q3, q4, q5] at r2
            have hc : ((if c = true then (1 : Int) else 0) == 1) = c := by cases c <;> rfl
            rw [w64 (n := b) (by omega) (by omega), w64 (n := j) (by omega) (by omega), w64 (n := o) (by omega) (by omega), w64 (n := m) (by omega) (by omega), hc] at r2
            exact r2 (by simp; omega) he
      · obtain ⟨r, hr, r1, _⟩ := dec_j0 x u.1 hn hu6 true
        have hre : r = (0, 0, 0, false, 0, 111) := r1.elim id (fun h => by cases h.1)
        subst hre
        refine ⟨_, pre (Ev.iff_pos hu2 (Ev.iff_pos (by rw [hu6]; decide) (Ev.iff_neg hm hr))), fun h => absurd h (by decide), fun b j o c m he => ?_, .inl rfl⟩
        obtain ⟨e, _⟩ := back b j o c m he
        rw [e] at hm
        exact absurd (rd6 b j o c m).1 hm
    · refine ⟨(0, 0, 0, false, 0, 111), pre (Ev.iff_neg hu2 (Ev.step (f := fun _ => some (0, 0, 0, false, 0, 111)) (fun k => ?_) (Ev.now _))), fun h => absurd h (by decide), fun b j o c m he => ?_, .inl rfl⟩
      · simp only [layout_DecodeSuper.j0]
        rw [if_pos trivial]
      · obtain ⟨e, _⟩ := back b j o c m he
        rw [e] at hu2
        exact absurd rfl hu2
  · refine ⟨(0, 0, 0, false, 0, 111), ?_, fun h => absurd h (by decide), fun b j o c m he => absurd he (noEnc hl b j o c m), .inl rfl⟩
    unfold layout_DecodeSuper.f
    exact Ev.bindS (a := wds) (fun _ => rfl) (Ev.bind hw (Ev.iff_neg (by omega) (Ev.now _)))
end Go.Proofs.Ytbdnmdmfnopihaa.SuperEv
end
