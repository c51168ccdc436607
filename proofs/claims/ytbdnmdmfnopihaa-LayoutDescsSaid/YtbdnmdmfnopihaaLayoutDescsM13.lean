/- Texts of the proof of LayoutDescs, part 13. -/
import Derived.Test.YtbdnmdmfnopihaaLayoutDescsM7
import Derived.Test.YtbdnmdmfnopihaaLayoutDescsM12
import Derived.Test.YtbdnmdmfnopihaaLayoutDescsM1
import Derived.Test.YtbdnmdmfnopihaaLayoutDescsM2
section
namespace Go.Proofs.Ytbdnmdmfnopihaa.DescEv
set_option linter.unusedVariables false
set_option linter.unusedSimpArgs false
open Go.RowKit Go.Proofs.Ytbdnmdmfnopihaa.Print Go.Proofs.Ytbdnmdmfnopihaa.SMath Go.Proofs.Ytbdnmdmfnopihaa.SealEv Go.Proofs.Ytbdnmdmfnopihaa.PackMath Go.Proofs.Ytbdnmdmfnopihaa.PackEv Go.Proofs.YtbdnmdmfnopihaaW.PrintWords Go.Proofs.YtbdnmdmfnopihaaW.PrintLast Go.Proofs.YtbdnmdmfnopihaaW.PrintMore
def six (d : S57) : List Int := [d.f0 / 256 % 256, d.f0 % 256, d.f1 / 256 % 256, d.f1 % 256, d.f2 / 256 % 256, d.f2 % 256]
theorem chunk_six (d : S57) : chunk d = six d ++ List.replicate 10 0 := rfl
def w16 : List Int := [16, 16, 16]
theorem w16_ok : wok w16 := ⟨by decide, by unfold w16 good; decide⟩
theorem w16_tot : tot (wn w16) = 48 := by decide
def v3 (d : S57) : List Int := [d.f0, d.f1, d.f2]
theorem v3_u64 {d : S57} (h : DOK d) : U64s (v3 d) := by
  obtain ⟨h0, h1, h2⟩ := h
  intro v hv
  simp only [v3, List.mem_cons, List.not_mem_nil, or_false] at hv
  unfold U64
  rcases hv with rfl | rfl | rfl <;> omega
theorem v3_fit {d : S57} (h : DOK d) : fits w16 (v3 d) := by
  obtain ⟨h0, h1, h2⟩ := h
  refine ⟨w16_ok, rfl, fun i hi hi' => ?_⟩
  have hi3 : i < 3 := hi
  have hp : (2 : Nat) ^ 16 = 65536 := rfl
  have : i = 0 ∨ i = 1 ∨ i = 2 := by omega
  rcases this with rfl | rfl | rfl
  · show d.f0.toNat < 2 ^ 16
    omega
  · show d.f1.toNat < 2 ^ 16
    omega
  · show d.f2.toNat < 2 ^ 16
    omega
set_option maxHeartbeats 2000000 in
theorem gb_two (out : List Int) (i t : Nat) (f : Int) (h0 : out.getD (2 * i) 0 = f / 256 % 256) (h1 : out.getD (2 * i + 1) 0 = f % 256) (hf : 0 ≤ f) (ht : t < 16) : gb out (16 * i + t) = f.toNat.testBit (15 - t) := by
  unfold gb
  by_cases h : t < 8
  · rw [show (16 * i + t) / 8 = 2 * i by omega, show (16 * i + t) % 8 = t by omega, h0]
    have e : (f / 256 % 256).toNat = f.toNat / 2 ^ 8 % 2 ^ 8 := by
      have : (2 : Nat) ^ 8 = 256 := rfl
      omega
    rw [e, Nat.testBit_mod_two_pow, Nat.testBit_div_two_pow, show 15 - t = 8 + (7 - t) by omega]
    simp [show 7 - t < 8 by omega, Nat.add_comm]
  · rw [show (16 * i + t) / 8 = 2 * i + 1 by omega, show (16 * i + t) % 8 = t - 8 by omega, h1]
    have e : (f % 256).toNat = f.toNat % 2 ^ 8 := by
      have : (2 : Nat) ^ 8 = 256 := rfl
      omega
    rw [e, Nat.testBit_mod_two_pow, show 15 - t = 7 - (t - 8) by omega]
    simp [show 7 - (t - 8) < 8 by omega]
theorem six_bytes (d : S57) : Bytes (six d) := by
  intro x hx
  simp only [six, List.mem_cons, List.not_mem_nil, or_false] at hx
  unfold Byte
  omega
set_option maxHeartbeats 2000000 in
theorem six_ok {d : S57} (h : DOK d) : PackOK w16 (v3 d) (six d) := by
  refine ⟨six_bytes d, by rw [w16_tot]; rfl, fun j => ?_⟩
  obtain ⟨h0, h1, h2⟩ := h
  by_cases hj : j < 48
  · have hw : wn w16 = [16, 16, 16] := rfl
    rw [hw]
    rcases Nat.lt_or_ge j 16 with q | q
    · have e := pb_at [16, 16, 16] (v3 d) 0 (by decide) (by simp [v3]) j q
      have e' : pb [16, 16, 16] (v3 d) j = d.f0.toNat.testBit (15 - j) := by
        rw [show tot (List.take 0 [16, 16, 16]) + j = j by simp [tot]] at e
        exact e
      rw [e']
      have g := gb_two (six d) 0 j d.f0 rfl rfl h0.1 q
      rwa [Nat.mul_zero, Nat.zero_add] at g
    · rcases Nat.lt_or_ge j 32 with q2 | q2
      · obtain ⟨t, rfl⟩ : ∃ t, j = 16 + t := ⟨j - 16, by omega⟩
        have e := pb_at [16, 16, 16] (v3 d) 1 (by decide) (by simp [v3]) t (show t < 16 by omega)
        have e' : pb [16, 16, 16] (v3 d) (16 + t) = d.f1.toNat.testBit (15 - t) := e
        rw [e']
        exact gb_two (six d) 1 t d.f1 rfl rfl h1.1 (by omega)
      · obtain ⟨t, rfl⟩ : ∃ t, j = 32 + t := ⟨j - 32, by omega⟩
        have e := pb_at [16, 16, 16] (v3 d) 2 (by decide) (by simp [v3]) t (show t < 16 by omega)
        have e' : pb [16, 16, 16] (v3 d) (32 + t) = d.f2.toNat.testBit (15 - t) := e
        rw [e']
        exact gb_two (six d) 2 t d.f2 rfl rfl h2.1 (by omega)
  · rw [gb_out _ _ (by show 8 * 6 ≤ j; omega), pb_out _ _ _ (by rw [w16_tot]; omega)]
theorem pack3 {d : S57} (h : DOK d) : Ev (fun k => slipwayref01_Pack.f k w16 (v3 d)) (six d, 0) := by
  obtain ⟨r, hr, rR⟩ := ref_pack_ev w16 (v3 d) (v3_u64 h)
  obtain ⟨r2, rP⟩ := rR.1 (v3_fit h)
  have : r = (six d, 0) := Prod.ext (rP.unique (six_ok h)) r2
  exact this ▸ hr
theorem pad_one (p : List Int) (d : Nat) : p ++ List.replicate (d + 1) (0 : Int) = (p ++ [0]) ++ List.replicate d 0 := by simp [List.replicate_succ]
set_option maxHeartbeats 2000000 in
theorem renc_l2 (d : Nat) : ∀ p : List Int, p.length + d = 256 → Ev (fun k => slipwayref11_EncodeDescs.l2 k p) (p ++ List.replicate d 0, 0) := by
  induction d with
  | zero =>
    intro p hl
    refine Ev.step (f := fun k => some (p, 0)) (fun k => ?_) (by rw [List.replicate_zero, List.append_nil]; exact Ev.now _)
    unfold slipwayref11_EncodeDescs.l2
    rw [if_neg (by omega)]
  | succ d ih =>
    intro p hl
    rw [pad_one]
    refine Ev.step (fun k => ?_) (ih (p ++ [0]) (by rw [List.length_append]; simp; omega))
    rw [slipwayref11_EncodeDescs.l2.eq_def]
    simp only
    rw [if_pos (by omega), if_pos (by omega)]
set_option maxHeartbeats 2000000 in
theorem renc_l1 (l : List S57) (out : List Int) (i : Nat) (hi : i < l.length) (hn : l.length ≤ 16) (ho : out.length = 16 * i) {r : List Int × Int} (d : Nat) : ∀ p : List Int, p.length + d = 16 →
    Ev (fun k => slipwayref11_EncodeDescs.l0 k l (out ++ (p ++ List.replicate d 0)) ((i + 1 : Nat) : Int)) r → Ev (fun k => slipwayref11_EncodeDescs.l1 k l out (i : Int) p) r := by
  induction d with
  | zero =>
    intro p hl h
    rw [List.replicate_zero, List.append_nil] at h
    refine Ev.step (fun k => ?_) h
    rw [slipwayref11_EncodeDescs.l1.eq_def]
    simp only
    rw [if_neg (by omega), if_pos (by omega), suc64 i l.length hi (by omega)]
  | succ d ih =>
    intro p hl h
    rw [pad_one] at h
    refine Ev.step (fun k => ?_) (ih (p ++ [0]) (by rw [List.length_append]; simp; omega) h)
    rw [slipwayref11_EncodeDescs.l1.eq_def]
    simp only
    rw [if_pos (by omega), if_pos (by omega)]
theorem renc_bad (l : List S57) (out : List Int) (i a b c : Int) : Ev (fun k => slipwayref11_EncodeDescs.j1 k l out i true a b c) ([], 1) := by
  refine Ev.step (f := fun _ => some ([], 1)) (fun k => ?_) (Ev.now _)
  rw [slipwayref11_EncodeDescs.j1.eq_def]
  simp only
  rw [if_pos trivial]
set_option maxHeartbeats 2000000 in
theorem renc_from (l : List S57) (hn : l.length ≤ 16) (d : Nat) : ∀ (i : Nat), i + d = l.length → (∀ j, j < i → ∀ h : j < l.length, DOK l[j]) →
    Ev (fun k => slipwayref11_EncodeDescs.l0 k l (chunks (l.take i)) (i : Int)) (encR l) := by
  induction d with
  | zero =>
    intro i hi hg
    have hi' : i = l.length := by omega
    subst hi'
    have hall : l.length ≤ 16 ∧ ∀ d ∈ l, DOK d := ⟨hn, fun d hd => by obtain ⟨j, hj, rfl⟩ := List.getElem_of_mem hd; exact hg j hj hj⟩
    refine Ev.step (f := fun k => slipwayref11_EncodeDescs.l2 k (chunks (l.take l.length))) (fun k => ?_) ?_
    · rw [slipwayref11_EncodeDescs.l0.eq_def]
      simp only
      rw [if_neg (by omega)]
    · rw [encR, if_pos hall, List.take_length]
      exact renc_l2 (256 - 16 * l.length) (chunks l) (by rw [chunks_len]; omega)
  | succ d ih =>
    intro i hi hg
    have hlt : i < l.length := by omega
    have bad : ¬ DOK l[i] → encR l = ([], 1) := fun h => by rw [encR, if_neg (fun h' => h (h'.2 _ (List.getElem_mem hlt)))]
    have st : ∀ {r}, Ev (fun k => if l[i].f0 < 0 then (slipwayref11_EncodeDescs.j1 k l (chunks (l.take i)) (i : Int) true l[i].f0 l[i].f1 l[i].f2) else (if l[i].f0 > 65535 then (slipwayref11_EncodeDescs.j1 k l (chunks (l.take i)) (i : Int) true l[i].f0 l[i].f1 l[i].f2) else (if l[i].f1 < 0 then (slipwayref11_EncodeDescs.j1 k l (chunks (l.take i)) (i : Int) true l[i].f0 l[i].f1 l[i].f2) else (if l[i].f1 > 65535 then (slipwayref11_EncodeDescs.j1 k l (chunks (l.take i)) (i : Int) true l[i].f0 l[i].f1 l[i].f2) else (if l[i].f2 < 0 then (slipwayref11_EncodeDescs.j1 k l (chunks (l.take i)) (i : Int) true l[i].f0 l[i].f1 l[i].f2) else (slipwayref11_EncodeDescs.j1 k l (chunks (l.take i)) (i : Int) (decide (l[i].f2 > 65535)) l[i].f0 l[i].f1 l[i].f2)))))) r → Ev (fun k => slipwayref11_EncodeDescs.l0 k l (chunks (l.take i)) (i : Int)) r := fun {r} h => by
      refine Ev.step (fun k => ?_) h
      rw [slipwayref11_EncodeDescs.l0.eq_def]
      simp only
      rw [if_pos (by omega), if_pos (by omega), rdT l i hlt]
    refine st ?_
    by_cases a0 : l[i].f0 < 0
    · rw [bad (fun h => by have := h.1; omega)]; exact Ev.iff_pos a0 (renc_bad ..)
    refine Ev.iff_neg a0 ?_
    by_cases a1 : l[i].f0 > 65535
    · rw [bad (fun h => by have := h.1; omega)]; exact Ev.iff_pos a1 (renc_bad ..)
    refine Ev.iff_neg a1 ?_
    by_cases b0 : l[i].f1 < 0
    · rw [bad (fun h => by have := h.2.1; omega)]; exact Ev.iff_pos b0 (renc_bad ..)
    refine Ev.iff_neg b0 ?_
    by_cases b1 : l[i].f1 > 65535
    · rw [bad (fun h => by have := h.2.1; omega)]; exact Ev.iff_pos b1 (renc_bad ..)
    refine Ev.iff_neg b1 ?_
    by_cases c0 : l[i].f2 < 0
    · rw [bad (fun h => by have := h.2.2; omega)]; exact Ev.iff_pos c0 (renc_bad ..)
    refine Ev.iff_neg c0 ?_
    by_cases c1 : l[i].f2 > 65535
    · rw [bad (fun h => by have := h.2.2; omega), decide_eq_true c1]; exact renc_bad ..
    rw [decide_eq_false c1]
    have hq : DOK l[i] := ⟨by omega, by omega, by omega⟩
    have u : ∀ x : Int, 0 ≤ x → x ≤ 65535 → IntKind.u64.wrap x = x := fun x h0 h1 => u64_id h0 (by omega)
    refine Ev.step (f := fun k => (slipwayref01_Pack.f k w16 (v3 l[i])).bind fun bt294 => (slipwayref11_EncodeDescs.l1 k l (chunks (l.take i)) (i : Int) bt294.1)) (fun k => ?_) ?_
    · rw [slipwayref11_EncodeDescs.j1.eq_def]
      simp only
      rw [if_neg (by decide), u _ (by omega) (by omega), u _ (by omega) (by omega), u _ (by omega) (by omega)]
      rfl
    · refine Ev.bind (pack3 hq) (renc_l1 l _ i hlt hn (by rw [chunks_len, List.length_take]; omega) 10 (six l[i]) rfl ?_)
      rw [← chunk_six, ← chunks_snoc, ← List.take_succ_eq_append_getElem hlt]
      refine ih (i + 1) (by omega) (fun j hj h => ?_)
      rcases Nat.lt_or_ge j i with h1 | h1
      · exact hg j h1 h
      · have : j = i := by omega
        subst this
        exact hq
theorem renc_ev (l : List S57) : Ev (fun k => slipwayref11_EncodeDescs.f k l) (encR l) := by
  unfold slipwayref11_EncodeDescs.f
  by_cases h : l.length ≤ 16
  · refine Ev.iff_neg (by omega) (Ev.iff_pos (by omega) ?_)
    exact renc_from l h l.length 0 (by omega) (fun j hj => by omega)
  · rw [encR, if_neg (fun h' => h h'.1)]
    exact Ev.iff_pos (by omega) (Ev.now _)
theorem getD_byte {b : List Int} (hb : Bytes b) (q : Nat) : Byte (b.getD q 0) := by
  rw [List.getD_eq_getElem?_getD]
  rcases Nat.lt_or_ge q b.length with hq | hq
  · rw [List.getElem?_eq_getElem hq]; exact hb _ (List.getElem_mem hq)
  · rw [List.getElem?_eq_none hq]; exact ⟨by decide, by decide⟩
set_option maxHeartbeats 2000000 in
theorem cut_six (b : List Int) (hb : Bytes b) (hl : b.length = 256) (i : Nat) (hi : i < 16) : (b.take (16 * i + 6)).drop (16 * i) = six (desc b i) := by
  apply List.ext_getElem
  · rw [List.length_drop, List.length_take]
    show _ = 6
    omega
  · intro t h1 h2
    have ht : t < 6 := h2
    have e : ((b.take (16 * i + 6)).drop (16 * i))[t] = b.getD (16 * i + t) 0 := by
      have : 16 * i + t < b.length := by omega
      simp [List.getElem_drop, List.getElem_take, List.getD_eq_getElem?_getD, this]
    rw [e]
    have g0 := getD_byte hb (16 * i)
    have g1 := getD_byte hb (16 * i + 1)
    have g2 := getD_byte hb (16 * i + 2)
    have g3 := getD_byte hb (16 * i + 3)
    have g4 := getD_byte hb (16 * i + 4)
    have g5 := getD_byte hb (16 * i + 5)
    unfold Byte at g0 g1 g2 g3 g4 g5
    have : t = 0 ∨ t = 1 ∨ t = 2 ∨ t = 3 ∨ t = 4 ∨ t = 5 := by omega
    rcases this with rfl | rfl | rfl | rfl | rfl | rfl
    · show b.getD (16 * i) 0 = (b.getD (16 * i) 0 * 256 + b.getD (16 * i + 1) 0) / 256 % 256
      omega
    · show b.getD (16 * i + 1) 0 = (b.getD (16 * i) 0 * 256 + b.getD (16 * i + 1) 0) % 256
      omega
    · show b.getD (16 * i + 2) 0 = (b.getD (16 * i + 2) 0 * 256 + b.getD (16 * i + 3) 0) / 256 % 256
      omega
    · show b.getD (16 * i + 3) 0 = (b.getD (16 * i + 2) 0 * 256 + b.getD (16 * i + 3) 0) % 256
      omega
    · show b.getD (16 * i + 4) 0 = (b.getD (16 * i + 4) 0 * 256 + b.getD (16 * i + 5) 0) / 256 % 256
      omega
    · show b.getD (16 * i + 5) 0 = (b.getD (16 * i + 4) 0 * 256 + b.getD (16 * i + 5) 0) % 256
      omega
theorem desc_ok {b : List Int} (hb : Bytes b) (i : Nat) : DOK (desc b i) := ⟨two_range hb _, two_range hb _, two_range hb _⟩
theorem unpack3 (b : List Int) (hb : Bytes b) (hl : b.length = 256) (i : Nat) (hi : i < 16) : Ev (fun k => slipwayref01_Unpack.f k w16 ((b.take (16 * i + 6)).drop (16 * i))) (v3 (desc b i), 0) := by
  rw [cut_six b hb hl i hi]
  have hd := desc_ok hb i
  obtain ⟨u, hu, uR⟩ := ref_unpack_ev w16 (six (desc b i)) (six_bytes _)
  have e := back_one (v3_u64 hd) (v3_fit hd) (six_ok hd) uR
  exact e ▸ hu
theorem str_eq {a b : List Int} (ha : Bytes a) (hb : Bytes b) : (strOfNums a).toList = (strOfNums b).toList ↔ a = b := by
  rw [Lib.strOfNums_toList, Lib.strOfNums_toList]
  constructor
  · intro h
    exact map_inj ha hb h
  · rintro rfl
    rfl
set_option maxHeartbeats 2000000 in
theorem rdec_from (b : List Int) (hb : Bytes b) (hl : b.length = 256) (n : Nat) (hn : n ≤ 16) (d : Nat) : ∀ i : Nat, i + d = n →
    Ev (fun k => slipwayref11_DecodeDescs.l0 k b (n : Int) (descs b i) (i : Int)) (decR b n) := by
  induction d with
  | zero =>
    intro i hi
    have hi' : i = n := by omega
    subst hi'
    refine Ev.step (f := fun k => (slipwayref11_EncodeDescs.f k (descs b i)).bind fun bt346 => (if (strOfNums bt346.1).toList = (strOfNums b).toList then (some (descs b i, 0)) else (some (([] : List (S57)), 111)))) (fun k => ?_) ?_
    · simp only [slipwayref11_DecodeDescs.l0]
      rw [if_neg (by omega)]
    · refine Ev.bind (renc_ev (descs b i)) ?_
      have e : encR (descs b i) = (fin (descs b i), 0) := by rw [encR, if_pos ⟨by rw [descs_len]; exact hn, descs_ok hb i⟩]
      rw [e]
      have e2 : decR b (i : Int) = if fin (descs b i) = b then (descs b i, 0) else ([], 111) := by
        rw [decR, if_neg (by omega), if_neg (by omega), Int.toNat_natCast]
      rw [e2]
      by_cases h : fin (descs b i) = b
      · rw [if_pos h]
        exact Ev.iff_pos ((str_eq (fin_bytes _) hb).2 h) (Ev.now _)
      · rw [if_neg h]
        exact Ev.iff_neg (fun x => h ((str_eq (fin_bytes _) hb).1 x)) (Ev.now _)
  | succ d ih =>
    intro i hi
    have hs := suc64 i n (by omega) (by omega)
    have e16 : wrap64 ((i : Int) * 16) = ((16 * i : Nat) : Int) := by rw [w64 (by omega) (by omega)]; omega
    have e22 : wrap64 (((16 * i : Nat) : Int) + 6) = ((16 * i + 6 : Nat) : Int) := by rw [w64 (by omega) (by omega)]; omega
    refine Ev.step (f := fun k => (slipwayref01_Unpack.f k w16 ((b.take (16 * i + 6)).drop (16 * i))).bind fun bt336 => (if 0 < (bt336.1.length : Int) then (if 1 < (bt336.1.length : Int) then (if 2 < (bt336.1.length : Int) then (if (descs b i).length < 5864062014805 then (slipwayref11_DecodeDescs.l0 k b (n : Int) (descs b i ++ [(⟨wrap64 (rd bt336.1 0), wrap64 (rd bt336.1 1), wrap64 (rd bt336.1 2)⟩ : S57)]) (wrap64 ((i : Int) + 1))) else (none)) else (none)) else (none)) else (none))) (fun k => ?_) ?_
    · simp only [slipwayref11_DecodeDescs.l0]
      rw [if_pos (by omega), e16, e22, if_pos (by omega), if_pos (by omega), if_pos (by omega), Int.toNat_natCast, Int.toNat_natCast]
      rfl
    · refine Ev.bind (unpack3 b hb hl i (by omega)) (Ev.iff_pos (by simp [v3]) (Ev.iff_pos (by simp [v3]) (Ev.iff_pos (by simp [v3]) (Ev.iff_pos (by rw [descs_len]; omega) ?_))))
      have hd := desc_ok hb i
      obtain ⟨h0, h1, h2⟩ := hd
      have q0 : wrap64 (rd (v3 (desc b i)) 0) = (desc b i).f0 := w64 (n := (desc b i).f0) (by omega) (by omega)
      have q1 : wrap64 (rd (v3 (desc b i)) 1) = (desc b i).f1 := w64 (n := (desc b i).f1) (by omega) (by omega)
      have q2 : wrap64 (rd (v3 (desc b i)) 2) = (desc b i).f2 := w64 (n := (desc b i).f2) (by omega) (by omega)
      have := ih (i + 1) (by omega)
      rw [descs_succ] at this
      show Ev (fun k => slipwayref11_DecodeDescs.l0 k b (n : Int) (descs b i ++ [(⟨wrap64 (rd (v3 (desc b i)) 0), wrap64 (rd (v3 (desc b i)) 1), wrap64 (rd (v3 (desc b i)) 2)⟩ : S57)]) (wrap64 ((i : Int) + 1))) _
      rw [q0, q1, q2, hs]
      exact this
set_option maxHeartbeats 2000000 in
theorem rdec_ev (b : List Int) (hb : Bytes b) (n : Int) : Ev (fun k => slipwayref11_DecodeDescs.f k b n) (decR b n) := by
  unfold slipwayref11_DecodeDescs.f
  by_cases h0 : n < 0
  · refine Ev.iff_pos h0 (Ev.step (f := fun _ => some ([], 1)) (fun k => ?_) ?_)
    · simp only [slipwayref11_DecodeDescs.j0]
      rw [if_pos trivial]
    · rw [decR, if_pos (.inl h0)]; exact Ev.now _
  · refine Ev.iff_neg h0 ?_
    by_cases h1 : n > 16
    · refine Ev.step (f := fun _ => some ([], 1)) (fun k => ?_) ?_
      · simp only [slipwayref11_DecodeDescs.j0]
        rw [if_pos (by simp [h1])]
      · rw [decR, if_pos (.inr h1)]; exact Ev.now _
    · by_cases h2 : b.length = 256
      · obtain ⟨m, rfl⟩ : ∃ m : Nat, n = m := ⟨n.toNat, by omega⟩
        refine Ev.step (f := fun k => slipwayref11_DecodeDescs.l0 k b (m : Int) [] 0) (fun k => ?_) (rdec_from b hb h2 m (by omega) m 0 (by omega))
        simp only [slipwayref11_DecodeDescs.j0]
        rw [if_neg (by simp [h1]), if_pos (by omega)]
      · refine Ev.step (f := fun _ => some ([], 111)) (fun k => ?_) ?_
        · simp only [slipwayref11_DecodeDescs.j0]
          rw [if_neg (by simp [h1]), if_neg (by omega)]
        · rw [decR, if_neg (by omega), if_pos h2]; exact Ev.now _
end Go.Proofs.Ytbdnmdmfnopihaa.DescEv
end
