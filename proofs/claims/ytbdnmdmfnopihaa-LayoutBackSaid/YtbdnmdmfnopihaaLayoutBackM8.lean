/- Texts of the proof of LayoutBack, part 8. -/
import Derived.Test.YtbdnmdmfnopihaaLayoutBackM7
import Derived.Test.YtbdnmdmfnopihaaLayoutBackM1
section
namespace Go.Proofs.Ytbdnmdmfnopihaa.DescEv
set_option linter.unusedVariables false
set_option linter.unusedSimpArgs false
open Go.RowKit Go.Proofs.Ytbdnmdmfnopihaa.Print Go.Proofs.Ytbdnmdmfnopihaa.SMath Go.Proofs.Ytbdnmdmfnopihaa.SealEv Go.Proofs.YtbdnmdmfnopihaaW.PrintWords Go.Proofs.YtbdnmdmfnopihaaW.PrintLast Go.Proofs.YtbdnmdmfnopihaaW.PrintMore
def DOK (d : S57) : Prop := (0 ≤ d.f0 ∧ d.f0 ≤ 65535) ∧ (0 ≤ d.f1 ∧ d.f1 ≤ 65535) ∧ (0 ≤ d.f2 ∧ d.f2 ≤ 65535)
def chunk (d : S57) : List Int := [d.f0 / 256 % 256, d.f0 % 256, d.f1 / 256 % 256, d.f1 % 256, d.f2 / 256 % 256, d.f2 % 256, 0, 0, 0, 0, 0, 0, 0, 0, 0, 0]
theorem chunk_len (d : S57) : (chunk d).length = 16 := rfl
def chunks (l : List S57) : List Int := l.flatMap chunk
theorem chunks_len : ∀ l : List S57, (chunks l).length = 16 * l.length
  | [] => rfl
  | d :: l => by
    have := chunks_len l
    simp only [chunks, List.flatMap_cons, List.length_append, chunk_len, List.length_cons] at this ⊢
    omega
theorem chunks_snoc (l : List S57) (d : S57) : chunks (l ++ [d]) = chunks l ++ chunk d := by simp [chunks]
def fin (l : List S57) : List Int := chunks l ++ List.replicate (256 - 16 * l.length) 0
theorem fin_len {l : List S57} (h : l.length ≤ 16) : (fin l).length = 256 := by
  unfold fin
  rw [List.length_append, chunks_len, List.length_replicate]
  omega
open Classical in
noncomputable def encR (l : List S57) : List Int × Int := if l.length ≤ 16 ∧ ∀ d ∈ l, DOK d then (fin l, 0) else ([], 1)
theorem set_pre (pre rest : List Int) (j : Nat) (v : Int) : (pre ++ rest).set (pre.length + j) v = pre ++ rest.set j v := by
  rw [List.set_append_right _ _ (by omega)]
  congr 2
  omega
theorem ix0 (i t : Nat) (hi : i < 16) (ht : t < 3) : wrap64 (wrap64 ((i : Int) * 16) + wrap64 (2 * (t : Int))) = ((16 * i + 2 * t : Nat) : Int) := by
  rw [w64 (n := (i : Int) * 16) (by omega) (by omega), w64 (n := 2 * (t : Int)) (by omega) (by omega), w64 (by omega) (by omega)]
  omega
theorem ix1 (i t : Nat) (hi : i < 16) (ht : t < 3) : wrap64 (((16 * i + 2 * t : Nat) : Int) + 1) = ((16 * i + (2 * t + 1) : Nat) : Int) := by
  rw [w64 (by omega) (by omega)]
  omega
set_option maxHeartbeats 2000000 in
theorem enc_step (pre rest : List Int) (i t : Nat) (x13 : List S57) (x14 x15 : Int) (c : List Int) (hlen : pre.length = 16 * i) (hr : pre.length + rest.length = 256) (hi : i < 16) (ht : t < 3) (hc : c.length = 3) (h0 : 0 ≤ c[t]) (h1 : c[t] ≤ 65535) {r : List Int × Int}
    (next : Ev (fun k => layout_EncodeDescs.l1 k (pre ++ (rest.set (2 * t) (c[t] / 256 % 256)).set (2 * t + 1) (c[t] % 256)) (i : Int) x13 x14 x15 c 3 ((t + 1 : Nat) : Int)) r) :
    Ev (fun k => layout_EncodeDescs.l1 k (pre ++ rest) (i : Int) x13 x14 x15 c 3 (t : Int)) r := by
  refine Ev.step (fun k => ?_) next
  have hl : (pre ++ rest).length = 256 := by rw [List.length_append]; exact hr
  have hs : wrap64 ((t : Int) + 1) = ((t + 1 : Nat) : Int) := by rw [w64 (by omega) (by omega)]; rfl
  simp only [layout_EncodeDescs.l1]
  rw [rd_nat c t (by omega), ix0 i t hi ht, ix1 i t hi ht, hl, hs, if_pos (by omega), if_pos (by omega), if_pos (by omega), if_neg (by omega), if_neg (by omega), if_pos (by omega), if_pos (by omega), if_pos (by omega), if_pos (by omega), Int.toNat_natCast, Int.toNat_natCast, ← hlen, set_pre, set_pre]
set_option maxHeartbeats 2000000 in
theorem enc_bad (s : List Int) (x5 : Int) (t : Nat) (x13 : List S57) (x14 x15 : Int) (c : List Int) (ht : t < 3) (hc : c.length = 3) (h0 : ¬ (0 ≤ c[t] ∧ c[t] ≤ 65535)) :
    Ev (fun k => layout_EncodeDescs.l1 k s x5 x13 x14 x15 c 3 (t : Int)) ([], 1) := by
  refine Ev.step (f := fun _ => some ([], 1)) (fun k => ?_) (Ev.now _)
  simp only [layout_EncodeDescs.l1]
  rw [rd_nat c t (by omega), if_pos (by omega), if_pos (by omega), if_pos (by omega)]
  by_cases h : c[t] < 0
  · rw [if_pos h]
  · rw [if_neg h, if_pos (by omega)]
theorem enc_end (s : List Int) (x5 : Int) (x13 : List S57) (x14 x15 : Int) (c : List Int) {r : List Int × Int} (next : Ev (fun k => layout_EncodeDescs.l0 k s x13 x14 (wrap64 (x15 + 1))) r) :
    Ev (fun k => layout_EncodeDescs.l1 k s x5 x13 x14 x15 c 3 3) r := by
  refine Ev.step (fun k => ?_) next
  simp only [layout_EncodeDescs.l1]
  rw [if_neg (by omega)]
theorem three_sets (m : Nat) (a b c d e f : Int) : ((((((List.replicate (16 + m) (0 : Int)).set 0 a).set 1 b).set 2 c).set 3 d).set 4 e).set 5 f = [a, b, c, d, e, f, 0, 0, 0, 0, 0, 0, 0, 0, 0, 0] ++ List.replicate m 0 := by
  rw [← List.replicate_append_replicate]
  rfl
set_option maxHeartbeats 2000000 in
theorem enc_one (pre : List Int) (i : Nat) (x13 : List S57) (x14 x15 : Int) (q : S57) (hlen : pre.length = 16 * i) (hi : i < 16) {r : List Int × Int}
    (good : DOK q → Ev (fun k => layout_EncodeDescs.l0 k (pre ++ chunk q ++ List.replicate (256 - 16 * (i + 1)) 0) x13 x14 (wrap64 (x15 + 1))) r) (bad : ¬ DOK q → r = ([], 1)) :
    Ev (fun k => layout_EncodeDescs.l1 k (pre ++ List.replicate (256 - 16 * i) 0) (i : Int) x13 x14 x15 [q.f0, q.f1, q.f2] 3 0) r := by
  have hm : 256 - 16 * i = 16 + (256 - 16 * (i + 1)) := by omega
  rw [hm]
  have hL : pre.length + (16 + (256 - 16 * (i + 1))) = 256 := by omega
  by_cases h0 : 0 ≤ q.f0 ∧ q.f0 ≤ 65535
  · refine enc_step pre _ i 0 x13 x14 x15 [q.f0, q.f1, q.f2] hlen (by rw [List.length_replicate]; exact hL) hi (by omega) rfl h0.1 h0.2 ?_
    by_cases h1 : 0 ≤ q.f1 ∧ q.f1 ≤ 65535
    · refine enc_step pre _ i 1 x13 x14 x15 [q.f0, q.f1, q.f2] hlen (by rw [List.length_set, List.length_set, List.length_replicate]; exact hL) hi (by omega) rfl h1.1 h1.2 ?_
      by_cases h2 : 0 ≤ q.f2 ∧ q.f2 ≤ 65535
      · refine enc_step pre _ i 2 x13 x14 x15 [q.f0, q.f1, q.f2] hlen (by rw [List.length_set, List.length_set, List.length_set, List.length_set, List.length_replicate]; exact hL) hi (by omega) rfl h2.1 h2.2 ?_
        have e := three_sets (256 - 16 * (i + 1)) (q.f0 / 256 % 256) (q.f0 % 256) (q.f1 / 256 % 256) (q.f1 % 256) (q.f2 / 256 % 256) (q.f2 % 256)
        have g := good ⟨h0, h1, h2⟩
        rw [List.append_assoc] at g
        have e' : ((((((List.replicate (16 + (256 - 16 * (i + 1))) (0 : Int)).set (2 * 0) ([q.f0, q.f1, q.f2][0] / 256 % 256)).set (2 * 0 + 1) ([q.f0, q.f1, q.f2][0] % 256)).set (2 * 1) ([q.f0, q.f1, q.f2][1] / 256 % 256)).set (2 * 1 + 1) ([q.f0, q.f1, q.f2][1] % 256)).set (2 * 2) ([q.f0, q.f1, q.f2][2] / 256 % 256)).set (2 * 2 + 1) ([q.f0, q.f1, q.f2][2] % 256) = chunk q ++ List.replicate (256 - 16 * (i + 1)) 0 := e
        rw [e']
        exact enc_end _ _ x13 x14 x15 _ g
      · rw [bad (fun h => h2 h.2.2)]
        exact enc_bad _ _ 2 x13 x14 x15 [q.f0, q.f1, q.f2] (by omega) rfl h2
    · rw [bad (fun h => h1 h.2.1)]
      exact enc_bad _ _ 1 x13 x14 x15 [q.f0, q.f1, q.f2] (by omega) rfl h1
  · rw [bad (fun h => h0 h.1)]
    exact enc_bad _ _ 0 x13 x14 x15 [q.f0, q.f1, q.f2] (by omega) rfl h0
theorem rdT (l : List S57) (i : Nat) (h : i < l.length) : rd_T57 l (i : Int) = l[i] := by simp [rd_T57, List.getD_eq_getElem?_getD, h]
set_option maxHeartbeats 2000000 in
theorem enc_from (l : List S57) (hn : l.length ≤ 16) (d : Nat) : ∀ (i : Nat), i + d = l.length → (∀ j, j < i → ∀ h : j < l.length, DOK l[j]) →
    Ev (fun k => layout_EncodeDescs.l0 k (chunks (l.take i) ++ List.replicate (256 - 16 * i) 0) l (l.length : Int) (i : Int)) (encR l) := by
  induction d with
  | zero =>
    intro i hi hg
    have hi' : i = l.length := by omega
    subst hi'
    have hall : l.length ≤ 16 ∧ ∀ d ∈ l, DOK d := ⟨hn, fun d hd => by obtain ⟨j, hj, rfl⟩ := List.getElem_of_mem hd; exact hg j hj hj⟩
    refine Ev.step (f := fun _ => some (fin l, 0)) (fun k => ?_) (by rw [encR, if_pos hall]; exact Ev.now _)
    simp only [layout_EncodeDescs.l0]
    rw [if_neg (by omega), List.take_length]
    rfl
  | succ d ih =>
    intro i hi hg
    have hlt : i < l.length := by omega
    have hs := suc64 i l.length hlt (by omega)
    refine Ev.step (f := fun k => layout_EncodeDescs.l1 k (chunks (l.take i) ++ List.replicate (256 - 16 * i) 0) (i : Int) l (l.length : Int) (i : Int) [l[i].f0, l[i].f1, l[i].f2] 3 0) (fun k => ?_) ?_
    · simp only [layout_EncodeDescs.l0]
      rw [if_pos (by omega), if_pos (by omega), if_pos (by omega), rdT l i hlt]
      rfl
    · refine enc_one _ i l (l.length : Int) (i : Int) l[i] (by rw [chunks_len, List.length_take]; omega) (by omega) (fun hq => ?_) (fun hq => ?_)
      · rw [hs, ← chunks_snoc, ← List.take_succ_eq_append_getElem hlt]
        refine ih (i + 1) (by omega) (fun j hj h => ?_)
        rcases Nat.lt_or_ge j i with h1 | h1
        · exact hg j h1 h
        · have : j = i := by omega
          subst this
          exact hq
      · rw [encR, if_neg (fun h => hq (h.2 _ (List.getElem_mem hlt)))]
theorem enc_ev (l : List S57) : Ev (fun k => layout_EncodeDescs.f k l) (encR l) := by
  unfold layout_EncodeDescs.f
  by_cases h : l.length ≤ 16
  · refine Ev.iff_neg (by omega) (Ev.iff_pos (by omega) ?_)
    exact enc_from l h l.length 0 (by omega) (fun j hj => by omega)
  · rw [encR, if_neg (fun h' => h h'.1)]
    exact Ev.iff_pos (by omega) (Ev.now _)
theorem chunk_bytes (d : S57) : Bytes (chunk d) := by
  intro x hx
  simp only [chunk, List.mem_cons, List.not_mem_nil, or_false] at hx
  unfold Byte
  omega
theorem chunks_bytes (l : List S57) : Bytes (chunks l) := by
  intro x hx
  obtain ⟨d, _, hd⟩ := List.mem_flatMap.1 hx
  exact chunk_bytes d x hd
theorem fin_bytes (l : List S57) : Bytes (fin l) := by
  refine bytes_append (chunks_bytes l) (fun x hx => ?_)
  rw [List.eq_of_mem_replicate hx]
  exact ⟨by omega, by omega⟩
def two (b : List Int) (p : Nat) : Int := b.getD p 0 * 256 + b.getD (p + 1) 0
def desc (b : List Int) (i : Nat) : S57 := ⟨two b (16 * i), two b (16 * i + 2), two b (16 * i + 4)⟩
def descs (b : List Int) (n : Nat) : List S57 := (List.range n).map (desc b)
theorem descs_succ (b : List Int) (n : Nat) : descs b (n + 1) = descs b n ++ [desc b n] := by simp [descs, List.range_succ]
theorem descs_len (b : List Int) (n : Nat) : (descs b n).length = n := by simp [descs]
set_option maxHeartbeats 2000000 in
theorem num_ev (b : List Int) (hb : Bytes b) (hl : b.length = 256) (i t : Nat) (hi : i < 16) (ht : t < 3) : layout_DecodeDescs_1.f (t : Int) (b.drop (16 * i)) = some (two b (16 * i + 2 * t)) := by
  unfold layout_DecodeDescs_1.f
  have e0 : wrap64 (2 * (t : Int)) = ((2 * t : Nat) : Int) := by rw [w64 (by omega) (by omega)]; omega
  have e1 : wrap64 (((2 * t : Nat) : Int) + 1) = ((2 * t + 1 : Nat) : Int) := by rw [w64 (by omega) (by omega)]; omega
  have hd : (b.drop (16 * i)).length = 256 - 16 * i := by rw [List.length_drop, hl]
  have h0 : 2 * t < (b.drop (16 * i)).length := by omega
  have h1 : 2 * t + 1 < (b.drop (16 * i)).length := by omega
  rw [e0, e1, if_pos (by omega), if_pos (by omega), if_pos (by omega), if_pos (by omega), rd_nat _ _ h0, rd_nat _ _ h1]
  have q0 : (b.drop (16 * i))[2 * t] = b.getD (16 * i + 2 * t) 0 := by simp [List.getElem_drop, List.getD_eq_getElem?_getD, show 16 * i + 2 * t < b.length by omega]
  have q1 : (b.drop (16 * i))[2 * t + 1] = b.getD (16 * i + 2 * t + 1) 0 := by
    have : 16 * i + (2 * t + 1) < b.length := by omega
    simp [List.getElem_drop, List.getD_eq_getElem?_getD, Nat.add_assoc, this]
  have b0 := bytes_drop hb (16 * i) _ (List.getElem_mem h0)
  have b1 := bytes_drop hb (16 * i) _ (List.getElem_mem h1)
  unfold Byte at b0 b1
  rw [w64 (n := (b.drop (16 * i))[2 * t]) (by omega) (by omega), w64 (n := (b.drop (16 * i))[2 * t] * 256) (by omega) (by omega), w64 (n := (b.drop (16 * i))[2 * t + 1]) (by omega) (by omega), or_i64 8 _ _ (by omega) (by omega) (by omega) (by omega) (by omega) (by omega), q0, q1]
  rfl
theorem two_range {b : List Int} (hb : Bytes b) (p : Nat) : 0 ≤ two b p ∧ two b p ≤ 65535 := by
  have h : ∀ q, Byte (b.getD q 0) := fun q => by
    rw [List.getD_eq_getElem?_getD]
    rcases Nat.lt_or_ge q b.length with hq | hq
    · rw [List.getElem?_eq_getElem hq]; exact hb _ (List.getElem_mem hq)
    · rw [List.getElem?_eq_none hq]; exact ⟨by decide, by decide⟩
  have h0 := h p
  have h1 := h (p + 1)
  unfold Byte at h0 h1
  unfold two
  omega
theorem descs_ok {b : List Int} (hb : Bytes b) (n : Nat) : ∀ d ∈ descs b n, DOK d := fun d hd => by
  obtain ⟨i, _, rfl⟩ := List.mem_map.1 hd
  exact ⟨two_range hb _, two_range hb _, two_range hb _⟩
open Classical in
noncomputable def decR (b : List Int) (n : Int) : List S57 × Int := if n < 0 ∨ n > 16 then ([], 1) else if b.length ≠ 256 then ([], 111) else if fin (descs b n.toNat) = b then (descs b n.toNat, 0) else ([], 111)
set_option maxHeartbeats 2000000 in
theorem dec_from (b : List Int) (hb : Bytes b) (hl : b.length = 256) (n : Nat) (hn : n ≤ 16) (d : Nat) : ∀ i : Nat, i + d = n →
    Ev (fun k => layout_DecodeDescs.l0 k b (descs b i) (n : Int) (i : Int)) (decR b n) := by
  induction d with
  | zero =>
    intro i hi
    have hi' : i = n := by omega
    subst hi'
    refine Ev.step (f := fun k => (layout_EncodeDescs.f k (descs b i)).bind fun bt295 => (if bt295.2 = 0 then ((slices_Equal_byte_byte.f k bt295.1 b).bind fun t299 => (if t299 = true then (some (descs b i, 0)) else (some (([] : List (S57)), 111)))) else (some (([] : List (S57)), 111)))) (fun k => ?_) ?_
    · simp only [layout_DecodeDescs.l0]
      rw [if_neg (by omega)]
    · refine Ev.bind (enc_ev (descs b i)) ?_
      have e : encR (descs b i) = (fin (descs b i), 0) := by rw [encR, if_pos ⟨by rw [descs_len]; exact hn, descs_ok hb i⟩]
      rw [e]
      refine Ev.iff_pos rfl ?_
      refine Ev.bind (slices_equal _ _ (by rw [fin_len (by rw [descs_len]; exact hn)]; omega)) ?_
      have e2 : decR b (i : Int) = if fin (descs b i) = b then (descs b i, 0) else ([], 111) := by
        rw [decR, if_neg (by omega), if_neg (by omega), Int.toNat_natCast]
      rw [e2]
      by_cases h : fin (descs b i) = b
      · rw [if_pos h]
        exact Ev.iff_pos (by simp [h]) (Ev.now _)
      · rw [if_neg h]
        exact Ev.iff_neg (by simp [h]) (Ev.now _)
  | succ d ih =>
    intro i hi
    have hs := suc64 i n (by omega) (by omega)
    have e16 : wrap64 ((i : Int) * 16) = ((16 * i : Nat) : Int) := by rw [w64 (by omega) (by omega)]; omega
    refine Ev.step (fun k => ?_) (ih (i + 1) (by omega))
    have n0 := num_ev b hb hl i 0 (by omega) (by omega)
    have n1 := num_ev b hb hl i 1 (by omega) (by omega)
    have n2 := num_ev b hb hl i 2 (by omega) (by omega)
    simp only [layout_DecodeDescs.l0]
    rw [if_pos (by omega), e16, if_pos (by omega), if_pos (by omega), Int.toNat_natCast]
    have m0 : layout_DecodeDescs_1.f 0 (b.drop (16 * i)) = some (two b (16 * i)) := n0
    have m1 : layout_DecodeDescs_1.f 1 (b.drop (16 * i)) = some (two b (16 * i + 2)) := n1
    have m2 : layout_DecodeDescs_1.f 2 (b.drop (16 * i)) = some (two b (16 * i + 4)) := n2
    rw [m0, m1, m2]
    simp only [Option.bind_some]
    rw [if_pos (by rw [descs_len]; omega), hs, descs_succ]
    rfl
set_option maxHeartbeats 2000000 in
theorem dec_ev (b : List Int) (hb : Bytes b) (n : Int) : Ev (fun k => layout_DecodeDescs.f k b n) (decR b n) := by
  unfold layout_DecodeDescs.f
  by_cases h0 : n < 0
  · refine Ev.iff_pos h0 (Ev.step (f := fun _ => some ([], 1)) (fun k => ?_) ?_)
    · simp only [layout_DecodeDescs.j0]
      rw [if_pos trivial]
    · rw [decR, if_pos (.inl h0)]; exact Ev.now _
  · refine Ev.iff_neg h0 ?_
    by_cases h1 : n > 16
    · refine Ev.step (f := fun _ => some ([], 1)) (fun k => ?_) ?_
      · simp only [layout_DecodeDescs.j0]
        rw [if_pos (by simp [h1])]
      · rw [decR, if_pos (.inr h1)]; exact Ev.now _
    · by_cases h2 : b.length = 256
      · obtain ⟨m, rfl⟩ : ∃ m : Nat, n = m := ⟨n.toNat, by omega⟩
        refine Ev.step (f := fun k => layout_DecodeDescs.l0 k b [] (m : Int) 0) (fun k => ?_) (dec_from b hb h2 m (by omega) m 0 (by omega))
        simp only [layout_DecodeDescs.j0]
        rw [if_neg (by simp [h1]), if_pos (by omega)]
      · refine Ev.step (f := fun _ => some ([], 111)) (fun k => ?_) ?_
        · simp only [layout_DecodeDescs.j0]
          rw [if_neg (by simp [h1]), if_neg (by omega)]
        · rw [decR, if_neg (by omega), if_pos h2]; exact Ev.now _
set_option maxHeartbeats 2000000 in
theorem two_chunk (pre : List Int) (d : S57) (hd : DOK d) (post : List Int) :
    (⟨two (pre ++ chunk d ++ post) pre.length, two (pre ++ chunk d ++ post) (pre.length + 2), two (pre ++ chunk d ++ post) (pre.length + 4)⟩ : S57) = d := by
  have hg : ∀ j, j < 16 → (pre ++ chunk d ++ post).getD (pre.length + j) 0 = (chunk d).getD j 0 := fun j hj => by
    rw [List.append_assoc, List.getD_eq_getElem?_getD, List.getElem?_append_right (by omega), Nat.add_sub_cancel_left, List.getElem?_append_left (by rw [chunk_len]; exact hj), List.getD_eq_getElem?_getD]
  have h0 := hg 0 (by omega)
  have h1 := hg 1 (by omega)
  have h2 := hg 2 (by omega)
  have h3 := hg 3 (by omega)
  have h4 := hg 4 (by omega)
  have h5 := hg 5 (by omega)
  rw [Nat.add_zero] at h0
  unfold two
  rw [h0, show pre.length + 2 + 1 = pre.length + 3 from rfl, show pre.length + 4 + 1 = pre.length + 5 from rfl, h1, h2, h3, h4, h5]
  obtain ⟨f0, f1, f2⟩ := d
  simp only [DOK] at hd
  simp only [chunk, List.getD_cons_zero, List.getD_cons_succ, S57.mk.injEq]
  omega
theorem fin_split (l : List S57) (i : Nat) (h : i < l.length) : fin l = chunks (l.take i) ++ chunk l[i] ++ (chunks (l.drop (i + 1)) ++ List.replicate (256 - 16 * l.length) 0) := by
  unfold fin
  rw [← List.append_assoc]
  congr 1
  rw [← chunks_snoc, ← List.take_succ_eq_append_getElem h]
  simp only [chunks, ← List.flatMap_append, List.take_append_drop]
theorem descs_fin {l : List S57} (hok : ∀ d ∈ l, DOK d) : descs (fin l) l.length = l := by
  apply List.ext_getElem
  · rw [descs_len]
  · intro i h1 h2
    have e : (descs (fin l) l.length)[i] = desc (fin l) i := by simp [descs]
    have hp : (chunks (l.take i)).length = 16 * i := by rw [chunks_len, List.length_take]; omega
    rw [e, desc, fin_split l i h2, ← hp]
    exact two_chunk _ _ (hok _ (List.getElem_mem h2)) _
set_option maxHeartbeats 2000000 in
theorem desc_equal (l : List S57) (hn : l.length ≤ 140737488355328) : Ev (fun k => api_Desc.f k l l) true := by
  have from_ : ∀ (d i : Nat), i + d = l.length → Ev (fun k => api_Desc.l0 k l l (l.length : Int) (i : Int)) true := by
    intro d
    induction d with
    | zero =>
      intro i hi
      refine Ev.step (f := fun _ => some true) (fun k => ?_) (Ev.now _)
      simp only [api_Desc.l0]
      rw [if_neg (by omega)]
    | succ d ih =>
      intro i hi
      have hs := suc64 i l.length (by omega) hn
      refine Ev.step (fun k => ?_) (ih (i + 1) (by omega))
      simp only [api_Desc.l0]
      rw [if_pos (by omega), if_pos (by omega), if_pos (by omega), if_pos (by omega), if_neg (by simp), hs]
  unfold api_Desc.f
  exact Ev.iff_pos rfl (from_ l.length 0 (by omega))
end Go.Proofs.Ytbdnmdmfnopihaa.DescEv
end
