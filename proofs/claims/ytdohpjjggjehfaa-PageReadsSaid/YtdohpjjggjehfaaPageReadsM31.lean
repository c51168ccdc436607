/- Texts of the proof of PageReads, part 31. -/
import Derived.Test.YtdohpjjggjehfaaPageReadsM30
import Derived.Test.YtdohpjjggjehfaaPageReadsM22
import Derived.Test.YtdohpjjggjehfaaPageReadsM20
section
namespace Go.Proofs.Ytdohpjjggjehfaa.PackEv
set_option linter.unusedVariables false
set_option linter.unusedSimpArgs false
open Go.RowKit Go.Proofs.Ytdohpjjggjehfaa.Print Go.Proofs.Ytdohpjjggjehfaa.SMath Go.Proofs.Ytdohpjjggjehfaa.SealEv Go.Proofs.Ytdohpjjggjehfaa.PackMath Go.Proofs.YtdohpjjggjehfaaW.PrintWords Go.Proofs.YtdohpjjggjehfaaW.PrintLast Go.Proofs.YtdohpjjggjehfaaW.PrintMore
def U64s (vs : List Int) : Prop := ∀ v ∈ vs, U64 v
theorem u64s_at {vs : List Int} (h : U64s vs) (i : Nat) (hi : i < vs.length) : U64 vs[i] := h _ (List.getElem_mem hi)
def fits (ws vs : List Int) : Prop := wok ws ∧ vs.length = ws.length ∧ ∀ i (h : i < ws.length) (h' : i < vs.length), vs[i].toNat < 2 ^ ws[i].toNat
def PackOK (ws vs out : List Int) : Prop := Bytes out ∧ out.length = (tot (wn ws) + 7) / 8 ∧ ∀ j, gb out j = pb (wn ws) vs j
def PackR (ws vs : List Int) (r : List Int × Int) : Prop := (fits ws vs → r.2 = 0 ∧ PackOK ws vs r.1) ∧ (¬ fits ws vs → r = ([], 1))
theorem PackOK.unique {ws vs a b : List Int} (ha : PackOK ws vs a) (hb : PackOK ws vs b) : a = b :=
  bytes_ext ha.1 hb.1 (ha.2.1.trans hb.2.1.symm) (fun j _ => (ha.2.2 j).trans (hb.2.2 j).symm)
theorem PackR.unique {ws vs : List Int} {a b : List Int × Int} (ha : PackR ws vs a) (hb : PackR ws vs b) : a = b := by
  by_cases h : fits ws vs
  · obtain ⟨a1, a2⟩ := ha.1 h
    obtain ⟨b1, b2⟩ := hb.1 h
    exact Prod.ext (a2.unique b2) (a1.trans b1.symm)
  · rw [ha.2 h, hb.2 h]
theorem PackR.bytes {ws vs : List Int} {r : List Int × Int} (h : PackR ws vs r) : Bytes r.1 := by
  by_cases hf : fits ws vs
  · exact (h.1 hf).2.1
  · rw [h.2 hf]
    intro x hx
    simp at hx
def Inv (ws vs : List Int) (at_ : Nat) (out : List Int) : Prop := Bytes out ∧ out.length = (tot (wn ws) + 7) / 8 ∧ ∀ j, gb out j = (decide (j < at_) && pb (wn ws) vs j)
theorem Inv.zero (ws vs : List Int) : Inv ws vs 0 (List.replicate ((tot (wn ws) + 7) / 8) 0) := by
  refine ⟨fun x hx => ?_, by simp, fun j => ?_⟩
  · rw [(List.mem_replicate.mp hx).2]
    exact ⟨by decide, by decide⟩
  · have : (List.replicate ((tot (wn ws) + 7) / 8) (0 : Int)).getD (j / 8) 0 = 0 := by
      rw [List.getD_eq_getElem?_getD, List.getElem?_replicate]
      split <;> rfl
    unfold gb
    rw [this]
    simp
theorem Inv.done {ws vs out : List Int} (h : Inv ws vs (tot (wn ws)) out) : PackOK ws vs out := ⟨h.1, h.2.1, fun j => by
  rw [h.2.2 j]
  by_cases hj : j < tot (wn ws)
  · simp [hj]
  · rw [pb_out (wn ws) vs j (by omega)]
    simp⟩
theorem idx8 (a : Nat) (h : a ≤ 8192) : wrap64 (Int.tdiv (a : Int) 8) = ((a / 8 : Nat) : Int) := by
  rw [Int.tdiv_eq_ediv_of_nonneg (by omega), SealEv.w64 (by omega) (by omega)]
  rfl
theorem off8 (a : Nat) : wrap64 (7 - (Int.tmod (a : Int) 8)) = ((7 - a % 8 : Nat) : Int) := by
  rw [Int.tmod_eq_emod_of_nonneg (by omega), SealEv.w64 (by omega) (by omega)]
  omega
theorem tot_le (ws : List Nat) (i : Nat) : tot (ws.take i) ≤ tot ws := by
  have h := List.take_append_drop i ws
  have : tot ws = tot (ws.take i) + tot (ws.drop i) := by
    unfold tot
    rw [← List.sum_append, h]
  omega
theorem ew64 (w : Int) (t : Nat) (h1 : 1 ≤ w) (h2 : w ≤ 64) (ht : t < w.toNat) : wrap64 (wrap64 (w - 1) - (t : Int)) = ((w.toNat - 1 - t : Nat) : Int) := by
  rw [SealEv.w64 (n := w - 1) (by omega) (by omega), SealEv.w64 (by omega) (by omega)]
  omega
theorem ey64 (w : Int) (t : Nat) (h1 : 1 ≤ w) (h2 : w ≤ 64) (ht : t < w.toNat) : wrap64 (((w.toNat - 1 - t : Nat) : Int) - 1) = w - 1 - ((t + 1 : Nat) : Int) := by
  rw [SealEv.w64 (by omega) (by omega)]
  omega
theorem suc_add (a t : Nat) (h : a + t ≤ 8192) : wrap64 (((a + t : Nat) : Int) + 1) = ((a + (t + 1) : Nat) : Int) := by
  rw [SealEv.w64 (by omega) (by omega)]
  omega
theorem suc_small (t : Nat) (h : t ≤ 8192) : wrap64 ((t : Int) + 1) = ((t + 1 : Nat) : Int) := by
  rw [SealEv.w64 (by omega) (by omega)]
  omega
theorem n_lt (t d w : Nat) (h : t + (d + 1) = w) : t < w := by omega
theorem n_next (t d w : Nat) (h : t + (d + 1) = w) : t + 1 + d = w := by omega
theorem n_8192 (a t w T : Nat) (h : a + w ≤ T) (hT : T ≤ 4096) (ht : t < w) : a + t ≤ 8192 := by omega
theorem n_t (t w : Nat) (h : t < w) (hw : w ≤ 64) : t ≤ 8192 := by omega
theorem n_idx (a t w T n : Nat) (h : a + w ≤ T) (ht : t < w) (hn : n = (T + 7) / 8) : (a + t) / 8 < n := by omega
theorem n_int (w : Int) (t : Nat) (h : t < w.toNat) : (t : Int) < w := by omega
theorem n_64 (w : Int) (h : w ≤ 64) : w.toNat ≤ 64 := by omega
theorem n_sub (w : Int) (t : Nat) (h : t < w.toNat) : w - 1 - (t : Int) = ((w.toNat - 1 - t : Nat) : Int) := by omega
theorem n_s (w t : Nat) (h : w ≤ 64) : w - 1 - t ≤ 64 := by omega
theorem n_7 (a : Nat) : 7 - a % 8 ≤ 64 := by omega
theorem Inv.put {ws vs : List Int} {i t : Nat} {out : List Int} (h : i < ws.length) (h' : i < vs.length) (ht : t < ws[i].toNat) (hv : U64 vs[i]) (hw : ws[i].toNat ≤ 64) (hI : Inv ws vs (tot ((wn ws).take i) + t) out) :
    ∃ out', out.set ((tot ((wn ws).take i) + t) / 8) (Go.bits .or .u8 (rd out (((tot ((wn ws).take i) + t) / 8 : Nat) : Int)) (shl .u8 (Go.bits .and .u64 (shr .u64 vs[i] ((ws[i].toNat - 1 - t : Nat) : Int)) 1 % 256) ((7 - (tot ((wn ws).take i) + t) % 8 : Nat) : Int))) = out' ∧ Inv ws vs (tot ((wn ws).take i) + (t + 1)) out' := by
  have hi : i < (wn ws).length := by rw [wn_len]; exact h
  have hlt : tot ((wn ws).take i) + t < tot (wn ws) := by
    have h1 := tot_le (wn ws) (i + 1)
    rw [tot_take_succ _ _ hi, wn_at ws i h] at h1
    omega
  have hT := pb_at (wn ws) vs i hi h' t (by rw [wn_at ws i h]; exact ht)
  rw [wn_at ws i h] at hT
  rw [read_u64 _ hv _ (by omega)]
  obtain ⟨o1, o2, o3, o4⟩ := gb_set hI.1 (tot ((wn ws).take i) + t) (by rw [hI.2.1]; omega) (vb vs[i] (ws[i].toNat - 1 - t))
  refine ⟨o1, o2, o3, o4.1.trans hI.2.1, fun j => ?_⟩
  rw [o4.2 j, hI.2.2, hI.2.2]
  by_cases hj : j = tot ((wn ws).take i) + t
  · subst hj
    rw [if_pos rfl, hT]
    simp
  · rw [if_neg hj]
    have : decide (j < tot ((wn ws).take i) + (t + 1)) = decide (j < tot ((wn ws).take i) + t) := by
      by_cases hd : j < tot ((wn ws).take i) + t
      · rw [decide_eq_true hd, decide_eq_true (by omega)]
      · rw [decide_eq_false hd, decide_eq_false (by omega)]
    rw [this]
set_option maxHeartbeats 2000000 in
theorem seal_pack_in (ws vs : List Int) (hw : wok ws) (hl : vs.length = ws.length) (hv : U64s vs) (i : Nat) (h : i < ws.length)
    (next : ∀ out', Inv ws vs (tot ((wn ws).take (i + 1))) out' → ∃ r, Ev (fun k => seal_Pack.l0 k vs out' (tot ((wn ws).take (i + 1)) : Int) ws (ws.length : Int) ((i + 1 : Nat) : Int)) r ∧ PackR ws vs r) (d : Nat) :
    ∀ t out, t + d = ws[i].toNat → Inv ws vs (tot ((wn ws).take i) + t) out →
    ∃ r, Ev (fun k => seal_Pack.l1 k vs out ((tot ((wn ws).take i) + t : Nat) : Int) (i : Int) ws[i] ws (ws.length : Int) (i : Int) ws[i] (t : Int)) r ∧ PackR ws vs r := by
  have hg := hw.2 _ (List.getElem_mem h)
  have hg1 := hg.1
  have hg2 := hg.2
  have hi : i < (wn ws).length := by rw [wn_len]; exact h
  have hsuc := tot_take_succ (wn ws) i hi
  rw [wn_at ws i h] at hsuc
  have hmax := tot_max hw
  have hle := tot_le (wn ws) (i + 1)
  have h' : i < vs.length := by omega
  have h64 := hw.1
  have hA : tot ((wn ws).take i) + ws[i].toNat ≤ tot (wn ws) := by omega
  induction d with
  | zero =>
    intro t out ht hI
    obtain ⟨r, hr, hR⟩ := next out (by rw [hsuc]; have : t = ws[i].toNat := by omega
                                       rw [← this]; exact hI)
    refine ⟨r, Ev.step (f := fun k => seal_Pack.l0 k vs out (tot ((wn ws).take (i + 1)) : Int) ws (ws.length : Int) ((i + 1 : Nat) : Int)) (fun k => ?_) hr, hR⟩
    have e1 : tot ((wn ws).take i) + t = tot ((wn ws).take (i + 1)) := by omega
    simp only [seal_Pack.l1]
    rw [if_neg (by omega), suc64 i ws.length h (by omega), e1]
  | succ d ih =>
    intro t out ht hI
    have htw := n_lt t d _ ht
    have hw64 := n_64 _ hg2
    obtain ⟨out', ho, hI'⟩ := hI.put h h' htw (u64s_at hv i h') hw64
    obtain ⟨r, hr, hR⟩ := ih (t + 1) out' (n_next t d _ ht) hI'
    refine ⟨r, Ev.step (f := fun k => seal_Pack.l1 k vs out' ((tot ((wn ws).take i) + (t + 1) : Nat) : Int) (i : Int) ws[i] ws (ws.length : Int) (i : Int) ws[i] ((t + 1 : Nat) : Int)) (fun k => ?_) hr, hR⟩
    have e8 := idx8 (tot ((wn ws).take i) + t) (n_8192 _ _ _ _ hA hmax htw)
    have es := off8 (tot ((wn ws).take i) + t)
    have ew := ew64 ws[i] t hg1 hg2 htw
    have ea := suc_add (tot ((wn ws).take i)) t (n_8192 _ _ _ _ hA hmax htw)
    have et := suc_small t (n_t t _ htw hw64)
    have hlen := hI.2.1
    have a1 : (t : Int) < ws[i] := n_int _ t htw
    have a2 : ((tot ((wn ws).take i) + t) / 8 : Nat) < out.length := n_idx _ _ _ _ _ hA htw hlen
    have a3 : (((tot ((wn ws).take i) + t) / 8 : Nat) : Int) < (out.length : Int) := Int.ofNat_lt.mpr a2
    have a4 : (i : Int) < (vs.length : Int) := Int.ofNat_lt.mpr h'
    clear ih hR hr hI hI' hlen next
    simp only [seal_Pack.l1]
    rw [e8, es, ew, ea, et, rd_nat vs i h', Int.toNat_natCast, ho]
    rw [if_pos a1, if_pos (Int.natCast_nonneg _), if_pos a3, if_pos (Int.natCast_nonneg _), if_pos a4, if_pos (Int.natCast_nonneg _), if_pos (Int.natCast_nonneg _)]
set_option maxHeartbeats 2000000 in
theorem seal_pack_out (ws vs : List Int) (hw : wok ws) (hl : vs.length = ws.length) (hv : U64s vs) (d : Nat) : ∀ i out, i + d = ws.length → Inv ws vs (tot ((wn ws).take i)) out → (∀ j, j < i → ∀ (h : j < ws.length) (h' : j < vs.length), vs[j].toNat < 2 ^ ws[j].toNat) →
    ∃ r, Ev (fun k => seal_Pack.l0 k vs out (tot ((wn ws).take i) : Int) ws (ws.length : Int) (i : Int)) r ∧ PackR ws vs r := by
  have h64 := hw.1
  induction d with
  | zero =>
    intro i out hi hI hf
    have : i = ws.length := by omega
    subst this
    rw [tot_all] at hI
    have hfit : fits ws vs := ⟨hw, hl, fun j h h' => hf j h h h'⟩
    refine ⟨(out, 0), Ev.step (f := fun _ => some (out, 0)) (fun k => ?_) (Ev.now _), fun _ => ⟨rfl, hI.done⟩, fun hn => absurd hfit hn⟩
    simp only [seal_Pack.l0]
    rw [if_neg (by omega)]
  | succ d ih =>
    intro i out hi hI hf
    have h : i < ws.length := by omega
    have h' : i < vs.length := by omega
    have hg := hw.2 _ (List.getElem_mem h)
    have hg1 := hg.1
    have hg2 := hg.2
    have hlen := len64 (u64s_at hv i h')
    have hle := len_le vs[i].toNat ws[i].toNat
    by_cases hb : vs[i].toNat < 2 ^ ws[i].toNat
    · obtain ⟨r, hr, hR⟩ := seal_pack_in ws vs hw hl hv i h (fun out' hI' => ih (i + 1) out' (by omega) hI' (fun j hj h1 h2 => by
        rcases Nat.lt_or_ge j i with hji | hji
        · exact hf j hji h1 h2
        · have : j = i := by omega
          subst this
          exact hb)) ws[i].toNat 0 out (by omega) hI
      have hle' := hle.mpr hb
      have hng : ¬ ((len vs[i].toNat : Int) > ws[i]) := by omega
      refine ⟨r, Ev.step (f := fun k => (bits_Len64.f k vs[i]).bind fun t => if t > ws[i] then some (([] : List Int), 1) else seal_Pack.l1 k vs out (tot ((wn ws).take i) : Int) (i : Int) ws[i] ws (ws.length : Int) (i : Int) ws[i] 0) (fun k => ?_) (Ev.bind hlen (Ev.iff_neg hng hr)), hR⟩
      simp only [seal_Pack.l0]
      rw [rd_nat vs i h', rd_nat ws i h, if_pos (by omega), if_pos (by omega), if_pos (by omega), if_pos (by omega)]
    · have hnf : ¬ fits ws vs := fun hf' => hb (hf'.2.2 i h h')
      have hle' : ¬ len vs[i].toNat ≤ ws[i].toNat := fun e => hb (hle.mp e)
      have hng : (len vs[i].toNat : Int) > ws[i] := by omega
      refine ⟨([], 1), Ev.step (f := fun k => (bits_Len64.f k vs[i]).bind fun t => if t > ws[i] then some (([] : List Int), 1) else seal_Pack.l1 k vs out (tot ((wn ws).take i) : Int) (i : Int) ws[i] ws (ws.length : Int) (i : Int) ws[i] 0) (fun k => ?_) (Ev.bind hlen (Ev.iff_pos hng (Ev.now _))), fun hf' => absurd hf' hnf, fun _ => rfl⟩
      simp only [seal_Pack.l0]
      rw [rd_nat vs i h', rd_nat ws i h, if_pos (by omega), if_pos (by omega), if_pos (by omega), if_pos (by omega)]
set_option maxHeartbeats 2000000 in
theorem seal_pack_ev (ws vs : List Int) (hv : U64s vs) : ∃ r, Ev (fun k => seal_Pack.f k ws vs) r ∧ PackR ws vs r := by
  obtain ⟨q, hq, q1, q2⟩ := seal_width_ev ws
  unfold seal_Pack.f
  by_cases hw : wok ws
  · rw [q1 hw] at hq
    have hmax := tot_max hw
    by_cases hl : vs.length = ws.length
    · obtain ⟨r, hr, hR⟩ := seal_pack_out ws vs hw hl hv ws.length 0 _ (by omega) (Inv.zero ws vs) (fun j hj => by omega)
      refine ⟨r, Ev.bind hq (Ev.iff_pos rfl (Ev.iff_pos (by omega) (Ev.iff_pos (Int.natCast_nonneg _) (Ev.iff_pos ?_ ?_)))), hR⟩
      · rw [Int.toNat_natCast]
        omega
      · rw [Int.toNat_natCast]
        exact hr
    · exact ⟨([], 1), Ev.bind hq (Ev.iff_pos rfl (Ev.iff_neg (by omega) (Ev.now _))), fun hf => absurd hf.2.1 hl, fun _ => rfl⟩
  · rw [q2 hw] at hq
    exact ⟨([], 1), Ev.bind hq (Ev.iff_neg (by decide) (Ev.now _)), fun hf => absurd hf.1 hw, fun _ => rfl⟩
set_option maxHeartbeats 2000000 in
theorem ref_pack_in (ws vs : List Int) (hw : wok ws) (hl : vs.length = ws.length) (hv : U64s vs) (i : Nat) (h : i < ws.length)
    (next : ∀ out', Inv ws vs (tot ((wn ws).take (i + 1))) out' → ∃ r, Ev (fun k => slipwayref01_Pack.l0 k ws vs out' (tot ((wn ws).take (i + 1)) : Int) ((i + 1 : Nat) : Int)) r ∧ PackR ws vs r) (d : Nat) :
    ∀ t out, t + d = ws[i].toNat → Inv ws vs (tot ((wn ws).take i) + t) out →
    ∃ r, Ev (fun k => slipwayref01_Pack.l1 k ws vs out ((tot ((wn ws).take i) + t : Nat) : Int) (i : Int) (ws[i] - 1 - (t : Int))) r ∧ PackR ws vs r := by
  have hg := hw.2 _ (List.getElem_mem h)
  have hg1 := hg.1
  have hg2 := hg.2
  have hi : i < (wn ws).length := by rw [wn_len]; exact h
  have hsuc := tot_take_succ (wn ws) i hi
  rw [wn_at ws i h] at hsuc
  have hmax := tot_max hw
  have hle := tot_le (wn ws) (i + 1)
  have h' : i < vs.length := by omega
  have h64 := hw.1
  have hA : tot ((wn ws).take i) + ws[i].toNat ≤ tot (wn ws) := by omega
  induction d with
  | zero =>
    intro t out ht hI
    obtain ⟨r, hr, hR⟩ := next out (by rw [hsuc]; have : t = ws[i].toNat := by omega
                                       rw [← this]; exact hI)
    refine ⟨r, Ev.step (f := fun k => slipwayref01_Pack.l0 k ws vs out (tot ((wn ws).take (i + 1)) : Int) ((i + 1 : Nat) : Int)) (fun k => ?_) hr, hR⟩
    have e1 : tot ((wn ws).take i) + t = tot ((wn ws).take (i + 1)) := by omega
    simp only [slipwayref01_Pack.l1]
    rw [if_neg (by omega), suc64 i ws.length h (by omega), e1]
  | succ d ih =>
    intro t out ht hI
    have htw := n_lt t d _ ht
    have hw64 := n_64 _ hg2
    obtain ⟨out', ho, hI'⟩ := hI.put h h' htw (u64s_at hv i h') hw64
    obtain ⟨r, hr, hR⟩ := ih (t + 1) out' (n_next t d _ ht) hI'
    refine ⟨r, Ev.step (f := fun k => slipwayref01_Pack.l1 k ws vs out' ((tot ((wn ws).take i) + (t + 1) : Nat) : Int) (i : Int) (ws[i] - 1 - ((t + 1 : Nat) : Int))) (fun k => ?_) hr, hR⟩
    have e8 := idx8 (tot ((wn ws).take i) + t) (n_8192 _ _ _ _ hA hmax htw)
    have es := off8 (tot ((wn ws).take i) + t)
    have ex : ws[i] - 1 - (t : Int) = ((ws[i].toNat - 1 - t : Nat) : Int) := n_sub _ t htw
    have eu := u64_small (ws[i].toNat - 1 - t) (n_s _ t hw64)
    have eu2 := u64_small (7 - (tot ((wn ws).take i) + t) % 8) (n_7 _)
    have ey := ey64 ws[i] t hg1 hg2 htw
    have ea := suc_add (tot ((wn ws).take i)) t (n_8192 _ _ _ _ hA hmax htw)
    have hlen := hI.2.1
    have a2 : ((tot ((wn ws).take i) + t) / 8 : Nat) < out.length := n_idx _ _ _ _ _ hA htw hlen
    have a3 : (((tot ((wn ws).take i) + t) / 8 : Nat) : Int) < (out.length : Int) := Int.ofNat_lt.mpr a2
    have a4 : (i : Int) < (vs.length : Int) := Int.ofNat_lt.mpr h'
    clear ih hR hr hI hI' hlen next
    rw [ex]
    simp only [slipwayref01_Pack.l1]
    rw [e8, es, eu, eu2, ey, ea, rd_nat vs i h', Int.toNat_natCast, ho]
    rw [if_pos (Int.natCast_nonneg _), if_pos (Int.natCast_nonneg _), if_pos a3, if_pos (Int.natCast_nonneg _), if_pos a4, if_pos (Int.natCast_nonneg _), if_pos (Int.natCast_nonneg _)]
set_option maxHeartbeats 2000000 in
theorem shr_zero (v w : Nat) (hw : w ≤ 64) : (shr .u64 (v : Int) (w : Int) != 0) = decide (¬ v < 2 ^ w) := by
  rw [shr_at .u64 (v : Int) w (by simpa [IntKind.bits] using hw)]
  have e : (v : Int) / 2 ^ w = ((v / 2 ^ w : Nat) : Int) := by push_cast; rfl
  rw [e]
  have h2 : v / 2 ^ w = 0 ↔ v < 2 ^ w := by
    rw [Nat.div_eq_zero_iff]
    have := Nat.two_pow_pos w
    omega
  by_cases h : v < 2 ^ w
  · simp [h, h2.mpr h]
  · have h3 : ¬ v / 2 ^ w = 0 := fun e => h (h2.mp e)
    have h4 : ¬ ((v / 2 ^ w : Nat) : Int) = 0 := by omega
    rw [decide_eq_true h, bne_iff_ne]
    exact h4
set_option maxHeartbeats 2000000 in
theorem ref_pack_out (ws vs : List Int) (hw : wok ws) (hl : vs.length = ws.length) (hv : U64s vs) (d : Nat) : ∀ i out, i + d = ws.length → Inv ws vs (tot ((wn ws).take i)) out → (∀ j, j < i → ∀ (h : j < ws.length) (h' : j < vs.length), vs[j].toNat < 2 ^ ws[j].toNat) →
    ∃ r, Ev (fun k => slipwayref01_Pack.l0 k ws vs out (tot ((wn ws).take i) : Int) (i : Int)) r ∧ PackR ws vs r := by
  have h64 := hw.1
  induction d with
  | zero =>
    intro i out hi hI hf
    have : i = ws.length := by omega
    subst this
    rw [tot_all] at hI
    have hfit : fits ws vs := ⟨hw, hl, fun j h h' => hf j h h h'⟩
    refine ⟨(out, 0), Ev.step (f := fun _ => some (out, 0)) (fun k => ?_) (Ev.now _), fun _ => ⟨rfl, hI.done⟩, fun hn => absurd hfit hn⟩
    simp only [slipwayref01_Pack.l0]
    rw [if_neg (by omega)]
  | succ d ih =>
    intro i out hi hI hf
    have h : i < ws.length := by omega
    have h' : i < vs.length := by omega
    have hg := hw.2 _ (List.getElem_mem h)
    have hg1 := hg.1
    have hg2 := hg.2
    have hu := u64s_at hv i h'
    obtain ⟨v, hv0⟩ := Int.eq_ofNat_of_zero_le hu.1
    have hvt : vs[i].toNat = v := by rw [hv0]; rfl
    have hwt : ws[i] = (ws[i].toNat : Int) := by omega
    have eu := u64_small ws[i].toNat (by omega)
    rw [← hwt] at eu
    have ew : wrap64 (ws[i] - 1) = ws[i] - 1 - ((0 : Nat) : Int) := by rw [SealEv.w64 (by omega) (by omega)]; omega
    have hb64 : v < 2 ^ 64 := by have := hu.2; omega
    have hsz := shr_zero v ws[i].toNat (by omega)
    rw [← hwt, ← hv0] at hsz
    have key : ∀ k, slipwayref01_Pack.l0 (k + 1) ws vs out (tot ((wn ws).take i) : Int) (i : Int) = slipwayref01_Pack.j1 k ws vs out (tot ((wn ws).take i) : Int) (i : Int) (decide (¬ v < 2 ^ ws[i].toNat)) := fun k => by
      simp only [slipwayref01_Pack.l0]
      rw [rd_nat vs i h', rd_nat ws i h, if_pos (by omega), if_pos (by omega), if_pos (by omega), eu]
      by_cases h6 : ws[i] < 64
      · rw [if_pos h6, if_pos (by omega), hsz]
      · have e64 : ws[i].toNat = 64 := by omega
        rw [if_neg h6, e64, decide_eq_false (fun e => e hb64)]
    by_cases hb : v < 2 ^ ws[i].toNat
    · obtain ⟨r, hr, hR⟩ := ref_pack_in ws vs hw hl hv i h (fun out' hI' => ih (i + 1) out' (by omega) hI' (fun j hj h1 h2 => by
        rcases Nat.lt_or_ge j i with hji | hji
        · exact hf j hji h1 h2
        · have : j = i := by omega
          subst this
          rw [hvt]
          exact hb)) ws[i].toNat 0 out (by omega) hI
      refine ⟨r, Ev.step (f := fun k => slipwayref01_Pack.j1 k ws vs out (tot ((wn ws).take i) : Int) (i : Int) (decide (¬ v < 2 ^ ws[i].toNat))) key (Ev.step (f := fun k => slipwayref01_Pack.l1 k ws vs out ((tot ((wn ws).take i) + 0 : Nat) : Int) (i : Int) (ws[i] - 1 - ((0 : Nat) : Int))) (fun k => ?_) hr), hR⟩
      simp only [slipwayref01_Pack.j1]
      rw [decide_eq_false (fun e => e hb), if_neg (by decide), if_pos (by omega), if_pos (by omega), rd_nat ws i h, ew]
      rfl
    · have hnf : ¬ fits ws vs := fun hf' => hb (by have := hf'.2.2 i h h'; rw [hvt] at this; exact this)
      refine ⟨([], 1), Ev.step (f := fun k => slipwayref01_Pack.j1 k ws vs out (tot ((wn ws).take i) : Int) (i : Int) (decide (¬ v < 2 ^ ws[i].toNat))) key (Ev.step (f := fun _ => some ([], 1)) (fun k => ?_) (Ev.now _)), fun hf' => absurd hf' hnf, fun _ => rfl⟩
      simp only [slipwayref01_Pack.j1]
      rw [decide_eq_true hb, if_pos rfl]
set_option maxHeartbeats 2000000 in
theorem ref_pack_ev (ws vs : List Int) (hv : U64s vs) : ∃ r, Ev (fun k => slipwayref01_Pack.f k ws vs) r ∧ PackR ws vs r := by
  obtain ⟨q, hq, q1, q2⟩ := ref_width_ev ws
  unfold slipwayref01_Pack.f
  by_cases hw : wok ws
  · rw [q1 hw] at hq
    have hmax := tot_max hw
    by_cases hl : vs.length = ws.length
    · obtain ⟨r, hr, hR⟩ := ref_pack_out ws vs hw hl hv ws.length 0 _ (by omega) (Inv.zero ws vs) (fun j hj => by omega)
      refine ⟨r, Ev.bind hq (Ev.iff_pos rfl (Ev.iff_pos (by omega) (Ev.iff_pos (Int.natCast_nonneg _) (Ev.iff_pos ?_ ?_)))), hR⟩
      · rw [Int.toNat_natCast]
        omega
      · rw [Int.toNat_natCast]
        exact hr
    · exact ⟨([], 1), Ev.bind hq (Ev.iff_pos rfl (Ev.iff_neg (by omega) (Ev.now _))), fun hf => absurd hf.2.1 hl, fun _ => rfl⟩
  · rw [q2 hw] at hq
    exact ⟨([], 1), Ev.bind hq (Ev.iff_neg (by decide) (Ev.now _)), fun hf => absurd hf.1 hw, fun _ => rfl⟩
end Go.Proofs.Ytdohpjjggjehfaa.PackEv
end
