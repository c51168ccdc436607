/- Texts of the proof of InodeMakes, part 31. -/
import Derived.Test.YtjoojmodghpimaaInodeMakesM30
import Derived.Test.YtjoojmodghpimaaInodeMakesM19
import Derived.Test.YtjoojmodghpimaaInodeMakesM20
section
namespace Go.Proofs.Ytjoojmodghpimaa.InoEv
set_option linter.unusedVariables false
set_option linter.unusedSimpArgs false
open Go.RowKit Go.Proofs.Ytjoojmodghpimaa.Print Go.Proofs.Ytjoojmodghpimaa.SMath Go.Proofs.Ytjoojmodghpimaa.SealEv Go.Proofs.Ytjoojmodghpimaa.PackMath Go.Proofs.Ytjoojmodghpimaa.PackEv Go.Proofs.YtjoojmodghpimaaW.PrintWords Go.Proofs.YtjoojmodghpimaaW.PrintLast Go.Proofs.YtjoojmodghpimaaW.PrintMore
def hws : List Int := [8, 8, 8, 8, 32, 64, 32, 32]
def rws : List Int := [24, 16, 32]
theorem hws_ok : wok hws := ⟨by decide, by unfold hws good; decide⟩
theorem rws_ok : wok rws := ⟨by decide, by unfold rws good; decide⟩
theorem hws_tot : tot (wn hws) = 192 := by decide
theorem rws_tot : tot (wn rws) = 72 := by decide
def hv (a0 a1 a2 a3 a4 a5 : Int) (l : List S51) : List Int := [a0, a5, (l.length : Int), 0, a1, a2, a3, a4]
def rv (x : S51) : List Int := [x.f0, x.f1, x.f2]
theorem hv_u64 {a0 a1 a2 a3 a4 a5 : Int} {l : List S51} (h : OK a0 a1 a2 a3 a4 a5 l) : U64s (hv a0 a1 a2 a3 a4 a5 l) := by
  obtain ⟨h0, h1, h2, h3, h4, h5, h6, _⟩ := h
  intro v hv'
  simp only [hv, List.mem_cons, List.not_mem_nil, or_false] at hv'
  unfold U64
  rcases hv' with rfl | rfl | rfl | rfl | rfl | rfl | rfl | rfl <;> omega
theorem rv_u64 {x : S51} (h : RootOK x) : U64s (rv x) := by
  obtain ⟨h0, h1, h2⟩ := h
  intro v hv'
  simp only [rv, List.mem_cons, List.not_mem_nil, or_false] at hv'
  unfold U64
  rcases hv' with rfl | rfl | rfl <;> omega
theorem fit_at {v : Int} {w n : Nat} (hn : 2 ^ w = n) (h0 : 0 ≤ v) (h : v < (n : Int)) : v.toNat < 2 ^ w := by omega
set_option maxHeartbeats 2000000 in
theorem hv_fit {a0 a1 a2 a3 a4 a5 : Int} {l : List S51} (h : OK a0 a1 a2 a3 a4 a5 l) : fits hws (hv a0 a1 a2 a3 a4 a5 l) := by
  obtain ⟨h0, h1, h2, h3, h4, h5, h6, _⟩ := h
  refine ⟨hws_ok, rfl, fun i hi hi' => ?_⟩
  have hi8 : i < 8 := hi
  have : i = 0 ∨ i = 1 ∨ i = 2 ∨ i = 3 ∨ i = 4 ∨ i = 5 ∨ i = 6 ∨ i = 7 := by omega
  rcases this with rfl | rfl | rfl | rfl | rfl | rfl | rfl | rfl
  · exact fit_at (v := a0) (w := 8) (n := 256) rfl (by omega) (by omega)
  · exact fit_at (v := a5) (w := 8) (n := 256) rfl (by omega) (by omega)
  · exact fit_at (v := (l.length : Int)) (w := 8) (n := 256) rfl (by omega) (by omega)
  · exact fit_at (v := 0) (w := 8) (n := 256) rfl (by omega) (by omega)
  · exact fit_at (v := a1) (w := 32) (n := 4294967296) rfl (by omega) (by omega)
  · exact fit_at (v := a2) (w := 64) (n := 18446744073709551616) rfl (by omega) (by omega)
  · exact fit_at (v := a3) (w := 32) (n := 4294967296) rfl (by omega) (by omega)
  · exact fit_at (v := a4) (w := 32) (n := 4294967296) rfl (by omega) (by omega)
theorem rv_fit {x : S51} (h : RootOK x) : fits rws (rv x) := by
  obtain ⟨h0, h1, h2⟩ := h
  refine ⟨rws_ok, rfl, fun i hi hi' => ?_⟩
  have hi8 : i < 3 := hi
  have : i = 0 ∨ i = 1 ∨ i = 2 := by omega
  rcases this with rfl | rfl | rfl
  · exact fit_at (v := x.f0) (w := 24) (n := 16777216) rfl (by omega) (by omega)
  · exact fit_at (v := x.f1) (w := 16) (n := 65536) rfl (by omega) (by omega)
  · exact fit_at (v := x.f2) (w := 32) (n := 4294967296) rfl (by omega) (by omega)
def cut (b : List Int) (n i : Nat) : List Int := (b.take (n + (i + 1) * 9)).drop (n + i * 9)
theorem u_id {v : Int} (h : U64 v) : IntKind.u64.wrap v = v := u64_id h.1 h.2
theorem take_pre {a b : List Int} {n : Nat} (h : b.take n = a) (m : Nat) (hm : m ≤ n) : b.take m = a.take m := by rw [← h, List.take_take, Nat.min_eq_left hm]
set_option maxHeartbeats 2000000 in
theorem go_ev : ∀ (l : List S51) (b : List Int), (∀ x ∈ l, RootOK x) → Bytes b → b.length + 9 * l.length ≤ 64 →
    EvP (fun k => inode_Encode.go k l b) (fun o => o.length = b.length + 9 * l.length ∧ Bytes o ∧ o.take b.length = b ∧ ∀ (i : Nat) (h : i < l.length), PackOK rws (rv l[i]) (cut o b.length i))
  | [], b, _, hb, _ => by
    unfold inode_Encode.go
    exact EvP.now ⟨rfl, hb, List.take_length, fun i h => by cases h⟩
  | x :: xs, b, hx, hb, hn => by
    have hx0 := hx x (by simp)
    obtain ⟨r, hr, rR⟩ := seal_pack_ev rws (rv x) (rv_u64 hx0)
    obtain ⟨r2, rP⟩ := rR.1 (rv_fit hx0)
    have hu := rv_u64 hx0
    have u0 := u_id (hu x.f0 (by simp [rv]))
    have u1 := u_id (hu x.f1 (by simp [rv]))
    have u2 := u_id (hu x.f2 (by simp [rv]))
    have hlen : r.1.length = 9 := by rw [rP.2.1, rws_tot]
    unfold inode_Encode.go
    rw [u0, u1, u2]
    rw [List.length_cons] at hn
    refine EvP.bind (P := fun a => a = r) ⟨r, hr, rfl⟩ (fun a ha => ?_)
    subst ha
    refine EvP.ite (fun _ => EvP.ite (fun _ => ?_) (fun h => by omega)) (fun h => absurd r2 h)
    refine (go_ev xs (b ++ a.1) (fun y hy => hx y (by simp [hy])) (bytes_append hb rP.1) (by rw [List.length_append, hlen]; omega)).imp ?_
    rintro o ⟨o1, o2, o3, o4⟩
    rw [List.length_append, hlen] at o1 o3 o4
    refine ⟨by rw [o1, List.length_cons]; omega, o2, ?_, fun i hi => ?_⟩
    · rw [take_pre o3 b.length (by omega), List.take_left]
    · cases i with
      | zero =>
        have e : cut o b.length 0 = a.1 := by
          unfold cut
          rw [show b.length + (0 + 1) * 9 = b.length + 9 by omega, o3, show b.length + 0 * 9 = b.length by omega, List.drop_left]
        rw [e]
        exact rP
      | succ i =>
        have e : cut o b.length (i + 1) = cut o (b.length + 9) i := by
          unfold cut
          rw [show b.length + (i + 1 + 1) * 9 = b.length + 9 + (i + 1) * 9 by omega, show b.length + (i + 1) * 9 = b.length + 9 + i * 9 by omega]
        rw [e]
        exact o4 i (by simpa using hi)
def EncR (a0 a1 a2 a3 a4 a5 : Int) (l : List S51) (r : List Int × Int) : Prop := r.2 = 0 → OK a0 a1 a2 a3 a4 a5 l ∧ r.1.length = 64 ∧ Bytes r.1 ∧ PackOK hws (hv a0 a1 a2 a3 a4 a5 l) (r.1.take 24) ∧ ∀ (i : Nat) (h : i < l.length), PackOK rws (rv l[i]) (cut r.1 24 i)
theorem cut_pre (o z : List Int) (i : Nat) (h : 24 + (i + 1) * 9 ≤ o.length) : cut (o ++ z) 24 i = cut o 24 i := by
  unfold cut
  rw [List.take_append_of_le_length h]
set_option maxHeartbeats 2000000 in
theorem enc_ev (a0 a1 a2 a3 a4 a5 : Int) (l : List S51) : EvP (fun k => inode_Encode.f k a0 a1 a2 a3 a4 a5 l) (fun r => EncR a0 a1 a2 a3 a4 a5 l r ∧ r.1.length ≤ 64) := by
  unfold inode_Encode.f
  refine EvP.bind (chk_ev a0 a1 a2 a3 a4 a5 l) (fun e he => EvP.ite (fun h0 => ?_) (fun h0 => EvP.now ⟨fun h => absurd h h0, by simp⟩))
  have ok := he h0
  obtain ⟨r, hr, rR⟩ := seal_pack_ev hws (hv a0 a1 a2 a3 a4 a5 l) (hv_u64 ok)
  obtain ⟨r2, rP⟩ := rR.1 (hv_fit ok)
  have hu := hv_u64 ok
  rw [u_id (hu a0 (by simp [hv])), u_id (hu a5 (by simp [hv])), u_id (hu (l.length : Int) (by simp [hv])), u_id (hu a1 (by simp [hv])), u_id (hu a2 (by simp [hv])), u_id (hu a3 (by simp [hv])), u_id (hu a4 (by simp [hv]))]
  have hlen : r.1.length = 24 := by rw [rP.2.1, hws_tot]
  have h4 : l.length ≤ 4 := ok.2.2.2.2.2.2.1
  refine EvP.bind (P := fun a => a = r) ⟨r, hr, rfl⟩ (fun a ha => ?_)
  subst ha
  refine EvP.ite (fun _ => ?_) (fun h => absurd r2 h)
  refine EvP.bind (go_ev l a.1 ok.2.2.2.2.2.2.2 rP.1 (by rw [hlen]; omega)) (fun b hb => ?_)
  obtain ⟨b1, b2, b3, b4⟩ := hb
  rw [hlen] at b1 b3 b4
  refine EvP.ite (fun hl => EvP.now ?_) (fun h => by omega)
  have hL : (b ++ List.replicate (64 - b.length) (0 : Int)).length = 64 := by rw [List.length_append, List.length_replicate]; omega
  refine ⟨fun _ => ⟨ok, hL, bytes_append b2 (fun x hx => by rw [List.eq_of_mem_replicate hx]; exact ⟨by omega, by omega⟩), ?_, fun i hi => ?_⟩, Nat.le_of_eq hL⟩
  · show PackOK _ _ ((b ++ List.replicate (64 - b.length) (0 : Int)).take 24)
    rw [List.take_append_of_le_length (by omega), b3]
    exact rP
  · show PackOK _ _ (cut (b ++ List.replicate (64 - b.length) (0 : Int)) 24 i)
    rw [cut_pre _ _ _ (by omega)]
    exact b4 i hi
def heads (b : List Int) : List Int := uvals hws (b.take 24) 8
def un (b : List Int) (i : Nat) : S51 := ⟨wrap64 (rd (uvals rws (cut b 24 i) 3) 0), wrap64 (rd (uvals rws (cut b 24 i) 3) 1), wrap64 (rd (uvals rws (cut b 24 i) 3) 2)⟩
theorem cut_len {b : List Int} (h : b.length = 64) {i : Nat} (hi : i < 4) : (cut b 24 i).length = 9 := by
  unfold cut
  rw [List.length_drop, List.length_take]
  omega
theorem cut_bytes {b : List Int} (h : Bytes b) (i : Nat) : Bytes (cut b 24 i) := bytes_drop (bytes_take h _) _
theorem not_late {ws b : List Int} {n : Nat} (h : tot (wn ws) = 8 * n) (hl : b.length = n) : ¬ late ws b := by
  rintro ⟨j, h1, h2, _⟩
  omega
theorem unp_heads (b : List Int) (hb : Bytes b) (h : b.length = 64) : ∃ q, Ev (fun k => seal_Unpack.f k hws (b.take 24)) q ∧ UnpR hws (b.take 24) q ∧ q = (heads b, 0) := by
  obtain ⟨q, hq, qR⟩ := seal_unpack_ev hws (b.take 24) (bytes_take hb 24)
  have hl : (b.take 24).length = 24 := by rw [List.length_take]; omega
  exact ⟨q, hq, qR, qR.2.2.2 hws_ok (by rw [hl, hws_tot]) (not_late (n := 24) hws_tot hl)⟩
theorem unp_root (b : List Int) (hb : Bytes b) (h : b.length = 64) (i : Nat) (hi : i < 4) : ∃ q, Ev (fun k => seal_Unpack.f k rws (cut b 24 i)) q ∧ UnpR rws (cut b 24 i) q ∧ q = (uvals rws (cut b 24 i) 3, 0) := by
  obtain ⟨q, hq, qR⟩ := seal_unpack_ev rws (cut b 24 i) (cut_bytes hb i)
  have hl := cut_len h hi
  exact ⟨q, hq, qR, qR.2.2.2 rws_ok (by rw [hl, rws_tot]) (not_late (n := 9) rws_tot hl)⟩
set_option maxHeartbeats 2000000 in
theorem dgo_ev (b : List Int) (hb : Bytes b) (h : b.length = 64) : ∀ (d i : Nat) (r : List S51), i + d ≤ 4 → Ev (fun k => inode_Decode.go k b d i r) (r ++ (List.range' i d).map (un b))
  | 0, i, r, _ => by
    unfold inode_Decode.go
    simp only [List.range'_zero, List.map_nil, List.append_nil]
    exact Ev.now _
  | d + 1, i, r, hd => by
    obtain ⟨q, hq, _, rfl⟩ := unp_root b hb h i (by omega)
    unfold inode_Decode.go
    refine Ev.bind hq (Ev.iff_pos rfl (Ev.iff_pos (uvals_len _ _ _) ?_))
    have := dgo_ev b hb h d (i + 1) (r ++ [un b i]) (by omega)
    rw [List.append_assoc] at this
    rw [List.range'_succ, List.map_cons]
    exact this
def roots (b : List Int) : List S51 := (List.range (rd (heads b) 2).toNat).map (un b)
theorem wid (ws : List Int) (h : wok ws) (n : Nat) (hn : (tot (wn ws) + 7) / 8 = n) : Ev (fun k => seal_Width.f k ws) ((n : Int), 0) := by
  obtain ⟨w, hw, wR⟩ := seal_width_ev ws
  have := wR.1 h
  rw [hn] at this
  subst this
  exact hw
theorem Ev.same {α : Type} {f : Nat → Option α} {a b : α} (h : Ev f a) (k : Ev f b) : a = b := by
  obtain ⟨n, hn⟩ := h
  obtain ⟨m, hm⟩ := k
  have h1 := hn (n + m) (by omega)
  have h2 := hm (n + m) (by omega)
  rw [h1] at h2
  exact Option.some.inj h2
theorem heads_pos (b : List Int) (i : Nat) (h : i < 8) : 0 ≤ rd (heads b) (i : Int) := by
  have hl : (heads b).length = 8 := uvals_len _ _ _
  rw [rd_nat _ _ (by omega)]
  simp only [heads, uvals, List.getElem_map, uval]
  omega
set_option maxHeartbeats 2000000 in
theorem same_roots (l : List S51) (hn : l.length ≤ 140737488355328) : Ev (fun k => slipwayref13_Same.f k l l) true := by
  have from_ : ∀ (d i : Nat), i + d = l.length → Ev (fun k => slipwayref13_Same.l0 k l l (i : Int)) true := by
    intro d
    induction d with
    | zero =>
      intro i hi
      refine Ev.step (f := fun _ => some true) (fun k => ?_) (Ev.now _)
      simp only [slipwayref13_Same.l0]
      rw [if_neg (by omega)]
    | succ d ih =>
      intro i hi
      have hs := suc64 i l.length (by omega) hn
      refine Ev.step (fun k => ?_) (ih (i + 1) (by omega))
      simp only [slipwayref13_Same.l0]
      rw [if_pos (by omega), if_pos (by omega), if_pos (by omega), if_neg (by simp), hs]
  unfold slipwayref13_Same.f
  exact Ev.iff_pos rfl (from_ l.length 0 (by omega))
theorem same_self (a0 a1 a2 a3 a4 a5 : Int) (l : List S51) (hn : l.length ≤ 140737488355328) : Ev (fun k => slipwayref14_Same.f k a0 a1 a2 a3 a4 a5 l a0 a1 a2 a3 a4 a5 l) true := by
  unfold slipwayref14_Same.f
  exact Ev.iff_pos rfl (Ev.iff_pos rfl (Ev.iff_pos rfl (Ev.iff_pos rfl (Ev.iff_pos rfl (Ev.iff_pos rfl (Ev.bind (same_roots l hn) (Ev.now _)))))))
end Go.Proofs.Ytjoojmodghpimaa.InoEv
end
