/- Texts of the proof of InodeOwn, part 30. -/
import Derived.Test.YtjoojmodghpimaaInodeOwnM29
import Derived.Test.YtjoojmodghpimaaInodeOwnM19
import Derived.Test.YtjoojmodghpimaaInodeOwnM20
section
namespace Go.Proofs.Ytjoojmodghpimaa.InoEv
set_option linter.unusedVariables false
set_option linter.unusedSimpArgs false
open Go.RowKit Go.Proofs.Ytjoojmodghpimaa.Print Go.Proofs.Ytjoojmodghpimaa.SMath Go.Proofs.Ytjoojmodghpimaa.SealEv Go.Proofs.Ytjoojmodghpimaa.PackMath Go.Proofs.Ytjoojmodghpimaa.PackEv Go.Proofs.YtjoojmodghpimaaW.PrintWords Go.Proofs.YtjoojmodghpimaaW.PrintLast Go.Proofs.YtjoojmodghpimaaW.PrintMore
def hws : List Int := [8, 8, 8, 8, 32, 64, 32, 32]
def rws : List Int := [24, 16, 32]
theorem hws_ok : wok hws := ⟨by decide, by unfold hws good; decide⟩
theorem rws_ok : wok rws := ⟨by decide, by unfold rws good; decide⟩
theorem hws_tot : tot (wn hws) = 192 := by decide
theorem rws_tot : tot (wn rws) = 72 := by decide
def hv (a0 a1 a2 a3 a4 a5 : Int) (l : List S51) : List Int := [a0, a5, (l.length : Int), 0, a1, a2, a3, a4]
def rv (x : S51) : List Int := [x.f0, x.f1, x.f2]
theorem hv_u64 {a0 a1 a2 a3 a4 a5 : Int} {l : List S51} (h : OK a0 a1 a2 a3 a4 a5 l) : U64s (hv a0 a1 a2 a3 a4 a5 l) := by
  obtain ⟨h0, h1, h2, h3, h4, h5, h6, _⟩ := h
  intro v hv'
  simp only [hv, List.mem_cons, List.not_mem_nil, or_false] at hv'
  unfold U64
  rcases hv' with rfl | rfl | rfl | rfl | rfl | rfl | rfl | rfl <;> omega
theorem rv_u64 {x : S51} (h : RootOK x) : U64s (rv x) := by
  obtain ⟨h0, h1, h2⟩ := h
  intro v hv'
  simp only [rv, List.mem_cons, List.not_mem_nil, or_false] at hv'
  unfold U64
  rcases hv' with rfl | rfl | rfl <;> omega
theorem fit_at {v : Int} {w n : Nat} (hn : 2 ^ w = n) (h0 : 0 ≤ v) (h : v < (n : Int)) : v.toNat < 2 ^ w := by omega
set_option maxHeartbeats 2000000 in
theorem hv_fit {a0 a1 a2 a3 a4 a5 : Int} {l : List S51} (h : OK a0 a1 a2 a3 a4 a5 l) : fits hws (hv a0 a1 a2 a3 a4 a5 l) := by
  obtain ⟨h0, h1, h2, h3, h4, h5, h6, _⟩ := h
  refine ⟨hws_ok, rfl, fun i hi hi' => ?_⟩
  have hi8 : i < 8 := hi
  have : i = 0 ∨ i = 1 ∨ i = 2 ∨ i = 3 ∨ i = 4 ∨ i = 5 ∨ i = 6 ∨ i = 7 := by omega
  rcases this with rfl | rfl | rfl | rfl | rfl | rfl | rfl | rfl
  · exact fit_at (v := a0) (w := 8) (n := 256) rfl (by omega) (by omega)
  · exact fit_at (v := a5) (w := 8) (n := 256) rfl (by omega) (by omega)
  · exact fit_at (v := (l.length : Int)) (w := 8) (n := 256) rfl (by omega) (by omega)
  · exact fit_at (v := 0) (w := 8) (n := 256) rfl (by omega) (by omega)
  · exact fit_at (v := a1) (w := 32) (n := 4294967296) rfl (by omega) (by omega)
  · exact fit_at (v := a2) (w := 64) (n := 18446744073709551616) rfl (by omega) (by omega)
  · exact fit_at (v := a3) (w := 32) (n := 4294967296) rfl (by omega) (by omega)
  · exact fit_at (v := a4) (w := 32) (n := 4294967296) rfl (by omega) (by omega)
theorem rv_fit {x : S51} (h : RootOK x) : fits rws (rv x) := by
  obtain ⟨h0, h1, h2⟩ := h
  refine ⟨rws_ok, rfl, fun i hi hi' => ?_⟩
  have hi8 : i < 3 := hi
  have : i = 0 ∨ i = 1 ∨ i = 2 := by omega
  rcases this with rfl | rfl | rfl
  · exact fit_at (v := x.f0) (w := 24) (n := 16777216) rfl (by omega) (by omega)
  · exact fit_at (v := x.f1) (w := 16) (n := 65536) rfl (by omega) (by omega)
  · exact fit_at (v := x.f2) (w := 32) (n := 4294967296) rfl (by omega) (by omega)
def cut (b : List Int) (n i : Nat) : List Int := (b.take (n + (i + 1) * 9)).drop (n + i * 9)
theorem u_id {v : Int} (h : U64 v) : IntKind.u64.wrap v = v := u64_id h.1 h.2
theorem take_pre {a b : List Int} {n : Nat} (h : b.take n = a) (m : Nat) (hm : m ≤ n) : b.take m = a.take m := by rw [← h, List.take_take, Nat.min_eq_left hm]
set_option maxHeartbeats 2000000 in
theorem go_ev : ∀ (l : List S51) (b : List Int), (∀ x ∈ l, RootOK x) → Bytes b → b.length + 9 * l.length ≤ 64 →
    EvP (fun k => inode_Encode.go k l b) (fun o => o.length = b.length + 9 * l.length ∧ Bytes o ∧ o.take b.length = b ∧ ∀ (i : Nat) (h : i < l.length), PackOK rws (rv l[i]) (cut o b.length i))
  | [], b, _, hb, _ => by
    unfold inode_Encode.go
    exact EvP.now ⟨rfl, hb, List.take_length, fun i h => by cases h⟩
  | x :: xs, b, hx, hb, hn => by
    have hx0 := hx x (by simp)
    obtain ⟨r, hr, rR⟩ := seal_pack_ev rws (rv x) (rv_u64 hx0)
    obtain ⟨r2, rP⟩ := rR.1 (rv_fit hx0)
    have hu := rv_u64 hx0
    have u0 := u_id (hu x.f0 (by simp [rv]))
    have u1 := u_id (hu x.f1 (by simp [rv]))
    have u2 := u_id (hu x.f2 (by simp [rv]))
    have hlen : r.1.length = 9 := by rw [rP.2.1, rws_tot]
    unfold inode_Encode.go
    rw [u0, u1, u2]
    rw [List.length_cons] at hn
    refine EvP.bind (P := fun a => a = r) ⟨r, hr, rfl⟩ (fun a ha => ?_)
    subst ha
    refine EvP.ite (fun _ => EvP.ite (fun _ => ?_) (fun h => by omega)) (fun h => absurd r2 h)
    refine (go_ev xs (b ++ a.1) (fun y hy => hx y (by simp [hy])) (bytes_append hb rP.1) (by rw [List.length_append, hlen]; omega)).imp ?_
    rintro o ⟨o1, o2, o3, o4⟩
    rw [List.length_append, hlen] at o1 o3 o4
    refine ⟨by rw [o1, List.length_cons]; omega, o2, ?_, fun i hi => ?_⟩
    · rw [take_pre o3 b.length (by omega), List.take_left]
    · cases i with
      | zero =>
        have e : cut o b.length 0 = a.1 := by
          unfold cut
          rw [show b.length + (0 + 1) * 9 = b.length + 9 by omega, o3, show b.length + 0 * 9 = b.length by omega, List.drop_left]
        rw [e]
        exact rP
      | succ i =>
        have e : cut o b.length (i + 1) = cut o (b.length + 9) i := by
          unfold cut
          rw [show b.length + (i + 1 + 1) * 9 = b.length + 9 + (i + 1) * 9 by omega, show b.length + (i + 1) * 9 = b.length + 9 + i * 9 by omega]
        rw [e]
        exact o4 i (by simpa using hi)
def EncR (a0 a1 a2 a3 a4 a5 : Int) (l : List S51) (r : List Int × Int) : Prop := r.2 = 0 → OK a0 a1 a2 a3 a4 a5 l ∧ r.1.length = 64 ∧ Bytes r.1 ∧ PackOK hws (hv a0 a1 a2 a3 a4 a5 l) (r.1.take 24) ∧ ∀ (i : Nat) (h : i < l.length), PackOK rws (rv l[i]) (cut r.1 24 i)
theorem cut_pre (o z : List Int) (i : Nat) (h : 24 + (i + 1) * 9 ≤ o.length) : cut (o ++ z) 24 i = cut o 24 i := by
  unfold cut
  rw [List.take_append_of_le_length h]
set_option maxHeartbeats 2000000 in
theorem enc_ev (a0 a1 a2 a3 a4 a5 : Int) (l : List S51) : EvP (fun k => inode_Encode.f k a0 a1 a2 a3 a4 a5 l) (fun r => EncR a0 a1 a2 a3 a4 a5 l r ∧ r.1.length ≤ 64) := by
  unfold inode_Encode.f
  refine EvP.bind (chk_ev a0 a1 a2 a3 a4 a5 l) (fun e he => EvP.ite (fun h0 => ?_) (fun h0 => EvP.now ⟨fun h => absurd h h0, by simp⟩))
  have ok := he h0
  obtain ⟨r, hr, rR⟩ := seal_pack_ev hws (hv a0 a1 a2 a3 a4 a5 l) (hv_u64 ok)
  obtain ⟨r2, rP⟩ := rR.1 (hv_fit ok)
  have hu := hv_u64 ok
  rw [u_id (hu a0 (by simp [hv])), u_id (hu a5 (by simp [hv])), u_id (hu (l.length : Int) (by simp [hv])), u_id (hu a1 (by simp [hv])), u_id (hu a2 (by simp [hv])), u_id (hu a3 (by simp [hv])), u_id (hu a4 (by simp [hv]))]
  have hlen : r.1.length = 24 := by rw [rP.2.1, hws_tot]
  have h4 : l.length ≤ 4 := ok.2.2.2.2.2.2.1
  refine EvP.bind (P := fun a => a = r) ⟨r, hr, rfl⟩ (fun a ha => ?_)
  subst ha
  refine EvP.ite (fun _ => ?_) (fun h => absurd r2 h)
  refine EvP.bind (go_ev l a.1 ok.2.2.2.2.2.2.2 rP.1 (by rw [hlen]; omega)) (fun b hb => ?_)
  obtain ⟨b1, b2, b3, b4⟩ := hb
  rw [hlen] at b1 b3 b4
  refine EvP.ite (fun hl => EvP.now ?_) (fun h => by omega)
  have hL : (b ++ List.replicate (64 - b.length) (0 : Int)).length = 64 := by rw [List.length_append, List.length_replicate]; omega
  refine ⟨fun _ => ⟨ok, hL, bytes_append b2 (fun x hx => by rw [List.eq_of_mem_replicate hx]; exact ⟨by omega, by omega⟩), ?_, fun i hi => ?_⟩, Nat.le_of_eq hL⟩
  · show PackOK _ _ ((b ++ List.replicate (64 - b.length) (0 : Int)).take 24)
    rw [List.take_append_of_le_length (by omega), b3]
    exact rP
  · show PackOK _ _ (cut (b ++ List.replicate (64 - b.length) (0 : Int)) 24 i)
    rw [cut_pre _ _ _ (by omega)]
    exact b4 i hi
def heads (b : List Int) : List Int := uvals hws (b.take 24) 8
def un (b : List Int) (i : Nat) : S51 := ⟨wrap64 (rd (uvals rws (cut b 24 i) 3) 0), wrap64 (rd (uvals rws (cut b 24 i) 3) 1), wrap64 (rd (uvals rws (cut b 24 i) 3) 2)⟩
theorem cut_len {b : List Int} (h : b.length = 64) {i : Nat} (hi : i < 4) : (cut b 24 i).length = 9 := by
  unfold cut
  rw [List.length_drop, List.length_take]
  omega
theorem cut_bytes {b : List Int} (h : Bytes b) (i : Nat) : Bytes (cut b 24 i) := bytes_drop (bytes_take h _) _
theorem not_late {ws b : List Int} {n : Nat} (h : tot (wn ws) = 8 * n) (hl : b.length = n) : ¬ late ws b := by
  rintro ⟨j, h1, h2, _⟩
  omega
theorem unp_heads (b : List Int) (hb : Bytes b) (h : b.length = 64) : ∃ q, Ev (fun k => seal_Unpack.f k hws (b.take 24)) q ∧ UnpR hws (b.take 24) q ∧ q = (heads b, 0) := by
  obtain ⟨q, hq, qR⟩ := seal_unpack_ev hws (b.take 24) (bytes_take hb 24)
  have hl : (b.take 24).length = 24 := by rw [List.length_take]; omega
  exact ⟨q, hq, qR, qR.2.2.2 hws_ok (by rw [hl, hws_tot]) (not_late (n := 24) hws_tot hl)⟩
theorem unp_root (b : List Int) (hb : Bytes b) (h : b.length = 64) (i : Nat) (hi : i < 4) : ∃ q, Ev (fun k => seal_Unpack.f k rws (cut b 24 i)) q ∧ UnpR rws (cut b 24 i) q ∧ q = (uvals rws (cut b 24 i) 3, 0) := by
  obtain ⟨q, hq, qR⟩ := seal_unpack_ev rws (cut b 24 i) (cut_bytes hb i)
  have hl := cut_len h hi
  exact ⟨q, hq, qR, qR.2.2.2 rws_ok (by rw [hl, rws_tot]) (not_late (n := 9) rws_tot hl)⟩
set_option maxHeartbeats 2000000 in
theorem dgo_ev (b : List Int) (hb : Bytes b) (h : b.length = 64) : ∀ (d i : Nat) (r : List S51), i + d ≤ 4 → Ev (fun k => inode_Decode.go k b d i r) (r ++ (List.range' i d).map (un b))
  | 0, i, r, _ => by
    unfold inode_Decode.go
    simp only [List.range'_zero, List.map_nil, List.append_nil]
    exact Ev.now _
  | d + 1, i, r, hd => by
    obtain ⟨q, hq, _, rfl⟩ := unp_root b hb h i (by omega)
    unfold inode_Decode.go
    refine Ev.bind hq (Ev.iff_pos rfl (Ev.iff_pos (uvals_len _ _ _) ?_))
    have := dgo_ev b hb h d (i + 1) (r ++ [un b i]) (by omega)
    rw [List.append_assoc] at this
    rw [List.range'_succ, List.map_cons]
    exact this
def roots (b : List Int) : List S51 := (List.range (rd (heads b) 2).toNat).map (un b)
theorem wid (ws : List Int) (h : wok ws) (n : Nat) (hn : (tot (wn ws) + 7) / 8 = n) : Ev (fun k => seal_Width.f k ws) ((n : Int), 0) := by
  obtain ⟨w, hw, wR⟩ := seal_width_ev ws
  have := wR.1 h
  rw [hn] at this
  subst this
  exact hw
def BACK (x : List Int) (r : Int × Int × Int × Int × Int × Int × List S51 × Int) : Prop :=
  (r.2.2.2.2.2.2.2 = 0 → Ev (fun k => inode_Encode.f k r.1 r.2.1 r.2.2.1 r.2.2.2.1 r.2.2.2.2.1 r.2.2.2.2.2.1 r.2.2.2.2.2.2.1) (x, 0)) ∧
  (x.length = 64 → rd (heads x) 2 ≤ 4 → rd (heads x) 5 ≤ 16777216 → Ev (fun k => inode_Encode.f k (wrap64 (rd (heads x) 0)) (wrap64 (rd (heads x) 4)) (wrap64 (rd (heads x) 5)) (wrap64 (rd (heads x) 6)) (wrap64 (rd (heads x) 7)) (wrap64 (rd (heads x) 1)) (roots x)) (x, 0) →
    r = (wrap64 (rd (heads x) 0), wrap64 (rd (heads x) 4), wrap64 (rd (heads x) 5), wrap64 (rd (heads x) 6), wrap64 (rd (heads x) 7), wrap64 (rd (heads x) 1), roots x, 0)) ∧ r.2.2.2.2.2.2.1.length ≤ 4
theorem Ev.same {α : Type} {f : Nat → Option α} {a b : α} (h : Ev f a) (k : Ev f b) : a = b := by
  obtain ⟨n, hn⟩ := h
  obtain ⟨m, hm⟩ := k
  have h1 := hn (n + m) (by omega)
  have h2 := hm (n + m) (by omega)
  rw [h1] at h2
  exact Option.some.inj h2
theorem heads_pos (b : List Int) (i : Nat) (h : i < 8) : 0 ≤ rd (heads b) (i : Int) := by
  have hl : (heads b).length = 8 := uvals_len _ _ _
  rw [rd_nat _ _ (by omega)]
  simp only [heads, uvals, List.getElem_map, uval]
  omega
set_option maxHeartbeats 2000000 in
theorem dec_ev (x : List Int) (hx : Bytes x) (hn : x.length ≤ 140737488355328) : EvP (fun k => inode_Decode.f k x) (BACK x) := by
  unfold inode_Decode.f
  refine EvP.ite (fun hl => ?_) (fun hl => EvP.now ⟨fun h => absurd h (by decide), fun h => absurd h hl, by decide⟩)
  obtain ⟨q, hq, _, rfl⟩ := unp_heads x hx hl
  refine EvP.bind (P := fun a => a = (24, 0)) ⟨_, wid hws hws_ok 24 (by rw [hws_tot]), rfl⟩ (fun a ha => EvP.ite (fun _ => ?_) (fun h => absurd ha h))
  refine EvP.bind (P := fun a => a = (9, 0)) ⟨_, wid rws rws_ok 9 (by rw [rws_tot]), rfl⟩ (fun a ha => EvP.ite (fun _ => ?_) (fun h => absurd ha h))
  refine EvP.bind (P := fun a => a = (heads x, 0)) ⟨_, hq, rfl⟩ (fun a ha => ?_)
  subst ha
  refine EvP.ite (fun _ => EvP.ite (fun _ => ?_) (fun h => absurd (uvals_len _ _ _) h)) (fun h => absurd rfl h)
  refine EvP.ite (fun h2 => EvP.now ⟨fun h => absurd h (by decide), fun _ h => absurd h (Int.not_le.mpr h2), by decide⟩) (fun h2 => ?_)
  refine EvP.ite (fun h5 => EvP.now ⟨fun h => absurd h (by decide), fun _ _ h => absurd h (Int.not_le.mpr h5), by decide⟩) (fun h5 => ?_)
  refine EvP.ite (fun hp => ?_) (fun h => absurd (heads_pos x 2 (by omega)) h)
  have h2 : ¬ rd (heads x) 2 > 4 := h2
  have hp : 0 ≤ rd (heads x) 2 := hp
  have hd := dgo_ev x hx hl (rd (heads x) 2).toNat 0 [] (by omega)
  rw [← List.range_eq_range', List.nil_append] at hd
  refine EvP.bind (P := fun a => a = roots x) ⟨_, hd, rfl⟩ (fun a ha => ?_)
  subst ha
  have rl : (roots x).length ≤ 4 := by unfold roots; rw [List.length_map, List.length_range]; omega
  obtain ⟨p, hpE, pR, p64⟩ := enc_ev (wrap64 (rd (heads x) 0)) (wrap64 (rd (heads x) 4)) (wrap64 (rd (heads x) 5)) (wrap64 (rd (heads x) 6)) (wrap64 (rd (heads x) 7)) (wrap64 (rd (heads x) 1)) (roots x)
  refine EvP.bind (P := fun a => a = p) ⟨_, hpE, rfl⟩ (fun a ha => ?_)
  subst ha
  refine EvP.ite (fun h0 => ?_) (fun h0 => EvP.now ⟨fun h => absurd h (by decide), fun _ _ _ h => ?_, by decide⟩)
  · refine EvP.bind (P := fun t => t = decide (a.1 = x)) ⟨_, slices_equal a.1 x (by omega), rfl⟩ (fun t ht => ?_)
    subst ht
    refine EvP.ite (fun he => EvP.now ⟨fun _ => ?_, fun _ _ _ _ => rfl, rl⟩) (fun he => EvP.now ⟨fun h => absurd h (by decide), fun _ _ _ h => ?_, by decide⟩)
    · have e : a = (x, 0) := by rw [← of_decide_eq_true he, ← h0]
      exact e ▸ hpE
    · have e := Ev.same hpE h
      rw [e] at he
      exact absurd (decide_eq_true rfl) he
  · have e := Ev.same hpE h
    rw [e] at h0
    exact absurd rfl h0
theorem dec_enc {a0 a1 a2 a3 a4 a5 : Int} {l : List S51} {x : List Int} (hE : Ev (fun k => inode_Encode.f k a0 a1 a2 a3 a4 a5 l) (x, 0)) : Ev (fun k => inode_Decode.f k x) (a0, a1, a2, a3, a4, a5, l, 0) := by
  obtain ⟨r, hr, rR, _⟩ := enc_ev a0 a1 a2 a3 a4 a5 l
  obtain rfl := Ev.same hr hE
  obtain ⟨ok, hl, hb, hH, hR⟩ := rR rfl
  obtain ⟨q, hq, qR, rfl⟩ := unp_heads x hb hl
  have e1 : heads x = hv a0 a1 a2 a3 a4 a5 l := by
    have := back_one (hv_u64 ok) (hv_fit ok) hH qR
    injection this
  have e2 : roots x = l := by
    have h4 : l.length ≤ 4 := ok.2.2.2.2.2.2.1
    have en : (rd (heads x) 2).toNat = l.length := by rw [e1]; rfl
    unfold roots
    rw [en]
    apply List.ext_getElem
    · simp
    · intro i h1 h2
      obtain ⟨p, hp, pR, rfl⟩ := unp_root x hb hl i (by omega)
      have hx := ok.2.2.2.2.2.2.2 _ (List.getElem_mem h2)
      have := back_one (rv_u64 hx) (rv_fit hx) (hR i h2) pR
      have e3 : uvals rws (cut x 24 i) 3 = rv l[i] := by injection this
      simp only [List.getElem_map, List.getElem_range, un]
      rw [e3]
      obtain ⟨h0, h1, h2⟩ := hx
      have z0 : rd (rv l[i]) 0 = l[i].f0 := rfl
      have z1 : rd (rv l[i]) 1 = l[i].f1 := rfl
      have z2 : rd (rv l[i]) 2 = l[i].f2 := rfl
      rw [z0, z1, z2, w64 (by omega) (by omega), w64 (by omega) (by omega), w64 (by omega) (by omega)]
  obtain ⟨h0, h1, h2, h3, h4, h5, h6, _⟩ := ok
  have z0 : wrap64 (rd (heads x) 0) = a0 := by rw [e1]; exact w64 (n := a0) (by omega) (by omega)
  have z1 : wrap64 (rd (heads x) 1) = a5 := by rw [e1]; exact w64 (n := a5) (by omega) (by omega)
  have z4 : wrap64 (rd (heads x) 4) = a1 := by rw [e1]; exact w64 (n := a1) (by omega) (by omega)
  have z5 : wrap64 (rd (heads x) 5) = a2 := by rw [e1]; exact w64 (n := a2) (by omega) (by omega)
  have z6 : wrap64 (rd (heads x) 6) = a3 := by rw [e1]; exact w64 (n := a3) (by omega) (by omega)
  have z7 : wrap64 (rd (heads x) 7) = a4 := by rw [e1]; exact w64 (n := a4) (by omega) (by omega)
  have y2 : rd (heads x) 2 ≤ 4 := by rw [e1]; show (l.length : Int) ≤ 4; omega
  have y5 : rd (heads x) 5 ≤ 16777216 := by rw [e1]; exact h2.2
  obtain ⟨p, hp, pR⟩ := dec_ev x hb (by have : x.length = 64 := hl; omega)
  have := pR.2.1 hl y2 y5
  rw [z0, z1, z4, z5, z6, z7, e2] at this
  rw [← this hE]
  exact hp
set_option maxHeartbeats 2000000 in
theorem same_roots (l : List S51) (hn : l.length ≤ 140737488355328) : Ev (fun k => slipwayref13_Same.f k l l) true := by
  have from_ : ∀ (d i : Nat), i + d = l.length → Ev (fun k => slipwayref13_Same.l0 k l l (i : Int)) true := by
    intro d
    induction d with
    | zero =>
      intro i hi
      refine Ev.step (f := fun _ => some true) (fun k => ?_) (Ev.now _)
      simp only [slipwayref13_Same.l0]
      rw [if_neg (by omega)]
    | succ d ih =>
      intro i hi
      have hs := suc64 i l.length (by omega) hn
      refine Ev.step (fun k => ?_) (ih (i + 1) (by omega))
      simp only [slipwayref13_Same.l0]
      rw [if_pos (by omega), if_pos (by omega), if_pos (by omega), if_neg (by simp), hs]
  unfold slipwayref13_Same.f
  exact Ev.iff_pos rfl (from_ l.length 0 (by omega))
theorem same_self (a0 a1 a2 a3 a4 a5 : Int) (l : List S51) (hn : l.length ≤ 140737488355328) : Ev (fun k => slipwayref14_Same.f k a0 a1 a2 a3 a4 a5 l a0 a1 a2 a3 a4 a5 l) true := by
  unfold slipwayref14_Same.f
  exact Ev.iff_pos rfl (Ev.iff_pos rfl (Ev.iff_pos rfl (Ev.iff_pos rfl (Ev.iff_pos rfl (Ev.iff_pos rfl (Ev.bind (same_roots l hn) (Ev.now _)))))))
end Go.Proofs.Ytjoojmodghpimaa.InoEv
end
