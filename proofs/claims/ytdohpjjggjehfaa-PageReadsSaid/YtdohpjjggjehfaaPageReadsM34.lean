/- Texts of the proof of PageReads, part 34. -/
import Derived.Test.YtdohpjjggjehfaaPageReadsM28
import Derived.Test.YtdohpjjggjehfaaPageReadsM33
import Derived.Test.YtdohpjjggjehfaaPageReadsM21
import Derived.Test.YtdohpjjggjehfaaPageReadsM20
import Derived.Test.YtdohpjjggjehfaaPageReadsM22
section
namespace Go.Proofs.Ytdohpjjggjehfaa.PgEv
set_option linter.unusedVariables false
set_option linter.unusedSimpArgs false
open Go.RowKit Go.Proofs.Ytdohpjjggjehfaa.Print Go.Proofs.Ytdohpjjggjehfaa.SMath Go.Proofs.Ytdohpjjggjehfaa.SealEv Go.Proofs.Ytdohpjjggjehfaa.PackMath Go.Proofs.Ytdohpjjggjehfaa.PackEv Go.Proofs.YtdohpjjggjehfaaW.PrintWords Go.Proofs.YtdohpjjggjehfaaW.PrintLast Go.Proofs.YtdohpjjggjehfaaW.PrintMore
theorem Ev.same {α : Type} {f : Nat → Option α} {a b : α} (h : Ev f a) (k : Ev f b) : a = b := by
  obtain ⟨n, hn⟩ := h
  obtain ⟨m, hm⟩ := k
  have h1 := hn (n + m) (by omega)
  have h2 := hm (n + m) (by omega)
  rw [h1] at h2
  exact Option.some.inj h2
theorem Ev.ite {α : Type} {c : Prop} [Decidable c] {f g : Nat → Option α} {r s : α} (h1 : c → Ev f r) (h2 : ¬ c → Ev g s) : Ev (fun n => if c then f n else g n) (if c then r else s) := by
  by_cases h : c
  · rw [if_pos h]; exact Ev.iff_pos h (h1 h)
  · rw [if_neg h]; exact Ev.iff_neg h (h2 h)
def HOK (a b c d : Int) : Prop := (a = 1 ∨ a = 2 ∨ a = 3) ∧ (0 ≤ b ∧ b < 1048576) ∧ (1 ≤ c ∧ c ≤ 1152921504606846976) ∧ (c ≤ d ∧ d ≤ 1152921504606846976) ∧ (a = 1 ∨ d = c)
instance (a b c d : Int) : Decidable (HOK a b c d) := by unfold HOK; infer_instance
def V1 (b c : Int) (x : Bool) : Int := if x = true then 30 else if b < 0 then 30 else if b ≥ 1048576 then 30 else if c < 1 then 30 else if c > 1152921504606846976 then 30 else 0
theorem j1_ev (a b c d : Int) (x : Bool) : Ev (fun k => page_Check.j1 k x a b c d) (V1 b c x) := by
  unfold V1
  refine Ev.step (fun k => by simp only [page_Check.j1]; rfl) ?_
  exact Ev.ite (fun _ => Ev.now _) (fun _ => Ev.ite (fun _ => Ev.now _) (fun _ => Ev.ite (fun _ => Ev.now _) (fun _ => Ev.ite (fun _ => Ev.now _) (fun _ => Ev.ite (fun _ => Ev.now _) (fun _ => Ev.now _)))))
def V0 (a b c d : Int) (x : Bool) : Int := if x = true then 30 else if d < c then V1 b c true else if d > 1152921504606846976 then V1 b c true else if a = 1 then V1 b c false else V1 b c (d != c)
theorem j0_ev (a b c d : Int) (x : Bool) : Ev (fun k => page_Check.j0 k x a b c d) (V0 a b c d x) := by
  unfold V0
  refine Ev.step (fun k => by simp only [page_Check.j0]; rfl) ?_
  exact Ev.ite (fun _ => Ev.now _) (fun _ => Ev.ite (fun _ => j1_ev _ _ _ _ _) (fun _ => Ev.ite (fun _ => j1_ev _ _ _ _ _) (fun _ => Ev.ite (fun _ => j1_ev _ _ _ _ _) (fun _ => j1_ev _ _ _ _ _))))
set_option maxHeartbeats 2000000 in
theorem chk_ev (a b c d : Int) : Ev (fun k => page_Check.f k a b c d) (if HOK a b c d then 0 else 30) := by
  have e : (if HOK a b c d then (0 : Int) else 30) = if a = 1 then V0 a b c d false else if a = 2 then V0 a b c d false else V0 a b c d (a != 3) := by
    by_cases h : HOK a b c d
    · rw [if_pos h]
      unfold HOK at h
      unfold V0 V1
      simp only [bne_iff_ne, ne_eq, Bool.false_eq_true, if_false, if_true]
      rw [if_neg (show ¬ d < c by omega), if_neg (show ¬ d > 1152921504606846976 by omega), if_neg (show ¬ b < 0 by omega), if_neg (show ¬ b ≥ 1048576 by omega), if_neg (show ¬ c < 1 by omega), if_neg (show ¬ c > 1152921504606846976 by omega)]
      by_cases a1 : a = 1
      · rw [if_pos a1, if_pos a1]
      · rw [if_neg a1, if_neg a1, if_neg (show ¬ ¬ d = c by omega)]
        by_cases a2 : a = 2
        · rw [if_pos a2]
        · rw [if_neg a2, if_neg (show ¬ ¬ a = 3 by omega)]
    · rw [if_neg h]
      unfold HOK at h
      unfold V0 V1
      simp only [bne_iff_ne, ne_eq, Bool.false_eq_true, if_false, if_true]
      by_cases b1 : d < c
      · simp only [if_pos b1]; (repeat' split) <;> rfl
      by_cases b2 : d > 1152921504606846976
      · simp only [if_neg b1, if_pos b2]; (repeat' split) <;> rfl
      by_cases b3 : b < 0
      · simp only [if_neg b1, if_neg b2, if_pos b3]; (repeat' split) <;> rfl
      by_cases b4 : b ≥ 1048576
      · simp only [if_neg b1, if_neg b2, if_neg b3, if_pos b4]; (repeat' split) <;> rfl
      by_cases b5 : c < 1
      · simp only [if_neg b1, if_neg b2, if_neg b3, if_neg b4, if_pos b5]; (repeat' split) <;> rfl
      by_cases b6 : c > 1152921504606846976
      · simp only [if_neg b1, if_neg b2, if_neg b3, if_neg b4, if_neg b5, if_pos b6]; (repeat' split) <;> rfl
      simp only [if_neg b1, if_neg b2, if_neg b3, if_neg b4, if_neg b5, if_neg b6]
      by_cases a1 : a = 1
      · exfalso; omega
      rw [if_neg a1, if_neg a1]
      by_cases a2 : a = 2
      · rw [if_pos a2, if_pos (by omega)]
      · rw [if_neg a2]
        by_cases a3 : a = 3
        · rw [if_neg (by omega), if_pos (by omega)]
        · rw [if_pos a3]
  rw [e]
  unfold page_Check.f
  exact Ev.ite (fun _ => j0_ev _ _ _ _ _) (fun _ => Ev.ite (fun _ => j0_ev _ _ _ _ _) (fun _ => j0_ev _ _ _ _ _))
def ws : List Int := [8, 8, 32, 64, 64]
theorem ws_ok : wok ws := ⟨by decide, by unfold ws good; decide⟩
theorem ws_tot : tot (wn ws) = 176 := by decide
def hv (a b c d : Int) : List Int := [a, 0, b, c, d]
theorem hv_u64 {a b c d : Int} (h : HOK a b c d) : U64s (hv a b c d) := by
  unfold HOK at h
  intro v hv'
  simp only [hv, List.mem_cons, List.not_mem_nil, or_false] at hv'
  unfold U64
  omega
theorem hv_fit {a b c d : Int} (h : HOK a b c d) : fits ws (hv a b c d) := by
  refine ⟨ws_ok, rfl, fun i hi hi' => ?_⟩
  unfold HOK at h
  have hi5 : i < 5 := hi
  match i, hi5 with
  | 0, _ => show a.toNat < 2 ^ 8; omega
  | 1, _ => show (0 : Int).toNat < 2 ^ 8; decide
  | 2, _ => show b.toNat < 2 ^ 32; omega
  | 3, _ => show c.toNat < 2 ^ 64; omega
  | 4, _ => show d.toNat < 2 ^ 64; omega
def pad (d : List Int) : List Int := d ++ List.replicate (256 - d.length) 0
def body (d x : List Int) : List Int := pad d ++ (x ++ List.replicate 6 0)
def page (d x : List Int) : List Int := body d x ++ nb (zeros (body d x))
theorem pad_len {d : List Int} (h : d.length ≤ 256) : (pad d).length = 256 := by unfold pad; rw [List.length_append, List.length_replicate]; omega
theorem body_len {d x : List Int} (h : d.length ≤ 256) (hx : x.length = 22) : (body d x).length = 284 := by unfold body; rw [List.length_append, pad_len h, List.length_append, hx, List.length_replicate]
theorem page_len {d x : List Int} (h : d.length ≤ 256) (hx : x.length = 22) : (page d x).length = 288 := by unfold page; rw [List.length_append, body_len h hx]; rfl
theorem rep_bytes (n : Nat) : Bytes (List.replicate n 0) := fun x hx => by rw [List.eq_of_mem_replicate hx]; unfold Byte; omega
theorem body_bytes {d x : List Int} (hd : Bytes d) (hx : Bytes x) : Bytes (body d x) := bytes_append (bytes_append hd (rep_bytes _)) (bytes_append hx (rep_bytes _))
theorem page_bytes {d x : List Int} (hd : Bytes d) (hx : Bytes x) : Bytes (page d x) := bytes_append (body_bytes hd hx) (nb_bytes _)
set_option maxHeartbeats 2000000 in
theorem of_body {d x : List Int} (h : d.length ≤ 256) (hx : x.length = 22) : pg_of d x = body d x ++ [0, 0, 0, 0] := by
  unfold pg_of
  rw [List.take_of_length_le h, List.take_of_length_le (l := x) (by omega)]
  have e1 : splice pz 0 d = pad d ++ List.replicate 32 0 := by
    unfold splice pz pad
    rw [List.take_zero, List.nil_append, Nat.zero_add, List.drop_replicate, List.append_assoc, List.replicate_append_replicate]
    congr 2
    omega
  rw [e1]
  unfold splice body
  rw [hx, List.take_left' (pad_len h), List.drop_append, pad_len h, List.drop_eq_nil_of_le (by rw [pad_len h]; omega), List.nil_append, List.drop_replicate, List.append_assoc, List.append_assoc]
  rfl
theorem two_parts (p : List Int) (n m : Nat) : (p.drop 0).take n ++ (p.drop n).take m = p.take (n + m) := by
  rw [List.drop_zero, List.take_add]
theorem lay {b : List Int} (hb : b.length = 284) (n : List Int) (hn : n.length = 4) : splice (b ++ [0, 0, 0, 0]) 284 n = b ++ n := by
  unfold splice
  rw [List.take_left' hb, hn, List.drop_eq_nil_of_le (by rw [List.length_append, hb]; decide), List.append_nil]
set_option maxHeartbeats 2000000 in
theorem enc_ev (a b c d : Int) (l : List Int) (hl : Bytes l) (hn : l.length ≤ 140737488355328) : ∃ x, (HOK a b c d → PackOK ws (hv a b c d) x ∧ x.length = 22) ∧
    Ev (fun k => page_Encode.f k a b c d l) (if HOK a b c d then if l.length ≤ 256 then (page l x, 0) else (pz, 3) else (pz, 30)) := by
  unfold page_Encode.f
  by_cases hh : HOK a b c d
  rotate_left
  · refine ⟨[], fun h => absurd h hh, ?_⟩
    have hc := chk_ev a b c d
    rw [if_neg hh] at hc ⊢
    exact Ev.bind hc (Ev.iff_neg (by decide) (Ev.now _))
  obtain ⟨r, hr, rR⟩ := seal_pack_ev ws (hv a b c d) (hv_u64 hh)
  obtain ⟨r2, rP⟩ := rR.1 (hv_fit hh)
  have hx : r.1.length = 22 := by rw [rP.2.1, ws_tot]
  refine ⟨r.1, fun _ => ⟨rP, hx⟩, ?_⟩
  have hc := chk_ev a b c d
  rw [if_pos hh] at hc ⊢
  refine Ev.bind hc (Ev.iff_pos rfl ?_)
  by_cases h256 : l.length ≤ 256
  rotate_left
  · rw [if_neg h256]
    exact Ev.iff_neg h256 (Ev.now _)
  rw [if_pos h256]
  refine Ev.iff_pos h256 ?_
  have hu := hv_u64 hh
  rw [u64_id (hu a (by simp [hv])).1 (hu a (by simp [hv])).2, u64_id (hu b (by simp [hv])).1 (hu b (by simp [hv])).2, u64_id (hu c (by simp [hv])).1 (hu c (by simp [hv])).2, u64_id (hu d (by simp [hv])).1 (hu d (by simp [hv])).2]
  refine Ev.bind hr (Ev.iff_pos r2 ?_)
  have eb : ((pg_of l r.1).drop 0).take 256 ++ ((pg_of l r.1).drop 256).take 28 = body l r.1 := by
    rw [two_parts, of_body h256 hx, List.take_left' (body_len h256 hx)]
  have hcat := concat2 (((pg_of l r.1).drop 0).take 256) (((pg_of l r.1).drop 256).take 28) (by rw [List.length_take, List.length_take]; omega)
  rw [eb] at hcat
  refine Ev.bind hcat ?_
  have hb := body_bytes hl rP.1
  have h284 := body_len h256 hx
  have hs := seal_seal hb (by omega)
  have es : sealed (body l r.1) = (page l r.1, 0) := by unfold sealed; rw [if_neg (by omega)]; rfl
  rw [es] at hs
  have h288 := page_len h256 hx
  refine Ev.bind hs (Ev.iff_pos rfl (Ev.iff_pos (by show 4 ≤ (page l r.1).length; omega) (Ev.iff_pos (by show (page l r.1).length ≤ _; omega) ?_)))
  have e4 : splice (pg_of l r.1) 284 (((page l r.1).drop ((page l r.1).length - 4)).take 4) = page l r.1 := by
    rw [of_body h256 hx, h288]
    show splice (body l r.1 ++ [0, 0, 0, 0]) 284 ((List.drop 284 (body l r.1 ++ nb (zeros (body l r.1)))).take 4) = _
    rw [List.drop_left' h284, List.take_of_length_le (by show (nb _).length ≤ 4; simp [nb]), lay h284 _ (by simp [nb])]
    rfl
  show Ev (fun _ => some (splice (pg_of l r.1) 284 (((page l r.1).drop ((page l r.1).length - 4)).take 4), (0 : Int))) _
  rw [e4]
  exact Ev.now _
set_option maxHeartbeats 2000000 in
theorem idx_from (l : List Int) (hn : l.length ≤ 140737488355328) (d : Nat) : ∀ i : Nat, i + d = l.length → (∀ j, j < i → ∀ h : j < l.length, l[j] = 0) → ∃ r, Ev (fun k => slices_IndexFunc_byte_byte_39.l0 k l (l.length : Int) (i : Int)) r ∧ (r < 0 ↔ ∀ x ∈ l, x = 0) := by
  induction d with
  | zero =>
    intro i hi hg
    refine ⟨-1, Ev.step (f := fun _ => some (-1)) (fun k => ?_) (Ev.now _), ?_⟩
    · simp only [slices_IndexFunc_byte_byte_39.l0]
      rw [if_neg (by omega)]
    · constructor
      · intro _ x hx
        obtain ⟨j, hj, rfl⟩ := List.getElem_of_mem hx
        exact hg j (by omega) hj
      · intro _; decide
  | succ d ih =>
    intro i hi hg
    have hlt : i < l.length := by omega
    have hs := suc64 i l.length hlt hn
    by_cases h0 : l[i] = 0
    · obtain ⟨r, hr, hP⟩ := ih (i + 1) (by omega) (fun j hj h => by
        rcases Nat.lt_or_ge j i with h1 | h1
        · exact hg j h1 h
        · have : j = i := by omega
          subst this
          exact h0)
      refine ⟨r, Ev.step (fun k => by simp only [slices_IndexFunc_byte_byte_39.l0]; rfl) ?_, hP⟩
      rw [hs]
      refine Ev.iff_pos (by omega) (Ev.iff_pos (by omega) (Ev.iff_pos (by omega) (Ev.bindS (a := false) (fun _ => by rw [rd_nat l i hlt, h0]; rfl) (Ev.iff_neg (by decide) hr))))
    · refine ⟨(i : Int), Ev.step (fun k => by simp only [slices_IndexFunc_byte_byte_39.l0]; rfl) ?_, ?_⟩
      · exact Ev.iff_pos (by omega) (Ev.iff_pos (by omega) (Ev.iff_pos (by omega) (Ev.bindS (a := true) (fun _ => by rw [rd_nat l i hlt]; show some (l[i] != 0) = _; simp [h0]) (Ev.iff_pos rfl (Ev.now _)))))
      · constructor
        · intro h; omega
        · intro h; exact absurd (h _ (List.getElem_mem hlt)) h0
end Go.Proofs.Ytdohpjjggjehfaa.PgEv
end
