/- Texts of the proof of InodeOwn, part 31. -/
import Derived.Test.YtjoojmodghpimaaInodeOwnM30
import Derived.Test.YtjoojmodghpimaaInodeOwnM19
import Derived.Test.YtjoojmodghpimaaInodeOwnM20
section
namespace Go.Proofs.Ytjoojmodghpimaa.Pure
set_option linter.unusedVariables false
set_option linter.unusedSimpArgs false
open Go.RowKit Go.Proofs.Ytjoojmodghpimaa.Print Go.Proofs.Ytjoojmodghpimaa.SMath Go.Proofs.Ytjoojmodghpimaa.SealEv Go.Proofs.Ytjoojmodghpimaa.InoEv Go.Proofs.Ytjoojmodghpimaa.PackEv Go.Proofs.YtjoojmodghpimaaW.PrintWords Go.Proofs.YtjoojmodghpimaaW.PrintLast Go.Proofs.YtjoojmodghpimaaW.PrintMore
theorem live_enc : Ev (fun k => inode_Encode.f k 1 1 5 0 0 0 [(⟨0, 1, 30⟩ : S51)]) ([1, 0, 1, 0, 0, 0, 0, 1, 0, 0, 0, 0, 0, 0, 0, 5, 0, 0, 0, 0, 0, 0, 0, 0, 0, 0, 0, 0, 1, 0, 0, 0, 30] ++ List.replicate 31 0, 0) :=
  Ev.of (inode_Encode.mono _ _ _ _ _ _ _) (k := 400) (by decide +kernel)
theorem live_ev : Ev (fun k => slipwaylaw14_live.f k) true := by
  unfold slipwaylaw14_live.f
  refine Ev.bind live_enc (Ev.iff_pos rfl (Ev.iff_pos (by decide) (Ev.iff_pos (by decide) (Ev.bindS (fun _ => bytes_equal ?_ ?_) ?_))))
  · unfold Bytes Byte; decide
  · unfold Bytes Byte; decide
  · exact Ev.now _
def seg (l : List Int) (i : Nat) : List Int := (l.take (i * 64 + 64)).drop (i * 64)
theorem seg_get (l : List Int) (i j : Nat) : (seg l i)[j]? = if j < 64 then l[i * 64 + j]? else none := by
  unfold seg
  rw [List.getElem?_drop, List.getElem?_take]
  by_cases h : j < 64
  · rw [if_pos h, if_pos (by omega)]
  · rw [if_neg h, if_neg (by omega)]
theorem seg_bytes {l : List Int} (h : Bytes l) (i : Nat) : Bytes (seg l i) := bytes_drop (bytes_take h _) _
set_option maxHeartbeats 2000000 in
theorem put_get (l e : List Int) (s m : Nat) (hl : l.length = 256) (he : e.length = 64) (hs : s < 4) (h : m < s * 64 ∨ s * 64 + 64 ≤ m) : (l.take (s * 64) ++ e ++ l.drop (s * 64 + 64))[m]? = l[m]? := by
  rcases h with h | h
  · rw [List.append_assoc, List.getElem?_append_left (by rw [List.length_take]; omega), List.getElem?_take, if_pos h]
  · rw [List.getElem?_append_right (by rw [List.length_append, List.length_take]; omega), List.getElem?_drop, List.length_append, List.length_take]
    congr 1
    omega
theorem put_len (l e : List Int) (s : Nat) (hl : l.length = 256) (he : e.length = 64) (hs : s < 4) : (l.take (s * 64) ++ e ++ l.drop (s * 64 + 64)).length = 256 := by
  rw [List.length_append, List.length_append, List.length_take, List.length_drop]; omega
theorem put_other (l e : List Int) (s i : Nat) (hl : l.length = 256) (he : e.length = 64) (hs : s < 4) (h : i ≠ s) : seg (l.take (s * 64) ++ e ++ l.drop (s * 64 + 64)) i = seg l i := by
  apply List.ext_getElem?
  intro j
  rw [seg_get, seg_get]
  by_cases hj : j < 64
  · rw [if_pos hj, if_pos hj, put_get l e s _ hl he hs (by omega)]
  · rw [if_neg hj, if_neg hj]
theorem put_same (l e : List Int) (s : Nat) (hl : l.length = 256) (he : e.length = 64) (hs : s < 4) : seg (l.take (s * 64) ++ e ++ l.drop (s * 64 + 64)) s = e := by
  unfold seg
  rw [List.take_left' (by rw [List.length_append, List.length_take]; omega), List.drop_left' (by rw [List.length_take]; omega)]
theorem get_ev {l : List Int} (hl : l.length = 256) {i : Nat} (hi : i < 4) {v : Int × Int × Int × Int × Int × Int × List S51 × Int} (h : Ev (fun k => inode_Decode.f k (seg l i)) v) : Ev (fun k => inode_Get.f k l (i : Int)) v := by
  unfold inode_Get.f
  rw [Int.toNat_natCast]
  exact Ev.iff_pos ⟨hl, by omega, by omega⟩ h
theorem nx {i : Nat} (h : i < 4) : wrap64 ((i : Int) + 1) = ((i + 1 : Nat) : Int) := by unfold wrap64; omega
set_option maxHeartbeats 2000000 in
theorem own_from (l e : List Int) (s : Nat) (hb : Bytes l) (hl : l.length = 256) (he : e.length = 64) (hs : s < 4) (a0 a1 a2 a3 a4 a5 : Int) (r : List S51) (hr : r.length ≤ 140737488355328) (hE : Ev (fun k => inode_Encode.f k a0 a1 a2 a3 a4 a5 r) (e, 0)) (d : Nat) : ∀ i : Nat, i + d = 4 →
    Ev (fun k => slipwaylaw14_InodeOwn.l0 k l (s : Int) (l.take (s * 64) ++ e ++ l.drop (s * 64 + 64)) (i : Int) a0 a1 a2 a3 a4 a5 r) true := by
  have hp := put_len l e s hl he hs
  induction d with
  | zero =>
    intro i hi
    refine Ev.step (f := fun _ => some true) (fun k => ?_) (Ev.now _)
    simp only [slipwaylaw14_InodeOwn.l0]
    rw [if_neg (by omega), hp, hl]
    rfl
  | succ d ih =>
    intro i hi
    have hi4 : i < 4 := by omega
    have next := ih (i + 1) (by omega)
    obtain ⟨v, hv, _, _, hv4⟩ := dec_ev (seg l i) (seg_bytes hb i) (by unfold seg; rw [List.length_drop, List.length_take]; omega)
    refine Ev.step (fun k => by simp only [slipwaylaw14_InodeOwn.l0]; rfl) ?_
    rw [nx hi4]
    refine Ev.iff_pos (by omega) (Ev.bind (get_ev hl hi4 hv) ?_)
    by_cases h : i = s
    · subst h
      refine Ev.bind (get_ev hp hi4 (by rw [put_same l e i hl he hs]; exact dec_enc hE)) (Ev.iff_pos rfl (Ev.iff_pos rfl (Ev.bind (same_self _ _ _ _ _ _ _ hr) (Ev.iff_pos rfl next))))
    · refine Ev.bind (get_ev hp hi4 (by rw [put_other l e s i hl he hs h]; exact hv)) (Ev.iff_neg (by omega) (Ev.iff_pos rfl (Ev.bind (same_self _ _ _ _ _ _ _ (by omega)) (Ev.iff_pos rfl next))))
set_option maxHeartbeats 2000000 in
theorem InodeOwn : slipwaylaw14_InodeOwn.Pure := by
  intro x s a0 a1 a2 a3 a4 a5 l hx _ _ _ _ _ _ _ hl
  refine Ev.rounds ?_
  have hx8 : Bytes x := bytes_of_wf hx.2.2
  have hxn : x.length < 140737488355328 := by have := hx.2.1; omega
  have hln : l.length ≤ 140737488355328 := by have := hl.2.1; omega
  unfold slipwaylaw14_InodeOwn.f
  refine Ev.bind live_ev (Ev.iff_pos rfl ?_)
  obtain ⟨r, hr, rR, r64⟩ := enc_ev a0 a1 a2 a3 a4 a5 l
  have hclone : slices_Clone_byte_byte.f x = some x := by
    unfold slices_Clone_byte_byte.f
    rw [Option.bind_some, if_pos (by simp; omega), List.nil_append]
  by_cases hok : inode_slotOf.ok x s
  rotate_left
  · refine Ev.bind (a := (([] : List Int), (1 : Int))) ?_ (Ev.iff_neg (by decide) (Ev.now _))
    unfold inode_Put.f
    exact Ev.bindS (fun _ => hclone) (Ev.iff_pos rfl (Ev.iff_neg hok (Ev.now _)))
  have hput : ∀ {v : List Int × Int}, Ev (fun _ : Nat => if r.2 = 0 then (if r.1.length = 64 then some (x.take (s.toNat * 64) ++ r.1 ++ x.drop (s.toNat * 64 + 64), (0 : Int)) else none) else some ([], r.2)) v → Ev (fun k => inode_Put.f k x s a0 a1 a2 a3 a4 a5 l) v := fun h => by
    unfold inode_Put.f
    exact Ev.bindS (fun _ => hclone) (Ev.iff_pos rfl (Ev.iff_pos hok (Ev.bind hr h)))
  by_cases h0 : r.2 = 0
  · obtain ⟨h256, hs0, hs4⟩ := hok
    obtain ⟨s, rfl⟩ := Int.eq_ofNat_of_zero_le hs0
    have h64 := (rR h0).2.1
    have e : r = (r.1, 0) := by rw [← h0]
    rw [Int.toNat_natCast] at hput
    refine Ev.bind (hput (Ev.iff_pos h0 (Ev.iff_pos h64 (Ev.now _)))) (Ev.iff_pos rfl ?_)
    exact own_from x r.1 s hx8 h256 h64 (by omega) a0 a1 a2 a3 a4 a5 l hln (e ▸ hr) 4 0 (by omega)
  · exact Ev.bind (hput (Ev.iff_neg h0 (Ev.now _))) (Ev.iff_neg h0 (Ev.now _))
end Go.Proofs.Ytjoojmodghpimaa.Pure
end
