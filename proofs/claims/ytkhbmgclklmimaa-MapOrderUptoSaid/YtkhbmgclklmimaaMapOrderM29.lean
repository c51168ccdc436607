/- Texts of the proof of MapOrder, part 29. -/
import Derived.Test.YtkhbmgclklmimaaMapOrderM28
import Derived.Test.YtkhbmgclklmimaaMapOrderM20
section
namespace Go.Proofs.Ytkhbmgclklmimaa.MapEv
set_option linter.unusedVariables false
set_option linter.unusedSimpArgs false
open Go.RowKit Go.Proofs.Ytkhbmgclklmimaa.Print Go.Proofs.YtkhbmgclklmimaaW.PrintWords Go.Proofs.YtkhbmgclklmimaaW.PrintLast Go.Proofs.YtkhbmgclklmimaaW.PrintMore
structure Two (b1 : List Bool) (w1 : List Int) (s1 : Int) (b2 : List Bool) (w2 : List Int) (s2 : Int) : Prop where
  a : okS b1 w1 s1
  b : okS b2 w2 s2
  l : b1.length = b2.length
variable {b1 b2 b3 : List Bool} {w1 w2 w3 : List Int} {s1 s2 s3 : Int}
theorem Two.eq (h : Two b1 w1 s1 b2 w2 s2) : jn b1 w1 s1 b2 w2 s2 = (jb b1 b2, jw w1 w2, mx s1 s2, 0) := by
  unfold jn
  rw [if_pos ⟨h.a, h.b⟩, if_pos h.l]
theorem Two.of (h : (jn b1 w1 s1 b2 w2 s2).2.2.2 = 0) : Two b1 w1 s1 b2 w2 s2 := by
  unfold jn at h
  split at h
  · rename_i c
    split at h
    · rename_i e
      exact ⟨c.1, c.2, e⟩
    · exact absurd h (by decide)
  · exact absurd h (by decide)
theorem Two.lw (h : Two b1 w1 s1 b2 w2 s2) : w1.length = w2.length := by
  have := h.a.len
  have := h.b.len
  have := h.l
  omega
theorem Two.ok (h : Two b1 w1 s1 b2 w2 s2) : okS (jb b1 b2) (jw w1 w2) (mx s1 s2) := by
  obtain ⟨a1, a2, a3, a4⟩ := h.a
  obtain ⟨c1, c2, c3, c4⟩ := h.b
  have e1 := jb_len b1 b2 h.l
  have e2 := jw_len w1 w2 h.lw
  refine ⟨by rw [e1]; exact a1, by rw [e1, e2]; exact a2, seq_mx a3 c3, fun x hx => ?_⟩
  obtain ⟨i, hi, rfl⟩ := List.mem_iff_getElem.1 hx
  simp only [jw, List.getElem_zipWith]
  exact worn_mx (a4 _ (List.getElem_mem _)) (c4 _ (List.getElem_mem _))
set_option maxHeartbeats 2000000 in
theorem rpl_same (n : Int) (l l' : List S42) (h1 : ∀ x ∈ l, x ∈ l') (h2 : ∀ x ∈ l', x ∈ l) : rpl n l = rpl n l' := by
  unfold rpl
  split
  · have e1 := fold_same ap_comm ap_idem (l.flatMap (ops n.toNat)) (l'.flatMap (ops n.toNat)) (fun x hx => by
      obtain ⟨P, hP, hx⟩ := List.mem_flatMap.1 hx
      exact List.mem_flatMap.2 ⟨P, h1 P hP, hx⟩) (fun x hx => by
      obtain ⟨P, hP, hx⟩ := List.mem_flatMap.1 hx
      exact List.mem_flatMap.2 ⟨P, h2 P hP, hx⟩) (zero n.toNat)
    have e2 := fold_same gstep_comm gstep_idem l l' h1 h2 0
    rw [e1, e2]
  · rfl
theorem rpl_ok {n : Int} (h : sized n) (l : List S42) : okS (rpl n l).1 (rpl n l).2.1 (rpl n l).2.2.1 := by
  unfold rpl
  rw [if_pos h]
  refine fold_ok _ _ (zero_ok h) (fun r hr => ?_)
  obtain ⟨P, _, hx⟩ := List.mem_flatMap.1 hr
  exact ops_ok _ P r hx
set_option maxHeartbeats 2000000 in
theorem rpl_take {n : Int} (h : sized n) (l : List S42) (k : Nat) : (rpl n (l.take k)).2.2.2.1 ≤ (rpl n l).2.2.2.1 ∧ cv (rpl n l).1 (rpl n l).2.1 (rpl n l).2.2.1 (rpl n (l.take k)).1 (rpl n (l.take k)).2.1 (rpl n (l.take k)).2.2.1 := by
  have o1 := rpl_ok h l
  have o2 := rpl_ok h (l.take k)
  unfold rpl at o1 o2 ⊢
  simp only [if_pos h] at o1 o2 ⊢
  refine ⟨?_, ?_⟩
  · show (l.take k).foldl gstep 0 ≤ l.foldl gstep 0
    have e : l.foldl gstep 0 = (l.drop k).foldl gstep ((l.take k).foldl gstep 0) := by rw [← List.foldl_append, List.take_append_drop]
    rw [e]
    exact gens_le _ _
  · refine cv_of_le (p := (l.flatMap (ops n.toNat)).foldl ap (zero n.toNat)) (q := ((l.take k).flatMap (ops n.toNat)).foldl ap (zero n.toNat)) o1 o2 ?_
    have e : (l.flatMap (ops n.toNat)).foldl ap (zero n.toNat) = ((l.drop k).flatMap (ops n.toNat)).foldl ap (((l.take k).flatMap (ops n.toNat)).foldl ap (zero n.toNat)) := by
      rw [← List.foldl_append, ← List.flatMap_append, List.take_append_drop]
    rw [e]
    exact fold_le _ _
end Go.Proofs.Ytkhbmgclklmimaa.MapEv
end
