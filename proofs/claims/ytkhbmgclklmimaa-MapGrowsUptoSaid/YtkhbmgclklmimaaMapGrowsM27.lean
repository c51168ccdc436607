/- Texts of the proof of MapGrows, part 27. -/
import Derived.Test.YtkhbmgclklmimaaMapGrowsM26
import Derived.Test.YtkhbmgclklmimaaMapGrowsM17
section
namespace Go.Proofs.Ytkhbmgclklmimaa.MapEv
set_option linter.unusedVariables false
set_option linter.unusedSimpArgs false
open Go.RowKit Go.Proofs.Ytkhbmgclklmimaa.Print Go.Proofs.YtkhbmgclklmimaaW.PrintWords Go.Proofs.YtkhbmgclklmimaaW.PrintLast Go.Proofs.YtkhbmgclklmimaaW.PrintMore
theorem mx_comm (a b : Int) : mx a b = mx b a := by unfold mx; omega
theorem mx_assoc (a b c : Int) : mx (mx a b) c = mx a (mx b c) := by unfold mx; omega
theorem mx_l (a b : Int) : mx (mx a b) a = mx a b := by unfold mx; omega
theorem jb_comm (a b : List Bool) : jb a b = jb b a := by
  apply List.ext_getElem
  · simp [jb, Nat.min_comm]
  · intro i h1 h2
    simp only [jb, List.getElem_zipWith]
    exact Bool.or_comm _ _
theorem jw_comm (a b : List Int) : jw a b = jw b a := by
  apply List.ext_getElem
  · simp [jw, Nat.min_comm]
  · intro i h1 h2
    simp only [jw, List.getElem_zipWith]
    exact mx_comm _ _
theorem jb_assoc (a b c : List Bool) : jb (jb a b) c = jb a (jb b c) := by
  apply List.ext_getElem
  · simp [jb, Nat.min_assoc]
  · intro i h1 h2
    simp [jb, Bool.or_assoc]
theorem jw_assoc (a b c : List Int) : jw (jw a b) c = jw a (jw b c) := by
  apply List.ext_getElem
  · simp [jw, Nat.min_assoc]
  · intro i h1 h2
    simp only [jw, List.getElem_zipWith]
    exact mx_assoc _ _ _
theorem jb_l (a b : List Bool) (h : a.length = b.length) : jb (jb a b) a = jb a b := by
  apply List.ext_getElem
  · simp [jb, h]
  · intro i h1 h2
    simp only [jb, List.getElem_zipWith]
    cases a[i]'(by simp [jb] at h2; omega) <;> simp
theorem jw_l (a b : List Int) (h : a.length = b.length) : jw (jw a b) a = jw a b := by
  apply List.ext_getElem
  · simp [jw, h]
  · intro i h1 h2
    simp only [jw, List.getElem_zipWith]
    exact mx_l _ _
set_option maxHeartbeats 2000000 in
theorem jn_comm (b1 : List Bool) (w1 : List Int) (s1 : Int) (b2 : List Bool) (w2 : List Int) (s2 : Int) : jn b1 w1 s1 b2 w2 s2 = jn b2 w2 s2 b1 w1 s1 := by
  unfold jn
  by_cases c : okS b1 w1 s1 ∧ okS b2 w2 s2
  · rw [if_pos c, if_pos (show okS b2 w2 s2 ∧ okS b1 w1 s1 from ⟨c.2, c.1⟩)]
    by_cases h : b1.length = b2.length
    · rw [if_pos h, if_pos h.symm, jb_comm b1, jw_comm w1, mx_comm s1]
    · rw [if_neg h, if_neg (show ¬ b2.length = b1.length from fun e => h e.symm)]
  · rw [if_neg c, if_neg (show ¬ (okS b2 w2 s2 ∧ okS b1 w1 s1) from fun e => c ⟨e.2, e.1⟩)]
structure Two (b1 : List Bool) (w1 : List Int) (s1 : Int) (b2 : List Bool) (w2 : List Int) (s2 : Int) : Prop where
  a : okS b1 w1 s1
  b : okS b2 w2 s2
  l : b1.length = b2.length
variable {b1 b2 b3 : List Bool} {w1 w2 w3 : List Int} {s1 s2 s3 : Int}
theorem Two.eq (h : Two b1 w1 s1 b2 w2 s2) : jn b1 w1 s1 b2 w2 s2 = (jb b1 b2, jw w1 w2, mx s1 s2, 0) := by
  unfold jn
  rw [if_pos ⟨h.a, h.b⟩, if_pos h.l]
theorem Two.of (h : (jn b1 w1 s1 b2 w2 s2).2.2.2 = 0) : Two b1 w1 s1 b2 w2 s2 := by
  unfold jn at h
  split at h
  · rename_i c
    split at h
    · rename_i e
      exact ⟨c.1, c.2, e⟩
    · exact absurd h (by decide)
  · exact absurd h (by decide)
theorem Two.lw (h : Two b1 w1 s1 b2 w2 s2) : w1.length = w2.length := by
  have := h.a.len
  have := h.b.len
  have := h.l
  omega
theorem Two.ok (h : Two b1 w1 s1 b2 w2 s2) : okS (jb b1 b2) (jw w1 w2) (mx s1 s2) := by
  obtain ⟨a1, a2, a3, a4⟩ := h.a
  obtain ⟨c1, c2, c3, c4⟩ := h.b
  have e1 := jb_len b1 b2 h.l
  have e2 := jw_len w1 w2 h.lw
  refine ⟨by rw [e1]; exact a1, by rw [e1, e2]; exact a2, seq_mx a3 c3, fun x hx => ?_⟩
  obtain ⟨i, hi, rfl⟩ := List.mem_iff_getElem.1 hx
  simp only [jw, List.getElem_zipWith]
  exact worn_mx (a4 _ (List.getElem_mem _)) (c4 _ (List.getElem_mem _))
theorem Two.swap (h : Two b1 w1 s1 b2 w2 s2) : Two b2 w2 s2 b1 w1 s1 := ⟨h.b, h.a, h.l.symm⟩
theorem Two.again (h : Two b1 w1 s1 b2 w2 s2) : Two (jb b1 b2) (jw w1 w2) (mx s1 s2) b1 w1 s1 := ⟨h.ok, h.a, jb_len b1 b2 h.l⟩
theorem Two.again_eq (h : Two b1 w1 s1 b2 w2 s2) : jn (jb b1 b2) (jw w1 w2) (mx s1 s2) b1 w1 s1 = (jb b1 b2, jw w1 w2, mx s1 s2, 0) := by
  rw [h.again.eq, jb_l b1 b2 h.l, jw_l w1 w2 h.lw, mx_l]
theorem Two.cov1 (h : Two b1 w1 s1 b2 w2 s2) : cv (jb b1 b2) (jw w1 w2) (mx s1 s2) b1 w1 s1 := by
  unfold cv
  rw [h.again_eq]
  exact ⟨rfl, rfl, rfl, rfl⟩
theorem Two.cov2 (h : Two b1 w1 s1 b2 w2 s2) : cv (jb b1 b2) (jw w1 w2) (mx s1 s2) b2 w2 s2 := by
  rw [jb_comm b1, jw_comm w1, mx_comm s1]
  exact h.swap.cov1
theorem Two.three (h : Two b1 w1 s1 b2 w2 s2) (k : Two b2 w2 s2 b3 w3 s3) : Two (jb b1 b2) (jw w1 w2) (mx s1 s2) b3 w3 s3 := ⟨h.ok, k.b, (jb_len b1 b2 h.l).trans (h.l.trans k.l)⟩
theorem Two.three' (h : Two b1 w1 s1 b2 w2 s2) (k : Two b2 w2 s2 b3 w3 s3) : Two b1 w1 s1 (jb b2 b3) (jw w2 w3) (mx s2 s3) := ⟨h.a, k.ok, h.l.trans (jb_len b2 b3 k.l).symm⟩
theorem Two.assoc (h : Two b1 w1 s1 b2 w2 s2) (k : Two b2 w2 s2 b3 w3 s3) : jn (jb b1 b2) (jw w1 w2) (mx s1 s2) b3 w3 s3 = jn b1 w1 s1 (jb b2 b3) (jw w2 w3) (mx s2 s3) := by
  rw [(h.three k).eq, (h.three' k).eq, jb_assoc, jw_assoc, mx_assoc]
theorem apl_same (b : List Bool) (w : List Int) (s : Int) (l l' : List S55) (h1 : ∀ x ∈ l, x ∈ l') (h2 : ∀ x ∈ l', x ∈ l) : apl b w s l = apl b w s l' := by
  unfold apl
  split
  · by_cases c : okL b.length l
    · rw [if_pos c, if_pos (show okL b.length l' from fun x hx => c x (h2 x hx)), fold_same ap_comm ap_idem l l' h1 h2]
    · rw [if_neg c, if_neg (show ¬ okL b.length l' from fun k => c (fun x hx => k x (h1 x hx)))]
  · rfl
set_option maxHeartbeats 2000000 in
theorem apl_cov {b : List Bool} {w : List Int} {s : Int} {l : List S55} (h : (apl b w s l).2.2.2 = 0) : cv (apl b w s l).1 (apl b w s l).2.1 (apl b w s l).2.2.1 b w s := by
  unfold apl at h ⊢
  by_cases c : okS b w s
  · rw [if_pos c] at h ⊢
    by_cases o : okL b.length l
    · rw [if_pos o]
      exact cv_of_le (p := l.foldl ap (b, w, s)) (q := (b, w, s)) (fold_ok l (b, w, s) c (fun x hx => okO_of (o x hx).1)) c (fold_le l (b, w, s))
    · rw [if_neg o] at h
      exact absurd h (by decide)
  · rw [if_neg c] at h
    exact absurd h (by decide)
theorem apl_ok {b : List Bool} {w : List Int} {s : Int} {l : List S55} (h : (apl b w s l).2.2.2 = 0) : okS b w s ∧ okS (apl b w s l).1 (apl b w s l).2.1 (apl b w s l).2.2.1 := by
  unfold apl at h ⊢
  by_cases c : okS b w s
  · rw [if_pos c] at h ⊢
    by_cases o : okL b.length l
    · rw [if_pos o]
      exact ⟨c, fold_ok l (b, w, s) c (fun x hx => okO_of (o x hx).1)⟩
    · rw [if_neg o] at h
      exact absurd h (by decide)
  · rw [if_neg c] at h
    exact absurd h (by decide)
end Go.Proofs.Ytkhbmgclklmimaa.MapEv
end
