/- Texts of the proof of MapOrder, part 27. -/
import Derived.Test.YtkhbmgclklmimaaMapOrderM26
import Derived.Test.YtkhbmgclklmimaaMapOrderM20
section
namespace Go.Proofs.Ytkhbmgclklmimaa.MapEv
set_option linter.unusedVariables false
set_option linter.unusedSimpArgs false
open Go.RowKit Go.Proofs.Ytkhbmgclklmimaa.Print Go.Proofs.YtkhbmgclklmimaaW.PrintWords Go.Proofs.YtkhbmgclklmimaaW.PrintLast Go.Proofs.YtkhbmgclklmimaaW.PrintMore
section
variable {σ α : Type} {f : σ → α → σ}
theorem fold_step (hc : ∀ s x y, f (f s x) y = f (f s y) x) (l : List α) : ∀ s x, l.foldl f (f s x) = f (l.foldl f s) x := by
  induction l with
  | nil => intro s x; rfl
  | cons y l ih => intro s x; rw [List.foldl_cons, List.foldl_cons, hc s x y, ih]
theorem fold_has (hc : ∀ s x y, f (f s x) y = f (f s y) x) (hi : ∀ s x, f (f s x) x = f s x) : ∀ (l : List α) s x, x ∈ l → f (l.foldl f s) x = l.foldl f s := by
  intro l
  induction l with
  | nil => intro s x h; cases h
  | cons y l ih =>
    intro s x h
    rw [List.foldl_cons]
    rcases List.mem_cons.1 h with rfl | h
    · rw [← fold_step hc l (f s x) x, hi]
    · exact ih (f s y) x h
theorem fold_sub (hc : ∀ s x y, f (f s x) y = f (f s y) x) (hi : ∀ s x, f (f s x) x = f s x) (l2 : List α) : ∀ (l1 : List α) s, (∀ x ∈ l2, x ∈ l1) → l2.foldl f (l1.foldl f s) = l1.foldl f s := by
  induction l2 with
  | nil => intro l1 s h; rfl
  | cons y l2 ih => intro l1 s h; rw [List.foldl_cons, fold_has hc hi l1 s y (h y (List.mem_cons_self ..)), ih l1 s (fun x hx => h x (List.mem_cons_of_mem _ hx))]
theorem fold_swap (hc : ∀ s x y, f (f s x) y = f (f s y) x) (l1 l2 : List α) : ∀ s, l2.foldl f (l1.foldl f s) = l1.foldl f (l2.foldl f s) := by
  induction l2 with
  | nil => intro s; rfl
  | cons y l2 ih => intro s; rw [List.foldl_cons, List.foldl_cons, ← fold_step hc l1 s y, ih]
theorem fold_same (hc : ∀ s x y, f (f s x) y = f (f s y) x) (hi : ∀ s x, f (f s x) x = f s x) (l1 l2 : List α) (h12 : ∀ x ∈ l1, x ∈ l2) (h21 : ∀ x ∈ l2, x ∈ l1) (s : σ) : l1.foldl f s = l2.foldl f s := by
  have e1 := fold_sub hc hi l2 l1 s h21
  have e2 := fold_sub hc hi l1 l2 s h12
  rw [← e1, fold_swap hc, e2]
end
abbrev S3 := List Bool × List Int × Int
def ap (st : S3) (r : S55) : S3 := lrn st.1 st.2.1 st.2.2 r.f0 r.f1 r.f2
theorem mx_comm3 (a b c : Int) : mx (mx a b) c = mx (mx a c) b := by unfold mx; omega
theorem mx_idem (a b : Int) : mx (mx a b) b = mx a b := by unfold mx; omega
theorem rd_set (w : List Int) (i : Nat) (v : Int) (y : Int) : rd (w.set i v) y = if i = y.toNat ∧ i < w.length then v else rd w y := by
  unfold rd
  rw [List.getD_eq_getElem?_getD, List.getD_eq_getElem?_getD, List.getElem?_set]
  by_cases h : i = y.toNat
  · rw [if_pos h]
    by_cases h2 : i < w.length
    · rw [if_pos h2, if_pos ⟨h, h2⟩]; rfl
    · rw [if_neg h2, if_neg (fun c => h2 c.2), List.getElem?_eq_none (by omega)]
  · rw [if_neg h, if_neg (fun c => h c.1)]
set_option maxHeartbeats 2000000 in
theorem wm_comm (w : List Int) (y y' z z' : Int) : (w.set y.toNat (mx (rd w y) z)).set y'.toNat (mx (rd (w.set y.toNat (mx (rd w y) z)) y') z') = (w.set y'.toNat (mx (rd w y') z')).set y.toNat (mx (rd (w.set y'.toNat (mx (rd w y') z')) y) z) := by
  rw [rd_set, rd_set]
  by_cases h : y.toNat = y'.toNat
  · have e : rd w y = rd w y' := by unfold rd; rw [h]
    by_cases h2 : y.toNat < w.length
    · rw [if_pos ⟨h, h2⟩, if_pos ⟨h.symm, by omega⟩, ← h, List.set_set, List.set_set, e, mx_comm3]
    · rw [List.set_eq_of_length_le (by rw [List.length_set]; omega), List.set_eq_of_length_le (by omega), List.set_eq_of_length_le (by rw [List.length_set]; omega), List.set_eq_of_length_le (by omega)]
  · rw [if_neg (fun c => h c.1), if_neg (fun c => h c.1.symm)]
    exact List.set_comm _ _ h
theorem wm_idem (w : List Int) (y z : Int) : (w.set y.toNat (mx (rd w y) z)).set y.toNat (mx (rd (w.set y.toNat (mx (rd w y) z)) y) z) = w.set y.toNat (mx (rd w y) z) := by
  rw [rd_set]
  by_cases h2 : y.toNat < w.length
  · rw [if_pos ⟨rfl, h2⟩, List.set_set, mx_idem]
  · rw [List.set_eq_of_length_le (by rw [List.length_set]; omega)]
theorem bm_comm (b : List Bool) (i j : Nat) : (b.set i true).set j true = (b.set j true).set i true := by
  by_cases h : i = j
  · rw [h]
  · exact List.set_comm _ _ h
set_option maxHeartbeats 2000000 in
theorem ap_comm (st : S3) (x y : S55) : ap (ap st x) y = ap (ap st y) x := by
  unfold ap lrn
  by_cases a1 : x.f0 = 1
  · by_cases b1 : y.f0 = 1
    · simp only [if_pos a1, if_pos b1, bm_comm st.1 x.f1.toNat y.f1.toNat]
    · by_cases b2 : y.f0 = 2
      · simp only [if_pos a1, if_neg b1, if_pos b2]
      · simp only [if_pos a1, if_neg b1, if_neg b2]
  · by_cases a2 : x.f0 = 2
    · by_cases b1 : y.f0 = 1
      · simp only [if_neg a1, if_pos a2, if_pos b1]
      · by_cases b2 : y.f0 = 2
        · simp only [if_neg a1, if_pos a2, if_neg b1, if_pos b2]
          rw [wm_comm]
        · simp only [if_neg a1, if_pos a2, if_neg b1, if_neg b2]
    · by_cases b1 : y.f0 = 1
      · simp only [if_neg a1, if_neg a2, if_pos b1]
      · by_cases b2 : y.f0 = 2
        · simp only [if_neg a1, if_neg a2, if_neg b1, if_pos b2]
        · simp only [if_neg a1, if_neg a2, if_neg b1, if_neg b2, mx_comm3 st.2.2 x.f2 y.f2]
theorem ap_idem (st : S3) (x : S55) : ap (ap st x) x = ap st x := by
  unfold ap lrn
  by_cases a1 : x.f0 = 1
  · simp only [if_pos a1, List.set_set]
  · by_cases a2 : x.f0 = 2
    · simp only [if_neg a1, if_pos a2, wm_idem]
    · simp only [if_neg a1, if_neg a2, mx_idem]
theorem ap_len (st : S3) (x : S55) : (ap st x).1.length = st.1.length ∧ (ap st x).2.1.length = st.2.1.length := lrn_len _ _ _ _ _ _
structure Le (p q : S3) : Prop where
  lb : p.1.length = q.1.length
  lw : p.2.1.length = q.2.1.length
  b : ∀ i, p.1.getD i false = true → q.1.getD i false = true
  w : ∀ i, p.2.1.getD i 0 ≤ q.2.1.getD i 0
  s : p.2.2 ≤ q.2.2
theorem Le.refl (p : S3) : Le p p := ⟨rfl, rfl, fun _ h => h, fun _ => Int.le_refl _, Int.le_refl _⟩
theorem Le.trans {p q r : S3} (h : Le p q) (k : Le q r) : Le p r := ⟨h.lb.trans k.lb, h.lw.trans k.lw, fun i x => k.b i (h.b i x), fun i => Int.le_trans (h.w i) (k.w i), Int.le_trans h.s k.s⟩
theorem getD_set {α : Type} (l : List α) (i j : Nat) (v d : α) : (l.set i v).getD j d = if i = j ∧ i < l.length then v else l.getD j d := by
  rw [List.getD_eq_getElem?_getD, List.getD_eq_getElem?_getD, List.getElem?_set]
  by_cases h : i = j
  · rw [if_pos h]
    by_cases h2 : i < l.length
    · rw [if_pos h2, if_pos ⟨h, h2⟩]; rfl
    · rw [if_neg h2, if_neg (fun c => h2 c.2), List.getElem?_eq_none (by omega)]
  · rw [if_neg h, if_neg (fun c => h c.1)]
theorem le_mx (a b : Int) : a ≤ mx a b := by unfold mx; omega
set_option maxHeartbeats 2000000 in
theorem ap_le (st : S3) (x : S55) : Le st (ap st x) := by
  have hl := ap_len st x
  refine ⟨hl.1.symm, hl.2.symm, fun i h => ?_, fun i => ?_, ?_⟩
  · unfold ap lrn
    by_cases a1 : x.f0 = 1
    · simp only [if_pos a1]
      rw [getD_set]
      split
      · rfl
      · exact h
    · by_cases a2 : x.f0 = 2
      · simp only [if_neg a1, if_pos a2]; exact h
      · simp only [if_neg a1, if_neg a2]; exact h
  · unfold ap lrn
    by_cases a1 : x.f0 = 1
    · simp only [if_pos a1]; exact Int.le_refl _
    · by_cases a2 : x.f0 = 2
      · simp only [if_neg a1, if_pos a2]
        rw [getD_set]
        split
        · rename_i c
          rw [← c.1]
          exact le_mx _ _
        · exact Int.le_refl _
      · simp only [if_neg a1, if_neg a2]; exact Int.le_refl _
  · unfold ap lrn
    by_cases a1 : x.f0 = 1
    · simp only [if_pos a1]; exact Int.le_refl _
    · by_cases a2 : x.f0 = 2
      · simp only [if_neg a1, if_pos a2]; exact Int.le_refl _
      · simp only [if_neg a1, if_neg a2]; exact le_mx _ _
theorem fold_le (l : List S55) : ∀ st : S3, Le st (l.foldl ap st) := by
  induction l with
  | nil => intro st; exact Le.refl _
  | cons x l ih => intro st; rw [List.foldl_cons]; exact (ap_le st x).trans (ih _)
set_option maxHeartbeats 2000000 in
theorem jb_of_le {p q : List Bool} (hl : p.length = q.length) (h : ∀ i, q.getD i false = true → p.getD i false = true) : jb p q = p := by
  apply List.ext_getElem
  · rw [jb_len _ _ hl]
  · intro i h1 h2
    have h3 : i < q.length := by omega
    have := h i
    rw [List.getD_eq_getElem?_getD, List.getD_eq_getElem?_getD, List.getElem?_eq_getElem h2, List.getElem?_eq_getElem h3] at this
    simp only [Option.getD_some] at this
    simp only [jb, List.getElem_zipWith]
    cases hp : p[i] <;> cases hq : q[i] <;> simp_all
theorem jw_of_le {p q : List Int} (hl : p.length = q.length) (h : ∀ i, q.getD i 0 ≤ p.getD i 0) : jw p q = p := by
  apply List.ext_getElem
  · rw [jw_len _ _ hl]
  · intro i h1 h2
    have h3 : i < q.length := by omega
    have := h i
    rw [List.getD_eq_getElem?_getD, List.getD_eq_getElem?_getD, List.getElem?_eq_getElem h2, List.getElem?_eq_getElem h3] at this
    simp only [Option.getD_some] at this
    simp only [jw, List.getElem_zipWith]
    unfold mx
    omega
theorem cv_of_le {p q : S3} (hp : okS p.1 p.2.1 p.2.2) (hq : okS q.1 q.2.1 q.2.2) (h : Le q p) : cv p.1 p.2.1 p.2.2 q.1 q.2.1 q.2.2 := by
  have e : jn p.1 p.2.1 p.2.2 q.1 q.2.1 q.2.2 = (p.1, p.2.1, p.2.2, 0) := by
    unfold jn
    rw [if_pos ⟨hp, hq⟩, if_pos h.lb.symm, jb_of_le h.lb.symm h.b, jw_of_le h.lw.symm h.w, show mx p.2.2 q.2.2 = p.2.2 by have := h.s; unfold mx; omega]
  unfold cv
  rw [e]
  exact ⟨rfl, rfl, rfl, rfl⟩
end Go.Proofs.Ytkhbmgclklmimaa.MapEv
end
