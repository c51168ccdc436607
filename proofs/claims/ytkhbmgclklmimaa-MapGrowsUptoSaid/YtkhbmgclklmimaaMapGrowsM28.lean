/- Texts of the proof of MapGrows, part 28. -/
import Derived.Test.YtkhbmgclklmimaaMapGrowsM20
import Derived.Test.YtkhbmgclklmimaaMapGrowsM17
import Derived.Test.YtkhbmgclklmimaaMapGrowsM18
section
namespace Go.Proofs.Ytkhbmgclklmimaa.MapEv
set_option linter.unusedVariables false
set_option linter.unusedSimpArgs false
open Go.RowKit Go.Proofs.Ytkhbmgclklmimaa.Print Go.Proofs.YtkhbmgclklmimaaW.PrintWords Go.Proofs.YtkhbmgclklmimaaW.PrintLast Go.Proofs.YtkhbmgclklmimaaW.PrintMore
theorem rclo_f (l : List S55) (hn : l.length ≤ 2097152) : api_MapRecord_36.f l = some l := by
  unfold api_MapRecord_36.f
  simp only [Option.bind_some, List.length_nil, List.nil_append]
  rw [if_pos (by omega)]
def swp {α : Type} (z : α) (l : List α) (i j : Nat) : List α := (l.set i (l.getD j z)).set j (l.getD i z)
def part {α : Type} (l : List α) (i : Nat) : List α := l.reverse.take i ++ (l.drop i).take (l.length - 2 * i) ++ l.reverse.drop (l.length - i)
set_option maxHeartbeats 2000000 in
theorem part_get {α : Type} (l : List α) (i q : Nat) (hi : 2 * i ≤ l.length) : (part l i)[q]? = if q < i ∨ l.length ≤ q + i then l.reverse[q]? else l[q]? := by
  unfold part
  have h1 : (l.reverse.take i).length = i := by rw [List.length_take, List.length_reverse]; omega
  have h2 : ((l.drop i).take (l.length - 2 * i)).length = l.length - 2 * i := by rw [List.length_take, List.length_drop]; omega
  rw [List.append_assoc]
  by_cases hq : q < i
  · rw [if_pos (.inl hq), List.getElem?_append_left (by omega), List.getElem?_take, if_pos hq]
  · rw [List.getElem?_append_right (by omega), h1]
    by_cases hq2 : l.length ≤ q + i
    · rw [if_pos (.inr hq2), List.getElem?_append_right (by omega), h2, List.getElem?_drop]
      congr 1
      omega
    · rw [if_neg (by omega), List.getElem?_append_left (by omega), List.getElem?_take, if_pos (by omega), List.getElem?_drop]
      congr 1
      omega
set_option maxHeartbeats 2000000 in
theorem part_step {α : Type} (z : α) (l : List α) (i : Nat) (hi : 2 * i + 1 < l.length) : swp z (part l i) i (l.length - 1 - i) = part l (i + 1) := by
  have hlen : (part l i).length = l.length := by
    unfold part
    rw [List.length_append, List.length_append, List.length_take, List.length_reverse, List.length_take, List.length_drop, List.length_drop, List.length_reverse]
    omega
  have g : ∀ q, q < l.length → (part l i).getD q z = if q < i ∨ l.length ≤ q + i then l.reverse.getD q z else l.getD q z := fun q hq => by
    rw [List.getD_eq_getElem?_getD, part_get l i q (by omega)]
    split
    · rw [List.getD_eq_getElem?_getD]
    · rw [List.getD_eq_getElem?_getD]
  have rv : ∀ q, q < l.length → l.reverse[q]? = l[l.length - 1 - q]? := fun q hq => List.getElem?_reverse hq
  apply List.ext_getElem?
  intro q
  unfold swp
  rw [part_get l (i + 1) q (by omega), List.getElem?_set, List.getElem?_set, List.length_set, hlen]
  have e1 : (part l i).getD (l.length - 1 - i) z = l.getD (l.length - 1 - i) z := by rw [g _ (by omega), if_neg (by omega)]
  have e2 : (part l i).getD i z = l.getD i z := by rw [g _ (by omega), if_neg (by omega)]
  have get : ∀ x, x < l.length → some (l.getD x z) = l[x]? := fun x hx => by rw [List.getD_eq_getElem?_getD, List.getElem?_eq_getElem hx]; rfl
  by_cases h1 : l.length - 1 - i = q
  · rw [if_pos h1, if_pos (by omega), e2, if_pos (by omega), rv q (by omega), get i (by omega)]
    congr 1
    omega
  · rw [if_neg h1]
    by_cases h2 : i = q
    · rw [if_pos h2, if_pos (by omega), e1, if_pos (by omega), rv q (by omega), get _ (by omega)]
      congr 1
      omega
    · rw [if_neg h2, part_get l i q (by omega)]
      by_cases h3 : q < i ∨ l.length ≤ q + i
      · rw [if_pos h3, if_pos (by omega)]
      · rw [if_neg h3, if_neg (by omega)]
theorem part_end {α : Type} (l : List α) (i : Nat) (hi : l.length ≤ 2 * i + 1) (h2 : 2 * i ≤ l.length) : part l i = l.reverse := by
  apply List.ext_getElem?
  intro q
  rw [part_get l i q h2]
  split
  · rfl
  · rename_i h
    have hq : q = i := by omega
    subst hq
    rw [List.getElem?_reverse (by omega)]
    congr 1
    omega
theorem part_zero {α : Type} (l : List α) : part l 0 = l := by
  unfold part
  simp
set_option maxHeartbeats 2000000 in
theorem rrev_from (l : List S55) (hn : l.length ≤ 2097152) (d : Nat) : ∀ i : Nat, 2 * i ≤ l.length → l.length - 2 * i ≤ d → Ev (fun k => api_MapRecord_37.l0 k (part l i) (i : Int) ((l.length : Int) - 1 - i)) l.reverse := by
  induction d with
  | zero =>
    intro i h1 h2
    refine Ev.step (fun _ => rfl) (Ev.iff_neg (by omega) ?_)
    rw [part_end l i (by omega) h1]
    exact Ev.now _
  | succ d ih =>
    intro i h1 h2
    by_cases h : 2 * i + 1 < l.length
    · have hlen : (part l i).length = l.length := by
        unfold part
        rw [List.length_append, List.length_append, List.length_take, List.length_reverse, List.length_take, List.length_drop, List.length_drop, List.length_reverse]
        omega
      refine Ev.step (fun _ => rfl) (Ev.iff_pos (by omega) (Ev.iff_pos (by omega) (Ev.iff_pos (by rw [hlen]; omega) (Ev.iff_pos (by omega) (Ev.iff_pos (by rw [hlen]; omega) ?_)))))
      have hs := part_step z55 l i h
      unfold swp at hs
      have e1 : ((i : Int)).toNat = i := Int.toNat_natCast i
      have e2 : ((l.length : Int) - 1 - i).toNat = l.length - 1 - i := by omega
      have e3 : ∀ x : S55, (⟨x.f0, x.f1, x.f2⟩ : S55) = x := fun _ => rfl
      have hr := ih (i + 1) (by omega) (by omega)
      rw [e3, e3]
      unfold rd_T55
      rw [e1, e2, hs, w64 (n := (i : Int) + 1) (by omega) (by omega), w64 (n := (l.length : Int) - 1 - i - 1) (by omega) (by omega)]
      have e4 : (l.length : Int) - 1 - i - 1 = (l.length : Int) - 1 - ((i + 1 : Nat) : Int) := by omega
      rw [e4]
      exact hr
    · refine Ev.step (fun _ => rfl) (Ev.iff_neg (by omega) ?_)
      rw [part_end l i (by omega) h1]
      exact Ev.now _
theorem rrev_ev (l : List S55) (hn : l.length ≤ 2097152) : Ev (fun k => api_MapRecord_37.f k l) l.reverse := by
  have h := rrev_from l hn l.length 0 (by omega) (by omega)
  unfold api_MapRecord_37.f
  rw [part_zero] at h
  rw [w64 (n := (l.length : Int) - 1) (by omega) (by omega)]
  have e : (l.length : Int) - 1 - ((0 : Nat) : Int) = (l.length : Int) - 1 := by omega
  rw [e] at h
  exact h
theorem rgrow (n : Int) (h0 : 0 ≤ n) (h1 : n ≤ 4194304) : api_MapRecord_71.f [] n = some [] := by
  unfold api_MapRecord_71.f
  rw [w64 (n := n) (by omega) (by omega), if_neg (by omega)]
  by_cases h : n > 0
  · rw [if_pos h, if_pos h0, if_pos (by simp only [List.length_nil]; omega)]
    simp only [Option.bind_some]
    rw [if_pos (by omega)]
    rfl
  · rw [if_neg h]
set_option maxHeartbeats 2000000 in
theorem rcat (a b : List S55) (ha : a.length ≤ 2097152) (hb : b.length ≤ 2097152) : Ev (fun k => api_MapRecord_38.f k [a, b]) (a ++ b) := by
  refine Ev.of (fun k => api_MapRecord_38.mono _ k) (k := 7) ?_
  have g0 := rgrow ((a.length : Int) + b.length) (by omega) (by omega)
  have e0 : rd_L5 [a, b] 0 = a := rfl
  have e1 : rd_L5 [a, b] 1 = b := rfl
  simp only [api_MapRecord_38.f, api_MapRecord_38.l0, List.length_cons, List.length_nil, e0, e1, Int.zero_add, Nat.zero_add, Nat.reduceAdd]
  rw [w64 (n := (a.length : Int)) (by omega) (by omega), show wrap64 (1 : Int) = 1 from w64 (n := 1) (by decide) (by decide), e1, w64 (n := (a.length : Int) + b.length) (by omega) (by omega), show wrap64 ((1 : Int) + 1) = 2 from w64 (n := 2) (by decide) (by decide)]
  rw [if_pos (by decide), if_pos (by decide), if_pos (by decide), if_neg (by omega), if_pos (by decide), if_pos (by decide), if_pos (by decide), if_neg (by omega), if_neg (by decide), g0]
  simp only [Option.bind_some, api_MapRecord_38.l1, List.length_cons, List.length_nil, e0, e1, Int.zero_add, Nat.zero_add, Nat.reduceAdd, List.nil_append]
  rw [show wrap64 (1 : Int) = 1 from w64 (n := 1) (by decide) (by decide), e1, show wrap64 ((1 : Int) + 1) = 2 from w64 (n := 2) (by decide) (by decide)]
  rw [if_pos (by decide), if_pos (by decide), if_pos (by decide), if_pos (by omega), if_pos (by decide), if_pos (by decide), if_pos (by decide), if_pos (by omega), if_neg (by decide)]
end Go.Proofs.Ytkhbmgclklmimaa.MapEv
end
