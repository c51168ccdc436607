/- Texts of the proof of MapBytes, part 1. -/
import Derived.RowKit
import Derived.Tactics
import Derived.Test.YtkhbmgclklmimaaMapBytesM0
section
namespace Go.Proofs.Ytkhbmgclklmimaa.Sem
set_option maxHeartbeats 2000000 in
theorem isSome_setCell (w : World) (p q : Addr) (v : Value) : ((w.setCell p v).cell? q).isSome = (w.cell? q).isSome := by
  by_cases h : p = q
  · subst h
    cases hc : w.cell? p with
    | some u => rw [Go.World.cell?_setCell_same w p v hc]; rfl
    | none =>
      have : (w.setCell p v).cell? p = none := by
        simp only [World.setCell, World.cell?, Array.getElem?_modify, if_true] at hc ⊢
        cases hh : w.heap[p.block]? with
        | none => simp
        | some x =>
          rw [hh] at hc
          cases x <;> simp_all
      rw [this]
  · rw [Go.World.cell?_setCell_other w p q v h]
theorem far1 {W : World} {g o0 : Nat} {a : Addr} {u0 : Value} (h : a.block ≠ g) : (W.setCell ⟨g, o0, none⟩ u0).cell? a = W.cell? a :=
  Go.World.cell?_setCell_other W _ a u0 (fun e => h (e ▸ rfl))
theorem far2 {W : World} {g o0 o1 : Nat} {a : Addr} {u0 u1 : Value} (h : a.block ≠ g) : ((W.setCell ⟨g, o0, none⟩ u0).setCell ⟨g, o1, none⟩ u1).cell? a = W.cell? a := (far1 h).trans (far1 h)
theorem far3 {W : World} {g o0 o1 o2 : Nat} {a : Addr} {u0 u1 u2 : Value} (h : a.block ≠ g) : (((W.setCell ⟨g, o0, none⟩ u0).setCell ⟨g, o1, none⟩ u1).setCell ⟨g, o2, none⟩ u2).cell? a = W.cell? a := (far1 h).trans (far2 h)
set_option maxHeartbeats 2000000 in
theorem setCell_id {W : World} {g i t : Nat} {cs : Array Value} {v : Value} (h : W.heap[g]? = some (.cells cs t (0, 0))) (hv : cs[i]? = some v) : W.setCell ⟨g, i, none⟩ v = W := by
  have hi := (Array.getElem?_eq_some_iff.1 hv).1
  have hc : cs.setIfInBounds i v = cs := by
    apply Array.ext_getElem?
    intro j
    by_cases e : i = j
    · subst e
      rw [Array.getElem?_setIfInBounds_self_of_lt hi, hv]
    · rw [Array.getElem?_setIfInBounds_ne e]
  have hm : ∀ f : Obj → Obj, f (.cells cs t (0, 0)) = .cells cs t (0, 0) → W.heap.modify g f = W.heap := by
    intro f hf
    apply Array.ext_getElem?
    intro j
    rw [Array.getElem?_modify]
    by_cases e : g = j
    · subst e
      rw [if_pos rfl, h]
      simp [hf]
    · rw [if_neg e]
  unfold World.setCell
  rw [hm _ (by simp [hc])]
theorem setCell_three {W : World} {g t : Nat} {v0 v1 v2 : Value} (h : W.heap[g]? = some (.cells #[v0, v1, v2] t (0, 0))) : ((W.setCell ⟨g, 0, none⟩ v0).setCell ⟨g, 1, none⟩ v1).setCell ⟨g, 2, none⟩ v2 = W := by
  rw [setCell_id (v := v0) h rfl, setCell_id (v := v1) h rfl, setCell_id (v := v2) h rfl]
theorem setCell_two {W : World} {g t : Nat} {v0 v1 u v2 : Value} (h : W.heap[g]? = some (.cells #[v0, v1, u] t (0, 0))) : ((W.setCell ⟨g, 0, none⟩ v0).setCell ⟨g, 1, none⟩ v1).setCell ⟨g, 2, none⟩ v2 = W.setCell ⟨g, 2, none⟩ v2 := by
  rw [setCell_id (v := v0) h rfl, setCell_id (v := v1) h rfl]
section
open Go.RowKit Go.Proofs.YtkhbmgclklmimaaW.PrintWords
variable {α : Type} {P : Program} {ops : Array Oper} {rest : List Oper} {o : Oper} {a : Act} {Q : Exit → Act → World → Prop}
end
end Go.Proofs.Ytkhbmgclklmimaa.Sem
end
