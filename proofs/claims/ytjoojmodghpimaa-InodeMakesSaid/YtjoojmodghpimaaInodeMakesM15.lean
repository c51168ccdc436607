/- Texts of the proof of InodeMakes, part 15. -/
import Derived.RowKit
import Derived.Tactics
import Derived.Test.YtjoojmodghpimaaInodeMakesM0
section
namespace Go.Proofs.Ytjoojmodghpimaa.Sem
set_option maxHeartbeats 2000000 in
theorem isSome_setCell (w : World) (p q : Addr) (v : Value) : ((w.setCell p v).cell? q).isSome = (w.cell? q).isSome := by
  by_cases h : p = q
  · subst h
    cases hc : w.cell? p with
    | some u => rw [Go.World.cell?_setCell_same w p v hc]; rfl
    | none =>
      have : (w.setCell p v).cell? p = none := by
        simp only [World.setCell, World.cell?, Array.getElem?_modify, if_true] at hc ⊢
        cases hh : w.heap[p.block]? with
        | none => simp
        | some x =>
          rw [hh] at hc
          cases x <;> simp_all
      rw [this]
  · rw [Go.World.cell?_setCell_other w p q v h]
theorem far1 {W : World} {g o0 : Nat} {a : Addr} {u0 : Value} (h : a.block ≠ g) : (W.setCell ⟨g, o0, none⟩ u0).cell? a = W.cell? a :=
  Go.World.cell?_setCell_other W _ a u0 (fun e => h (e ▸ rfl))
theorem far2 {W : World} {g o0 o1 : Nat} {a : Addr} {u0 u1 : Value} (h : a.block ≠ g) : ((W.setCell ⟨g, o0, none⟩ u0).setCell ⟨g, o1, none⟩ u1).cell? a = W.cell? a := (far1 h).trans (far1 h)
theorem far3 {W : World} {g o0 o1 o2 : Nat} {a : Addr} {u0 u1 u2 : Value} (h : a.block ≠ g) : (((W.setCell ⟨g, o0, none⟩ u0).setCell ⟨g, o1, none⟩ u1).setCell ⟨g, o2, none⟩ u2).cell? a = W.cell? a := (far1 h).trans (far2 h)
theorem far4 {W : World} {g o0 o1 o2 o3 : Nat} {a : Addr} {u0 u1 u2 u3 : Value} (h : a.block ≠ g) : ((((W.setCell ⟨g, o0, none⟩ u0).setCell ⟨g, o1, none⟩ u1).setCell ⟨g, o2, none⟩ u2).setCell ⟨g, o3, none⟩ u3).cell? a = W.cell? a := (far1 h).trans (far3 h)
theorem far5 {W : World} {g o0 o1 o2 o3 o4 : Nat} {a : Addr} {u0 u1 u2 u3 u4 : Value} (h : a.block ≠ g) : (((((W.setCell ⟨g, o0, none⟩ u0).setCell ⟨g, o1, none⟩ u1).setCell ⟨g, o2, none⟩ u2).setCell ⟨g, o3, none⟩ u3).setCell ⟨g, o4, none⟩ u4).cell? a = W.cell? a := (far1 h).trans (far4 h)
theorem far6 {W : World} {g o0 o1 o2 o3 o4 o5 : Nat} {a : Addr} {u0 u1 u2 u3 u4 u5 : Value} (h : a.block ≠ g) : ((((((W.setCell ⟨g, o0, none⟩ u0).setCell ⟨g, o1, none⟩ u1).setCell ⟨g, o2, none⟩ u2).setCell ⟨g, o3, none⟩ u3).setCell ⟨g, o4, none⟩ u4).setCell ⟨g, o5, none⟩ u5).cell? a = W.cell? a := (far1 h).trans (far5 h)
theorem far7 {W : World} {g o0 o1 o2 o3 o4 o5 o6 : Nat} {a : Addr} {u0 u1 u2 u3 u4 u5 u6 : Value} (h : a.block ≠ g) : (((((((W.setCell ⟨g, o0, none⟩ u0).setCell ⟨g, o1, none⟩ u1).setCell ⟨g, o2, none⟩ u2).setCell ⟨g, o3, none⟩ u3).setCell ⟨g, o4, none⟩ u4).setCell ⟨g, o5, none⟩ u5).setCell ⟨g, o6, none⟩ u6).cell? a = W.cell? a := (far1 h).trans (far6 h)
section
open Go.RowKit Go.Proofs.YtjoojmodghpimaaW.PrintWords
variable {α : Type} {P : Program} {ops : Array Oper} {rest : List Oper} {o : Oper} {a : Act} {Q : Exit → Act → World → Prop}
end
end Go.Proofs.Ytjoojmodghpimaa.Sem
end
