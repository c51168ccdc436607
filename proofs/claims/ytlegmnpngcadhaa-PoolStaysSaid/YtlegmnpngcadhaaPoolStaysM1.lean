/- Texts of the proof of PoolStays, part 1. -/
import Derived.RowKit
import Derived.Tactics
import Derived.Test.YtlegmnpngcadhaaPoolStaysM0
section
namespace Go.Proofs.Ytlegmnpngcadhaa.Sem
set_option maxHeartbeats 2000000 in
theorem isSome_setCell (w : World) (p q : Addr) (v : Value) : ((w.setCell p v).cell? q).isSome = (w.cell? q).isSome := by
  by_cases h : p = q
  · subst h
    cases hc : w.cell? p with
    | some u => rw [Go.World.cell?_setCell_same w p v hc]; rfl
    | none =>
      have : (w.setCell p v).cell? p = none := by
        simp only [World.setCell, World.cell?, Array.getElem?_modify, if_true] at hc ⊢
        cases hh : w.heap[p.block]? with
        | none => simp
        | some x =>
          rw [hh] at hc
          cases x <;> simp_all
      rw [this]
  · rw [Go.World.cell?_setCell_other w p q v h]
theorem far1 {W : World} {g o0 : Nat} {a : Addr} {u0 : Value} (h : a.block ≠ g) : (W.setCell ⟨g, o0, none⟩ u0).cell? a = W.cell? a :=
  Go.World.cell?_setCell_other W _ a u0 (fun e => h (e ▸ rfl))
theorem far2 {W : World} {g o0 o1 : Nat} {a : Addr} {u0 u1 : Value} (h : a.block ≠ g) : ((W.setCell ⟨g, o0, none⟩ u0).setCell ⟨g, o1, none⟩ u1).cell? a = W.cell? a := (far1 h).trans (far1 h)
section
open Go.RowKit Go.Proofs.YtlegmnpngcadhaaW.PrintWords
variable {α : Type} {P : Program} {ops : Array Oper} {rest : List Oper} {o : Oper} {a : Act} {Q : Exit → Act → World → Prop}
end
end Go.Proofs.Ytlegmnpngcadhaa.Sem
end
