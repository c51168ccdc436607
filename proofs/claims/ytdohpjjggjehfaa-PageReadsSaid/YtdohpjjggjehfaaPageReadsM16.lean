/- Texts of the proof of PageReads, part 16. -/
import Derived.RowKit
import Derived.Tactics
import Derived.Test.YtdohpjjggjehfaaPageReadsM0
section
namespace Go.Proofs.Ytdohpjjggjehfaa.Sem
set_option maxHeartbeats 2000000 in
theorem isSome_setCell (w : World) (p q : Addr) (v : Value) : ((w.setCell p v).cell? q).isSome = (w.cell? q).isSome := by
  by_cases h : p = q
  · subst h
    cases hc : w.cell? p with
    | some u => rw [Go.World.cell?_setCell_same w p v hc]; rfl
    | none =>
      have : (w.setCell p v).cell? p = none := by
        simp only [World.setCell, World.cell?, Array.getElem?_modify, if_true] at hc ⊢
        cases hh : w.heap[p.block]? with
        | none => simp
        | some x =>
          rw [hh] at hc
          cases x <;> simp_all
      rw [this]
  · rw [Go.World.cell?_setCell_other w p q v h]
section
open Go.RowKit Go.Proofs.YtdohpjjggjehfaaW.PrintWords
variable {α : Type} {P : Program} {ops : Array Oper} {rest : List Oper} {o : Oper} {a : Act} {Q : Exit → Act → World → Prop}
end
end Go.Proofs.Ytdohpjjggjehfaa.Sem
end
