/- Texts of the proof of PoolStays, part 17. -/
import Derived.Test.YtlegmnpngcadhaaPoolStaysM10
section
namespace Go.Proofs.Ytlegmnpngcadhaa.Cw
set_option linter.unusedVariables false
open Go.RowKit Go.Proofs.YtlegmnpngcadhaaW.PrintWords Go.Proofs.YtlegmnpngcadhaaW.PrintLast Go.Proofs.YtlegmnpngcadhaaW.PrintMore
section
variable {P : Program} {ops : Array Oper} {Q : Exit → Act → World → Prop} {md : Region.Mode} {S : World → Prop} {ds : List Nat}
end
set_option maxHeartbeats 2000000 in
theorem setL_at {g t : Nat} : ∀ (ys : List Value) (i : Nat) (w : World) (cs : Array Value), w.heap[g]? = some (.cells cs t (0, 0)) → i + ys.length = cs.size → (setL w g i ys).heap[g]? = some (.cells (cs.toList.take i ++ ys).toArray t (0, 0))
  | [], i, w, cs, h, hl => by
    rw [List.append_nil, List.take_of_length_le (by simp at hl ⊢; omega)]
    simpa [setL] using h
  | y :: ys, i, w, cs, h, hl => by
    have h2 := setL_at ys (i + 1) _ (cs.setIfInBounds i y) (blk_set h i y) (by simp at hl ⊢; omega)
    have e : (cs.setIfInBounds i y).toList.take (i + 1) ++ ys = cs.toList.take i ++ y :: ys := by
      have hi : i < cs.toList.length := by simp at hl ⊢; omega
      rw [Array.toList_setIfInBounds, List.take_add_one, List.getElem?_set_self hi, List.take_set_of_le (Nat.le_refl _)]
      simp
    rw [e] at h2
    exact h2
theorem setL_full {g t : Nat} (ys : List Value) {w : World} {cs : Array Value} (h : w.heap[g]? = some (.cells cs t (0, 0))) (hl : ys.length = cs.size) : (setL w g 0 ys).heap[g]? = some (.cells ys.toArray t (0, 0)) := by
  have := setL_at ys 0 w cs h (by omega)
  simpa using this
section
variable {P : Program} {ops : Array Oper} {rest : List Oper} {o : Oper} {a : Act} {Q : Exit → Act → World → Prop}
theorem put_event {W : World} {t : TypeId} {p x : Operand} {g : Nat} {ys : List Value} (hop : o.op = .store t p x) (hN : o.dst = none) (hgd : o.guard = none) (hrun : (execOp a.eval o).run P W = .ok .skip (setL W g 0 ys))
    (h : ∀ w2, w2 = setL W g 0 ys → wpList P ops Q rest a w2) : wpList P ops Q (o :: rest) a W := by
  refine wpList_plain hgd fun K hK => ?_
  unfold Oper.wp
  rw [hrun]
  show K (a.put o.dst undef) _
  rw [hN]
  exact hK _ _ (h _ rfl)
end
end Go.Proofs.Ytlegmnpngcadhaa.Cw
end
