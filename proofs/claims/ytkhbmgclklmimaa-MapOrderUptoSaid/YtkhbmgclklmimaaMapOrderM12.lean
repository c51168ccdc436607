/- Texts of the proof of MapOrder, part 12. -/
import Derived.RowKit
import Derived.Tactics
import Derived.Test.YtkhbmgclklmimaaMapOrderM0
import Derived.Test.YtkhbmgclklmimaaMapOrderM1
import Derived.Test.YtkhbmgclklmimaaMapOrderM10
import Derived.Test.YtkhbmgclklmimaaMapOrderM11
section
namespace Go.Proofs.Ytkhbmgclklmimaa.Cw
set_option linter.unusedVariables false
open Go.RowKit Go.Proofs.YtkhbmgclklmimaaW.PrintWords Go.Proofs.YtkhbmgclklmimaaW.PrintLast Go.Proofs.YtkhbmgclklmimaaW.PrintMore
theorem gt_ {α : Type} {c : Prop} [Decidable c] {x : Option α} {r : α} (h : (if c then x else none) = some r) : c ∧ x = some r := by
  by_cases hc : c
  · rw [if_pos hc] at h
    exact ⟨hc, h⟩
  · rw [if_neg hc] at h
    cases h
section
variable {P : Program} {ops : Array Oper} {rest : List Oper} {o o2 : Oper} {a : Act} {Q : Exit → Act → World → Prop}
theorem guarded {W : World} {gd : Nat × Bool} (_hg : o.guard = some gd) (hw : Region.wanted o (yielded ops a.tmps) = true) (h : wpList P ops Q ({ o with guard := none } :: rest) a W) : wpList P ops Q (o :: rest) a W := gate_guard hw h
theorem box_store {W : World} {N : Tmp} {t : TypeId} {x : Operand} {z cs : Array Value} (_h1 : o.op = .alloc t) (h1d : o.dst = some N) (h1g : o.guard = none) (h2 : o2.op = .store t (.tmp N) x) (h2d : o2.dst = none) (h2g : o2.guard = none)
    (hr1 : (execOp a.eval o).run P W = .ok (.value (.pointer (some ⟨W.heap.size, 0, none⟩))) (W.alloc (.cells z t)))
    (hr2 : (execOp (a.put (some N) (.pointer (some ⟨W.heap.size, 0, none⟩))).eval o2).run P (W.alloc (.cells z t)) = .ok .skip (W.alloc (.cells cs t)))
    (h : ∀ g, g = W.heap.size → ∀ w1, w1.heap[g]? = some (.cells cs t (0, 0)) → Below W.heap.size W w1 → wpList P ops Q rest (a.put (some N) (.pointer (some ⟨g, 0, none⟩))) w1) : wpList P ops Q (o :: o2 :: rest) a W := by
  refine Kd.event_run h1g hr1 ?_
  rw [h1d]
  refine store_event h2g h2 h2d hr2 ?_
  rintro w' rfl
  exact h _ rfl _ (blk_new W _) (below_alloc (Below.refl _ _) _)
end
section
variable {P : Program} {ops : Array Oper} {Q : Exit → Act → World → Prop} {md : Region.Mode} {S : World → Prop}
set_option maxHeartbeats 2000000 in
theorem dpu {i : Nat} {N : Option Tmp} {oi : Oper} {v : Value} {fuel : Nat} {l : Array Bool} {ds : List Nat} {a : Act} {w : World} (hi : ops[i]? = some oi) (hN : oi.dst = N) (hc : anyB md ops l (l.setIfInBounds i true) i = true) (hw : Region.wanted oi (yielded ops a.tmps) = true)
    (hQ : ∀ c a w, Q (.panic c) (a.put oi.dst v) w → Q (.panic c) a w) (hr : ∀ w', (execOp a.eval oi).run P w' = .ok (.value v) w') {a' : Act} (ha : a.put N v = a')
    (h : wpAnyLast P md ops Q S ds fuel (l.setIfInBounds i true) a' w) : wpAnyLast P md ops Q S ds (fuel + 1) l a w := pure_ _ hi hN hc hQ (.inl ⟨hw, hr⟩) ha h
end
theorem C_two {α : Type} {d : Kd α} {e t g : Nat} {w : World} {A0 A1 : Option Addr} {c0 c1 : Nat} {l0 l1 : List α} (hB : w.heap[g]? = some (.cells #[.slice A0 l0.length c0, .slice A1 l1.length c1] t (0, 0)))
    (h0 : d.C w A0 l0.length l0) (hc0 : l0.length ≤ c0) (h1 : d.C w A1 l1.length l1) (hc1 : l1.length ≤ c1) : (Kd.slice e d).C w (some ⟨g, 0, none⟩) [l0, l1].length [l0, l1] := by
  refine ⟨rfl, by simp, fun _ => ⟨_, rfl, fun j p hj => ?_⟩⟩
  rcases j with _ | _ | j
  · cases hj
    refine ⟨[.slice A0 l0.length c0], rfl, ⟨A0, c0, rfl, hc0, h0⟩, fun i u hu => ?_⟩
    rcases i with _ | i
    · cases hu
      exact (blk_cell hB 0).trans rfl
    · simp at hu
  · cases hj
    refine ⟨[.slice A1 l1.length c1], rfl, ⟨A1, c1, rfl, hc1, h1⟩, fun i u hu => ?_⟩
    rcases i with _ | i
    · cases hu
      exact (blk_cell hB 1).trans rfl
    · simp at hu
  · simp at hj
end Go.Proofs.Ytkhbmgclklmimaa.Cw
end
