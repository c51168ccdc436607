/- Texts of the proof of PoolStays, part 10. -/
import Derived.RowKit
import Derived.Tactics
import Derived.Test.YtlegmnpngcadhaaPoolStaysM0
import Derived.Test.YtlegmnpngcadhaaPoolStaysM2
import Derived.Test.YtlegmnpngcadhaaPoolStaysM8
import Derived.Test.YtlegmnpngcadhaaPoolStaysM9
section
namespace Go.Proofs.Ytlegmnpngcadhaa.Cw
set_option linter.unusedVariables false
open Go.RowKit Go.Proofs.YtlegmnpngcadhaaW.PrintWords Go.Proofs.YtlegmnpngcadhaaW.PrintLast Go.Proofs.YtlegmnpngcadhaaW.PrintMore
theorem gt_ {α : Type} {c : Prop} [Decidable c] {x : Option α} {r : α} (h : (if c then x else none) = some r) : c ∧ x = some r := by
  by_cases hc : c
  · rw [if_pos hc] at h
    exact ⟨hc, h⟩
  · rw [if_neg hc] at h
    cases h
section
variable {P : Program} {ops : Array Oper} {rest : List Oper} {o o2 : Oper} {a : Act} {Q : Exit → Act → World → Prop}
theorem guarded {W : World} {gd : Nat × Bool} (_hg : o.guard = some gd) (hw : Region.wanted o (yielded ops a.tmps) = true) (h : wpList P ops Q ({ o with guard := none } :: rest) a W) : wpList P ops Q (o :: rest) a W := gate_guard hw h
theorem box_store {W : World} {N : Tmp} {t : TypeId} {x : Operand} {z cs : Array Value} (_h1 : o.op = .alloc t) (h1d : o.dst = some N) (h1g : o.guard = none) (h2 : o2.op = .store t (.tmp N) x) (h2d : o2.dst = none) (h2g : o2.guard = none)
    (hr1 : (execOp a.eval o).run P W = .ok (.value (.pointer (some ⟨W.heap.size, 0, none⟩))) (W.alloc (.cells z t)))
    (hr2 : (execOp (a.put (some N) (.pointer (some ⟨W.heap.size, 0, none⟩))).eval o2).run P (W.alloc (.cells z t)) = .ok .skip (W.alloc (.cells cs t)))
    (h : ∀ g, g = W.heap.size → ∀ w1, w1.heap[g]? = some (.cells cs t (0, 0)) → Below W.heap.size W w1 → wpList P ops Q rest (a.put (some N) (.pointer (some ⟨g, 0, none⟩))) w1) : wpList P ops Q (o :: o2 :: rest) a W := by
  refine Kd.event_run h1g hr1 ?_
  rw [h1d]
  refine store_event h2g h2 h2d hr2 ?_
  rintro w' rfl
  exact h _ rfl _ (blk_new W _) (below_alloc (Below.refl _ _) _)
end
section
variable {P : Program} {ops : Array Oper} {Q : Exit → Act → World → Prop} {md : Region.Mode} {S : World → Prop}
theorem dstart {id n : Nat} {a : Act} {w : World} (hm : P.follows .mixedOrders = true) (hn : ops.size = n)
    (h : ∀ wd, Below w.heap.size w wd → wpAnyLast P .any ops Q (fun w' => Below wd.heap.size wd w') [] n (Array.replicate n false) a wd) : (Code.region id ops true).wp P Q a w :=
  start_ (S := fun w' => Below w.drew.heap.size w.drew w') (Array.replicate n false) hm hn rfl (Below.refl _ _) (fun _ => h w.drew (below_drew (Below.refl _ _)))
set_option maxHeartbeats 2000000 in
theorem dpu {i : Nat} {N : Option Tmp} {oi : Oper} {v : Value} {fuel : Nat} {l : Array Bool} {ds : List Nat} {a : Act} {w : World} (hi : ops[i]? = some oi) (hN : oi.dst = N) (hc : anyB md ops l (l.setIfInBounds i true) i = true) (hw : Region.wanted oi (yielded ops a.tmps) = true)
    (hQ : ∀ c a w, Q (.panic c) (a.put oi.dst v) w → Q (.panic c) a w) (hr : ∀ w', (execOp a.eval oi).run P w' = .ok (.value v) w') {a' : Act} (ha : a.put N v = a')
    (h : wpAnyLast P md ops Q S ds fuel (l.setIfInBounds i true) a' w) : wpAnyLast P md ops Q S ds (fuel + 1) l a w := pure_ _ hi hN hc hQ (.inl ⟨hw, hr⟩) ha h
set_option maxHeartbeats 2000000 in
theorem dtk {i : Nat} {N : Option Tmp} {oi : Oper} {v : Value} {fuel : Nat} {l : Array Bool} {a : Act} {w : World} (hi : ops[i]? = some oi) (hN : oi.dst = N) (hc : takeB md ops [] l (l.setIfInBounds i true) i = true) (hw : Region.wanted oi (yielded ops a.tmps) = true)
    (hQ : ∀ c a w, Q (.panic c) (a.put oi.dst v) w → Q (.panic c) a w) (hr : ∀ w', S w' → (execOp a.eval oi).run P w' = .ok (.value v) w') (hS : S w) {a' : Act} (ha : a.put N v = a')
    (h : wpAnyLast P md ops Q S [] fuel (l.setIfInBounds i true) a' w) : wpAnyLast P md ops Q S [] (fuel + 1) l a w := take_ _ hi hN hc hQ (.inl ⟨hw, hr⟩) hS ha h
set_option maxHeartbeats 2000000 in
theorem done1 {i : Nat} {N : Option Tmp} {oi : Oper} {fuel : Nat} {l : Array Bool} {a : Act} {w : World} (hi : ops[i]? = some oi) (hN : oi.dst = N) (hc : readyB md ops l (l.setIfInBounds i true) i = true)
    (h : ∀ K : Act → World → Prop, Shut (∀ a' w', S w' → (S w' → wpAnyLast P md ops Q S [] fuel (l.setIfInBounds i true) a' w') → K a' w') → if Region.wanted oi (yielded ops a.tmps) = true then Oper.wp P oi a w K Q else K (a.put N undef) w) :
    wpAnyLast P md ops Q S [] (fuel + 1) l a w := one_ _ hi hN hc (by simp) h
end
def setL (w : World) (g : Nat) : Nat → List Value → World
  | _, [] => w
  | i, y :: ys => setL (w.setCell ⟨g, i, none⟩ y) g (i + 1) ys
theorem setL_below {w0 : World} {g : Nat} (hg : w0.heap.size ≤ g) : ∀ (ys : List Value) (i : Nat) (w : World), Below w0.heap.size w0 w → Below w0.heap.size w0 (setL w g i ys)
  | [], _, _, h => h
  | _ :: ys, i, _, h => setL_below hg ys (i + 1) _ (below_set h hg)
end Go.Proofs.Ytlegmnpngcadhaa.Cw
end
