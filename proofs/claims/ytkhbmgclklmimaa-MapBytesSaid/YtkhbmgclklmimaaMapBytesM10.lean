/- Texts of the proof of MapBytes, part 10. -/
import Derived.RowKit
import Derived.Tactics
import Derived.Test.YtkhbmgclklmimaaMapBytesM0
import Derived.Test.YtkhbmgclklmimaaMapBytesM2
import Derived.Test.YtkhbmgclklmimaaMapBytesM8
import Derived.Test.YtkhbmgclklmimaaMapBytesM9
section
namespace Go.Proofs.Ytkhbmgclklmimaa.Cw
set_option linter.unusedVariables false
open Go.RowKit Go.Proofs.YtkhbmgclklmimaaW.PrintWords Go.Proofs.YtkhbmgclklmimaaW.PrintLast Go.Proofs.YtkhbmgclklmimaaW.PrintMore
theorem gt_ {α : Type} {c : Prop} [Decidable c] {x : Option α} {r : α} (h : (if c then x else none) = some r) : c ∧ x = some r := by
  by_cases hc : c
  · rw [if_pos hc] at h
    exact ⟨hc, h⟩
  · rw [if_neg hc] at h
    cases h
section
variable {P : Program} {ops : Array Oper} {rest : List Oper} {o o2 : Oper} {a : Act} {Q : Exit → Act → World → Prop}
theorem guarded {W : World} {gd : Nat × Bool} (_hg : o.guard = some gd) (hw : Region.wanted o (yielded ops a.tmps) = true) (h : wpList P ops Q ({ o with guard := none } :: rest) a W) : wpList P ops Q (o :: rest) a W := gate_guard hw h
theorem box_store {W : World} {N : Tmp} {t : TypeId} {x : Operand} {z cs : Array Value} (_h1 : o.op = .alloc t) (h1d : o.dst = some N) (h1g : o.guard = none) (h2 : o2.op = .store t (.tmp N) x) (h2d : o2.dst = none) (h2g : o2.guard = none)
    (hr1 : (execOp a.eval o).run P W = .ok (.value (.pointer (some ⟨W.heap.size, 0, none⟩))) (W.alloc (.cells z t)))
    (hr2 : (execOp (a.put (some N) (.pointer (some ⟨W.heap.size, 0, none⟩))).eval o2).run P (W.alloc (.cells z t)) = .ok .skip (W.alloc (.cells cs t)))
    (h : ∀ g, g = W.heap.size → ∀ w1, w1.heap[g]? = some (.cells cs t (0, 0)) → Below W.heap.size W w1 → wpList P ops Q rest (a.put (some N) (.pointer (some ⟨g, 0, none⟩))) w1) : wpList P ops Q (o :: o2 :: rest) a W := by
  refine Kd.event_run h1g hr1 ?_
  rw [h1d]
  refine store_event h2g h2 h2d hr2 ?_
  rintro w' rfl
  exact h _ rfl _ (blk_new W _) (below_alloc (Below.refl _ _) _)
end
section
variable {P : Program} {ops : Array Oper} {Q : Exit → Act → World → Prop} {md : Region.Mode} {S : World → Prop}
set_option maxHeartbeats 2000000 in
theorem dpu {i : Nat} {N : Option Tmp} {oi : Oper} {v : Value} {fuel : Nat} {l : Array Bool} {ds : List Nat} {a : Act} {w : World} (hi : ops[i]? = some oi) (hN : oi.dst = N) (hc : anyB md ops l (l.setIfInBounds i true) i = true) (hw : Region.wanted oi (yielded ops a.tmps) = true)
    (hQ : ∀ c a w, Q (.panic c) (a.put oi.dst v) w → Q (.panic c) a w) (hr : ∀ w', (execOp a.eval oi).run P w' = .ok (.value v) w') {a' : Act} (ha : a.put N v = a')
    (h : wpAnyLast P md ops Q S ds fuel (l.setIfInBounds i true) a' w) : wpAnyLast P md ops Q S ds (fuel + 1) l a w := pure_ _ hi hN hc hQ (.inl ⟨hw, hr⟩) ha h
set_option maxHeartbeats 2000000 in
theorem dtk {i : Nat} {N : Option Tmp} {oi : Oper} {v : Value} {fuel : Nat} {l : Array Bool} {a : Act} {w : World} (hi : ops[i]? = some oi) (hN : oi.dst = N) (hc : takeB md ops [] l (l.setIfInBounds i true) i = true) (hw : Region.wanted oi (yielded ops a.tmps) = true)
    (hQ : ∀ c a w, Q (.panic c) (a.put oi.dst v) w → Q (.panic c) a w) (hr : ∀ w', S w' → (execOp a.eval oi).run P w' = .ok (.value v) w') (hS : S w) {a' : Act} (ha : a.put N v = a')
    (h : wpAnyLast P md ops Q S [] fuel (l.setIfInBounds i true) a' w) : wpAnyLast P md ops Q S [] (fuel + 1) l a w := take_ _ hi hN hc hQ (.inl ⟨hw, hr⟩) hS ha h
set_option maxHeartbeats 2000000 in
theorem done1 {i : Nat} {N : Option Tmp} {oi : Oper} {fuel : Nat} {l : Array Bool} {a : Act} {w : World} (hi : ops[i]? = some oi) (hN : oi.dst = N) (hc : readyB md ops l (l.setIfInBounds i true) i = true)
    (h : ∀ K : Act → World → Prop, Shut (∀ a' w', S w' → (S w' → wpAnyLast P md ops Q S [] fuel (l.setIfInBounds i true) a' w') → K a' w') → if Region.wanted oi (yielded ops a.tmps) = true then Oper.wp P oi a w K Q else K (a.put N undef) w) :
    wpAnyLast P md ops Q S [] (fuel + 1) l a w := one_ _ hi hN hc (by simp) h
set_option maxHeartbeats 2000000 in
theorem dnew {oi : Oper} {N : Option Tmp} {a : Act} {w : World} (v : Nat → Value) {cs : Array Value} {t : TypeId} {K : Act → World → Prop} (hw : Region.wanted oi (yielded ops a.tmps) = true) (hN : oi.dst = N) (hrun : (execOp a.eval oi).run P w = .ok (.value (v w.heap.size)) (w.alloc (.cells cs t (0, 0))))
    (h : ∀ g, g = w.heap.size → ∀ w1, w1.heap[g]? = some (.cells cs t (0, 0)) → Below w.heap.size w w1 → K (a.put N (v g)) w1) : if Region.wanted oi (yielded ops a.tmps) = true then Oper.wp P oi a w K Q else K (a.put N undef) w :=
  value_ hw hN hrun (h _ rfl _ (blk_new w _) (below_alloc (Below.refl _ _) _))
end
def setL (w : World) (g : Nat) : Nat → List Value → World
  | _, [] => w
  | i, y :: ys => setL (w.setCell ⟨g, i, none⟩ y) g (i + 1) ys
theorem setL_below {w0 : World} {g : Nat} (hg : w0.heap.size ≤ g) : ∀ (ys : List Value) (i : Nat) (w : World), Below w0.heap.size w0 w → Below w0.heap.size w0 (setL w g i ys)
  | [], _, _, h => h
  | _ :: ys, i, _, h => setL_below hg ys (i + 1) _ (below_set h hg)
theorem setL_far {g k_ : Nat} (hk : k_ ≠ g) : ∀ (ys : List Value) (i : Nat) (w : World), (setL w g i ys).heap[k_]? = w.heap[k_]?
  | [], _, _ => rfl
  | y :: ys, i, w => (setL_far hk ys (i + 1) _).trans (Below.heap_setCell w ⟨g, i, none⟩ y _ hk)
theorem setL_R {α : Type} {d : Kd α} {e base g t : Nat} {ok : Nat → Prop} {w : World} {v : Value} {xs : List α} {cells : Array Value} (h : d.R e w base ok v xs) (hb : w.heap[g]? = some (.cells cells t (0, 0))) (ht : ∀ q, q ∈ e :: d.E → q ≠ t) (i : Nat) (ys : List Value) : d.R e (setL w g i ys) base ok v xs :=
  Kd.R_mono (Kd.R_step (Kd.R_types h hb ht) (fun k hk _ => setL_far hk.2 ys i w)) (fun _ hk => hk.1)
end Go.Proofs.Ytkhbmgclklmimaa.Cw
end
