/- Texts of the proof of PageReads, part 13. -/
import Derived.Test.YtdohpjjggjehfaaPageReadsM12
section
namespace Go.Proofs.Ytdohpjjggjehfaa.Cw
set_option linter.unusedVariables false
open Go.RowKit Go.Proofs.YtdohpjjggjehfaaW.PrintWords Go.Proofs.YtdohpjjggjehfaaW.PrintLast Go.Proofs.YtdohpjjggjehfaaW.PrintMore
section
variable {P : Program} {ops : Array Oper} {Q : Exit → Act → World → Prop} {md : Region.Mode} {S : World → Prop} {ds : List Nat}
theorem dstartD (ds : List Nat) {id n : Nat} {a : Act} {w : World} (hm : P.follows .mixedOrders = true) (hn : ops.size = n)
    (h : ∀ wd, Below w.heap.size w wd → wpAnyLast P .any ops Q (fun w' => Below wd.heap.size wd w') ds n (Array.replicate n false) a wd) : (Code.region id ops true).wp P Q a w :=
  start_ (S := fun w' => Below w.drew.heap.size w.drew w') (Array.replicate n false) hm hn rfl (Below.refl _ _) (fun _ => h w.drew (below_drew (Below.refl _ _)))
set_option maxHeartbeats 2000000 in
theorem dtkD {i : Nat} {N : Option Tmp} {oi : Oper} {v : Value} {fuel : Nat} {l : Array Bool} {a : Act} {w : World} (hi : ops[i]? = some oi) (hN : oi.dst = N) (hc : takeB md ops ds l (l.setIfInBounds i true) i = true) (hw : Region.wanted oi (yielded ops a.tmps) = true)
    (hQ : ∀ c a w, Q (.panic c) (a.put oi.dst v) w → Q (.panic c) a w) (hr : ∀ w', S w' → (execOp a.eval oi).run P w' = .ok (.value v) w') (hS : S w) {a' : Act} (ha : a.put N v = a')
    (h : wpAnyLast P md ops Q S ds fuel (l.setIfInBounds i true) a' w) : wpAnyLast P md ops Q S ds (fuel + 1) l a w := take_ _ hi hN hc hQ (.inl ⟨hw, hr⟩) hS ha h
set_option maxHeartbeats 2000000 in
theorem done1D {i : Nat} {N : Option Tmp} {oi : Oper} {fuel : Nat} {l : Array Bool} {a : Act} {w : World} (hi : ops[i]? = some oi) (hN : oi.dst = N) (hc : readyB md ops l (l.setIfInBounds i true) i = true) (hd : i ∉ ds)
    (h : ∀ K : Act → World → Prop, Shut (∀ a' w', S w' → (S w' → wpAnyLast P md ops Q S ds fuel (l.setIfInBounds i true) a' w') → K a' w') → if Region.wanted oi (yielded ops a.tmps) = true then Oper.wp P oi a w K Q else K (a.put N undef) w) :
    wpAnyLast P md ops Q S ds (fuel + 1) l a w := one_ _ hi hN hc hd h
set_option maxHeartbeats 2000000 in
theorem lastD {i : Nat} {N : Option Tmp} {oi : Oper} {fuel : Nat} {l : Array Bool} {a : Act} {w : World} (hi : ops[i]? = some oi) (hN : oi.dst = N) (hc : readyB md ops l (l.setIfInBounds i true) i = true) (hd : i ∈ ds)
    (h : ∀ K : Act → World → Prop, Shut (∀ a' w', wpAnyLast P md ops Q S ds fuel (l.setIfInBounds i true) a' w' → K a' w') → if Region.wanted oi (yielded ops a.tmps) = true then Oper.wp P oi a w K Q else K (a.put N undef) w) :
    wpAnyLast P md ops Q S ds (fuel + 1) l a w := last_ _ hi hN hc hd h
end
theorem C_ints {k : IntKind} {w : World} {g t : Nat} {xs : List Int} {cs : Array Value} (hB : w.heap[g]? = some (.cells cs t (0, 0))) (hc : cs = (xs.map (Value.int k)).toArray) (hn : xs.length ≤ 9223372036854775807) : (Kd.int k).C w (some ⟨g, 0, none⟩) xs.length xs := by
  refine ⟨rfl, hn, fun _ => ⟨_, rfl, fun j p hj => ⟨[.int k p], rfl, rfl, fun i u hu => ?_⟩⟩⟩
  rcases i with _ | i
  · cases hu
    show w.cell? ((⟨g, 0, none⟩ : Addr).add (j * 1 + 0)) = _
    rw [add_plain, blk_cell hB, hc]
    simp [hj]
  · simp at hu
set_option maxHeartbeats 2000000 in
theorem setL_at {g t : Nat} : ∀ (ys : List Value) (i : Nat) (w : World) (cs : Array Value), w.heap[g]? = some (.cells cs t (0, 0)) → i + ys.length = cs.size → (setL w g i ys).heap[g]? = some (.cells (cs.toList.take i ++ ys).toArray t (0, 0))
  | [], i, w, cs, h, hl => by
    rw [List.append_nil, List.take_of_length_le (by simp at hl ⊢; omega)]
    simpa [setL] using h
  | y :: ys, i, w, cs, h, hl => by
    have h2 := setL_at ys (i + 1) _ (cs.setIfInBounds i y) (blk_set h i y) (by simp at hl ⊢; omega)
    have e : (cs.setIfInBounds i y).toList.take (i + 1) ++ ys = cs.toList.take i ++ y :: ys := by
      have hi : i < cs.toList.length := by simp at hl ⊢; omega
      rw [Array.toList_setIfInBounds, List.take_add_one, List.getElem?_set_self hi, List.take_set_of_le (Nat.le_refl _)]
      simp
    rw [e] at h2
    exact h2
theorem setL_full {g t : Nat} (ys : List Value) {w : World} {cs : Array Value} (h : w.heap[g]? = some (.cells cs t (0, 0))) (hl : ys.length = cs.size) : (setL w g 0 ys).heap[g]? = some (.cells ys.toArray t (0, 0)) := by
  have := setL_at ys 0 w cs h (by omega)
  simpa using this
section
variable {P : Program} {ops : Array Oper} {rest : List Oper} {o : Oper} {a : Act} {Q : Exit → Act → World → Prop}
theorem put_event {W : World} {t : TypeId} {p x : Operand} {g : Nat} {ys : List Value} (hop : o.op = .store t p x) (hN : o.dst = none) (hgd : o.guard = none) (hrun : (execOp a.eval o).run P W = .ok .skip (setL W g 0 ys))
    (h : ∀ w2, w2 = setL W g 0 ys → wpList P ops Q rest a w2) : wpList P ops Q (o :: rest) a W := by
  refine wpList_plain hgd fun K hK => ?_
  unfold Oper.wp
  rw [hrun]
  show K (a.put o.dst undef) _
  rw [hN]
  exact hK _ _ (h _ rfl)
end
end Go.Proofs.Ytdohpjjggjehfaa.Cw
end
