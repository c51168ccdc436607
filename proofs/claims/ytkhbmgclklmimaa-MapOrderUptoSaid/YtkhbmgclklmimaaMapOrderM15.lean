/- Texts of the proof of MapOrder, part 15. -/
import Derived.Test.YtkhbmgclklmimaaMapOrderM13
import Derived.Test.YtkhbmgclklmimaaMapOrderM14
section
namespace Go.Proofs.Ytkhbmgclklmimaa
set_option linter.unusedVariables false
open Go.RowKit Go.Proofs.YtkhbmgclklmimaaW.PrintWords Go.Proofs.YtkhbmgclklmimaaW.PrintLast Go.Proofs.YtkhbmgclklmimaaW.PrintMore
section
variable {P : Program} {ops : Array Oper} {Q : Exit → Act → World → Prop} {md : Region.Mode} {S : World → Prop} {ds : List Nat} {v : Value} {oi : Oper} {fuel : Nat} {l : Array Bool} {a a' : Act} {w : World}
set_option maxHeartbeats 2000000 in
theorem zpu (i : Nat) (h : wpAnyLast P md ops Q S ds fuel (l.setIfInBounds i true) a' w)
    (hi : ops[i]? = some oi := by simp only [List.getElem?_toArray, List.getElem?_cons_succ, List.getElem?_cons_zero]; rfl) (hc : anyB md ops l (l.setIfInBounds i true) i = true := by first | exact any_of (Aside0.out (by with_reducible assumption)) (by kernel_rfl) | kernel_rfl)
    (hQ : ∀ c a w, Q (.panic c) (a.put oi.dst v) w → Q (.panic c) a w := by exact fun _ _ _ h => h) (hw : Region.wanted oi (yielded ops a.tmps) = true := by rfl) (hr : ∀ w', (execOp a.eval oi).run P w' = .ok (.value v) w' := by intro w'; go_simp; with_reducible rfl)
    (ha : a.put oi.dst v = a' := by simp only [Act.put, List.setIfInBounds_toArray, List.set_cons_zero, List.set_cons_succ, i64_w, i32_w]; rfl) : wpAnyLast P md ops Q S ds (fuel + 1) l a w := pure_ _ hi rfl hc hQ (.inl ⟨hw, hr⟩) ha h
set_option maxHeartbeats 2000000 in
theorem zpn (i : Nat) (h : wpAnyLast P md ops Q S ds fuel (l.setIfInBounds i true) a' w)
    (hi : ops[i]? = some oi := by simp only [List.getElem?_toArray, List.getElem?_cons_succ, List.getElem?_cons_zero]; rfl) (hc : anyB md ops l (l.setIfInBounds i true) i = true := by first | exact any_of (Aside0.out (by with_reducible assumption)) (by kernel_rfl) | kernel_rfl)
    (hQ : ∀ c a w, Q (.panic c) (a.put oi.dst undef) w → Q (.panic c) a w := by exact fun _ _ _ h => h) (hw : Region.wanted oi (yielded ops a.tmps) = false := by rfl)
    (ha : a.put oi.dst undef = a' := by simp only [Act.put, List.setIfInBounds_toArray, List.set_cons_zero, List.set_cons_succ, i64_w, i32_w]; rfl) : wpAnyLast P md ops Q S ds (fuel + 1) l a w := pure_ _ hi rfl hc hQ (.inr ⟨hw, rfl⟩) ha h
set_option maxHeartbeats 2000000 in
theorem zta (i : Nat) (hS : S w) (h : wpAnyLast P md ops Q S ds fuel (l.setIfInBounds i true) a' w)
    (hi : ops[i]? = some oi := by simp only [List.getElem?_toArray, List.getElem?_cons_succ, List.getElem?_cons_zero]; rfl) (hc : takeB md ops ds l (l.setIfInBounds i true) i = true := by first | exact take_ofW (Aside0.out (by with_reducible assumption)) (Aside0.out (by with_reducible assumption)) (by kernel_rfl) | kernel_rfl)
    (hQ : ∀ c a w, Q (.panic c) (a.put oi.dst v) w → Q (.panic c) a w := by exact fun _ _ _ h => h) (hw : Region.wanted oi (yielded ops a.tmps) = true := by rfl) (hr : ∀ w', S w' → (execOp a.eval oi).run P w' = .ok (.value v) w' := by intro w' hs; repeat (have h_ := And.left hs; replace hs := And.right hs); go_simp; with_reducible rfl)
    (ha : a.put oi.dst v = a' := by simp only [Act.put, List.setIfInBounds_toArray, List.set_cons_zero, List.set_cons_succ, i64_w, i32_w]; rfl) : wpAnyLast P md ops Q S ds (fuel + 1) l a w := take_ _ hi rfl hc hQ (.inl ⟨hw, hr⟩) hS ha h
set_option maxHeartbeats 2000000 in
theorem zon (i : Nat) (N : Option Tmp) (h : ∀ K : Act → World → Prop, Shut (∀ a' w', S w' → (S w' → wpAnyLast P md ops Q S ds fuel (l.setIfInBounds i true) a' w') → K a' w') → if Region.wanted oi (yielded ops a.tmps) = true then Oper.wp P oi a w K Q else K (a.put N undef) w)
    (hi : ops[i]? = some oi := by simp only [List.getElem?_toArray, List.getElem?_cons_succ, List.getElem?_cons_zero]; rfl) (hN : oi.dst = N := by rfl) (hc : readyB md ops l (l.setIfInBounds i true) i = true := by first | exact one_of (Aside0.out (by with_reducible assumption)) (by kernel_rfl) | kernel_rfl) (hd : i ∉ ds := by decide) : wpAnyLast P md ops Q S ds (fuel + 1) l a w := one_ _ hi hN hc hd h
set_option maxHeartbeats 2000000 in
theorem zla (i : Nat) (N : Option Tmp) (h : ∀ K : Act → World → Prop, Shut (∀ a' w', wpAnyLast P md ops Q S ds fuel (l.setIfInBounds i true) a' w' → K a' w') → if Region.wanted oi (yielded ops a.tmps) = true then Oper.wp P oi a w K Q else K (a.put N undef) w)
    (hi : ops[i]? = some oi := by simp only [List.getElem?_toArray, List.getElem?_cons_succ, List.getElem?_cons_zero]; rfl) (hN : oi.dst = N := by rfl) (hc : readyB md ops l (l.setIfInBounds i true) i = true := by first | exact one_of (Aside0.out (by with_reducible assumption)) (by kernel_rfl) | kernel_rfl) (hd : i ∈ ds := by decide) : wpAnyLast P md ops Q S ds (fuel + 1) l a w := last_ _ hi hN hc hd h
theorem znm (N : Option Tmp) {b : Act} {v : Value} (h : wpAnyLast P md ops Q S ds fuel l a' w) (ha : b.put N v = a' := by simp only [Act.put, List.setIfInBounds_toArray, List.set_cons_zero, List.set_cons_succ, i64_w, i32_w]; rfl) : wpAnyLast P md ops Q S ds fuel l (b.put N v) w := norm_ ha h
theorem zdo {n : Nat} (h : Q .normal a w) (hr : (Region.ready md ops l == []) = true := by first | exact done_of (Aside0.out (by with_reducible assumption)) (by kernel_rfl) | as_aux_lemma => kernel_rfl) : wpAnyLast P md ops Q S ds n l a w := done_ hr h
set_option maxHeartbeats 2000000 in
theorem zgo {N : Option Tmp} {K : Act → World → Prop} {f : FuncId} {fn : Func} {as : Array Operand} {ts : Array TypeId} (hf : P.funcs[f]? = some fn) (args : Array Value) (h : Calls P f args w fun e w' => ∃ v, e = .returned v ∧ K (a.put N v) w')
    (hname : (fn.name == "runtime.NumGoroutine") = false := by kernel_rfl) (hb : fn.body.isSome = true := by rfl) (hw : Region.wanted oi (yielded ops a.tmps) = true := by rfl) (hN : oi.dst = N := by rfl) (hop : oi.op = .call { callee := .value (.func f), args := as, argTypes := ts } := by rfl)
    (hargs : as.map a.eval = args := by (try simp only [List.map_toArray, List.map_cons, List.map_nil]); first | done | rfl | (simp only [List.length_drop, List.length_take]; rfl)) : if Region.wanted oi (yielded ops a.tmps) = true then Oper.wp P oi a w K Q else K (a.put N undef) w := goes_ hf hname hb args hw hN hop hargs h
end
section
variable {w w1 w2 : World} {g g' : Nat} {o : Obj} {b : Nat} {w0 : World}
theorem zb_ (h : Below w0.heap.size w0 w := by repeat (first | (with_reducible first | exact Aside0.out (by assumption) | apply below_alloc | apply pw_below_drewN | apply below_drew1 | refine below_set ?_ (Aside0.out (by assumption))) | exact Aside0.out (by assumption))) : Below w0.heap.size w0 w := h
theorem zx_ (h : w.heap[g]? = some o := by (with_reducible repeat (first | refine blk_drewN ?_ _ | refine blk_drew ?_ | refine blk_alloc ?_ _)); exact Aside0.out (by assumption)) : w.heap[g]? = some o := h
theorem zkH (_h : Aside0 (Below w0.heap.size w0 w)) (hb : Below w1.heap.size w1 w2) (h : Below w0.heap.size w0 w1 := by exact zb_) : Aside0 (Below w0.heap.size w0 w2) := ⟨below_step h hb⟩
theorem zkB (_h : Aside0 (w.heap[g]? = some o)) (hb : Below w1.heap.size w1 w2) (h : w1.heap[g]? = some o := by exact zx_) : Aside0 (w2.heap[g]? = some o) := ⟨blk_below h hb⟩
theorem zkG (_h : Aside0 (Below w0.heap.size w0 w)) (hg : g = w1.heap.size) (h : Below w0.heap.size w0 w1 := by exact zb_) : Aside0 (w0.heap.size ≤ g) := ⟨by rw [hg]; exact below_size h⟩
theorem zkN (_h : Aside0 (w.heap[g]? = some o)) (hg : g' = w1.heap.size) (h : w1.heap[g]? = some o := by exact zx_) : Aside0 (g ≠ g') := ⟨by rw [hg]; exact Nat.ne_of_lt (blk_lt h)⟩
theorem zkM (_h : Aside0 (w.heap[g]? = some o)) (hg : g' = w1.heap.size) (h : w1.heap[g]? = some o := by exact zx_) : Aside0 (g' ≠ g) := ⟨by rw [hg]; exact Nat.ne_of_gt (blk_lt h)⟩
theorem zhx (h : Aside0 (Below w0.heap.size w0 w)) {a : Addr} {v : Value} (hx : w0.cell? a = some v) : w.cell? a = some v := (h.out.cell (World.block_lt_of_cell? w0 _ hx)).trans hx
theorem zC {α : Type} {d : Kd α} {A : Option Addr} {n : Nat} {xs : List α} (h : Aside0 (d.C w0 A n xs)) (hb : Below w0.heap.size w0 w := by exact zb_) : d.C w A n xs := Kd.C_below h.out hb
theorem za_ {p : Prop} [Decidable p] (h : decide p = true := by first | (with_reducible assumption) | assumption) : p := of_decide_eq_true h
theorem ze_ {p : Prop} (h : p := by first | rfl | (simp [errW_none, errW_some] <;> rfl) | (simp [*, errW_none, errW_some] <;> rfl)) : p := h
theorem zs_ {p : Prop} (h : p := by first | rfl | (simp; done) | (simp [*]; done)) : p := h
theorem zr_ {p : Prop} (h : p := by first | exact Kd.R_nil _ _ _ _ _ | exact Kd.N_nil _ _ _ _ _ | exact Kd.V_nil _ _ _ _ _ | exact Kd.Q_nil _ _ _ _ _ | exact Kd.S_nil _ _ _ _ _) : p := h
end
section
variable {P : Program} {ops : Array Oper} {rest : List Oper} {o : Oper} {a : Act} {Q : Exit → Act → World → Prop}
set_option maxHeartbeats 2000000 in
theorem zbx {W : World} (N : Tmp) (cs : Array Value) (t : TypeId) (h : ∀ g, g = W.heap.size → ∀ w1, w1.heap[g]? = some (.cells cs t (0, 0)) → Below W.heap.size W w1 → wpList P ops Q rest (a.put o.dst (.pointer (some ⟨g, 0, none⟩))) w1)
    (hgd : o.guard = none := by rfl) (hd : o.dst = some N := by rfl) (hrun : (execOp a.eval o).run P W = .ok (.value (.pointer (some ⟨W.heap.size, 0, none⟩))) (W.alloc (.cells cs t (0, 0))) := by first | (go_simp; done) | (go_simp; rfl)) : wpList P ops Q (o :: rest) a W := box_event hgd hd hrun h
end
section
variable {w : World} {g : Nat} {t : TypeId} {x0 x1 x2 x3 x4 x5 x6 x7 : Value}
theorem zc1 (h : w.heap[g]? = some (.cells #[x0] t (0, 0))) : w.cell? ⟨g, 0, none⟩ = some x0 ∧ w.frozen? ⟨g, 0, none⟩ = false := ⟨(blk_cell h 0).trans rfl, blk_frozen h 0⟩
theorem zc2 (h : w.heap[g]? = some (.cells #[x0, x1] t (0, 0))) : w.cell? ⟨g, 0, none⟩ = some x0 ∧ w.cell? ⟨g, 1, none⟩ = some x1 ∧ w.frozen? ⟨g, 0, none⟩ = false ∧ w.frozen? ⟨g, 1, none⟩ = false := ⟨(blk_cell h 0).trans rfl, (blk_cell h 1).trans rfl, blk_frozen h 0, blk_frozen h 1⟩
theorem zc3 (h : w.heap[g]? = some (.cells #[x0, x1, x2] t (0, 0))) : w.cell? ⟨g, 0, none⟩ = some x0 ∧ w.cell? ⟨g, 1, none⟩ = some x1 ∧ w.cell? ⟨g, 2, none⟩ = some x2 ∧ w.frozen? ⟨g, 0, none⟩ = false ∧ w.frozen? ⟨g, 1, none⟩ = false ∧ w.frozen? ⟨g, 2, none⟩ = false := ⟨(blk_cell h 0).trans rfl, (blk_cell h 1).trans rfl, (blk_cell h 2).trans rfl, blk_frozen h 0, blk_frozen h 1, blk_frozen h 2⟩
set_option maxHeartbeats 2000000 in
theorem zc7 (h : w.heap[g]? = some (.cells #[x0, x1, x2, x3, x4, x5, x6] t (0, 0))) : w.cell? ⟨g, 0, none⟩ = some x0 ∧ w.cell? ⟨g, 1, none⟩ = some x1 ∧ w.cell? ⟨g, 2, none⟩ = some x2 ∧ w.cell? ⟨g, 3, none⟩ = some x3 ∧ w.cell? ⟨g, 4, none⟩ = some x4 ∧ w.cell? ⟨g, 5, none⟩ = some x5 ∧ w.cell? ⟨g, 6, none⟩ = some x6 ∧ w.frozen? ⟨g, 0, none⟩ = false ∧ w.frozen? ⟨g, 1, none⟩ = false ∧ w.frozen? ⟨g, 2, none⟩ = false ∧ w.frozen? ⟨g, 3, none⟩ = false ∧ w.frozen? ⟨g, 4, none⟩ = false ∧ w.frozen? ⟨g, 5, none⟩ = false ∧ w.frozen? ⟨g, 6, none⟩ = false :=
  ⟨(blk_cell h 0).trans rfl, (blk_cell h 1).trans rfl, (blk_cell h 2).trans rfl, (blk_cell h 3).trans rfl, (blk_cell h 4).trans rfl, (blk_cell h 5).trans rfl, (blk_cell h 6).trans rfl, blk_frozen h 0, blk_frozen h 1, blk_frozen h 2, blk_frozen h 3, blk_frozen h 4, blk_frozen h 5, blk_frozen h 6⟩
end
theorem put_comm {n m : Tmp} (h : n ≠ m) (a : Act) (u v : Value) : (a.put (some m) u).put (some n) v = (a.put (some n) v).put (some m) u := by
  simp only [Act.put]
  congr 1
  exact Array.setIfInBounds_comm _ _ (fun e => h e.symm)
section
variable {P : Program} {ops : Array Oper} {Q : Exit → Act → World → Prop} {md : Region.Mode} {S : World → Prop} {ds : List Nat} {fuel : Nat} {l : Array Bool} {a : Act} {w : World}
theorem zboth (i j : Nat) (ni nj : Tmp) {oi oj : Oper} (Pi Pj : Value → World → Prop) (hw : S w)
    (hSi : ∀ a' W (K : Act → World → Prop), S W → (a' = a ∨ ∃ u, a' = a.put (some nj) u) → (∀ v W', S W' → Pi v W' → (∀ u, Pj u W → Pj u W') → K (a'.put (some ni) v) W') → if Region.wanted oi (yielded ops a'.tmps) = true then Oper.wp P oi a' W K Q else K (a'.put (some ni) undef) W)
    (hSj : ∀ a' W (K : Act → World → Prop), S W → (a' = a ∨ ∃ u, a' = a.put (some ni) u) → (∀ v W', S W' → Pj v W' → (∀ u, Pi u W → Pi u W') → K (a'.put (some nj) v) W') → if Region.wanted oj (yielded ops a'.tmps) = true then Oper.wp P oj a' W K Q else K (a'.put (some nj) undef) W)
    (h : ∀ v u W', S W' → Pi v W' → Pj u W' → wpAnyLast P md ops Q S ds fuel ((l.setIfInBounds i true).setIfInBounds j true) ((a.put (some ni) v).put (some nj) u) W')
    (hi : ops[i]? = some oi := by simp only [List.getElem?_toArray, List.getElem?_cons_succ, List.getElem?_cons_zero]; rfl) (hj : ops[j]? = some oj := by simp only [List.getElem?_toArray, List.getElem?_cons_succ, List.getElem?_cons_zero]; rfl)
    (hNi : oi.dst = some ni := by rfl) (hNj : oj.dst = some nj := by rfl) (hne : ni ≠ nj := by decide) (hij : i ≠ j := by decide) (hdi : i ∉ ds := by decide) (hdj : j ∉ ds := by decide)
    (hc : (Region.ready md ops l == [i, j]) = true := by kernel_rfl) (hc1 : (Region.ready md ops (l.setIfInBounds i true) == [j]) = true := by kernel_rfl) (hc2 : (Region.ready md ops (l.setIfInBounds j true) == [i]) = true := by kernel_rfl) :
    wpAnyLast P md ops Q S ds (fuel + 1 + 1) l a w := by
  refine two_ (l.setIfInBounds i true) (l.setIfInBounds j true) hi hj hNi hNj (by rw [hc]; simp) hdi hdj (fun K hK => ?_) (fun K hK => ?_)
  · refine hSi a w K hw (.inl rfl) (fun v W' hS' hv hp => ?_)
    refine hK.out _ _ hS' (fun _ => ?_)
    refine one_ ((l.setIfInBounds i true).setIfInBounds j true) hj hNj (by unfold readyB; rw [hc1]; simp) hdj (fun K2 hK2 => ?_)
    refine hSj _ W' K2 hS' (.inr ⟨v, rfl⟩) (fun u W2 hS2 hu hp2 => ?_)
    exact hK2.out _ _ hS2 (fun _ => h v u W2 hS2 (hp2 v hv) hu)
  · refine hSj a w K hw (.inl rfl) (fun u W' hS' hu hp => ?_)
    refine hK.out _ _ hS' (fun _ => ?_)
    refine one_ ((l.setIfInBounds j true).setIfInBounds i true) hi hNi (by unfold readyB; rw [hc2]; simp) hdi (fun K2 hK2 => ?_)
    refine hSi _ W' K2 hS' (.inr ⟨u, rfl⟩) (fun v W2 hS2 hv hp2 => ?_)
    refine hK2.out _ _ hS2 (fun _ => ?_)
    rw [put_comm hne, Array.setIfInBounds_comm _ _ (fun e => hij e.symm)]
    exact h v u W2 hS2 hv (hp2 u hu)
end
end Go.Proofs.Ytkhbmgclklmimaa
end
