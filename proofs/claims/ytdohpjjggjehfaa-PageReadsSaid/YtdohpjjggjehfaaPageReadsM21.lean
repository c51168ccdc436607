/- Texts of the proof of PageReads, part 21. -/
import Derived.Test.YtdohpjjggjehfaaProg
import Derived.Test.YtdohpjjggjehfaaPageReadsM13
import Derived.Test.YtdohpjjggjehfaaPageReadsM17
import Derived.Deep.WholeRow
import Derived.Stop.BytesEq
import Derived.Laws.CopyOwn
import Derived.Lib.SlBytesConst
section
namespace Go.Proofs.Ytdohpjjggjehfaa
set_option linter.unusedVariables false
set_option linter.unusedSimpArgs false
open Go.RowKit Go.Proofs.YtdohpjjggjehfaaW.PrintWords Go.Proofs.YtdohpjjggjehfaaW.PrintLast Go.Proofs.YtdohpjjggjehfaaW.PrintMore
def pc (p : List Int) : Array Value := (p.map (Value.int .u8)).toArray
def pz : List Int := List.replicate 288 0
theorem pz_len : pz.length = 288 := List.length_replicate
theorem pc_size (p : List Int) : (pc p).size = p.length := by simp [pc]
theorem pc_get (p : List Int) (i : Nat) : (pc p)[i]? = p[i]?.map (Value.int .u8) := by simp [pc]
theorem pc_list (p : List Int) : (pc p).toList = p.map (Value.int .u8) := by simp [pc]
theorem pc_one (p : List Int) : (pc p).all (·.oneCell') = true := by
  rw [Array.all_eq_true_iff_forall_mem]
  intro v hv
  have : v ∈ p.map (Value.int .u8) := by simpa [pc] using hv
  obtain ⟨x, _, rfl⟩ := List.mem_map.1 this
  rfl
theorem pc_set (p : List Int) (i : Nat) (v : Int) : (pc p).setIfInBounds i (.int .u8 v) = pc (p.set i v) := by simp [pc, List.map_set]
theorem pg_info : (Try.prog.info? 29).map (fun i => (i.zero, i.size)) = some (some (.agg (pc pz)), 288) := by kernel_rfl
theorem pg_size {p : List Int} (h : p.length = 288) : (Try.prog.info? 29).map (·.size) = some (pc p).size := by rw [pc_size, h]; exact (zero_of_info pg_info).2
section
variable {w : World} {g t : Nat} {p : List Int}
theorem pg_cell {i : Nat} {v : Int} (h : w.heap[g]? = some (.cells (pc p) t (0, 0))) (hi : p[i]? = some v) : w.cell? ⟨g, i, none⟩ = some (.int .u8 v) := (blk_cell h i).trans (by rw [pc_get, hi]; rfl)
theorem pg_C {lo m : Nat} (h : w.heap[g]? = some (.cells (pc p) t (0, 0))) (hn : lo + m ≤ p.length) (hp : p.length = 288) : (Kd.int .u8).C w (some ⟨g, lo, none⟩) m ((p.drop lo).take m) := by
  refine ⟨by rw [List.length_take, List.length_drop]; omega, by omega, fun _ => ⟨_, rfl, fun j q hj => ⟨[.int .u8 q], rfl, rfl, fun i u hu => ?_⟩⟩⟩
  rcases i with _ | i
  · cases hu
    have hj' := (List.getElem?_eq_some_iff.1 hj).1
    rw [List.getElem?_take, List.getElem?_drop] at hj
    have hjm : j < m := by simp at hj'; omega
    rw [if_pos hjm] at hj
    show w.cell? ((⟨g, lo, none⟩ : Addr).add (j * 1 + 0)) = _
    have e : (⟨g, lo, none⟩ : Addr).add (j * 1 + 0) = ⟨g, lo + j, none⟩ := by unfold Addr.add; by_cases h0 : j = 0 <;> simp [h0]
    rw [e]
    exact pg_cell h hj
  · simp at hu
end
section
variable {ops : Array Oper} {rest : List Oper} {o : Oper} {a : Act} {Q : Exit → Act → World → Prop} {W : World} {g : Nat} {x y : Operand} {p q : List Int}
theorem pg_new (hop : o.op = .alloc 29) : (execOp a.eval o).run Try.prog W = .ok (.value (.pointer (some ⟨W.heap.size, 0, none⟩))) (W.alloc (.cells (pc pz) 29 (0, 0))) := by
  have hz := (zero_of_info pg_info).1
  simp only [execOp, hop]
  simp [Instr.alloc, newVar, newRow, hz, Value.cells]
  done
theorem pg_load (hop : o.op = .load 29 x) (hx : a.eval x = .pointer (some ⟨g, 0, none⟩)) (hb : W.heap[g]? = some (.cells (pc p) 29 (0, 0))) (hp : p.length = 288) : (execOp a.eval o).run Try.prog W = .ok (.value (.agg (pc p))) W := by
  have h := run_loadVar_row (P := Try.prog) W g 29 29 (pc p) (0, 0) _ hb Try.underlying29 rfl (pg_size hp)
  simp only [execOp, hop, hx]
  simp [Instr.loadAt, Instr.sureAddr, h]
  done
set_option maxHeartbeats 2000000 in
theorem pg_store (hop : o.op = .store 29 x y) (hx : a.eval x = .pointer (some ⟨g, 0, none⟩)) (hy : a.eval y = .agg (pc q)) (hb : W.heap[g]? = some (.cells (pc p) 29 (0, 0))) (hp : p.length = 288) (hq : q.length = 288) : (execOp a.eval o).run Try.prog W = .ok .skip (W.setRow g (pc q)) := by
  have h := run_storeVar_row (P := Try.prog) W g 29 29 (pc p) (pc q) hb (pg_size hq) (by rw [pc_size, pc_size, hp, hq]) (pc_one q)
  simp only [execOp, hop, hx, hy]
  simp [Instr.storeAt, Instr.sureAddr, h]
  done
theorem pg_box (hop : o.op = .box 29 x) (hx : a.eval x = .agg (pc p)) : (execOp a.eval o).run Try.prog W = .ok (.value (.pointer (some ⟨W.heap.size, 0, none⟩))) (W.alloc (.cells (pc p) 29 (0, 0))) := by
  simp only [execOp, hop, hx]
  simp [Instr.box, newVar, newRow, Value.cells]
  done
end
theorem splice_map {α β : Type} (f : α → β) (L : List α) (lo : Nat) (ys : List α) : splice (L.map f) lo (ys.map f) = (splice L lo ys).map f := by
  simp only [splice, List.map_append, List.map_take, List.map_drop, List.length_map]
theorem splice_len {α : Type} {L : List α} {lo : Nat} {ys : List α} (h : lo + ys.length ≤ L.length) : (splice L lo ys).length = L.length := length_splice L lo ys h
theorem splice_nil {α : Type} (L : List α) (lo : Nat) : splice L lo [] = L := by simp [splice]
theorem setRow_self {w : World} {g t : Nat} {cs : Array Value} (h : w.heap[g]? = some (.cells cs t (0, 0))) : w.setRow g cs = w := by
  have hm : ∀ f : Obj → Obj, f (.cells cs t (0, 0)) = .cells cs t (0, 0) → w.heap.modify g f = w.heap := by
    intro f hf
    apply Array.ext_getElem?
    intro j
    rw [Array.getElem?_modify]
    by_cases e : g = j
    · subst e
      rw [if_pos rfl, h]
      simp [hf]
    · rw [if_neg e]
  unfold World.setRow
  rw [hm _ rfl]
theorem u8_info : (Try.prog.info? 5).map (·.size) = some 1 := by kernel_rfl
section
variable {o : Oper} {a : Act} {W : World} {g lo dl dc c : Nat} {x y : Operand} {p ys : List Int} {A : Option Addr}
set_option maxHeartbeats 2000000 in
theorem pg_copy (ho : o.op = .call { callee := .builtin .copy, args := #[x, y], argTypes := #[24, 24] }) (hx : a.eval x = .slice (some ⟨g, lo, none⟩) dl dc) (hy : a.eval y = .slice A ys.length c)
    (hC : (Kd.int .u8).C W A ys.length ys) (hb : W.heap[g]? = some (.cells (pc p) 29 (0, 0))) (hfit : lo + min ys.length dl ≤ p.length) :
    (execOp a.eval o).run Try.prog W = .ok (.value (goInt (min ys.length dl : Nat))) (W.setRow g (pc (splice p lo (ys.take dl)))) := by
  by_cases h0 : min ys.length dl = 0
  · have ht : ys.take dl = [] := List.eq_nil_of_length_eq_zero (by rw [List.length_take, Nat.min_comm]; exact h0)
    rw [ht, splice_nil, setRow_self hb, h0]
    have hrun := run_copy_none (P := Try.prog) W 24 24 o.type 5 (some ⟨g, lo, none⟩) A dl dc ys.length c Try.underlying24 u8_info h0
    simp [execOp, ho, resolve, invoke, builtin, hx, hy, hrun, Result.andThen]
  · obtain ⟨_, _, hrd⟩ := Kd.reads_of_C (d := (0 : Int)) hC
    obtain ⟨ad, rfl, hcell⟩ := hrd (by omega)
    have hlen : ((ys.take dl).map (Value.int .u8)).length = min ys.length dl := by rw [List.length_map, List.length_take, Nat.min_comm]
    have hrun := run_copy_row (P := Try.prog) W 24 24 o.type 5 g lo dl dc ad ys.length c (pc p) 29 ((ys.take dl).map (Value.int .u8)) Try.underlying24 u8_info hb hlen (fun j v hj => ?_) (by rw [hlen, pc_size]; exact hfit) (fun v hv => by obtain ⟨z, _, rfl⟩ := List.mem_map.1 hv; rfl)
    · have e : ((pc p).toList.take lo ++ (ys.take dl).map (Value.int .u8) ++ (pc p).toList.drop (lo + ((ys.take dl).map (Value.int .u8)).length)).toArray = pc (splice p lo (ys.take dl)) := by
        rw [pc_list, pc, ← splice_map, splice, List.append_assoc]
      rw [e, hlen] at hrun
      simp [execOp, ho, resolve, invoke, builtin, hx, hy, hrun, Result.andThen]
    · rw [List.getElem?_map, List.getElem?_take] at hj
      obtain ⟨z, hz, rfl⟩ := Option.map_eq_some_iff.1 hj
      by_cases hjd : j < dl
      · rw [if_pos hjd] at hz
        have hjl := (List.getElem?_eq_some_iff.1 hz).1
        rw [hcell j hjl, List.getD_eq_getElem?_getD, hz]
        rfl
      · rw [if_neg hjd] at hz
        cases hz
end
theorem all_eq : ∀ (xs ys : List Int), xs.length = ys.length → ((List.range xs.length).all fun i => xs.getD i 0 == ys.getD i 0) = (xs == ys)
  | [], [], _ => rfl
  | x :: xs, y :: ys, h => by
    have ih := all_eq xs ys (by simpa using h)
    rw [List.length_cons, List.range_succ_eq_map, List.all_cons, List.all_map]
    simp only [List.getD_cons_zero, Function.comp_def, List.getD_cons_succ, ih]
    simp [List.cons_beq_cons]
  | [], _ :: _, h => by simp at h
  | _ :: _, [], h => by simp at h
section
variable {P : Program} (w : World)
set_option maxHeartbeats 2000000 in
theorem eq_bytes (d : Nat) (t e : TypeId) (n : Nat) (ht : P.underlying t = some (.array n e)) (he : P.underlying e = some (.int .u8)) (hsz : ∀ w, (sizeOf e).run P w = .ok 1 w) (xs ys : List Int) (hx : xs.length = n) (hy : ys.length = n) :
    (Op.equalIn (d + 2) t (.agg (pc xs)) (.agg (pc ys))).run P w = .ok (xs == ys) w := by
  rw [← all_eq xs ys (hx.trans hy.symm), hx, List.range_eq_range', Op.equalIn]
  simp only [Sem.run_bind, run_underlying ht, Result.andThen_ok, hsz, Std.Legacy.Range.forIn_eq_forIn_range', Std.Legacy.Range.size, Nat.sub_zero, Nat.add_sub_cancel, Nat.div_one]
  have hl : ∀ i ∈ List.range' 0 n 1, i < n := fun i hi => by simpa using (List.mem_range'_1.1 hi).2
  generalize List.range' 0 n 1 = l at hl ⊢
  induction l with
  | nil => simp
  | cons i l ih =>
    have hi : i < n := hl i (by simp)
    have px : (part e (pc xs) (i * 1)).run P w = .ok (.int .u8 (xs.getD i 0)) w := by
      simp [part, isAgg, run_underlying he, pc_get, List.getD, List.getElem?_eq_getElem (show i < xs.length by omega)]
    have py : (part e (pc ys) (i * 1)).run P w = .ok (.int .u8 (ys.getD i 0)) w := by
      simp [part, isAgg, run_underlying he, pc_get, List.getD, List.getElem?_eq_getElem (show i < ys.length by omega)]
    have pe := run_equalIn_int (P := P) w d e .u8 .u8 (xs.getD i 0) (ys.getD i 0) he
    simp only [List.forIn_cons, Sem.run_bind, px, py, pe, Result.andThen_ok, List.all_cons]
    cases hb : (xs.getD i 0 == ys.getD i 0)
    · simp
    · simp only [Bool.not_true, Bool.false_eq_true, if_false, Sem.run_pure, Result.andThen_ok, Bool.true_and]
      exact ih fun j hj => hl j (by simp [hj])
end
theorem pc_extract (p : List Int) (i j : Nat) : (pc p).extract i j = pc ((p.drop i).take (j - i)) := by
  apply Array.ext'
  simp [pc, List.extract_eq_take_drop, List.map_take, List.map_drop]
theorem size26 (w : World) : (sizeOf 26).run Try.prog w = .ok 256 w := by
  have : (Try.prog.info? 26).map (·.size) = some 256 := by kernel_rfl
  obtain ⟨i, hi, hz⟩ := Option.map_eq_some_iff.1 this
  simp [sizeOf, typeInfo, hi, hz]
theorem size27 (w : World) : (sizeOf 27).run Try.prog w = .ok 32 w := by
  have : (Try.prog.info? 27).map (·.size) = some 32 := by kernel_rfl
  obtain ⟨i, hi, hz⟩ := Option.map_eq_some_iff.1 this
  simp [sizeOf, typeInfo, hi, hz]
theorem size5 (w : World) : (sizeOf 5).run Try.prog w = .ok 1 w := by
  obtain ⟨i, hi, hz⟩ := Option.map_eq_some_iff.1 u8_info
  simp [sizeOf, typeInfo, hi, hz]
set_option maxHeartbeats 2000000 in
theorem pg_eq (w : World) {p q : List Int} (hp : p.length = 288) (hq : q.length = 288) : (Op.equalIn 10000 29 (.agg (pc p)) (.agg (pc q))).run Try.prog w = .ok (decide (p = q)) w := by
  have e : (decide (p = q)) = (((p.drop 0).take 256 == (q.drop 0).take 256) && ((p.drop 256).take 32 == (q.drop 256).take 32)) := by
    rw [Bool.eq_iff_iff, decide_eq_true_iff, Bool.and_eq_true, beq_iff_eq, beq_iff_eq]
    constructor
    · rintro rfl; exact ⟨rfl, rfl⟩
    · rintro ⟨h1, h2⟩
      rw [List.drop_zero, List.drop_zero] at h1
      rw [List.take_of_length_le (by rw [List.length_drop]; omega), List.take_of_length_le (by rw [List.length_drop]; omega)] at h2
      rw [← List.take_append_drop 256 p, h1, h2, List.take_append_drop]
  rw [e]
  refine eqA_of Try.underlying29 (by kernel_rfl) ?_
  have a1 : ∀ r : List Int, (part 26 (pc r) 0).run Try.prog w = .ok (.agg (pc ((r.drop 0).take 256))) w := fun r => by
    simp [part, isAgg, run_underlying Try.underlying26, size26, pc_extract]
  have a2 : ∀ r : List Int, (part 27 (pc r) 256).run Try.prog w = .ok (.agg (pc ((r.drop 256).take 32))) w := fun r => by
    simp [part, isAgg, run_underlying Try.underlying27, size27, pc_extract]
  refine eqf_cons (by rfl) (a1 p) (a1 q) ?_ (eqf_last (by rfl) (a2 p) (a2 q) ?_)
  · exact eq_bytes w 9997 26 5 256 Try.underlying26 Try.underlying5 size5 _ _ (by rw [List.length_take, List.length_drop]; omega) (by rw [List.length_take, List.length_drop]; omega)
  · exact eq_bytes w 9997 27 5 32 Try.underlying27 Try.underlying5 size5 _ _ (by rw [List.length_take, List.length_drop]; omega) (by rw [List.length_take, List.length_drop]; omega)
set_option maxHeartbeats 2000000 in
theorem setCell_row {W : World} {g i t : Nat} {p : List Int} {v : Int} (hb : W.heap[g]? = some (.cells (pc p) t (0, 0))) : W.setCell ⟨g, i, none⟩ (.int .u8 v) = W.setRow g (pc (p.set i v)) := by
  have hm : W.heap.modify g (fun x => match x with | .cells cs t fr => .cells (cs.setIfInBounds i (.int .u8 v)) t fr | x => x) = W.heap.modify g (fun x => match x with | .cells _ t fr => .cells (pc (p.set i v)) t fr | x => x) := by
    apply Array.ext_getElem?
    intro j
    rw [Array.getElem?_modify, Array.getElem?_modify]
    by_cases e : g = j
    · subst e
      rw [if_pos rfl, if_pos rfl, hb]
      simp [pc_set]
    · rw [if_neg e, if_neg e]
  unfold World.setCell World.setRow
  first | rw [hm] | (congr 1)
section
variable {ops : Array Oper} {rest : List Oper} {o : Oper} {a : Act} {Q : Exit → Act → World → Prop} {W : World} {g i : Nat} {x y : Operand} {p q : List Int} {v : Int}
theorem pg_set (hop : o.op = .store 5 x y) (hx : a.eval x = .pointer (some ⟨g, i, none⟩)) (hy : a.eval y = .int .u8 v) (hb : W.heap[g]? = some (.cells (pc p) 29 (0, 0))) (hi : i < p.length) : (execOp a.eval o).run Try.prog W = .ok .skip (W.setRow g (pc (p.set i v))) := by
  have c0 : W.cell? ⟨g, i, none⟩ = some (.int .u8 p[i]) := pg_cell hb (List.getElem?_eq_getElem hi)
  have f0 := blk_frozen hb i
  rw [← setCell_row hb]
  simp only [execOp, hop, hx, hy]
  go_simp
set_option maxHeartbeats 2000000 in
theorem pg_put (hgd : o.guard = none) (hN : o.dst = none) (hrun : (execOp a.eval o).run Try.prog W = .ok .skip (W.setRow g (pc q))) (hb : W.heap[g]? = some (.cells (pc p) 29 (0, 0)))
    (h : ∀ w2, w2.heap[g]? = some (.cells (pc q) 29 (0, 0)) → (∀ k, k ≠ g → w2.heap[k]? = W.heap[k]?) → (∀ B w0, Below B w0 W → B ≤ g → Below B w0 w2) → wpList Try.prog ops Q rest a w2) : wpList Try.prog ops Q (o :: rest) a W := by
  refine wpList_plain hgd fun K hK => ?_
  unfold Oper.wp
  rw [hrun]
  show K (a.put o.dst undef) _
  rw [hN]
  exact hK _ _ (h _ (setRow_heap W g _ _ 29 _ hb) (fun k hk => setRow_other W g k _ hk) (fun B w0 hB hg => below_setRow hB hg _))
set_option maxHeartbeats 2000000 in
theorem pg_putv {u : Value} (hgd : o.guard = none) (hrun : (execOp a.eval o).run Try.prog W = .ok (.value u) (W.setRow g (pc q))) (hb : W.heap[g]? = some (.cells (pc p) 29 (0, 0)))
    (h : ∀ w2, w2.heap[g]? = some (.cells (pc q) 29 (0, 0)) → (∀ k, k ≠ g → w2.heap[k]? = W.heap[k]?) → (∀ B w0, Below B w0 W → B ≤ g → Below B w0 w2) → wpList Try.prog ops Q rest (a.put o.dst u) w2) : wpList Try.prog ops Q (o :: rest) a W :=
  Kd.event_run hgd hrun (h _ (setRow_heap W g _ _ 29 _ hb) (fun k hk => setRow_other W g k _ hk) (fun B w0 hB hg => below_setRow hB hg _))
end
section
variable {o : Oper} {a : Act} {W : World} {g : Nat} {x y z : Operand} {v0 v1 v2 v3 : Value}
theorem pg_build (hop : o.op = .build 29 #[]) : (execOp a.eval o).run Try.prog W = .ok (.value (.agg (pc pz))) W := by
  have hz := (zero_of_info pg_info).1
  simp only [execOp, hop]
  simp [Instr.build, Instr.fill, hz, Value.cells, run_underlying Try.underlying29]
set_option maxHeartbeats 2000000 in
theorem pg_h23 (hop : o.op = .load 23 x) (hx : a.eval x = .pointer (some ⟨g, 0, none⟩)) (hb : W.heap[g]? = some (.cells #[v0, v1, v2, v3] 23 (0, 0))) : (execOp a.eval o).run Try.prog W = .ok (.value (.agg #[v0, v1, v2, v3])) W := by
  have hu := Try.underlying23
  have c0 : W.cell? ⟨g, 0, none⟩ = some v0 := (blk_cell hb 0).trans rfl
  have c1 : W.cell? ⟨g, 1, none⟩ = some v1 := (blk_cell hb 1).trans rfl
  have c2 : W.cell? ⟨g, 2, none⟩ = some v2 := (blk_cell hb 2).trans rfl
  have c3 : W.cell? ⟨g, 3, none⟩ = some v3 := (blk_cell hb 3).trans rfl
  simp only [execOp, hop, hx]
  go_simp
theorem pg_c3 {j t : Nat} {cs : Array Value} {v : Value} (hop : o.op = .load 3 x) (hx : a.eval x = .pointer (some ⟨g, j, none⟩)) (hb : W.heap[g]? = some (.cells cs t (0, 0))) (hj : cs[j]? = some v) : (execOp a.eval o).run Try.prog W = .ok (.value v) W := by
  have c0 : W.cell? ⟨g, j, none⟩ = some v := (blk_cell hb j).trans hj
  simp only [execOp, hop, hx]
  go_simp
theorem pg_c2 {j t : Nat} {cs : Array Value} {v : Value} (hop : o.op = .load 2 x) (hx : a.eval x = .pointer (some ⟨g, j, none⟩)) (hb : W.heap[g]? = some (.cells cs t (0, 0))) (hj : cs[j]? = some v) : (execOp a.eval o).run Try.prog W = .ok (.value v) W := by
  have c0 : W.cell? ⟨g, j, none⟩ = some v := (blk_cell hb j).trans hj
  simp only [execOp, hop, hx]
  go_simp
set_option maxHeartbeats 2000000 in
theorem pg_st23 {n0 n1 n2 n3 : Int} (hop : o.op = .store 23 x y) (hx : a.eval x = .pointer (some ⟨g, 0, none⟩)) (hy : a.eval y = .agg #[.int .i64 n0, .int .i64 n1, .int .i64 n2, .int .i64 n3]) (hb : W.heap[g]? = some (.cells #[v0, v1, v2, v3] 23 (0, 0))) :
    (execOp a.eval o).run Try.prog W = .ok .skip (Cw.setL W g 0 [.int .i64 n0, .int .i64 n1, .int .i64 n2, .int .i64 n3]) := by
  have hu := Try.underlying23
  have c0 : W.cell? ⟨g, 0, none⟩ = some v0 := (blk_cell hb 0).trans rfl
  have c1 : W.cell? ⟨g, 1, none⟩ = some v1 := (blk_cell hb 1).trans rfl
  have c2 : W.cell? ⟨g, 2, none⟩ = some v2 := (blk_cell hb 2).trans rfl
  have c3 : W.cell? ⟨g, 3, none⟩ = some v3 := (blk_cell hb 3).trans rfl
  have f0 := blk_frozen hb 0
  have f1 := blk_frozen hb 1
  have f2 := blk_frozen hb 2
  have f3 := blk_frozen hb 3
  simp only [execOp, hop, hx, hy]
  go_simp
  rfl
set_option maxHeartbeats 2000000 in
theorem pg_lit5 {y0 y1 y2 y3 y4 : Operand} {n0 n1 n2 n3 n4 : Int} (hop : o.op = .buildSlice 64 5 #[(0, y0), (1, y1), (2, y2), (3, y3), (4, y4)]) (h0 : a.eval y0 = .int .u64 n0) (h1 : a.eval y1 = .int .u64 n1) (h2 : a.eval y2 = .int .u64 n2) (h3 : a.eval y3 = .int .u64 n3) (h4 : a.eval y4 = .int .u64 n4) :
    (execOp a.eval o).run Try.prog W = .ok (.value (.slice (some ⟨W.heap.size, 0, none⟩) 5 5)) (W.alloc (.cells #[.int .u64 n0, .int .u64 n1, .int .u64 n2, .int .u64 n3, .int .u64 n4] 58 (0, 0))) := by
  generalize hE : a.eval = ev at h0 h1 h2 h3 h4 ⊢
  simp only [execOp, hop]
  go_simp
theorem pg_lit2 {A0 A1 : Option Addr} {n0 c0 n1 c1 : Nat} (hop : o.op = .buildSlice 80 2 #[(0, x), (1, y)]) (hx : a.eval x = .slice A0 n0 c0) (hy : a.eval y = .slice A1 n1 c1) :
    (execOp a.eval o).run Try.prog W = .ok (.value (.slice (some ⟨W.heap.size, 0, none⟩) 2 2)) (W.alloc (.cells #[.slice A0 n0 c0, .slice A1 n1 c1] 24 (0, 0))) := by
  generalize hE : a.eval = ev at hx hy ⊢
  simp only [execOp, hop]
  go_simp
set_option maxHeartbeats 2000000 in
theorem pg_from {A : Option Addr} {n c : Nat} {lo : Int} (hop : o.op = .slice 24 x (some y) none none) (hx : a.eval x = .slice A n c) (hy : a.eval y = .int .i64 lo) (h0 : 0 ≤ lo) (h1 : lo ≤ (n : Int)) (hc : n ≤ c) :
    (execOp a.eval o).run Try.prog W = .ok (.value (.slice (if c = lo.toNat then A else A.map (fun z => z.add lo.toNat)) (n - lo.toNat) (c - lo.toNat))) W := by
  have hel : Try.prog.elem 24 = 5 := by simp [Program.elem, Try.underlying24]
  have hu : Try.prog.underlying 24 = some (.slice (Try.prog.elem 24)) := by rw [hel]; exact Try.underlying24
  generalize hE : a.eval = ev at hx hy ⊢
  simp only [execOp, hop, hx, hy, Option.map_some, Option.map_none]
  have h := run_slice_l (P := Try.prog) W 24 A n c hu .i64 lo h0 h1
  rw [hel] at h
  have hs := (run_sliceAt_slice (P := Try.prog) (w := W) 24 (.slice A n c) (some (.int .i64 lo)) none none hu).trans h
  simp [hs, size5, sliced, Result.andThen]
end
theorem pg_two {w : World} {t g n0 n1 : Nat} {A0 A1 : Option Addr} {c0 c1 : Nat} {l0 l1 : List Int} (e0 : l0.length = n0) (e1 : l1.length = n1) (hB : w.heap[g]? = some (.cells #[.slice A0 n0 c0, .slice A1 n1 c1] t (0, 0)))
    (h0 : (Kd.int .u8).C w A0 n0 l0) (hc0 : n0 ≤ c0) (h1 : (Kd.int .u8).C w A1 n1 l1) (hc1 : n1 ≤ c1) : (Kd.slice 5 (Kd.int .u8)).C w (some ⟨g, 0, none⟩) [l0, l1].length [l0, l1] := by
  subst e0 e1
  exact Cw.C_two hB h0 hc0 h1 hc1
theorem pg_Ctail {α : Type} {d : Kd α} (hs : d.sz = 1) {w : World} {A : Option Addr} {xs : List α} {m c : Nat} (h : d.C w A xs.length xs) (h1 : m ≤ xs.length) (hc : xs.length ≤ c) : d.C w (if c = m then A else A.map (fun z => z.add m)) (xs.drop m).length (xs.drop m) := by
  have := Kd.C_mid (lo := m) (hi := xs.length) (c := c) h h1 (Nat.le_refl _) hc
  rw [hs, Nat.mul_one, List.take_length] at this
  exact this
set_option maxHeartbeats 2000000 in
theorem pg_tail {o : Oper} {a : Act} {W : World} {x y : Operand} {A : Option Addr} {xs : List Int} {m c : Nat} {lo : Int} (hop : o.op = .slice 24 x (some y) none none) (hx : a.eval x = .slice A xs.length c) (hy : a.eval y = .int .i64 lo) (hm : lo = (m : Int)) (h1 : m ≤ xs.length) (hc : xs.length ≤ c) :
    (execOp a.eval o).run Try.prog W = .ok (.value (.slice (if c = m then A else A.map (fun z => z.add m)) (xs.drop m).length (c - m))) W := by
  rw [pg_from hop hx hy (by omega) (by omega) hc, hm, Int.toNat_natCast, List.length_drop]
section
variable {ops : Array Oper} {oi : Oper} {N : Option Tmp} {a : Act} {Q : Exit → Act → World → Prop} {K : Act → World → Prop} {W : World} {g : Nat} {p q : List Int} {u : Value}
set_option maxHeartbeats 2000000 in
theorem pg_putd (hw : Region.wanted oi (yielded ops a.tmps) = true) (hN : oi.dst = N) (hrun : (execOp a.eval oi).run Try.prog W = .ok (.value u) (W.setRow g (pc q))) (hb : W.heap[g]? = some (.cells (pc p) 29 (0, 0)))
    (h : ∀ w2, w2.heap[g]? = some (.cells (pc q) 29 (0, 0)) → (∀ k, k ≠ g → w2.heap[k]? = W.heap[k]?) → (∀ B w0, Below B w0 W → B ≤ g → Below B w0 w2) → K (a.put N u) w2) : if Region.wanted oi (yielded ops a.tmps) = true then Oper.wp Try.prog oi a W K Q else K (a.put N undef) W :=
  value_ hw hN hrun (h _ (setRow_heap W g _ _ 29 _ hb) (fun k hk => setRow_other W g k _ hk) (fun B w0 hB hg => below_setRow hB hg _))
end
section
variable {o : Oper} {a : Act} {W : World} {p : Operand}
theorem pg_new23 (hop : o.op = .alloc 23) : (execOp a.eval o).run Try.prog W = .ok (.value (.pointer (some ⟨W.heap.size, 0, none⟩))) (W.alloc (.cells #[.int .i64 0, .int .i64 0, .int .i64 0, .int .i64 0] 23 (0, 0))) := by
  simp only [execOp, hop]
  go_simp
theorem pg_add0 (ad : Addr) : ad.add 0 = ad := by unfold Addr.add; simp
theorem pg_u64 {ad : Addr} {n i : Nat} {xs : List Int} (hop : o.op = .load 58 p) (hp : a.eval p = .pointer (some ⟨ad.block, ad.off + i, none⟩)) (hC : (Kd.int .u64).C W (some ad) n xs) (h1 : i < n) (h0 : 0 < i) : (execOp a.eval o).run Try.prog W = .ok (.value (.int .u64 (rd xs (i : Int)))) W := by
  obtain ⟨ad', e, hc⟩ := Kd.at_int hC (i : Int) (by omega) (by omega)
  obtain rfl := Option.some.inj e
  have ha := add_field ad 0 i h0
  rw [pg_add0, Nat.zero_add] at ha
  rw [Int.toNat_natCast, ha] at hc
  simp only [execOp, hop, hp]
  go_simp
theorem pg_u64z {ad : Addr} {n : Nat} {xs : List Int} (hop : o.op = .load 58 p) (hp : a.eval p = .pointer (some ad)) (hC : (Kd.int .u64).C W (some ad) n xs) (h1 : 0 < n) : (execOp a.eval o).run Try.prog W = .ok (.value (.int .u64 (rd xs 0))) W := by
  obtain ⟨ad', e, hc⟩ := Kd.at_int hC 0 (by omega) (by omega)
  obtain rfl := Option.some.inj e
  have e0 : (0 : Int).toNat = 0 := rfl
  rw [e0, pg_add0] at hc
  simp only [execOp, hop, hp]
  go_simp
end
set_option maxHeartbeats 2000000 in
theorem pg_eqop {o : Oper} {a : Act} {W : World} {x y : Operand} {t : TypeId} {p q : List Int} (hop : o.op = .binOp .eql 29 x y t) (hx : a.eval x = .agg (pc p)) (hy : a.eval y = .agg (pc q)) (hp : p.length = 288) (hq : q.length = 288) : (execOp a.eval o).run Try.prog W = .ok (.value (.bool (decide (p = q)))) W := by
  have hg := run_eqGuard_agg (P := Try.prog) (w := W) .eql 29 x y (pc p) (pc q) (by kernel_rfl)
  have h := run_eql_struct (P := Try.prog) (w := W) 29 (pc p) (pc q)
  rw [pg_eq W hp hq] at h
  simp only [execOp, hop, hx, hy]
  simp [hg, h, Result.andThen]
section
variable {P : Program} {ops : Array Oper} {rest : List Oper} {o : Oper} {a : Act} {Q : Exit → Act → World → Prop}
theorem pg_made {W : World} (v : Nat → Value) {cs : Array Value} {t : TypeId} (hgd : o.guard = none) (hrun : (execOp a.eval o).run P W = .ok (.value (v W.heap.size)) (W.alloc (.cells cs t (0, 0))))
    (h : ∀ g, g = W.heap.size → ∀ w1, w1.heap[g]? = some (.cells cs t (0, 0)) → Below W.heap.size W w1 → wpList P ops Q rest (a.put o.dst (v g)) w1) : wpList P ops Q (o :: rest) a W :=
  Kd.event_run hgd hrun (h _ rfl _ (blk_new W _) (below_alloc (Below.refl _ _) _))
set_option maxHeartbeats 2000000 in
theorem pg_u8 {W : World} {x : Operand} {g i t : Nat} {p : List Int} (hop : o.op = .load 5 x) (hx : a.eval x = .pointer (some ⟨g, i, none⟩)) (hb : W.heap[g]? = some (.cells (pc p) t (0, 0))) (hi : i < p.length) : (execOp a.eval o).run Try.prog W = .ok (.value (.int .u8 (rd p (i : Int)))) W := by
  have hr : rd p (i : Int) = p[i] := by simp [rd, List.getD_eq_getElem?_getD, hi]
  have c0 : W.cell? ⟨g, i, none⟩ = some (.int .u8 p[i]) := pg_cell hb (List.getElem?_eq_getElem hi)
  rw [hr]
  simp only [execOp, hop, hx]
  go_simp
end
section
variable {ops : Array Oper} {rest : List Oper} {o o2 : Oper} {a : Act} {Q : Exit → Act → World → Prop}
theorem pg_const {W : World} {N : Tmp} {b : Int} (hop : o.op = .buildSlice 24 1 #[(0, .const (.int .u8 b))]) (hN : o.dst = some N) (hgd : o.guard = none) (hop2 : o2.op = .convert 24 24 (.tmp N)) (hgd2 : o2.guard = none)
    (hx : ∀ v, (a.put (some N) v).eval (.tmp N) = v)
    (h : ∀ g, g = W.heap.size → ∀ w1, (Kd.int .u8).C w1 (some ⟨g, 0, none⟩) 1 [b] → Below W.heap.size W w1 → wpList Try.prog ops Q rest ((a.put (some N) (.slice (some ⟨g, 0, none⟩) 1 1)).put o2.dst (.slice (some ⟨g, 0, none⟩) 1 1)) w1) : wpList Try.prog ops Q (o :: o2 :: rest) a W := by
  refine Kd.event_run hgd (v := .slice (some ⟨W.heap.size, 0, none⟩) 1 1) (w1 := W.alloc (.cells #[.int .u8 b] 5)) ?_ ?_
  · simp only [execOp, hop]
    go_simp
  rw [hN]
  have hc := Lib.run_convert_bytes_const (P := Try.prog) W 24 5 #[.int .u8 b] 1 1 Try.underlying24 Try.underlying5
  refine Kd.event_run hgd2 (v := .slice (some ⟨W.heap.size, 0, none⟩) 1 1) (w1 := W.alloc (.cells #[.int .u8 b] 5 (1, 2))) ?_ ?_
  · simp only [execOp, hop2, hx]
    simp [hc]
  · refine h _ rfl _ ⟨rfl, by decide, fun _ => ⟨_, rfl, fun j q hj => ⟨[.int .u8 q], rfl, rfl, fun i u hu => ?_⟩⟩⟩ (below_alloc (Below.refl _ _) _)
    rcases i with _ | i
    · cases hu
      rcases j with _ | j
      · cases hj
        show (W.alloc (.cells #[.int .u8 b] 5 (1, 2))).cell? ((⟨W.heap.size, 0, none⟩ : Addr).add 0) = _
        rw [pg_add0]
        exact cell_of_row _ _ 0 _ 5 (1, 2) (heap_alloc_new W _)
      · simp at hj
    · simp at hu
end
end Go.Proofs.Ytdohpjjggjehfaa
end
