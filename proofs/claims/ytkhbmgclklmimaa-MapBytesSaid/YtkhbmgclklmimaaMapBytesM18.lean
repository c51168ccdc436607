/- Texts of the proof of MapBytes, part 18. -/
import Derived.Test.YtkhbmgclklmimaaMapBytesM10
import Derived.Laws.CopyOwn
section
namespace Go.Proofs.Ytkhbmgclklmimaa.Cw
set_option linter.unusedVariables false
open Go.RowKit Go.Proofs.YtkhbmgclklmimaaW.PrintWords Go.Proofs.YtkhbmgclklmimaaW.PrintLast Go.Proofs.YtkhbmgclklmimaaW.PrintMore
section
variable {P : Program} {ops : Array Oper} {Q : Exit → Act → World → Prop} {md : Region.Mode} {S : World → Prop} {ds : List Nat}
theorem dstartD (ds : List Nat) {id n : Nat} {a : Act} {w : World} (hm : P.follows .mixedOrders = true) (hn : ops.size = n)
    (h : ∀ wd, Below w.heap.size w wd → wpAnyLast P .any ops Q (fun w' => Below wd.heap.size wd w') ds n (Array.replicate n false) a wd) : (Code.region id ops true).wp P Q a w :=
  start_ (S := fun w' => Below w.drew.heap.size w.drew w') (Array.replicate n false) hm hn rfl (Below.refl _ _) (fun _ => h w.drew (below_drew (Below.refl _ _)))
set_option maxHeartbeats 2000000 in
theorem dtkD {i : Nat} {N : Option Tmp} {oi : Oper} {v : Value} {fuel : Nat} {l : Array Bool} {a : Act} {w : World} (hi : ops[i]? = some oi) (hN : oi.dst = N) (hc : takeB md ops ds l (l.setIfInBounds i true) i = true) (hw : Region.wanted oi (yielded ops a.tmps) = true)
    (hQ : ∀ c a w, Q (.panic c) (a.put oi.dst v) w → Q (.panic c) a w) (hr : ∀ w', S w' → (execOp a.eval oi).run P w' = .ok (.value v) w') (hS : S w) {a' : Act} (ha : a.put N v = a')
    (h : wpAnyLast P md ops Q S ds fuel (l.setIfInBounds i true) a' w) : wpAnyLast P md ops Q S ds (fuel + 1) l a w := take_ _ hi hN hc hQ (.inl ⟨hw, hr⟩) hS ha h
set_option maxHeartbeats 2000000 in
theorem done1D {i : Nat} {N : Option Tmp} {oi : Oper} {fuel : Nat} {l : Array Bool} {a : Act} {w : World} (hi : ops[i]? = some oi) (hN : oi.dst = N) (hc : readyB md ops l (l.setIfInBounds i true) i = true) (hd : i ∉ ds)
    (h : ∀ K : Act → World → Prop, Shut (∀ a' w', S w' → (S w' → wpAnyLast P md ops Q S ds fuel (l.setIfInBounds i true) a' w') → K a' w') → if Region.wanted oi (yielded ops a.tmps) = true then Oper.wp P oi a w K Q else K (a.put N undef) w) :
    wpAnyLast P md ops Q S ds (fuel + 1) l a w := one_ _ hi hN hc hd h
set_option maxHeartbeats 2000000 in
theorem lastD {i : Nat} {N : Option Tmp} {oi : Oper} {fuel : Nat} {l : Array Bool} {a : Act} {w : World} (hi : ops[i]? = some oi) (hN : oi.dst = N) (hc : readyB md ops l (l.setIfInBounds i true) i = true) (hd : i ∈ ds)
    (h : ∀ K : Act → World → Prop, Shut (∀ a' w', wpAnyLast P md ops Q S ds fuel (l.setIfInBounds i true) a' w' → K a' w') → if Region.wanted oi (yielded ops a.tmps) = true then Oper.wp P oi a w K Q else K (a.put N undef) w) :
    wpAnyLast P md ops Q S ds (fuel + 1) l a w := last_ _ hi hN hc hd h
end
theorem C_ints {k : IntKind} {w : World} {g t : Nat} {xs : List Int} {cs : Array Value} (hB : w.heap[g]? = some (.cells cs t (0, 0))) (hc : cs = (xs.map (Value.int k)).toArray) (hn : xs.length ≤ 9223372036854775807) : (Kd.int k).C w (some ⟨g, 0, none⟩) xs.length xs := by
  refine ⟨rfl, hn, fun _ => ⟨_, rfl, fun j p hj => ⟨[.int k p], rfl, rfl, fun i u hu => ?_⟩⟩⟩
  rcases i with _ | i
  · cases hu
    show w.cell? ((⟨g, 0, none⟩ : Addr).add (j * 1 + 0)) = _
    rw [add_plain, blk_cell hB, hc]
    simp [hj]
  · simp at hu
set_option maxHeartbeats 2000000 in
theorem setL_at {g t : Nat} : ∀ (ys : List Value) (i : Nat) (w : World) (cs : Array Value), w.heap[g]? = some (.cells cs t (0, 0)) → i + ys.length = cs.size → (setL w g i ys).heap[g]? = some (.cells (cs.toList.take i ++ ys).toArray t (0, 0))
  | [], i, w, cs, h, hl => by
    rw [List.append_nil, List.take_of_length_le (by simp at hl ⊢; omega)]
    simpa [setL] using h
  | y :: ys, i, w, cs, h, hl => by
    have h2 := setL_at ys (i + 1) _ (cs.setIfInBounds i y) (blk_set h i y) (by simp at hl ⊢; omega)
    have e : (cs.setIfInBounds i y).toList.take (i + 1) ++ ys = cs.toList.take i ++ y :: ys := by
      have hi : i < cs.toList.length := by simp at hl ⊢; omega
      rw [Array.toList_setIfInBounds, List.take_add_one, List.getElem?_set_self hi, List.take_set_of_le (Nat.le_refl _)]
      simp
    rw [e] at h2
    exact h2
theorem setL_full {g t : Nat} (ys : List Value) {w : World} {cs : Array Value} (h : w.heap[g]? = some (.cells cs t (0, 0))) (hl : ys.length = cs.size) : (setL w g 0 ys).heap[g]? = some (.cells ys.toArray t (0, 0)) := by
  have := setL_at ys 0 w cs h (by omega)
  simpa using this
section
variable {P : Program} {ops : Array Oper} {rest : List Oper} {o : Oper} {a : Act} {Q : Exit → Act → World → Prop}
theorem put_event {W : World} {t : TypeId} {p x : Operand} {g : Nat} {ys : List Value} (hop : o.op = .store t p x) (hN : o.dst = none) (hgd : o.guard = none) (hrun : (execOp a.eval o).run P W = .ok .skip (setL W g 0 ys))
    (h : ∀ w2, w2 = setL W g 0 ys → wpList P ops Q rest a w2) : wpList P ops Q (o :: rest) a W := by
  refine wpList_plain hgd fun K hK => ?_
  unfold Oper.wp
  rw [hrun]
  show K (a.put o.dst undef) _
  rw [hN]
  exact hK _ _ (h _ rfl)
end
theorem map_add0 (A : Option Addr) : A.map (fun z => z.add 0) = A := by
  cases A with
  | none => rfl
  | some a => simp [Addr.add]
set_option maxHeartbeats 2000000 in
theorem IP_list {α : Type} (L Y : List α) (lo N : Nat) (h : lo + Y.length ≤ N) (hL : N ≤ L.length) : (L.take lo ++ (Y ++ L.drop (lo + Y.length))).take N = (L.take N).take lo ++ Y ++ (L.take N).drop (lo + Y.length) := by
  have a : N - lo - Y.length = N - (lo + Y.length) := by omega
  rw [List.take_append, List.take_append, List.take_take, List.take_take, List.drop_take, List.length_take, Nat.min_eq_left (show lo ≤ L.length by omega), Nat.min_eq_right (show lo ≤ N by omega), Nat.min_eq_left (show lo ≤ N by omega), List.take_of_length_le (l := Y) (by omega), List.append_assoc, a]
section
variable {α : Type} {P : Program} {ops : Array Oper} {rest : List Oper} {o : Oper} {a : Act} {Q : Exit → Act → World → Prop}
theorem R_copy_in {enc : α → Value} {h1 : ∀ x, (enc x).oneCell' = true} (d0 : α) {w0 W : World} (base : Nat) (hgd : o.guard = none) (ds s : Operand) (T e : TypeId)
    (ho : o.op = .call { callee := .builtin .copy, args := #[ds, s], argTypes := #[T, T] }) (hu : P.underlying T = some (.slice e)) (z : Value) (bytes : Nat)
    (hinfo : (P.info? e).map (fun i => (i.zero, i.size, i.bytes)) = some (some z, 1, bytes)) (v : Value) (A0 : Option Addr) (cv : Nat) (xs ys : List α) (hv : v = .slice A0 xs.length cv) (lo m cd : Nat) (hd : a.eval ds = .slice (A0.map (fun z => z.add lo)) m cd) (A : Option Addr) (c : Nat) (hs : a.eval s = .slice A ys.length c) {ok : Nat → Prop}
    (hR : (Kd.scalar enc h1).R e W base ok v xs) (hC : (Kd.scalar enc h1).C W A ys.length ys) (hl : ys.length ≤ m) (hin : lo + ys.length ≤ xs.length) (hpos : 0 < ys.length) (HB : Below base w0 W)
    (h : ∀ w1, (Kd.scalar enc h1).R e w1 base ok v (xs.take lo ++ ys ++ xs.drop (lo + ys.length)) → Below base w0 w1 → W.grownBy w1 v.ownBlock → wpList P ops Q rest (a.put o.dst (goInt ys.length)) w1) : wpList P ops Q (o :: rest) a W := by
  have hsz : (P.info? e).map (·.size) = some 1 := by
    obtain ⟨i0, hi, hzz⟩ := Option.map_eq_some_iff.1 hinfo
    simp only [Prod.mk.injEq] at hzz
    rw [hi]
    simp [hzz.2.1]
  have hown := Kd.own_of_R hR
  obtain ⟨hlen, hcase⟩ := hown
  rcases hcase with ⟨_, hn⟩ | ⟨g, cap, cur, hvg, hb, hg, hle, hmax, hcs, htake⟩
  · omega
  · have hvv := hvg.symm.trans hv
    simp only [Value.slice.injEq] at hvv
    obtain ⟨rfl, -, rfl⟩ := hvv
    subst hv
    obtain ⟨_, _, hrd⟩ := Kd.reads_of_C (d := d0) hC
    obtain ⟨ad, rfl, hcell⟩ := hrd hpos
    have hel : (encs enc ys).length = ys.length := by simp [encs]
    have hsl : cur.size = cap := by rw [hcs, Nat.mul_one]
    have hd' : a.eval ds = .slice (some ⟨g, lo, none⟩) m cd := by rw [hd]; simp [Addr.add]; exact fun e => e.symm
    refine wpList_copy_own hgd ds s T T ho e hu hsz g lo m cd ad ys.length c hd' hs cur e hg (encs enc ys) (by rw [hel]; exact (Nat.min_eq_left hl).symm) (fun j u hj => ?_) (by omega) (fun u hu' => ?_) ?_
    · rw [encs, List.getElem?_map] at hj
      obtain ⟨p, hp, rfl⟩ := Option.map_eq_some_iff.1 hj
      have hjl := (List.getElem?_eq_some_iff.1 hp).1
      rw [hcell j hjl, List.getD_eq_getElem?_getD, hp]
      rfl
    · rw [encs] at hu'
      obtain ⟨p, _, rfl⟩ := List.mem_map.1 hu'
      exact h1 p
    · have hrow := setRow_heap W g cur (cur.toList.take lo ++ (encs enc ys ++ cur.toList.drop (lo + (encs enc ys).length))).toArray e _ hg
      rw [hel]
      rw [hel] at hrow
      have hlx : (xs.take lo ++ ys ++ xs.drop (lo + ys.length)).length = xs.length := by simp; omega
      refine h _ (Kd.R_of_own ⟨by simp [encs], .inr ⟨g, cap, _, by rw [hlx], hb, hrow, by omega, hmax, ?_, ?_⟩⟩ (fun k hk => hR.1 k hk)) (below_setRow HB hb _) ⟨rfl, rfl, rfl, by simp [World.setRow], fun k hk hne => setRow_other W g k _ (fun he => hne (by rw [he]; simp [Value.ownBlock]))⟩
      · simp [hel]
        omega
      · have ht : List.take xs.length cur.toList = xs.map enc := by rw [Nat.mul_one] at htake; exact htake
        have := IP_list cur.toList (ys.map enc) lo xs.length (by rw [List.length_map]; omega) (by rw [Array.length_toList (xs := cur), hsl]; exact hle)
        rw [ht, List.length_map] at this
        rw [hlx, Nat.mul_one]
        simp only [encs, List.map_append, List.map_take, List.map_drop]
        exact this
end
end Go.Proofs.Ytkhbmgclklmimaa.Cw
end
