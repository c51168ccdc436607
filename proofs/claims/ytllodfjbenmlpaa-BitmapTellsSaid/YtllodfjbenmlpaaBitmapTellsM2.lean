/- Texts of the proof of BitmapTells, part 2. -/
import Derived.RowKit
import Derived.Tactics
import Derived.Laws.CopyOwn
import Derived.Test.YtllodfjbenmlpaaBitmapTellsM0
section
namespace Go.Proofs.Ytllodfjbenmlpaa.Cpy
open Go.RowKit Go.Proofs.YtllodfjbenmlpaaW.PrintWords
variable {α : Type} {P : Program} {ops : Array Oper} {rest : List Oper} {o : Oper} {a : Act} {Q : Exit → Act → World → Prop}
set_option maxHeartbeats 2000000 in
theorem R_copy {enc : α → Value} {h1 : ∀ x, (enc x).oneCell' = true} (d0 : α) {w0 W : World} (base : Nat) (hgd : o.guard = none) (ds s : Operand) (T e : TypeId)
    (ho : o.op = .call { callee := .builtin .copy, args := #[ds, s], argTypes := #[T, T] }) (hu : P.underlying T = some (.slice e)) (z : Value) (bytes : Nat)
    (hinfo : (P.info? e).map (fun i => (i.zero, i.size, i.bytes)) = some (some z, 1, bytes)) (v : Value) (xs ys : List α) (hd : a.eval ds = v) (A : Option Addr) (c : Nat) (hs : a.eval s = .slice A ys.length c) {ok : Nat → Prop}
    (hR : (Kd.scalar enc h1).R e W base ok v xs) (hC : (Kd.scalar enc h1).C W A ys.length ys) (hl : xs.length = ys.length) (HB : Below base w0 W)
    (h : ∀ w1, (Kd.scalar enc h1).R e w1 base ok v ys → Below base w0 w1 → W.grownBy w1 v.ownBlock → wpList P ops Q rest (a.put o.dst (goInt ys.length)) w1) : wpList P ops Q (o :: rest) a W := by
  have hsz : (P.info? e).map (·.size) = some 1 := by
    obtain ⟨i0, hi, hzz⟩ := Option.map_eq_some_iff.1 hinfo
    simp only [Prod.mk.injEq] at hzz
    rw [hi]
    simp [hzz.2.1]
  have hg0 : W.grownBy W v.ownBlock := ⟨rfl, rfl, rfl, Nat.le_refl _, fun _ _ _ => rfl⟩
  have hown := Kd.own_of_R hR
  by_cases h0 : ys.length = 0
  · have hy : ys = [] := List.eq_nil_of_length_eq_zero h0
    have hx : xs = [] := List.eq_nil_of_length_eq_zero (hl.trans h0)
    subst hy; subst hx
    obtain ⟨A', c', hv, _⟩ := Kd.R_reads hR
    refine wpList_copy_nothing hgd ds s T T ho e hu hsz A' A 0 c' 0 c (hd.trans hv) hs (by simp) ?_
    exact h W hR HB hg0
  · obtain ⟨hlen, hcase⟩ := hown
    rcases hcase with ⟨_, hn⟩ | ⟨g, cap, cur, rfl, hb, hg, hle, hmax, hcs, htake⟩
    · exact absurd (hl.symm.trans hn) h0
    · obtain ⟨_, _, hrd⟩ := Kd.reads_of_C (d := d0) hC
      obtain ⟨ad, rfl, hcell⟩ := hrd (by omega)
      have hel : (encs enc ys).length = ys.length := by simp [encs]
      have hsl : cur.size = cap := by rw [hcs, Nat.mul_one]
      refine wpList_copy_own hgd ds s T T ho e hu hsz g 0 xs.length cap ad ys.length c hd hs cur e hg (encs enc ys) (by rw [hel, hl]; exact (Nat.min_self _).symm) (fun j u hj => ?_) (by omega) (fun u hu' => ?_) ?_
      · rw [encs, List.getElem?_map] at hj
        obtain ⟨p, hp, rfl⟩ := Option.map_eq_some_iff.1 hj
        have hjl := (List.getElem?_eq_some_iff.1 hp).1
        rw [hcell j hjl, List.getD_eq_getElem?_getD, hp]
        rfl
      · rw [encs] at hu'
        obtain ⟨p, _, rfl⟩ := List.mem_map.1 hu'
        exact h1 p
      · have hrow := setRow_heap W g cur (cur.toList.take 0 ++ (encs enc ys ++ cur.toList.drop (0 + (encs enc ys).length))).toArray e _ hg
        rw [hel]
        rw [hel] at hrow
        refine h _ (Kd.R_of_own ⟨by rw [hel, Nat.mul_one], .inr ⟨g, cap, _, by rw [hl], hb, hrow, by omega, hmax, ?_, ?_⟩⟩ (fun k hk => hR.1 k hk)) (below_setRow HB hb _) ⟨rfl, rfl, rfl, by simp [World.setRow], fun k hk hne => setRow_other W g k _ (fun he => hne (by rw [he]; simp [Value.ownBlock]))⟩
        · simp [hel]
          omega
        · simp [hel]
end Go.Proofs.Ytllodfjbenmlpaa.Cpy
end
