/- Texts of the proof of MapBytes, part 20. -/
import Derived.Test.YtkhbmgclklmimaaMapBytesM18
import Derived.Test.YtkhbmgclklmimaaMapBytesM11
section
namespace Go.Proofs.Ytkhbmgclklmimaa
set_option linter.unusedVariables false
open Go.RowKit Go.Proofs.YtkhbmgclklmimaaW.PrintWords Go.Proofs.YtkhbmgclklmimaaW.PrintLast Go.Proofs.YtkhbmgclklmimaaW.PrintMore
section
variable {P : Program} {ops : Array Oper} {Q : Exit → Act → World → Prop} {md : Region.Mode} {S : World → Prop} {ds : List Nat} {v : Value} {oi : Oper} {fuel : Nat} {l : Array Bool} {a a' : Act} {w : World}
end
section
variable {w w1 w2 : World} {g g' : Nat} {o : Obj} {b : Nat} {w0 : World}
end
section
variable {P : Program} {ops : Array Oper} {rest : List Oper} {o : Oper} {a : Act} {Q : Exit → Act → World → Prop}
end
section
variable {w : World} {g : Nat} {t : TypeId} {x0 x1 x2 x3 x4 x5 x6 x7 : Value}
end
theorem put_comm {n m : Tmp} (h : n ≠ m) (a : Act) (u v : Value) : (a.put (some m) u).put (some n) v = (a.put (some n) v).put (some m) u := by
  simp only [Act.put]
  congr 1
  exact Array.setIfInBounds_comm _ _ (fun e => h e.symm)
section
variable {P : Program} {ops : Array Oper} {Q : Exit → Act → World → Prop} {md : Region.Mode} {S : World → Prop} {ds : List Nat} {fuel : Nat} {l : Array Bool} {a : Act} {w : World}
theorem zboth (i j : Nat) (ni nj : Tmp) {oi oj : Oper} (Pi Pj : Value → World → Prop) (hw : S w)
    (hSi : ∀ a' W (K : Act → World → Prop), S W → (a' = a ∨ ∃ u, a' = a.put (some nj) u) → (∀ v W', S W' → Pi v W' → (∀ u, Pj u W → Pj u W') → K (a'.put (some ni) v) W') → if Region.wanted oi (yielded ops a'.tmps) = true then Oper.wp P oi a' W K Q else K (a'.put (some ni) undef) W)
    (hSj : ∀ a' W (K : Act → World → Prop), S W → (a' = a ∨ ∃ u, a' = a.put (some ni) u) → (∀ v W', S W' → Pj v W' → (∀ u, Pi u W → Pi u W') → K (a'.put (some nj) v) W') → if Region.wanted oj (yielded ops a'.tmps) = true then Oper.wp P oj a' W K Q else K (a'.put (some nj) undef) W)
    (h : ∀ v u W', S W' → Pi v W' → Pj u W' → wpAnyLast P md ops Q S ds fuel ((l.setIfInBounds i true).setIfInBounds j true) ((a.put (some ni) v).put (some nj) u) W')
    (hi : ops[i]? = some oi := by simp only [List.getElem?_toArray, List.getElem?_cons_succ, List.getElem?_cons_zero]; rfl) (hj : ops[j]? = some oj := by simp only [List.getElem?_toArray, List.getElem?_cons_succ, List.getElem?_cons_zero]; rfl)
    (hNi : oi.dst = some ni := by rfl) (hNj : oj.dst = some nj := by rfl) (hne : ni ≠ nj := by decide) (hij : i ≠ j := by decide) (hdi : i ∉ ds := by decide) (hdj : j ∉ ds := by decide)
    (hc : (Region.ready md ops l == [i, j]) = true := by kernel_rfl) (hc1 : (Region.ready md ops (l.setIfInBounds i true) == [j]) = true := by kernel_rfl) (hc2 : (Region.ready md ops (l.setIfInBounds j true) == [i]) = true := by kernel_rfl) :
    wpAnyLast P md ops Q S ds (fuel + 1 + 1) l a w := by
  refine two_ (l.setIfInBounds i true) (l.setIfInBounds j true) hi hj hNi hNj (by rw [hc]; simp) hdi hdj (fun K hK => ?_) (fun K hK => ?_)
  · refine hSi a w K hw (.inl rfl) (fun v W' hS' hv hp => ?_)
    refine hK.out _ _ hS' (fun _ => ?_)
    refine one_ ((l.setIfInBounds i true).setIfInBounds j true) hj hNj (by unfold readyB; rw [hc1]; simp) hdj (fun K2 hK2 => ?_)
    refine hSj _ W' K2 hS' (.inr ⟨v, rfl⟩) (fun u W2 hS2 hu hp2 => ?_)
    exact hK2.out _ _ hS2 (fun _ => h v u W2 hS2 (hp2 v hv) hu)
  · refine hSj a w K hw (.inl rfl) (fun u W' hS' hu hp => ?_)
    refine hK.out _ _ hS' (fun _ => ?_)
    refine one_ ((l.setIfInBounds j true).setIfInBounds i true) hi hNi (by unfold readyB; rw [hc2]; simp) hdi (fun K2 hK2 => ?_)
    refine hSi _ W' K2 hS' (.inr ⟨u, rfl⟩) (fun v W2 hS2 hv hp2 => ?_)
    refine hK2.out _ _ hS2 (fun _ => ?_)
    rw [put_comm hne, Array.setIfInBounds_comm _ _ (fun e => hij e.symm)]
    exact h v u W2 hS2 hv (hp2 u hu)
end
end Go.Proofs.Ytkhbmgclklmimaa
end
