/- Texts of the proof of PageReads, part 40. -/
import Derived.Test.YtdohpjjggjehfaaPageReadsM39
import Derived.Test.YtdohpjjggjehfaaPageReadsM21
import Derived.OpenShut
section
namespace Go.Proofs.Ytdohpjjggjehfaa.Opn
set_option linter.unusedVariables false
open Go.RowKit Go.Proofs.YtdohpjjggjehfaaW.PrintWords Go.ChangeShapes Go.WideShapes Go.Deep
def kb (n : Nat) : Kd (List Int) where
  sz := n
  E := []
  K := fun _ x cs => x.length = n ∧ cs = x.map (Value.int .u8)
  M := fun _ _ _ x cs => x.length = n ∧ cs = x.map (Value.int .u8)
  K_len := by
    rintro _ x cs ⟨h, rfl⟩
    rw [List.length_map]; exact h
  K_one := by
    rintro _ x cs ⟨h, rfl⟩ u hu
    obtain ⟨z, _, rfl⟩ := List.mem_map.1 hu
    rfl
  K_below := fun _ h => h
  K_of_M := fun h => h
  M_mono := fun _ h => h
  M_bound := fun h => h
  M_move := fun _ h => h
  M_lower := fun _ h => h
set_option maxHeartbeats 2000000 in
theorem Opens.bytes {P : Program} {t e n : Nat} (ht : P.underlying t = some (.array n e)) (he : P.underlying e = some (.int .u8)) (hc : P.cellsOf e = 1) (hn : P.cellsOf t = n) : Opens P t (kb n) (fun l => ∀ x ∈ l, (Lit.int .u8 x).wf = true) := by
  intro H enc w fuel cs x hx _
  obtain ⟨xs, m, _, _, hl, hxl, hi⟩ := DataW.trod_array ht hx
  rw [hc] at hi
  have hex : ∀ i, i < n → ∃ a0 : Int, (Lit.int .u8 a0).wf = true ∧ cs[i]? = some (.int .u8 a0) := by
    intro i hin
    have h := hi i hin
    rw [Nat.mul_one, List.getElem?_eq_getElem (show i < xs.length by omega)] at h
    obtain ⟨v, hv, _, hw⟩ := DataW.trod_int he h
    refine ⟨v, hw, ?_⟩
    have h0 : ((cs.drop i).take 1)[0]? = some (.int .u8 v) := by rw [hv]; rfl
    rw [List.getElem?_take, if_pos (by decide), List.getElem?_drop, Nat.add_zero] at h0
    exact h0
  obtain ⟨l, hl2, hp⟩ := list_of n hex
  refine ⟨l, fun x hx => ?_, hl2, ?_⟩
  · obtain ⟨i, hi⟩ := List.getElem?_of_mem hx
    exact (hp i x hi).1
  · apply List.ext_getElem?
    intro i
    rw [List.getElem?_map]
    by_cases hin : i < n
    · rw [List.getElem?_eq_getElem (show i < l.length by omega)]
      exact (hp i _ (List.getElem?_eq_getElem (by omega))).2
    · rw [List.getElem?_eq_none (by rw [hl, hn]; omega), List.getElem?_eq_none (by omega)]
      rfl
theorem page_cells {cs c1 c2 : List Value} {a b : List Int} (h : cs = c1 ++ c2) (h1 : c1 = a.map (Value.int .u8)) (h2 : c2 = b.map (Value.int .u8)) : (⟨cs⟩ : Array Value) = pc (a ++ b) := by
  rw [h, h1, h2, pc, List.map_append]
end Go.Proofs.Ytdohpjjggjehfaa.Opn
end
