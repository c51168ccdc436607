/- Texts of the proof of MapOrder, part 33. -/
import Derived.Test.YtkhbmgclklmimaaRows
import Derived.Test.YtkhbmgclklmimaaMapOrderM32
import Derived.Deep.CondSized
section
namespace Go.Proofs.Ytkhbmgclklmimaa.Blk
open Go.RowKit Go.ChangeShapes Go.WideShapes Go.Deep
theorem one_le {H : Type} (d : DataW H) : 1 ≤ Rows.uptoBulk d := by
  cases d with
  | lit l => cases l <;> simp [Rows.uptoBulk]
  | nil => simp [Rows.uptoBulk]
  | ptr d => simp [Rows.uptoBulk]
  | slice elems spare => simp [Rows.uptoBulk]
  | agg parts => simp [Rows.uptoBulk]
  | iface t d => simp [Rows.uptoBulk]
  | map entries => simp [Rows.uptoBulk]
  | held h => simp [Rows.uptoBulk]
theorem length_le {H : Type} (l : List (DataW H)) : l.length ≤ Rows.uptoBulkAll l := by
  induction l with
  | nil => simp [Rows.uptoBulkAll]
  | cons x r ih => have := one_le x; simp only [Rows.uptoBulkAll, List.length_cons]; omega
set_option maxHeartbeats 2000000 in
theorem slice_bulk {H : Type} {enc : TypeId × Value → H} {P : Program} {W : World} {t e : TypeId} {A : Option Addr} {n c : Nat} {d : DataW H} {p : List MemPlace} (ht : P.underlying t = some (.slice e))
    (h : DataW.Trod enc P W 0 (fun _ => true) true t (.slice A n c) d p) : n ≤ Rows.uptoBulk d := by
  obtain ⟨fuel, hx⟩ := h
  rcases open_slice ht hx with ⟨hv, _⟩ | ⟨a, len, cap, m, k, D, Pl, hv, _, _, _, _, hd, _⟩
  · have hv : [Value.slice A n c] = _ := hv
    simp only [List.cons.injEq, Value.slice.injEq, and_true] at hv
    omega
  · have hv : [Value.slice A n c] = _ := hv
    simp only [List.cons.injEq, Value.slice.injEq, and_true] at hv
    have hd : d = _ := congrArg Prod.fst hd
    obtain ⟨_, rfl, _⟩ := hv
    rw [hd]
    simp only [Rows.uptoBulk]
    have := length_le ((List.range n).map D)
    simp only [List.length_map, List.length_range] at this
    omega
end Go.Proofs.Ytkhbmgclklmimaa.Blk
end
