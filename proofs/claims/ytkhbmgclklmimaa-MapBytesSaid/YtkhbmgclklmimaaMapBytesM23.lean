/- Texts of the proof of MapBytes, part 23. -/
import Derived.Test.YtkhbmgclklmimaaMapBytesM15
import Derived.Test.YtkhbmgclklmimaaMapBytesM19
section
namespace Go.Proofs.Ytkhbmgclklmimaa.MapEv
set_option linter.unusedVariables false
set_option linter.unusedSimpArgs false
open Go.RowKit Go.Proofs.Ytkhbmgclklmimaa.Print Go.Proofs.YtkhbmgclklmimaaW.PrintWords Go.Proofs.YtkhbmgclklmimaaW.PrintLast Go.Proofs.YtkhbmgclklmimaaW.PrintMore
theorem w64 {n : Int} (h0 : -9223372036854775808 ≤ n) (h1 : n ≤ 9223372036854775807) : wrap64 n = n := by unfold wrap64; omega
theorem rd_nat (l : List Int) (i : Nat) (h : i < l.length) : rd l (i : Int) = l[i] := by simp [rd, List.getD_eq_getElem?_getD, h]
theorem rd_bool (l : List Bool) (i : Nat) (h : i < l.length) : rdOf false l (i : Int) = l[i] := by simp [rdOf, List.getD_eq_getElem?_getD, h]
theorem rdT (l : List S55) (i : Nat) (h : i < l.length) : rd_T55 l (i : Int) = l[i] := by simp [rd_T55, List.getD_eq_getElem?_getD, h]
theorem Ev.iff_pos {α : Type} {c : Prop} [Decidable c] {g f : Nat → Option α} {r : α} (h : c) (k : Ev g r) : Ev (fun n => if c then g n else f n) r := k.imp fun _ hk n hn => (if_pos h).trans (hk n hn)
theorem Ev.iff_neg {α : Type} {c : Prop} [Decidable c] {g f : Nat → Option α} {r : α} (h : ¬ c) (k : Ev f r) : Ev (fun n => if c then g n else f n) r := k.imp fun _ hk n hn => (if_neg h).trans (hk n hn)
theorem Ev.bindS {α β : Type} {a : α} {f : Nat → α → Option β} {r : β} {g : Nat → Option α} (h : ∀ n, g n = some a) (k : Ev (fun n => f n a) r) : Ev (fun n => (g n).bind (f n)) r := Ev.bind ⟨0, fun n _ => h n⟩ k
theorem Ev.fix {α : Type} {r : α} {g : Nat → Option α} (h : ∀ n, g n = some r) : Ev g r := ⟨0, fun n _ => h n⟩
theorem suc64 (i n : Nat) (h : i < n) (hn : n ≤ 140737488355328) : wrap64 ((i : Int) + 1) = ((i + 1 : Nat) : Int) := by rw [w64 (by omega) (by omega)]; rfl
theorem tt_of {p : Prop} [Decidable p] (h : p) : true = decide p := (decide_eq_true h).symm
theorem dec_cons {α : Type} [DecidableEq α] {x y : α} {s t : List α} (h : x = y) : decide (x :: s = y :: t) = decide (s = t) := by simp [h]
theorem dec_ne {α : Type} [DecidableEq α] {x y : α} {s t : List α} (h : ¬ x = y) : decide (x :: s = y :: t) = false := by simp [h]
def worn (w : Int) : Prop := 0 ≤ w ∧ w ≤ 16777215
instance (w : Int) : Decidable (worn w) := by unfold worn; infer_instance
def seqOK (s : Int) : Prop := 0 ≤ s ∧ s ≤ 1152921504606846976
instance (s : Int) : Decidable (seqOK s) := by unfold seqOK; infer_instance
def sized (n : Int) : Prop := 16 ≤ n ∧ n ≤ 256
instance (n : Int) : Decidable (sized n) := by unfold sized; infer_instance
theorem worn_f (a : Int) : mapjnl_worn.f a = some (decide (worn a)) := by
  unfold mapjnl_worn.f worn
  by_cases h : a ≥ 0
  · rw [if_pos h]; congr 1; simp [h]
  · rw [if_neg h]; congr 1; simp [h]
theorem seq_f (a : Int) : mapjnl_seq.f a = some (decide (seqOK a)) := by
  unfold mapjnl_seq.f seqOK
  by_cases h : a ≥ 0
  · rw [if_pos h]; congr 1; simp [h]
  · rw [if_neg h]; congr 1; simp [h]
def okS (b : List Bool) (w : List Int) (s : Int) : Prop := sized (b.length : Int) ∧ w.length = b.length ∧ seqOK s ∧ ∀ x ∈ w, worn x
instance (b : List Bool) (w : List Int) (s : Int) : Decidable (okS b w s) := by unfold okS; infer_instance
theorem okS.len {b : List Bool} {w : List Int} {s : Int} (h : okS b w s) : b.length ≤ 256 ∧ w.length ≤ 256 ∧ w.length = b.length := by
  obtain ⟨h0, h1, _⟩ := h
  unfold sized at h0
  omega
end Go.Proofs.Ytkhbmgclklmimaa.MapEv
end
