/- Texts of the proof of PageReads, part 25. -/
import Derived.Test.YtdohpjjggjehfaaPageReadsM24
import Derived.Lib.Bytes
import Derived.Test.YtdohpjjggjehfaaPageReadsM20
section
namespace Go.Proofs.Ytdohpjjggjehfaa.SealEv
set_option linter.unusedVariables false
set_option linter.unusedSimpArgs false
open Go.RowKit Go.Proofs.Ytdohpjjggjehfaa.Print Go.Proofs.Ytdohpjjggjehfaa.SMath Go.Proofs.YtdohpjjggjehfaaW.PrintWords Go.Proofs.YtdohpjjggjehfaaW.PrintLast Go.Proofs.YtdohpjjggjehfaaW.PrintMore
theorem w64 {n : Int} (h0 : -9223372036854775808 ≤ n) (h1 : n ≤ 9223372036854775807) : wrap64 n = n := by unfold wrap64; omega
theorem rd_nat (l : List Int) (i : Nat) (h : i < l.length) : rd l (i : Int) = l[i] := by simp [rd, List.getD_eq_getElem?_getD, h]
theorem byte_at {l : List Int} (hl : Bytes l) (i : Nat) (h : i < l.length) : Byte l[i] := hl _ (List.getElem_mem h)
theorem bytes_take {l : List Int} (h : Bytes l) (n : Nat) : Bytes (l.take n) := fun x hx => h x (List.mem_of_mem_take hx)
theorem bytes_drop {l : List Int} (h : Bytes l) (n : Nat) : Bytes (l.drop n) := fun x hx => h x (List.mem_of_mem_drop hx)
theorem bytes_append {a b : List Int} (ha : Bytes a) (hb : Bytes b) : Bytes (a ++ b) := fun x hx => (List.mem_append.1 hx).elim (ha x) (hb x)
theorem Ev.iff_pos {α : Type} {c : Prop} [Decidable c] {g f : Nat → Option α} {r : α} (h : c) (k : Ev g r) : Ev (fun n => if c then g n else f n) r := k.imp fun _ hk n hn => (if_pos h).trans (hk n hn)
theorem Ev.iff_neg {α : Type} {c : Prop} [Decidable c] {g f : Nat → Option α} {r : α} (h : ¬ c) (k : Ev f r) : Ev (fun n => if c then g n else f n) r := k.imp fun _ hk n hn => (if_neg h).trans (hk n hn)
theorem Ev.bindS {α β : Type} {a : α} {f : Nat → α → Option β} {r : β} {g : Nat → Option α} (h : ∀ n, g n = some a) (k : Ev (fun n => f n a) r) : Ev (fun n => (g n).bind (f n)) r := Ev.bind ⟨0, fun n _ => h n⟩ k
theorem Ev.fix {α : Type} {r : α} {g : Nat → Option α} (h : ∀ n, g n = some r) : Ev g r := ⟨0, fun n _ => h n⟩
theorem u64_small (j : Nat) (h : j ≤ 64) : IntKind.u64.wrap (j : Int) = (j : Int) := u64_id (by omega) (by omega)
theorem suc64 (i n : Nat) (h : i < n) (hn : n ≤ 140737488355328) : wrap64 ((i : Int) + 1) = ((i + 1 : Nat) : Int) := by rw [w64 (by omega) (by omega)]; rfl
theorem u8_inj {x y : Int} (hx : Byte x) (hy : Byte y) (h : UInt8.ofNat x.toNat = UInt8.ofNat y.toNat) : x = y := by
  have h1 := congrArg UInt8.toNat h
  simp only [UInt8.toNat_ofNat'] at h1
  unfold Byte at hx hy
  omega
theorem map_inj : ∀ {a b : List Int}, Bytes a → Bytes b → (a.map fun n => UInt8.ofNat n.toNat) = (b.map fun n => UInt8.ofNat n.toNat) → a = b
  | [], [], _, _, _ => rfl
  | x :: a, y :: b, ha, hb, h => by
    simp only [List.map_cons, List.cons.injEq] at h
    rw [u8_inj (ha x (by simp)) (hb y (by simp)) h.1, map_inj (fun z hz => ha z (by simp [hz])) (fun z hz => hb z (by simp [hz])) h.2]
  | [], _ :: _, _, _, h => by simp at h
  | _ :: _, [], _, _, h => by simp at h
theorem bytes_equal {a b : List Int} (ha : Bytes a) (hb : Bytes b) : bytes_Equal.f a b = some (decide (a = b)) := by
  unfold bytes_Equal.f
  rw [Lib.strOfNums_toList, Lib.strOfNums_toList]
  congr 1
  by_cases h : a = b
  · subst h
    simp
  · have : ¬ (Lib.bytesOf a = Lib.bytesOf b) := fun e => h (map_inj ha hb e)
    simp [h, this]
end Go.Proofs.Ytdohpjjggjehfaa.SealEv
end
