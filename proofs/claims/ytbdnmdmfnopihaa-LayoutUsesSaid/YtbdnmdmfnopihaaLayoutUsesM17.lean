/- Texts of the proof of LayoutUses, part 17. -/
import Derived.Test.YtbdnmdmfnopihaaLayoutUsesM15
import Derived.Lib.Bytes
import Derived.Test.YtbdnmdmfnopihaaLayoutUsesM13
import Derived.Test.YtbdnmdmfnopihaaLayoutUsesM16
section
namespace Go.Proofs.Ytbdnmdmfnopihaa.SealEv
set_option linter.unusedVariables false
set_option linter.unusedSimpArgs false
open Go.RowKit Go.Proofs.Ytbdnmdmfnopihaa.Print Go.Proofs.Ytbdnmdmfnopihaa.SMath Go.Proofs.YtbdnmdmfnopihaaW.PrintWords Go.Proofs.YtbdnmdmfnopihaaW.PrintLast Go.Proofs.YtbdnmdmfnopihaaW.PrintMore
theorem w64 {n : Int} (h0 : -9223372036854775808 ≤ n) (h1 : n ≤ 9223372036854775807) : wrap64 n = n := by unfold wrap64; omega
theorem Ev.iff_pos {α : Type} {c : Prop} [Decidable c] {g f : Nat → Option α} {r : α} (h : c) (k : Ev g r) : Ev (fun n => if c then g n else f n) r := k.imp fun _ hk n hn => (if_pos h).trans (hk n hn)
theorem Ev.iff_neg {α : Type} {c : Prop} [Decidable c] {g f : Nat → Option α} {r : α} (h : ¬ c) (k : Ev f r) : Ev (fun n => if c then g n else f n) r := k.imp fun _ hk n hn => (if_neg h).trans (hk n hn)
theorem Ev.bindS {α β : Type} {a : α} {f : Nat → α → Option β} {r : β} {g : Nat → Option α} (h : ∀ n, g n = some a) (k : Ev (fun n => f n a) r) : Ev (fun n => (g n).bind (f n)) r := Ev.bind ⟨0, fun n _ => h n⟩ k
theorem Ev.fix {α : Type} {r : α} {g : Nat → Option α} (h : ∀ n, g n = some r) : Ev g r := ⟨0, fun n _ => h n⟩
end Go.Proofs.Ytbdnmdmfnopihaa.SealEv
end
