/- Texts of the proof of LayoutPlaces, part 14. -/
import Derived.Test.YtbdnmdmfnopihaaLayoutPlacesM12
import Derived.Laws.BitsLemmas
section
namespace Go.Proofs.Ytbdnmdmfnopihaa.SMath
set_option linter.unusedVariables false
set_option linter.unusedSimpArgs false
open Go.RowKit Go.Proofs.YtbdnmdmfnopihaaW.PrintWords Go.Proofs.YtbdnmdmfnopihaaW.PrintMore
def cov (a b : Int) : Prop := ∀ i < 8, (b / 2 ^ i) % 2 ≤ (a / 2 ^ i) % 2
theorem cov_refl (a : Int) : cov a a := fun _ _ => Int.le_refl _
def Cov : List Int → List Int → Prop
  | [], [] => True
  | a :: l, b :: m => cov a b ∧ Cov l m
  | _, _ => False
theorem Cov.len : ∀ {l m : List Int}, Cov l m → l.length = m.length
  | [], [], _ => rfl
  | _ :: l, _ :: m, h => by simp [Cov.len (l := l) (m := m) h.2]
  | [], _ :: _, h => h.elim
  | _ :: _, [], h => h.elim
theorem Cov.refl : ∀ l, Cov l l
  | [] => trivial
  | a :: l => ⟨cov_refl a, Cov.refl l⟩
end Go.Proofs.Ytbdnmdmfnopihaa.SMath
end
