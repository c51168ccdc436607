/- Texts of the proof of LayoutUses, part 15. -/
import Derived.Test.YtbdnmdmfnopihaaLayoutUsesM12
import Derived.Laws.BitsLemmas
section
namespace Go.Proofs.Ytbdnmdmfnopihaa.SMath
set_option linter.unusedVariables false
set_option linter.unusedSimpArgs false
open Go.RowKit Go.Proofs.YtbdnmdmfnopihaaW.PrintWords Go.Proofs.YtbdnmdmfnopihaaW.PrintMore
def cov (a b : Int) : Prop := ∀ i < 8, (b / 2 ^ i) % 2 ≤ (a / 2 ^ i) % 2
theorem cov_refl (a : Int) : cov a a := fun _ _ => Int.le_refl _
def Cov : List Int → List Int → Prop
  | [], [] => True
  | a :: l, b :: m => cov a b ∧ Cov l m
  | _, _ => False
theorem Cov.refl : ∀ l, Cov l l
  | [] => trivial
  | a :: l => ⟨cov_refl a, Cov.refl l⟩
theorem Cov.append : ∀ {l m l' m' : List Int}, l.length = m.length → (Cov (l ++ l') (m ++ m') ↔ Cov l m ∧ Cov l' m')
  | [], [], _, _, _ => by simp [Cov]
  | a :: l, b :: m, l', m', h => by
    have ih := Cov.append (l := l) (m := m) (l' := l') (m' := m') (by simpa using h)
    simp only [List.cons_append, Cov, ih, and_assoc]
  | [], _ :: _, _, _, h => by simp at h
  | _ :: _, [], _, _, h => by simp at h
end Go.Proofs.Ytbdnmdmfnopihaa.SMath
end
