/- Texts of the proof of BitmapTells, part 19. -/
import Derived.Test.YtllodfjbenmlpaaBitmapTellsM18
import Derived.Test.YtllodfjbenmlpaaBitmapTellsM16
section
namespace Go.Proofs.Ytllodfjbenmlpaa.Bm
set_option linter.unusedVariables false
set_option linter.unusedSimpArgs false
open Go.RowKit Go.Proofs.Ytllodfjbenmlpaa.Print Go.Proofs.YtllodfjbenmlpaaW.PrintWords Go.Proofs.YtllodfjbenmlpaaW.PrintLast Go.Proofs.YtllodfjbenmlpaaW.PrintMore
def All (l : List Int) (f i m : Nat) (w : Bool) : Prop := ∀ j, i ≤ j → j < m → bt l (f + j) = w
theorem All.step {l : List Int} {f i m : Nat} {w : Bool} (h : i < m) : All l f i m w ↔ bt l (f + i) = w ∧ All l f (i + 1) m w := by
  constructor
  · intro ho
    exact ⟨ho i (Nat.le_refl _) h, fun j h1 h2 => ho j (by omega) h2⟩
  · intro ⟨h1, h2⟩ j h3 h4
    by_cases e : i = j
    · rw [← e]; exact h1
    · exact h2 j (by omega) h4
def full : List Int := List.replicate 256 255
def zero : List Int := List.replicate 256 0
end Go.Proofs.Ytllodfjbenmlpaa.Bm
end
