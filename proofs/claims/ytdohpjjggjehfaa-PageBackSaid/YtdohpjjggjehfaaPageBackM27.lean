/- Texts of the proof of PageBack, part 27. -/
import Derived.Test.YtdohpjjggjehfaaPageBackM26
import Derived.Test.YtdohpjjggjehfaaPageBackM20
import Derived.Test.YtdohpjjggjehfaaPageBackM22
section
namespace Go.Proofs.Ytdohpjjggjehfaa.SealEv
set_option linter.unusedVariables false
set_option linter.unusedSimpArgs false
open Go.RowKit Go.Proofs.Ytdohpjjggjehfaa.Print Go.Proofs.Ytdohpjjggjehfaa.SMath Go.Proofs.YtdohpjjggjehfaaW.PrintWords Go.Proofs.YtdohpjjggjehfaaW.PrintLast Go.Proofs.YtdohpjjggjehfaaW.PrintMore
theorem Cov.split {a b : List Int} {i : Nat} (ha : i < a.length) (hb : i < b.length) : Cov (a.drop i) (b.drop i) ↔ cov a[i] b[i] ∧ Cov (a.drop (i + 1)) (b.drop (i + 1)) := by
  rw [List.drop_eq_getElem_cons ha, List.drop_eq_getElem_cons hb]
  rfl
end Go.Proofs.Ytdohpjjggjehfaa.SealEv
end
