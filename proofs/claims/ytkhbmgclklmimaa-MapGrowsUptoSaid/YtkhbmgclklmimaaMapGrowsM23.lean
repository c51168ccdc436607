/- Texts of the proof of MapGrows, part 23. -/
import Derived.Test.YtkhbmgclklmimaaMapGrowsM22
import Derived.Test.YtkhbmgclklmimaaMapGrowsM17
import Derived.Test.YtkhbmgclklmimaaMapGrowsM18
section
namespace Go.Proofs.Ytkhbmgclklmimaa.MapEv
set_option linter.unusedVariables false
set_option linter.unusedSimpArgs false
open Go.RowKit Go.Proofs.Ytkhbmgclklmimaa.Print Go.Proofs.YtkhbmgclklmimaaW.PrintWords Go.Proofs.YtkhbmgclklmimaaW.PrintLast Go.Proofs.YtkhbmgclklmimaaW.PrintMore
def okP (kind gen part seq : Int) (bad : List Bool) (wear : List Int) (recs : List S55) : Prop :=
  (kind = 1 ∧ seqOK gen ∧ (0 ≤ part ∧ part ≤ 3) ∧ (1 ≤ bad.length ∧ bad.length ≤ 64) ∧ wear.length = bad.length ∧ seqOK seq ∧ recs.length = 0 ∧ ∀ x ∈ wear, worn x) ∨
  (kind = 2 ∧ seqOK gen ∧ part = 0 ∧ seq = 0 ∧ bad.length = 0 ∧ wear.length = 0 ∧ recs.length ≤ 24 ∧ ∀ x ∈ recs, okR x.f0 x.f1 x.f2)
instance (kind gen part seq : Int) (bad : List Bool) (wear : List Int) (recs : List S55) : Decidable (okP kind gen part seq bad wear recs) := by unfold okP; infer_instance
end Go.Proofs.Ytkhbmgclklmimaa.MapEv
end
