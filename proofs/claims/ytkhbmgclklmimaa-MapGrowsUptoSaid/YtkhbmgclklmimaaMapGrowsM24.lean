/- Texts of the proof of MapGrows, part 24. -/
import Derived.Test.YtkhbmgclklmimaaMapGrowsM23
import Derived.Test.YtkhbmgclklmimaaMapGrowsM17
import Derived.Test.YtkhbmgclklmimaaMapGrowsM18
section
namespace Go.Proofs.Ytkhbmgclklmimaa.MapEv
set_option linter.unusedVariables false
set_option linter.unusedSimpArgs false
open Go.RowKit Go.Proofs.Ytkhbmgclklmimaa.Print Go.Proofs.YtkhbmgclklmimaaW.PrintWords Go.Proofs.YtkhbmgclklmimaaW.PrintLast Go.Proofs.YtkhbmgclklmimaaW.PrintMore
set_option maxHeartbeats 2000000 in
theorem okP.parts {kind gen part seq : Int} {bad : List Bool} {wear : List Int} {recs : List S55} (h : okP kind gen part seq bad wear recs) :
    (∃ p : Nat, part = (p : Int) ∧ p ≤ 3) ∧ bad.length ≤ 64 ∧ wear.length = bad.length ∧ recs.length ≤ 24 ∧ ∀ x ∈ recs, okR x.f0 x.f1 x.f2 := by
  rcases h with ⟨_, _, h2, h3, h4, _, h6, _⟩ | ⟨_, _, h2, _, h4, h5, h6, h7⟩
  · refine ⟨⟨part.toNat, by omega, by omega⟩, by omega, h4, by omega, fun x hx => ?_⟩
    have : recs = [] := List.length_eq_zero_iff.1 h6
    rw [this] at hx
    cases hx
  · exact ⟨⟨0, by omega, by omega⟩, by omega, by omega, h6, h7⟩
end Go.Proofs.Ytkhbmgclklmimaa.MapEv
end
