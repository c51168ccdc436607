/- Texts of the proof of BitmapMakes, part 16. -/
import Derived.Test.YtllodfjbenmlpaaBitmapMakesM15
import Derived.Test.YtllodfjbenmlpaaBitmapMakesM13
section
namespace Go.Proofs.Ytllodfjbenmlpaa.Bm
set_option linter.unusedVariables false
set_option linter.unusedSimpArgs false
open Go.RowKit Go.Proofs.Ytllodfjbenmlpaa.Print Go.Proofs.YtllodfjbenmlpaaW.PrintWords Go.Proofs.YtllodfjbenmlpaaW.PrintLast Go.Proofs.YtllodfjbenmlpaaW.PrintMore
set_option maxRecDepth 100000 in
theorem begun_ev : Ev (fun k => slipwaylaw12_begun.f k) true := Ev.of slipwaylaw12_begun.mono (k := 2100) (by decide +kernel)
theorem eq_self (l : List Int) : bytes_Equal.f l l = some true := by
  unfold bytes_Equal.f
  simp
end Go.Proofs.Ytllodfjbenmlpaa.Bm
end
