/- Texts of the proof of BitmapTells, part 20. -/
import Derived.Test.YtllodfjbenmlpaaBitmapTellsM19
import Derived.Test.YtllodfjbenmlpaaBitmapTellsM16
section
namespace Go.Proofs.Ytllodfjbenmlpaa.Bm
set_option linter.unusedVariables false
set_option linter.unusedSimpArgs false
open Go.RowKit Go.Proofs.Ytllodfjbenmlpaa.Print Go.Proofs.YtllodfjbenmlpaaW.PrintWords Go.Proofs.YtllodfjbenmlpaaW.PrintLast Go.Proofs.YtllodfjbenmlpaaW.PrintMore
set_option maxRecDepth 100000 in
theorem begun_ev : Ev (fun k => slipwaylaw12_begun.f k) true := Ev.of slipwaylaw12_begun.mono (k := 2100) (by decide +kernel)
end Go.Proofs.Ytllodfjbenmlpaa.Bm
end
