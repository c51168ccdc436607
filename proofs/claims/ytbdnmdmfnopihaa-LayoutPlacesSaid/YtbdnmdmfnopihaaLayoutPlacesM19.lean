/- Texts of the proof of LayoutPlaces, part 19. -/
import Derived.Test.YtbdnmdmfnopihaaLayoutPlacesMA
import Derived.Test.YtbdnmdmfnopihaaLayoutPlacesM13
import Derived.RangeFuncNested
import Derived.RangeFuncBox
import Derived.RangeFuncLeaves
import Derived.Shelf.Abstract
import Derived.WalkKit
import Derived.OwnWalkIn
import Derived.TacticsInMore
import Derived.LoopNIn
import Derived.LoopIn
import Derived.Stop.RegionWithIn
import Derived.Maps.AppendAt
section
namespace Go.Proofs.Ytbdnmdmfnopihaa.Print
open Go.RowKit Go.Proofs.YtbdnmdmfnopihaaW.PrintWords Go.Proofs.YtbdnmdmfnopihaaW.PrintLast Go.Proofs.YtbdnmdmfnopihaaW.PrintMore
attribute [local go_sem] max2_int min2_int max_two min_two max_three min_three max_four min_four   -- for this text's walks alone
attribute [local go_sem ↓] Go.Proofs.Ytbdnmdmfnopihaa.Sem.isSome_setCell
attribute [local go_sem] Go.Instr.field Go.asAgg
set_option linter.unusedVariables false
set_option linter.unusedSimpArgs false
-- RANGEFUNC
section
open Go.Shelf
attribute [local go_sem] Oper.semAt_some
namespace Cap
def upto {α:Type} (f:Nat → α) (k:Nat):List α:=(List.range k).map f
end Cap
end
end Go.Proofs.Ytbdnmdmfnopihaa.Print
end
