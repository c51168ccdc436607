/- Short names for what the printed texts name most. -/
import Derived.Test.YtbdnmdmfnopihaaLayoutPlacesM0
import Derived.Test.YtbdnmdmfnopihaaLayoutPlacesM2
import Derived.Test.YtbdnmdmfnopihaaLayoutPlacesM3
import Derived.Test.YtbdnmdmfnopihaaLayoutPlacesM4
import Derived.Test.YtbdnmdmfnopihaaLayoutPlacesM5
import Derived.Test.YtbdnmdmfnopihaaLayoutPlacesM6
import Derived.Test.YtbdnmdmfnopihaaLayoutPlacesM7
import Derived.Test.YtbdnmdmfnopihaaLayoutPlacesM8
import Derived.Test.YtbdnmdmfnopihaaLayoutPlacesM9
import Derived.Test.YtbdnmdmfnopihaaLayoutPlacesM10
import Derived.Test.YtbdnmdmfnopihaaLayoutPlacesM11
import Derived.Test.YtbdnmdmfnopihaaLayoutPlacesM12
namespace Go.Proofs.Ytbdnmdmfnopihaa
open Go.RowKit Go.Proofs.YtbdnmdmfnopihaaW.PrintWords Go.Proofs.YtbdnmdmfnopihaaW.PrintLast Go.Proofs.YtbdnmdmfnopihaaW.PrintMore
abbrev zm := @Aside0.mk
abbrev zlA := @below_alloc
abbrev zlD := @below_drew1
abbrev zlS := @below_set
abbrev zbA := @blk_alloc
abbrev zbB := @blk_below
abbrev zbD := @blk_drew
abbrev zbN := @blk_drewN
abbrev zlN := @pw_below_drewN
end Go.Proofs.Ytbdnmdmfnopihaa
