/- Short names for what the printed texts name most. -/
import Derived.Test.YtbdnmdmfnopihaaLayoutAsksM0
import Derived.Test.YtbdnmdmfnopihaaLayoutAsksM2
import Derived.Test.YtbdnmdmfnopihaaLayoutAsksM3
import Derived.Test.YtbdnmdmfnopihaaLayoutAsksM4
import Derived.Test.YtbdnmdmfnopihaaLayoutAsksM5
import Derived.Test.YtbdnmdmfnopihaaLayoutAsksM6
import Derived.Test.YtbdnmdmfnopihaaLayoutAsksM7
import Derived.Test.YtbdnmdmfnopihaaLayoutAsksM8
import Derived.Test.YtbdnmdmfnopihaaLayoutAsksM9
import Derived.Test.YtbdnmdmfnopihaaLayoutAsksM10
import Derived.Test.YtbdnmdmfnopihaaLayoutAsksM11
import Derived.Test.YtbdnmdmfnopihaaLayoutAsksM12
namespace Go.Proofs.Ytbdnmdmfnopihaa
open Go.RowKit Go.Proofs.YtbdnmdmfnopihaaW.PrintWords Go.Proofs.YtbdnmdmfnopihaaW.PrintLast Go.Proofs.YtbdnmdmfnopihaaW.PrintMore
abbrev zm := @Aside0.mk
abbrev zlA := @below_alloc
abbrev zlD := @below_drew1
abbrev zlS := @below_set
abbrev zbA := @blk_alloc
abbrev zbB := @blk_below
abbrev zbD := @blk_drew
abbrev zbN := @blk_drewN
abbrev zlN := @pw_below_drewN
end Go.Proofs.Ytbdnmdmfnopihaa
