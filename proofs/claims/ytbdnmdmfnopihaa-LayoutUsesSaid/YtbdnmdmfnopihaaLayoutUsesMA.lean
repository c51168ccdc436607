/- Short names for what the printed texts name most. -/
import Derived.Test.YtbdnmdmfnopihaaLayoutUsesM0
import Derived.Test.YtbdnmdmfnopihaaLayoutUsesM2
import Derived.Test.YtbdnmdmfnopihaaLayoutUsesM3
import Derived.Test.YtbdnmdmfnopihaaLayoutUsesM4
import Derived.Test.YtbdnmdmfnopihaaLayoutUsesM5
import Derived.Test.YtbdnmdmfnopihaaLayoutUsesM6
import Derived.Test.YtbdnmdmfnopihaaLayoutUsesM7
import Derived.Test.YtbdnmdmfnopihaaLayoutUsesM8
import Derived.Test.YtbdnmdmfnopihaaLayoutUsesM9
import Derived.Test.YtbdnmdmfnopihaaLayoutUsesM10
import Derived.Test.YtbdnmdmfnopihaaLayoutUsesM11
import Derived.Test.YtbdnmdmfnopihaaLayoutUsesM12
namespace Go.Proofs.Ytbdnmdmfnopihaa
open Go.RowKit Go.Proofs.YtbdnmdmfnopihaaW.PrintWords Go.Proofs.YtbdnmdmfnopihaaW.PrintLast Go.Proofs.YtbdnmdmfnopihaaW.PrintMore
abbrev zm := @Aside0.mk
abbrev zlA := @below_alloc
abbrev zlD := @below_drew1
abbrev zlS := @below_set
abbrev zbA := @blk_alloc
abbrev zbB := @blk_below
abbrev zbD := @blk_drew
abbrev zbN := @blk_drewN
abbrev zlN := @pw_below_drewN
end Go.Proofs.Ytbdnmdmfnopihaa
