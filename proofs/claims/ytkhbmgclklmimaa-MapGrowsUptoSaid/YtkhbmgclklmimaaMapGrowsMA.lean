/- Short names for what the printed texts name most. -/
import Derived.Test.YtkhbmgclklmimaaMapGrowsM0
import Derived.Test.YtkhbmgclklmimaaMapGrowsM2
import Derived.Test.YtkhbmgclklmimaaMapGrowsM3
import Derived.Test.YtkhbmgclklmimaaMapGrowsM4
import Derived.Test.YtkhbmgclklmimaaMapGrowsM5
import Derived.Test.YtkhbmgclklmimaaMapGrowsM6
import Derived.Test.YtkhbmgclklmimaaMapGrowsM7
import Derived.Test.YtkhbmgclklmimaaMapGrowsM8
import Derived.Test.YtkhbmgclklmimaaMapGrowsM9
import Derived.Test.YtkhbmgclklmimaaMapGrowsM10
import Derived.Test.YtkhbmgclklmimaaMapGrowsM11
import Derived.Test.YtkhbmgclklmimaaMapGrowsM13
import Derived.Test.YtkhbmgclklmimaaMapGrowsM14
import Derived.Test.YtkhbmgclklmimaaMapGrowsM15
import Derived.Test.YtkhbmgclklmimaaMapGrowsM16
namespace Go.Proofs.Ytkhbmgclklmimaa
open Go.RowKit Go.Proofs.YtkhbmgclklmimaaW.PrintWords Go.Proofs.YtkhbmgclklmimaaW.PrintLast Go.Proofs.YtkhbmgclklmimaaW.PrintMore
abbrev zm := @Aside0.mk
abbrev zrA := @Kd.R_alloc
abbrev zrD := @Kd.R_drew
abbrev zrN := @Kd.R_drewN
abbrev zlA := @below_alloc
abbrev zlD := @below_drew1
abbrev zlS := @below_set
abbrev zbA := @blk_alloc
abbrev zbB := @blk_below
abbrev zbD := @blk_drew
abbrev zbN := @blk_drewN
abbrev zlN := @pw_below_drewN
end Go.Proofs.Ytkhbmgclklmimaa
