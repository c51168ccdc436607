/- Short names for what the printed texts name most. -/
import Derived.Test.YtkhbmgclklmimaaMapOrderM0
import Derived.Test.YtkhbmgclklmimaaMapOrderM1
import Derived.Test.YtkhbmgclklmimaaMapOrderM2
import Derived.Test.YtkhbmgclklmimaaMapOrderM3
import Derived.Test.YtkhbmgclklmimaaMapOrderM4
import Derived.Test.YtkhbmgclklmimaaMapOrderM5
import Derived.Test.YtkhbmgclklmimaaMapOrderM6
import Derived.Test.YtkhbmgclklmimaaMapOrderM7
import Derived.Test.YtkhbmgclklmimaaMapOrderM8
import Derived.Test.YtkhbmgclklmimaaMapOrderM9
import Derived.Test.YtkhbmgclklmimaaMapOrderM10
import Derived.Test.YtkhbmgclklmimaaMapOrderM11
import Derived.Test.YtkhbmgclklmimaaMapOrderM14
import Derived.Test.YtkhbmgclklmimaaMapOrderM17
import Derived.Test.YtkhbmgclklmimaaMapOrderM18
import Derived.Test.YtkhbmgclklmimaaMapOrderM19
namespace Go.Proofs.Ytkhbmgclklmimaa
open Go.RowKit Go.Proofs.YtkhbmgclklmimaaW.PrintWords Go.Proofs.YtkhbmgclklmimaaW.PrintLast Go.Proofs.YtkhbmgclklmimaaW.PrintMore
abbrev zm := @Aside0.mk
abbrev zrA := @Kd.R_alloc
abbrev zrD := @Kd.R_drew
abbrev zrN := @Kd.R_drewN
abbrev zlA := @below_alloc
abbrev zlD := @below_drew1
abbrev zlS := @below_set
abbrev zbA := @blk_alloc
abbrev zbB := @blk_below
abbrev zbD := @blk_drew
abbrev zbN := @blk_drewN
abbrev zlN := @pw_below_drewN
end Go.Proofs.Ytkhbmgclklmimaa
