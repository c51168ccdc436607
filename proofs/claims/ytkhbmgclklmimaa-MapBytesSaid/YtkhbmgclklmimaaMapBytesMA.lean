/- Short names for what the printed texts name most. -/
import Derived.Test.YtkhbmgclklmimaaMapBytesM0
import Derived.Test.YtkhbmgclklmimaaMapBytesM2
import Derived.Test.YtkhbmgclklmimaaMapBytesM3
import Derived.Test.YtkhbmgclklmimaaMapBytesM4
import Derived.Test.YtkhbmgclklmimaaMapBytesM5
import Derived.Test.YtkhbmgclklmimaaMapBytesM6
import Derived.Test.YtkhbmgclklmimaaMapBytesM7
import Derived.Test.YtkhbmgclklmimaaMapBytesM8
import Derived.Test.YtkhbmgclklmimaaMapBytesM9
import Derived.Test.YtkhbmgclklmimaaMapBytesM11
import Derived.Test.YtkhbmgclklmimaaMapBytesM12
import Derived.Test.YtkhbmgclklmimaaMapBytesM13
import Derived.Test.YtkhbmgclklmimaaMapBytesM14
namespace Go.Proofs.Ytkhbmgclklmimaa
open Go.RowKit Go.Proofs.YtkhbmgclklmimaaW.PrintWords Go.Proofs.YtkhbmgclklmimaaW.PrintLast Go.Proofs.YtkhbmgclklmimaaW.PrintMore
abbrev zm := @Aside0.mk
abbrev zrA := @Kd.R_alloc
abbrev zrD := @Kd.R_drew
abbrev zrN := @Kd.R_drewN
abbrev zlA := @below_alloc
abbrev zlD := @below_drew1
abbrev zlS := @below_set
abbrev zbA := @blk_alloc
abbrev zbB := @blk_below
abbrev zbD := @blk_drew
abbrev zbN := @blk_drewN
abbrev zlN := @pw_below_drewN
end Go.Proofs.Ytkhbmgclklmimaa
