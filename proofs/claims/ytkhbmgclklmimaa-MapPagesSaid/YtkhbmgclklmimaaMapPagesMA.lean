/- Short names for what the printed texts name most. -/
import Derived.Test.YtkhbmgclklmimaaMapPagesM0
import Derived.Test.YtkhbmgclklmimaaMapPagesM2
import Derived.Test.YtkhbmgclklmimaaMapPagesM3
import Derived.Test.YtkhbmgclklmimaaMapPagesM4
import Derived.Test.YtkhbmgclklmimaaMapPagesM5
import Derived.Test.YtkhbmgclklmimaaMapPagesM6
import Derived.Test.YtkhbmgclklmimaaMapPagesM7
import Derived.Test.YtkhbmgclklmimaaMapPagesM8
import Derived.Test.YtkhbmgclklmimaaMapPagesM9
import Derived.Test.YtkhbmgclklmimaaMapPagesM10
import Derived.Test.YtkhbmgclklmimaaMapPagesM11
import Derived.Test.YtkhbmgclklmimaaMapPagesM12
import Derived.Test.YtkhbmgclklmimaaMapPagesM13
namespace Go.Proofs.Ytkhbmgclklmimaa
open Go.RowKit Go.Proofs.YtkhbmgclklmimaaW.PrintWords Go.Proofs.YtkhbmgclklmimaaW.PrintLast Go.Proofs.YtkhbmgclklmimaaW.PrintMore
abbrev zm := @Aside0.mk
abbrev zrA := @Kd.R_alloc
abbrev zrD := @Kd.R_drew
abbrev zrN := @Kd.R_drewN
abbrev zlA := @below_alloc
abbrev zlD := @below_drew1
abbrev zlS := @below_set
abbrev zbA := @blk_alloc
abbrev zbB := @blk_below
abbrev zbD := @blk_drew
abbrev zbN := @blk_drewN
abbrev zlN := @pw_below_drewN
end Go.Proofs.Ytkhbmgclklmimaa
