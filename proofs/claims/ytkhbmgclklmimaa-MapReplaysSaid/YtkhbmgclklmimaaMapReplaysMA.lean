/- Short names for what the printed texts name most. -/
import Derived.Test.YtkhbmgclklmimaaMapReplaysM0
import Derived.Test.YtkhbmgclklmimaaMapReplaysM2
import Derived.Test.YtkhbmgclklmimaaMapReplaysM3
import Derived.Test.YtkhbmgclklmimaaMapReplaysM4
import Derived.Test.YtkhbmgclklmimaaMapReplaysM5
import Derived.Test.YtkhbmgclklmimaaMapReplaysM6
import Derived.Test.YtkhbmgclklmimaaMapReplaysM7
import Derived.Test.YtkhbmgclklmimaaMapReplaysM8
import Derived.Test.YtkhbmgclklmimaaMapReplaysM9
import Derived.Test.YtkhbmgclklmimaaMapReplaysM10
import Derived.Test.YtkhbmgclklmimaaMapReplaysM11
import Derived.Test.YtkhbmgclklmimaaMapReplaysM12
import Derived.Test.YtkhbmgclklmimaaMapReplaysM13
namespace Go.Proofs.Ytkhbmgclklmimaa
open Go.RowKit Go.Proofs.YtkhbmgclklmimaaW.PrintWords Go.Proofs.YtkhbmgclklmimaaW.PrintLast Go.Proofs.YtkhbmgclklmimaaW.PrintMore
abbrev zm := @Aside0.mk
abbrev zrA := @Kd.R_alloc
abbrev zrD := @Kd.R_drew
abbrev zrN := @Kd.R_drewN
abbrev zlA := @below_alloc
abbrev zlD := @below_drew1
abbrev zlS := @below_set
abbrev zbA := @blk_alloc
abbrev zbB := @blk_below
abbrev zbD := @blk_drew
abbrev zbN := @blk_drewN
abbrev zlN := @pw_below_drewN
end Go.Proofs.Ytkhbmgclklmimaa
