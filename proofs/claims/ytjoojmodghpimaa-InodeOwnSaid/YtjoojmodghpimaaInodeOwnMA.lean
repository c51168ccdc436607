/- Short names for what the printed texts name most. -/
import Derived.Test.YtjoojmodghpimaaInodeOwnM0
import Derived.Test.YtjoojmodghpimaaInodeOwnM1
import Derived.Test.YtjoojmodghpimaaInodeOwnM2
import Derived.Test.YtjoojmodghpimaaInodeOwnM3
import Derived.Test.YtjoojmodghpimaaInodeOwnM4
import Derived.Test.YtjoojmodghpimaaInodeOwnM5
import Derived.Test.YtjoojmodghpimaaInodeOwnM6
import Derived.Test.YtjoojmodghpimaaInodeOwnM7
import Derived.Test.YtjoojmodghpimaaInodeOwnM8
import Derived.Test.YtjoojmodghpimaaInodeOwnM9
import Derived.Test.YtjoojmodghpimaaInodeOwnM10
import Derived.Test.YtjoojmodghpimaaInodeOwnM13
import Derived.Test.YtjoojmodghpimaaInodeOwnM16
import Derived.Test.YtjoojmodghpimaaInodeOwnM17
import Derived.Test.YtjoojmodghpimaaInodeOwnM18
namespace Go.Proofs.Ytjoojmodghpimaa
open Go.RowKit Go.Proofs.YtjoojmodghpimaaW.PrintWords Go.Proofs.YtjoojmodghpimaaW.PrintLast Go.Proofs.YtjoojmodghpimaaW.PrintMore
abbrev zm := @Aside0.mk
abbrev zrA := @Kd.R_alloc
abbrev zrD := @Kd.R_drew
abbrev zrN := @Kd.R_drewN
abbrev zlA := @below_alloc
abbrev zlD := @below_drew1
abbrev zlS := @below_set
abbrev zbA := @blk_alloc
abbrev zbB := @blk_below
abbrev zbD := @blk_drew
abbrev zbN := @blk_drewN
abbrev zlN := @pw_below_drewN
end Go.Proofs.Ytjoojmodghpimaa
