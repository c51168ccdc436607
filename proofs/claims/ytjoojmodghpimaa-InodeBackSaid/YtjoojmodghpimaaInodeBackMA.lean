/- Short names for what the printed texts name most. -/
import Derived.Test.YtjoojmodghpimaaInodeBackM0
import Derived.Test.YtjoojmodghpimaaInodeBackM2
import Derived.Test.YtjoojmodghpimaaInodeBackM3
import Derived.Test.YtjoojmodghpimaaInodeBackM4
import Derived.Test.YtjoojmodghpimaaInodeBackM5
import Derived.Test.YtjoojmodghpimaaInodeBackM6
import Derived.Test.YtjoojmodghpimaaInodeBackM7
import Derived.Test.YtjoojmodghpimaaInodeBackM8
import Derived.Test.YtjoojmodghpimaaInodeBackM9
import Derived.Test.YtjoojmodghpimaaInodeBackM10
import Derived.Test.YtjoojmodghpimaaInodeBackM11
import Derived.Test.YtjoojmodghpimaaInodeBackM13
import Derived.Test.YtjoojmodghpimaaInodeBackM14
import Derived.Test.YtjoojmodghpimaaInodeBackM15
import Derived.Test.YtjoojmodghpimaaInodeBackM16
namespace Go.Proofs.Ytjoojmodghpimaa
open Go.RowKit Go.Proofs.YtjoojmodghpimaaW.PrintWords Go.Proofs.YtjoojmodghpimaaW.PrintLast Go.Proofs.YtjoojmodghpimaaW.PrintMore
abbrev zm := @Aside0.mk
abbrev zrA := @Kd.R_alloc
abbrev zrD := @Kd.R_drew
abbrev zrN := @Kd.R_drewN
abbrev zlA := @below_alloc
abbrev zlD := @below_drew1
abbrev zlS := @below_set
abbrev zbA := @blk_alloc
abbrev zbB := @blk_below
abbrev zbD := @blk_drew
abbrev zbN := @blk_drewN
abbrev zlN := @pw_below_drewN
end Go.Proofs.Ytjoojmodghpimaa
