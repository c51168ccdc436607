/- Short names for what the printed texts name most. -/
import Derived.Test.YtjoojmodghpimaaInodeMakesM0
import Derived.Test.YtjoojmodghpimaaInodeMakesM1
import Derived.Test.YtjoojmodghpimaaInodeMakesM2
import Derived.Test.YtjoojmodghpimaaInodeMakesM3
import Derived.Test.YtjoojmodghpimaaInodeMakesM4
import Derived.Test.YtjoojmodghpimaaInodeMakesM5
import Derived.Test.YtjoojmodghpimaaInodeMakesM6
import Derived.Test.YtjoojmodghpimaaInodeMakesM7
import Derived.Test.YtjoojmodghpimaaInodeMakesM8
import Derived.Test.YtjoojmodghpimaaInodeMakesM9
import Derived.Test.YtjoojmodghpimaaInodeMakesM10
import Derived.Test.YtjoojmodghpimaaInodeMakesM13
import Derived.Test.YtjoojmodghpimaaInodeMakesM16
import Derived.Test.YtjoojmodghpimaaInodeMakesM17
import Derived.Test.YtjoojmodghpimaaInodeMakesM18
namespace Go.Proofs.Ytjoojmodghpimaa
open Go.RowKit Go.Proofs.YtjoojmodghpimaaW.PrintWords Go.Proofs.YtjoojmodghpimaaW.PrintLast Go.Proofs.YtjoojmodghpimaaW.PrintMore
abbrev zm := @Aside0.mk
abbrev zrA := @Kd.R_alloc
abbrev zrD := @Kd.R_drew
abbrev zrN := @Kd.R_drewN
abbrev zlA := @below_alloc
abbrev zlD := @below_drew1
abbrev zlS := @below_set
abbrev zbA := @blk_alloc
abbrev zbB := @blk_below
abbrev zbD := @blk_drew
abbrev zbN := @blk_drewN
abbrev zlN := @pw_below_drewN
end Go.Proofs.Ytjoojmodghpimaa
