/- Short names for what the printed texts name most. -/
import Derived.Test.YtlegmnpngcadhaaPoolStaysM0
import Derived.Test.YtlegmnpngcadhaaPoolStaysM2
import Derived.Test.YtlegmnpngcadhaaPoolStaysM3
import Derived.Test.YtlegmnpngcadhaaPoolStaysM4
import Derived.Test.YtlegmnpngcadhaaPoolStaysM5
import Derived.Test.YtlegmnpngcadhaaPoolStaysM6
import Derived.Test.YtlegmnpngcadhaaPoolStaysM7
import Derived.Test.YtlegmnpngcadhaaPoolStaysM8
import Derived.Test.YtlegmnpngcadhaaPoolStaysM9
import Derived.Test.YtlegmnpngcadhaaPoolStaysM11
import Derived.Test.YtlegmnpngcadhaaPoolStaysM12
import Derived.Test.YtlegmnpngcadhaaPoolStaysM13
namespace Go.Proofs.Ytlegmnpngcadhaa
open Go.RowKit Go.Proofs.YtlegmnpngcadhaaW.PrintWords Go.Proofs.YtlegmnpngcadhaaW.PrintLast Go.Proofs.YtlegmnpngcadhaaW.PrintMore
abbrev zm := @Aside0.mk
abbrev zrA := @Kd.R_alloc
abbrev zrD := @Kd.R_drew
abbrev zrN := @Kd.R_drewN
abbrev zlA := @below_alloc
abbrev zlD := @below_drew1
abbrev zlS := @below_set
abbrev zbA := @blk_alloc
abbrev zbB := @blk_below
abbrev zbD := @blk_drew
abbrev zbN := @blk_drewN
abbrev zlN := @pw_below_drewN
end Go.Proofs.Ytlegmnpngcadhaa
