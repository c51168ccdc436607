/- Short names for what the printed texts name most. -/
import Derived.Test.YtlegmnpngcadhaaPoolFairM0
import Derived.Test.YtlegmnpngcadhaaPoolFairM2
import Derived.Test.YtlegmnpngcadhaaPoolFairM3
import Derived.Test.YtlegmnpngcadhaaPoolFairM4
import Derived.Test.YtlegmnpngcadhaaPoolFairM5
import Derived.Test.YtlegmnpngcadhaaPoolFairM6
import Derived.Test.YtlegmnpngcadhaaPoolFairM7
import Derived.Test.YtlegmnpngcadhaaPoolFairM8
import Derived.Test.YtlegmnpngcadhaaPoolFairM9
import Derived.Test.YtlegmnpngcadhaaPoolFairM10
import Derived.Test.YtlegmnpngcadhaaPoolFairM11
import Derived.Test.YtlegmnpngcadhaaPoolFairM12
import Derived.Test.YtlegmnpngcadhaaPoolFairM20
namespace Go.Proofs.Ytlegmnpngcadhaa
open Go.RowKit Go.Proofs.YtlegmnpngcadhaaW.PrintWords Go.Proofs.YtlegmnpngcadhaaW.PrintLast Go.Proofs.YtlegmnpngcadhaaW.PrintMore
abbrev zm := @Aside0.mk
abbrev zrA := @Kd.R_alloc
abbrev zrD := @Kd.R_drew
abbrev zrN := @Kd.R_drewN
abbrev zlA := @below_alloc
abbrev zlD := @below_drew1
abbrev zlS := @below_set
abbrev zbA := @blk_alloc
abbrev zbB := @blk_below
abbrev zbD := @blk_drew
abbrev zbN := @blk_drewN
abbrev zlN := @pw_below_drewN
end Go.Proofs.Ytlegmnpngcadhaa
