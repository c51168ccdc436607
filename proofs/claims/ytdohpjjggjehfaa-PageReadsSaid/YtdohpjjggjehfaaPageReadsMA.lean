/- Short names for what the printed texts name most. -/
import Derived.Test.YtdohpjjggjehfaaPageReadsM0
import Derived.Test.YtdohpjjggjehfaaPageReadsM1
import Derived.Test.YtdohpjjggjehfaaPageReadsM2
import Derived.Test.YtdohpjjggjehfaaPageReadsM3
import Derived.Test.YtdohpjjggjehfaaPageReadsM4
import Derived.Test.YtdohpjjggjehfaaPageReadsM5
import Derived.Test.YtdohpjjggjehfaaPageReadsM6
import Derived.Test.YtdohpjjggjehfaaPageReadsM7
import Derived.Test.YtdohpjjggjehfaaPageReadsM8
import Derived.Test.YtdohpjjggjehfaaPageReadsM9
import Derived.Test.YtdohpjjggjehfaaPageReadsM10
import Derived.Test.YtdohpjjggjehfaaPageReadsM11
import Derived.Test.YtdohpjjggjehfaaPageReadsM14
import Derived.Test.YtdohpjjggjehfaaPageReadsM17
import Derived.Test.YtdohpjjggjehfaaPageReadsM18
import Derived.Test.YtdohpjjggjehfaaPageReadsM19
namespace Go.Proofs.Ytdohpjjggjehfaa
open Go.RowKit Go.Proofs.YtdohpjjggjehfaaW.PrintWords Go.Proofs.YtdohpjjggjehfaaW.PrintLast Go.Proofs.YtdohpjjggjehfaaW.PrintMore
abbrev zm := @Aside0.mk
abbrev zrA := @Kd.R_alloc
abbrev zrD := @Kd.R_drew
abbrev zrN := @Kd.R_drewN
abbrev zlA := @below_alloc
abbrev zlD := @below_drew1
abbrev zlS := @below_set
abbrev zbA := @blk_alloc
abbrev zbB := @blk_below
abbrev zlN := @pw_below_drewN
end Go.Proofs.Ytdohpjjggjehfaa
