/- Short names for what the printed texts name most. -/
import Derived.Test.YtdohpjjggjehfaaPageTornM0
import Derived.Test.YtdohpjjggjehfaaPageTornM1
import Derived.Test.YtdohpjjggjehfaaPageTornM2
import Derived.Test.YtdohpjjggjehfaaPageTornM3
import Derived.Test.YtdohpjjggjehfaaPageTornM4
import Derived.Test.YtdohpjjggjehfaaPageTornM5
import Derived.Test.YtdohpjjggjehfaaPageTornM6
import Derived.Test.YtdohpjjggjehfaaPageTornM7
import Derived.Test.YtdohpjjggjehfaaPageTornM8
import Derived.Test.YtdohpjjggjehfaaPageTornM9
import Derived.Test.YtdohpjjggjehfaaPageTornM10
import Derived.Test.YtdohpjjggjehfaaPageTornM11
import Derived.Test.YtdohpjjggjehfaaPageTornM14
import Derived.Test.YtdohpjjggjehfaaPageTornM17
import Derived.Test.YtdohpjjggjehfaaPageTornM18
import Derived.Test.YtdohpjjggjehfaaPageTornM19
namespace Go.Proofs.Ytdohpjjggjehfaa
open Go.RowKit Go.Proofs.YtdohpjjggjehfaaW.PrintWords Go.Proofs.YtdohpjjggjehfaaW.PrintLast Go.Proofs.YtdohpjjggjehfaaW.PrintMore
abbrev zm := @Aside0.mk
abbrev zrA := @Kd.R_alloc
abbrev zrD := @Kd.R_drew
abbrev zrN := @Kd.R_drewN
abbrev zlA := @below_alloc
abbrev zlD := @below_drew1
abbrev zlS := @below_set
abbrev zbA := @blk_alloc
abbrev zbB := @blk_below
abbrev zlN := @pw_below_drewN
end Go.Proofs.Ytdohpjjggjehfaa
