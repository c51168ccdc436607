/- Short names for what the printed texts name most. -/
import Derived.Test.YtdohpjjggjehfaaPageMakesM0
import Derived.Test.YtdohpjjggjehfaaPageMakesM1
import Derived.Test.YtdohpjjggjehfaaPageMakesM2
import Derived.Test.YtdohpjjggjehfaaPageMakesM3
import Derived.Test.YtdohpjjggjehfaaPageMakesM4
import Derived.Test.YtdohpjjggjehfaaPageMakesM5
import Derived.Test.YtdohpjjggjehfaaPageMakesM6
import Derived.Test.YtdohpjjggjehfaaPageMakesM7
import Derived.Test.YtdohpjjggjehfaaPageMakesM8
import Derived.Test.YtdohpjjggjehfaaPageMakesM9
import Derived.Test.YtdohpjjggjehfaaPageMakesM10
import Derived.Test.YtdohpjjggjehfaaPageMakesM11
import Derived.Test.YtdohpjjggjehfaaPageMakesM14
import Derived.Test.YtdohpjjggjehfaaPageMakesM17
import Derived.Test.YtdohpjjggjehfaaPageMakesM18
import Derived.Test.YtdohpjjggjehfaaPageMakesM19
namespace Go.Proofs.Ytdohpjjggjehfaa
open Go.RowKit Go.Proofs.YtdohpjjggjehfaaW.PrintWords Go.Proofs.YtdohpjjggjehfaaW.PrintLast Go.Proofs.YtdohpjjggjehfaaW.PrintMore
abbrev zm := @Aside0.mk
abbrev zrA := @Kd.R_alloc
abbrev zrD := @Kd.R_drew
abbrev zrN := @Kd.R_drewN
abbrev zlA := @below_alloc
abbrev zlD := @below_drew1
abbrev zlS := @below_set
abbrev zbB := @blk_below
abbrev zlN := @pw_below_drewN
end Go.Proofs.Ytdohpjjggjehfaa
