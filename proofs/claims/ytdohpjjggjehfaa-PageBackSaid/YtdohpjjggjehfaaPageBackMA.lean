/- Short names for what the printed texts name most. -/
import Derived.Test.YtdohpjjggjehfaaPageBackM0
import Derived.Test.YtdohpjjggjehfaaPageBackM1
import Derived.Test.YtdohpjjggjehfaaPageBackM2
import Derived.Test.YtdohpjjggjehfaaPageBackM3
import Derived.Test.YtdohpjjggjehfaaPageBackM4
import Derived.Test.YtdohpjjggjehfaaPageBackM5
import Derived.Test.YtdohpjjggjehfaaPageBackM6
import Derived.Test.YtdohpjjggjehfaaPageBackM7
import Derived.Test.YtdohpjjggjehfaaPageBackM8
import Derived.Test.YtdohpjjggjehfaaPageBackM9
import Derived.Test.YtdohpjjggjehfaaPageBackM10
import Derived.Test.YtdohpjjggjehfaaPageBackM11
import Derived.Test.YtdohpjjggjehfaaPageBackM14
import Derived.Test.YtdohpjjggjehfaaPageBackM17
import Derived.Test.YtdohpjjggjehfaaPageBackM18
import Derived.Test.YtdohpjjggjehfaaPageBackM19
namespace Go.Proofs.Ytdohpjjggjehfaa
open Go.RowKit Go.Proofs.YtdohpjjggjehfaaW.PrintWords Go.Proofs.YtdohpjjggjehfaaW.PrintLast Go.Proofs.YtdohpjjggjehfaaW.PrintMore
abbrev zm := @Aside0.mk
abbrev zrA := @Kd.R_alloc
abbrev zrD := @Kd.R_drew
abbrev zrN := @Kd.R_drewN
abbrev zlA := @below_alloc
abbrev zlD := @below_drew1
abbrev zlS := @below_set
abbrev zbB := @blk_below
abbrev zlN := @pw_below_drewN
end Go.Proofs.Ytdohpjjggjehfaa
