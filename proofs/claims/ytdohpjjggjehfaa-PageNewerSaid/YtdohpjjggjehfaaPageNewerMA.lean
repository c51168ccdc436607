/- Short names for what the printed texts name most. -/
import Derived.Test.YtdohpjjggjehfaaPageNewerM0
import Derived.Test.YtdohpjjggjehfaaPageNewerM1
import Derived.Test.YtdohpjjggjehfaaPageNewerM2
import Derived.Test.YtdohpjjggjehfaaPageNewerM3
import Derived.Test.YtdohpjjggjehfaaPageNewerM4
import Derived.Test.YtdohpjjggjehfaaPageNewerM5
import Derived.Test.YtdohpjjggjehfaaPageNewerM6
import Derived.Test.YtdohpjjggjehfaaPageNewerM7
import Derived.Test.YtdohpjjggjehfaaPageNewerM8
import Derived.Test.YtdohpjjggjehfaaPageNewerM9
import Derived.Test.YtdohpjjggjehfaaPageNewerM10
import Derived.Test.YtdohpjjggjehfaaPageNewerM11
import Derived.Test.YtdohpjjggjehfaaPageNewerM14
import Derived.Test.YtdohpjjggjehfaaPageNewerM17
import Derived.Test.YtdohpjjggjehfaaPageNewerM18
import Derived.Test.YtdohpjjggjehfaaPageNewerM19
namespace Go.Proofs.Ytdohpjjggjehfaa
open Go.RowKit Go.Proofs.YtdohpjjggjehfaaW.PrintWords Go.Proofs.YtdohpjjggjehfaaW.PrintLast Go.Proofs.YtdohpjjggjehfaaW.PrintMore
abbrev zm := @Aside0.mk
abbrev zrA := @Kd.R_alloc
abbrev zrD := @Kd.R_drew
abbrev zrN := @Kd.R_drewN
abbrev zlA := @below_alloc
abbrev zlD := @below_drew1
abbrev zlS := @below_set
abbrev zbB := @blk_below
abbrev zbD := @blk_drew
abbrev zlN := @pw_below_drewN
end Go.Proofs.Ytdohpjjggjehfaa
