/- Short names for what the printed texts name most. -/
import Derived.Test.YtllodfjbenmlpaaBitmapMakesM0
import Derived.Test.YtllodfjbenmlpaaBitmapMakesM3
import Derived.Test.YtllodfjbenmlpaaBitmapMakesM4
import Derived.Test.YtllodfjbenmlpaaBitmapMakesM5
import Derived.Test.YtllodfjbenmlpaaBitmapMakesM6
import Derived.Test.YtllodfjbenmlpaaBitmapMakesM7
import Derived.Test.YtllodfjbenmlpaaBitmapMakesM8
import Derived.Test.YtllodfjbenmlpaaBitmapMakesM9
import Derived.Test.YtllodfjbenmlpaaBitmapMakesM10
import Derived.Test.YtllodfjbenmlpaaBitmapMakesM11
import Derived.Test.YtllodfjbenmlpaaBitmapMakesM12
import Derived.Test.YtllodfjbenmlpaaBitmapMakesM18
namespace Go.Proofs.Ytllodfjbenmlpaa
open Go.RowKit Go.Proofs.YtllodfjbenmlpaaW.PrintWords Go.Proofs.YtllodfjbenmlpaaW.PrintLast Go.Proofs.YtllodfjbenmlpaaW.PrintMore
abbrev zm := @Aside0.mk
abbrev zrA := @Kd.R_alloc
abbrev zrD := @Kd.R_drew
abbrev zrN := @Kd.R_drewN
abbrev zlA := @below_alloc
abbrev zlD := @below_drew1
abbrev zlS := @below_set
abbrev zbA := @blk_alloc
abbrev zbB := @blk_below
abbrev zbD := @blk_drew
abbrev zbN := @blk_drewN
abbrev zlN := @pw_below_drewN
end Go.Proofs.Ytllodfjbenmlpaa
