/- Short names for what the printed texts name most. -/
import Derived.Test.YtllodfjbenmlpaaBitmapFindsM0
import Derived.Test.YtllodfjbenmlpaaBitmapFindsM3
import Derived.Test.YtllodfjbenmlpaaBitmapFindsM4
import Derived.Test.YtllodfjbenmlpaaBitmapFindsM5
import Derived.Test.YtllodfjbenmlpaaBitmapFindsM6
import Derived.Test.YtllodfjbenmlpaaBitmapFindsM7
import Derived.Test.YtllodfjbenmlpaaBitmapFindsM8
import Derived.Test.YtllodfjbenmlpaaBitmapFindsM9
import Derived.Test.YtllodfjbenmlpaaBitmapFindsM10
import Derived.Test.YtllodfjbenmlpaaBitmapFindsM11
import Derived.Test.YtllodfjbenmlpaaBitmapFindsM12
import Derived.Test.YtllodfjbenmlpaaBitmapFindsM19
namespace Go.Proofs.Ytllodfjbenmlpaa
open Go.RowKit Go.Proofs.YtllodfjbenmlpaaW.PrintWords Go.Proofs.YtllodfjbenmlpaaW.PrintLast Go.Proofs.YtllodfjbenmlpaaW.PrintMore
abbrev zm := @Aside0.mk
abbrev zrA := @Kd.R_alloc
abbrev zrD := @Kd.R_drew
abbrev zrN := @Kd.R_drewN
abbrev zlA := @below_alloc
abbrev zlD := @below_drew1
abbrev zlS := @below_set
abbrev zbA := @blk_alloc
abbrev zbB := @blk_below
abbrev zbD := @blk_drew
abbrev zbN := @blk_drewN
abbrev zlN := @pw_below_drewN
end Go.Proofs.Ytllodfjbenmlpaa
