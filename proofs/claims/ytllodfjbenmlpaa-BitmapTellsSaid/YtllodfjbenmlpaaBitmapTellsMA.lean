/- Short names for what the printed texts name most. -/
import Derived.Test.YtllodfjbenmlpaaBitmapTellsM0
import Derived.Test.YtllodfjbenmlpaaBitmapTellsM3
import Derived.Test.YtllodfjbenmlpaaBitmapTellsM4
import Derived.Test.YtllodfjbenmlpaaBitmapTellsM5
import Derived.Test.YtllodfjbenmlpaaBitmapTellsM6
import Derived.Test.YtllodfjbenmlpaaBitmapTellsM7
import Derived.Test.YtllodfjbenmlpaaBitmapTellsM8
import Derived.Test.YtllodfjbenmlpaaBitmapTellsM9
import Derived.Test.YtllodfjbenmlpaaBitmapTellsM10
import Derived.Test.YtllodfjbenmlpaaBitmapTellsM11
import Derived.Test.YtllodfjbenmlpaaBitmapTellsM12
import Derived.Test.YtllodfjbenmlpaaBitmapTellsM13
import Derived.Test.YtllodfjbenmlpaaBitmapTellsM14
import Derived.Test.YtllodfjbenmlpaaBitmapTellsM15
import Derived.Test.YtllodfjbenmlpaaBitmapTellsM24
namespace Go.Proofs.Ytllodfjbenmlpaa
open Go.RowKit Go.Proofs.YtllodfjbenmlpaaW.PrintWords Go.Proofs.YtllodfjbenmlpaaW.PrintLast Go.Proofs.YtllodfjbenmlpaaW.PrintMore
abbrev zm := @Aside0.mk
abbrev zrA := @Kd.R_alloc
abbrev zrD := @Kd.R_drew
abbrev zrN := @Kd.R_drewN
abbrev zlA := @below_alloc
abbrev zlD := @below_drew1
abbrev zlS := @below_set
abbrev zbA := @blk_alloc
abbrev zbB := @blk_below
abbrev zbD := @blk_drew
abbrev zbN := @blk_drewN
abbrev zlN := @pw_below_drewN
end Go.Proofs.Ytllodfjbenmlpaa
