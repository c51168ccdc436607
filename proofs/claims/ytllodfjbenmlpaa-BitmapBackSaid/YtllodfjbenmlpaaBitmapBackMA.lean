/- Short names for what the printed texts name most. -/
import Derived.Test.YtllodfjbenmlpaaBitmapBackM0
import Derived.Test.YtllodfjbenmlpaaBitmapBackM3
import Derived.Test.YtllodfjbenmlpaaBitmapBackM4
import Derived.Test.YtllodfjbenmlpaaBitmapBackM5
import Derived.Test.YtllodfjbenmlpaaBitmapBackM6
import Derived.Test.YtllodfjbenmlpaaBitmapBackM7
import Derived.Test.YtllodfjbenmlpaaBitmapBackM8
import Derived.Test.YtllodfjbenmlpaaBitmapBackM9
import Derived.Test.YtllodfjbenmlpaaBitmapBackM10
import Derived.Test.YtllodfjbenmlpaaBitmapBackM11
import Derived.Test.YtllodfjbenmlpaaBitmapBackM12
import Derived.Test.YtllodfjbenmlpaaBitmapBackM19
namespace Go.Proofs.Ytllodfjbenmlpaa
open Go.RowKit Go.Proofs.YtllodfjbenmlpaaW.PrintWords Go.Proofs.YtllodfjbenmlpaaW.PrintLast Go.Proofs.YtllodfjbenmlpaaW.PrintMore
abbrev zm := @Aside0.mk
abbrev zrA := @Kd.R_alloc
abbrev zrD := @Kd.R_drew
abbrev zrN := @Kd.R_drewN
abbrev zlA := @below_alloc
abbrev zlD := @below_drew1
abbrev zlS := @below_set
abbrev zbA := @blk_alloc
abbrev zbB := @blk_below
abbrev zbD := @blk_drew
abbrev zbN := @blk_drewN
abbrev zlN := @pw_below_drewN
end Go.Proofs.Ytllodfjbenmlpaa
