/- Short names for what the printed texts name most. -/
import Derived.Test.YtllodfjbenmlpaaBitmapTurnsM0
import Derived.Test.YtllodfjbenmlpaaBitmapTurnsM3
import Derived.Test.YtllodfjbenmlpaaBitmapTurnsM4
import Derived.Test.YtllodfjbenmlpaaBitmapTurnsM5
import Derived.Test.YtllodfjbenmlpaaBitmapTurnsM6
import Derived.Test.YtllodfjbenmlpaaBitmapTurnsM7
import Derived.Test.YtllodfjbenmlpaaBitmapTurnsM8
import Derived.Test.YtllodfjbenmlpaaBitmapTurnsM9
import Derived.Test.YtllodfjbenmlpaaBitmapTurnsM10
import Derived.Test.YtllodfjbenmlpaaBitmapTurnsM11
import Derived.Test.YtllodfjbenmlpaaBitmapTurnsM12
import Derived.Test.YtllodfjbenmlpaaBitmapTurnsM13
import Derived.Test.YtllodfjbenmlpaaBitmapTurnsM20
namespace Go.Proofs.Ytllodfjbenmlpaa
open Go.RowKit Go.Proofs.YtllodfjbenmlpaaW.PrintWords Go.Proofs.YtllodfjbenmlpaaW.PrintLast Go.Proofs.YtllodfjbenmlpaaW.PrintMore
abbrev zm := @Aside0.mk
abbrev zrA := @Kd.R_alloc
abbrev zrD := @Kd.R_drew
abbrev zrN := @Kd.R_drewN
abbrev zlA := @below_alloc
abbrev zlD := @below_drew1
abbrev zlS := @below_set
abbrev zbA := @blk_alloc
abbrev zbB := @blk_below
abbrev zbD := @blk_drew
abbrev zbN := @blk_drewN
abbrev zlN := @pw_below_drewN
end Go.Proofs.Ytllodfjbenmlpaa
