-- Written by wip/xprint.py (a driver of mine over the kit's printer) for this claim.
import Derived.Test.YtjgobfbjmlacjaaDoorXM0
import Derived.Test.YtjgobfbjmlacjaaDoorXM1
import Derived.Test.YtjgobfbjmlacjaaDoorXM2
import Derived.Test.YtjgobfbjmlacjaaDoorXM3
import Derived.Test.YtjgobfbjmlacjaaDoorXM4
namespace Go.Proofs.YtjgobfbjmlacjaaDoor.XM
open Go.RowKit Go.Proofs.YtjgobfbjmlacjaaDoorW.PrintWords Go.Proofs.YtjgobfbjmlacjaaDoorW.PrintLast Go.Proofs.YtjgobfbjmlacjaaDoorW.PrintMore
attribute [local go_sem] max2_int min2_int max_two min_two max_three min_three max_four min_four   -- for this text's walks alone
set_option linter.unusedVariables false
set_option linter.unusedSimpArgs false

end Go.Proofs.YtjgobfbjmlacjaaDoor.XM
