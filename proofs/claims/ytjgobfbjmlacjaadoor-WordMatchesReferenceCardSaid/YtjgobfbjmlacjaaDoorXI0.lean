-- Written by wip/xprint.py (a driver of mine over the kit's printer) for this claim.
import Derived.Test.YtjgobfbjmlacjaaDoorProg
import Derived.Below
import Derived.Deep.Draws
import Derived.Deep.AppendLies
import Derived.Maps.AppendAt
import Derived.OwnWalk
import Derived.Laws.BytesArg
import Derived.Laws.MakeOwn
import Derived.Laws.OwnMore
import Derived.Deep.OwnRows
import Derived.Tactics
import Derived.Lib.ConvBytes
import Derived.Laws.Slices
import Derived.WalkKit
import Derived.KernelRfl
import Derived.RowKit3
import Derived.Deep.LoopGhost
import Derived.Deep.QuietTactic
import Derived.BigQuiet
import Derived.WideLaws
import Derived.Deep.DeepCutAuto
import Derived.Deep.CutBlock
import Derived.Deep.RegionHeld3
import Derived.Laws.Rows
import Derived.Lib.AppendStr
import Derived.ArgAppend
import Derived.Laws.IdiomCopy
import Derived.OrdersHeld
import Derived.Laws.BitsLemmas
import Derived.RowKit
import Derived.Test.YtjgobfbjmlacjaaDoorWWords
import Derived.Test.YtjgobfbjmlacjaaDoorXA1
import Derived.Test.YtjgobfbjmlacjaaDoorXA2
import Derived.Test.YtjgobfbjmlacjaaDoorXA3
import Derived.Test.YtjgobfbjmlacjaaDoorXA4
import Derived.Test.YtjgobfbjmlacjaaDoorXA5
import Derived.Test.YtjgobfbjmlacjaaDoorXA6
import Derived.Test.YtjgobfbjmlacjaaDoorXExt
import Derived.Test.YtjgobfbjmlacjaaDoorXIs1
import Derived.Test.YtjgobfbjmlacjaaDoorXL1
import Derived.Test.YtjgobfbjmlacjaaDoorXL2
import Derived.Test.YtjgobfbjmlacjaaDoorXL3
import Derived.Test.YtjgobfbjmlacjaaDoorXWords
namespace Go.Proofs.YtjgobfbjmlacjaaDoor.XI
open Go.RowKit Go.Proofs.YtjgobfbjmlacjaaDoorW.PrintWords Go.Proofs.YtjgobfbjmlacjaaDoorW.PrintLast Go.Proofs.YtjgobfbjmlacjaaDoorW.PrintMore
open Bool renaming true → tt, false → ff
open _root_.ByteArray renaming mk → B_
attribute [local go_sem] max2_int min2_int max_two min_two max_three min_three max_four min_four   -- for this text's walks alone
set_option linter.unusedVariables false
set_option linter.unusedSimpArgs false



def errW : Option Int → Value
 | none => .nilIface
 | some c => .iface 0 (.int .i64 c)
theorem errW_none : errW none = .nilIface := rfl
theorem errW_some (c : Int) : errW (some c) = .iface 0 (.int .i64 c) := rfl

-- the values' own types

end Go.Proofs.YtjgobfbjmlacjaaDoor.XI
