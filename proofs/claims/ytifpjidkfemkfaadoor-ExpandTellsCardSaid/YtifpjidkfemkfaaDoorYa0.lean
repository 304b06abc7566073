-- YtifpjidkfemkfaaDoorXa: written by wip/xprint.py of this repo, which drives the kit's print; not trusted: Lean checks it
import Derived.Test.YtifpjidkfemkfaaDoorProg
import Derived.Below
import Derived.Deep.Draws
import Derived.Deep.AppendLies
import Derived.Maps.AppendAt
import Derived.OwnWalk
import Derived.Laws.BytesArg
import Derived.Laws.MakeOwn
import Derived.Laws.OwnMore
import Derived.Deep.OwnRows
import Derived.Tactics
import Derived.Lib.ConvBytes
import Derived.Laws.Slices
import Derived.WalkKit
import Derived.KernelRfl
import Derived.RowKit3
import Derived.Deep.LoopGhost
import Derived.Deep.QuietTactic
import Derived.BigQuiet
import Derived.WideLaws
import Derived.Deep.DeepCutAuto
import Derived.Deep.CutBlock
import Derived.Deep.RegionHeld3
import Derived.Laws.Rows
import Derived.Lib.AppendStr
import Derived.ArgAppend
import Derived.Laws.IdiomCopy
import Derived.OrdersHeld
import Derived.Laws.BitsLemmas
import Derived.RowKit
import Derived.Test.YtifpjidkfemkfaaDoorYXG
import Derived.Test.YtifpjidkfemkfaaDoorYXLow
import Derived.Test.YtifpjidkfemkfaaDoorYWWords
import Derived.Test.YtifpjidkfemkfaaDoorYWLast
import Derived.Test.YtifpjidkfemkfaaDoorYWTab
import Derived.Test.YtifpjidkfemkfaaDoorYWQPut
import Derived.Test.YtifpjidkfemkfaaDoorYWApart
import Derived.Test.YtifpjidkfemkfaaDoorYWArr
import Derived.Test.YtifpjidkfemkfaaDoorYWFoot
import Derived.Test.YtifpjidkfemkfaaDoorYWKept
import Derived.Test.YtifpjidkfemkfaaDoorYWShare
import Derived.Test.YtifpjidkfemkfaaDoorYWN
import Derived.Test.YtifpjidkfemkfaaDoorYWFootNe
import Derived.Test.YtifpjidkfemkfaaDoorYWAt
import Derived.Test.YtifpjidkfemkfaaDoorYWRepsOne
import Derived.Test.YtifpjidkfemkfaaDoorYWGuard
import Derived.Test.YtifpjidkfemkfaaDoorYWMore
namespace Go.Proofs.YtifpjidkfemkfaaDoor.Xa
open Go.RowKit Go.Proofs.YtifpjidkfemkfaaDoorW.PrintWords Go.Proofs.YtifpjidkfemkfaaDoorW.PrintLast Go.Proofs.YtifpjidkfemkfaaDoorW.PrintMore
attribute [local go_sem] max2_int min2_int max_two min_two max_three min_three max_four min_four   -- for this text's walks alone
open Go.Proofs.YtifpjidkfemkfaaDoor
set_option linter.unusedVariables false
set_option linter.unusedSimpArgs false



def errW : Option Int → Value
 | none => .nilIface
 | some c => .iface 0 (.int .i64 c)
theorem errW_none : errW none = .nilIface := rfl
theorem errW_some (c : Int) : errW (some c) = .iface 0 (.int .i64 c) := rfl

-- the values' own types

end Go.Proofs.YtifpjidkfemkfaaDoor.Xa
