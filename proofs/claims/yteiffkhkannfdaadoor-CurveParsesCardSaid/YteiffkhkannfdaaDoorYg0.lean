-- YteiffkhkannfdaaDoorXg: written by wip/xprint.py of this repo, which drives the kit's print; not trusted: Lean checks it
import Derived.Test.YteiffkhkannfdaaDoorProg
import Derived.Below
import Derived.Deep.Draws
import Derived.Deep.AppendLies
import Derived.Maps.AppendAt
import Derived.OwnWalk
import Derived.Laws.BytesArg
import Derived.Laws.MakeOwn
import Derived.Laws.OwnMore
import Derived.Deep.OwnRows
import Derived.Tactics
import Derived.Lib.ConvBytes
import Derived.Laws.Slices
import Derived.WalkKit
import Derived.KernelRfl
import Derived.RowKit3
import Derived.Deep.LoopGhost
import Derived.Deep.QuietTactic
import Derived.BigQuiet
import Derived.WideLaws
import Derived.Deep.DeepCutAuto
import Derived.Deep.CutBlock
import Derived.Deep.RegionHeld3
import Derived.Laws.Rows
import Derived.Lib.AppendStr
import Derived.ArgAppend
import Derived.Laws.IdiomCopy
import Derived.OrdersHeld
import Derived.Laws.BitsLemmas
import Derived.RowKit
import Derived.Test.YteiffkhkannfdaaDoorYXG
import Derived.Test.YteiffkhkannfdaaDoorYWWords
import Derived.Test.YteiffkhkannfdaaDoorYWLast
import Derived.Test.YteiffkhkannfdaaDoorYWTab
import Derived.Test.YteiffkhkannfdaaDoorYWQPut
import Derived.Test.YteiffkhkannfdaaDoorYWApart
import Derived.Test.YteiffkhkannfdaaDoorYWArr
import Derived.Test.YteiffkhkannfdaaDoorYWFoot
import Derived.Test.YteiffkhkannfdaaDoorYWKept
import Derived.Test.YteiffkhkannfdaaDoorYWShare
import Derived.Test.YteiffkhkannfdaaDoorYWN
import Derived.Test.YteiffkhkannfdaaDoorYWFootNe
import Derived.Test.YteiffkhkannfdaaDoorYWAt
import Derived.Test.YteiffkhkannfdaaDoorYWRepsOne
import Derived.Test.YteiffkhkannfdaaDoorYWGuard
import Derived.Test.YteiffkhkannfdaaDoorYWMore
namespace Go.Proofs.YteiffkhkannfdaaDoor.Xg
open Go.RowKit Go.Proofs.YteiffkhkannfdaaDoorW.PrintWords Go.Proofs.YteiffkhkannfdaaDoorW.PrintLast Go.Proofs.YteiffkhkannfdaaDoorW.PrintMore
attribute [local go_sem] max2_int min2_int max_two min_two max_three min_three max_four min_four   -- for this text's walks alone
set_option linter.unusedVariables false
set_option linter.unusedSimpArgs false



def errW : Option Int → Value
 | none => .nilIface
 | some c => .iface 0 (.int .i64 c)
theorem errW_none : errW none = .nilIface := rfl
theorem errW_some (c : Int) : errW (some c) = .iface 0 (.int .i64 c) := rfl

-- the values' own types

end Go.Proofs.YteiffkhkannfdaaDoor.Xg
