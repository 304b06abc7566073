/- What the walks are told of the package-level variables that the library's functions read: they hold it in every later world of the call. -/
import Derived.Lib.LaidTab
import Derived.Lib.SmallJoins
import Derived.WalkSmall
import Derived.Test.YtifpjidkfemkfaaDoorYXCut
import Derived.Test.YtifpjidkfemkfaaDoorYXStr
import Derived.Test.YtifpjidkfemkfaaDoorYShelf
set_option linter.unusedVariables false
set_option linter.unusedSimpArgs false
namespace Go.Proofs.YtifpjidkfemkfaaDoor
open Go.RowKit Go.Proofs.YtifpjidkfemkfaaDoorW.PrintWords
structure GW (w : World) : Prop where
  size : 0 < w.heap.size
  maxlen : ∃ m, w.cell? ⟨0, 0, none⟩ = some (.int .i64 m)
namespace GW
theorem below {w W : World} (g : GW w) (h : Below w.heap.size w W) : GW W where
  size := Nat.lt_of_lt_of_le g.size h.size
  maxlen := by
    obtain ⟨m, hm⟩ := g.maxlen
    exact ⟨m, (h.cell (p := ⟨0, 0, none⟩) g.size).trans hm⟩
theorem aside {w W : World} (g : GW w) (h : Aside0 (Below w.heap.size w W)) : GW W := g.below h.out
theorem asideD {w W : World} (g : GW w) (h : Aside0 (Drawn0 w W)) : GW W := g.below h.out.below
theorem drewN {w : World} (g : GW w) (n : Nat) : GW (w.drewN n) := g.below (Drawn0.below ⟨⟨n, rfl⟩⟩)
theorem drew {w : World} (g : GW w) : GW w.drew := g.below (below_drew (Below.refl _ _))
theorem alloc {w : World} (g : GW w) (o : Obj) : GW (w.alloc o) := g.below (below_alloc (Below.refl _ _) o)
end GW
end Go.Proofs.YtifpjidkfemkfaaDoor
