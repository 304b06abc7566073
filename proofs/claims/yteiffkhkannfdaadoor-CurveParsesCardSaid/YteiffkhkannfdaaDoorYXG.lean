/- What the walks are told of the package-level variables that the library's functions read: they hold it in every later world of the call. -/
import Derived.Lib.LaidTab
import Derived.Lib.SmallJoins
import Derived.WalkSmall
import Derived.Test.YteiffkhkannfdaaDoorYXCut
import Derived.Test.YteiffkhkannfdaaDoorYShelf
set_option linter.unusedVariables false
set_option linter.unusedSimpArgs false
namespace Go.Proofs.YteiffkhkannfdaaDoor
open Go.RowKit Go.Proofs.YteiffkhkannfdaaDoorW.PrintWords
theorem powAt : Tryd.prog.globalNamed "internal/strconv.uint64pow10" = some 3 := by kernel_rfl
structure GW (w : World) : Prop where
  size : 9 ≤ w.heap.size
  maxlen : ∃ m, w.cell? ⟨2, 0, none⟩ = some (.int .i64 m)
  esyn : ∃ ev, w.cell? ⟨0, 0, none⟩ = some ev ∧ (ev = .nilIface ∨ ∃ te pe, ev = .iface te pe)
  eran : ∃ ev, w.cell? ⟨1, 0, none⟩ = some ev ∧ (ev = .nilIface ∨ ∃ te pe, ev = .iface te pe)
  pows : Lib.TabIs Tryd.prog w "internal/strconv.uint64pow10" .u64 Lib.pow10Tab
namespace GW
theorem below {w W : World} (g : GW w) (h : Below w.heap.size w W) : GW W where
  size := Nat.le_trans g.size h.size
  maxlen := by
    obtain ⟨m, hm⟩ := g.maxlen
    exact ⟨m, (h.cell (p := ⟨2, 0, none⟩) (by have := g.size; show 2 < w.heap.size; omega)).trans hm⟩
  esyn := by
    obtain ⟨m, hm, h2⟩ := g.esyn
    exact ⟨m, (h.cell (p := ⟨0, 0, none⟩) (by have := g.size; show 0 < w.heap.size; omega)).trans hm, h2⟩
  eran := by
    obtain ⟨m, hm, h2⟩ := g.eran
    exact ⟨m, (h.cell (p := ⟨1, 0, none⟩) (by have := g.size; show 1 < w.heap.size; omega)).trans hm, h2⟩
  pows := var?_below h powAt (by have := g.size; omega) g.pows
theorem aside {w W : World} (g : GW w) (h : Aside0 (Below w.heap.size w W)) : GW W := g.below h.out
theorem asideD {w W : World} (g : GW w) (h : Aside0 (Drawn0 w W)) : GW W := g.below h.out.below
theorem drewN {w : World} (g : GW w) (n : Nat) : GW (w.drewN n) := g.below (Drawn0.below ⟨⟨n, rfl⟩⟩)
theorem drew {w : World} (g : GW w) : GW w.drew := g.below (below_drew (Below.refl _ _))
theorem alloc {w : World} (g : GW w) (o : Obj) : GW (w.alloc o) := g.below (below_alloc (Below.refl _ _) o)
end GW
end Go.Proofs.YteiffkhkannfdaaDoor
